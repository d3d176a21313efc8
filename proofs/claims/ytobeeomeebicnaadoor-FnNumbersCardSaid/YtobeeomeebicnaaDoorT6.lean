/- spec.l14Cut: the words of a text. -/
import Derived.Test.YtobeeomeebicnaaDoorT3
import Derived.Test.YtobeeomeebicnaaDoorT5
set_option linter.unusedSimpArgs false
set_option linter.unusedVariables false
namespace Go.Proofs.YtobeeomeebicnaaDoor
open Go.RowKit
set_option maxRecDepth 100000 in
set_option maxHeartbeats 800000 in
theorem l14Cut_any (s : ByteArray) (w : World) (hs : s.size ≤ 2000000) :
    Calls Tryd.prog 19 #[.string s, .int .u8 32] w fun e w' => ∃ g n c ys, e = .returned (.slice (some ⟨g, 0, none⟩) n c) ∧ SRow w' w.heap.size (.slice (some ⟨g, 0, none⟩) n c) ys ∧ ys.map (·.data.toList) = cutAt 32 s.data.toList ∧ Below w.heap.size w w' := by
  go_enter Tryd.func19, Tryd.ntmps19
  go_wp2
  obtain ⟨q0, hq0⟩ : ∃ q : World, q = w.alloc (.cells #[] 9) := ⟨_, rfl⟩
  rw [← hq0]
  go_loopw [5, 6, 7] (fun ws f i wr => Below w.heap.size w wr ∧ ∃ (k fr n : Nat) (ys : List ByteArray), i = .int .i64 k ∧ f = .int .i64 fr ∧ (∃ g cp, ws = .slice (some ⟨g, 0, none⟩) n cp ∧ SRow wr w.heap.size (.slice (some ⟨g, 0, none⟩) n cp) ys) ∧ n ≤ k ∧ ys.length = n ∧
      Hid ((k ≤ s.size ∧ fr ≤ k ∧ ys.map (·.data.toList) ++ cutAt 32 (s.data.toList.drop fr) = cutAt 32 s.data.toList ∧ (32 : UInt8) ∉ (s.data.toList.drop fr).take (k - fr)) ∨ (k = s.size + 1 ∧ ys.map (·.data.toList) = cutAt 32 s.data.toList))) (fun _ _ i _ => s.size + 1 - (intOf i).toNat)
  case atStart => exact ⟨by rw [hq0]; exact below_alloc w _, 0, 0, 0, [], rfl, rfl, ⟨_, _, rfl, by rw [hq0]; exact SRow.lit w⟩, by omega, rfl, Or.inl ⟨by omega, by omega, rfl, by simp⟩⟩
  case round =>
    obtain ⟨hB, k, fr, n, ys, rfl, rfl, ⟨g, cp, rfl, hrow⟩, hnk, hyn, hd⟩ := hrel
    have hBs := hB.size
    by_cases hlt : k ≤ s.size
    · obtain ⟨_, hfk, hcut, hno⟩ := hd.out.resolve_right (by omega)
      have HC := hid hcut
      have HN := hid hno
      clear hcut hno hd
      by_cases hke : k = s.size
      · subst hke
        go_wp2_with (at_builtin; refine wpList_append_str rfl _ _ rfl w.heap.size _ _ n hyn (by rfl) (hrow.below (below_alloc wr _)) _ _ (s.extract fr s.size) (by rfl) (by simp) (by omega) (by simp; omega) ?_; intro g' c' w' hrow' hgrow)
        go_roundw
        case rel => first | exact ⟨below_grownBy (hB.alloc hBs _) (by simp; omega) hgrow (fun b e => (hrow.block b e).1), s.size + 1, s.size + 1, n + 1, ys ++ [s.extract fr s.size], by go_num, by go_num, ⟨g', c', rfl, hrow'⟩, by omega, by simp [hyn], Or.inr ⟨rfl, by rw [List.map_append, ← HC.out, cut_end (by rw [size_list]; exact HN.out), size_list, ← piece_data]; rfl⟩⟩ | exact ⟨_, ⟨below_grownBy (hB.alloc hBs _) (by simp; omega) hgrow (fun b e => (hrow.block b e).1), s.size + 1, s.size + 1, n + 1, ys ++ [s.extract fr s.size], by go_num, by go_num, ⟨g', c', rfl, hrow'⟩, by omega, by simp [hyn], Or.inr ⟨rfl, by rw [List.map_append, ← HC.out, cut_end (by rw [size_list]; exact HN.out), size_list, ← piece_data]; rfl⟩⟩, rfl⟩ | exact ⟨_, _, ⟨below_grownBy (hB.alloc hBs _) (by simp; omega) hgrow (fun b e => (hrow.block b e).1), s.size + 1, s.size + 1, n + 1, ys ++ [s.extract fr s.size], by go_num, by go_num, ⟨g', c', rfl, hrow'⟩, by omega, by simp [hyn], Or.inr ⟨rfl, by rw [List.map_append, ← HC.out, cut_end (by rw [size_list]; exact HN.out), size_list, ← piece_data]; rfl⟩⟩, rfl, rfl⟩ | exact ⟨_, _, _, ⟨below_grownBy (hB.alloc hBs _) (by simp; omega) hgrow (fun b e => (hrow.block b e).1), s.size + 1, s.size + 1, n + 1, ys ++ [s.extract fr s.size], by go_num, by go_num, ⟨g', c', rfl, hrow'⟩, by omega, by simp [hyn], Or.inr ⟨rfl, by rw [List.map_append, ← HC.out, cut_end (by rw [size_list]; exact HN.out), size_list, ← piece_data]; rfl⟩⟩, rfl, rfl, rfl⟩ | exact ⟨_, _, _, _, ⟨below_grownBy (hB.alloc hBs _) (by simp; omega) hgrow (fun b e => (hrow.block b e).1), s.size + 1, s.size + 1, n + 1, ys ++ [s.extract fr s.size], by go_num, by go_num, ⟨g', c', rfl, hrow'⟩, by omega, by simp [hyn], Or.inr ⟨rfl, by rw [List.map_append, ← HC.out, cut_end (by rw [size_list]; exact HN.out), size_list, ← piece_data]; rfl⟩⟩, rfl, rfl, rfl, rfl⟩ | exact ⟨_, _, _, _, _, ⟨below_grownBy (hB.alloc hBs _) (by simp; omega) hgrow (fun b e => (hrow.block b e).1), s.size + 1, s.size + 1, n + 1, ys ++ [s.extract fr s.size], by go_num, by go_num, ⟨g', c', rfl, hrow'⟩, by omega, by simp [hyn], Or.inr ⟨rfl, by rw [List.map_append, ← HC.out, cut_end (by rw [size_list]; exact HN.out), size_list, ← piece_data]; rfl⟩⟩, rfl, rfl, rfl, rfl, rfl⟩
        case measure => first | (simp [intOf]; done) | (simp [intOf]; omega)
      · have hk2 : k < s.size := by omega
        by_cases hc : s[k] = 32
        · have hc2 : ((s[k].toNat : Int) == 32) = true := by rw [hc]; decide
          go_wp2_with (at_builtin; refine wpList_append_str rfl _ _ rfl w.heap.size _ _ n hyn (by rfl) (hrow.below (below_alloc wr _)) _ _ (s.extract fr k) (by rfl) (by simp) (by omega) (by simp; omega) ?_; intro g' c' w' hrow' hgrow)
          go_roundw
          case rel => first | exact ⟨below_grownBy (hB.alloc hBs _) (by simp; omega) hgrow (fun b e => (hrow.block b e).1), k + 1, k + 1, n + 1, ys ++ [s.extract fr k], by go_num, by go_num, ⟨g', c', rfl, hrow'⟩, by omega, by simp [hyn], Or.inl ⟨by omega, by omega, by rw [List.map_append, ← HC.out, cut_hit (by rw [byte_at s k hk2, hc]) hfk HN.out, ← piece_data]; simp, by simp⟩⟩ | exact ⟨_, ⟨below_grownBy (hB.alloc hBs _) (by simp; omega) hgrow (fun b e => (hrow.block b e).1), k + 1, k + 1, n + 1, ys ++ [s.extract fr k], by go_num, by go_num, ⟨g', c', rfl, hrow'⟩, by omega, by simp [hyn], Or.inl ⟨by omega, by omega, by rw [List.map_append, ← HC.out, cut_hit (by rw [byte_at s k hk2, hc]) hfk HN.out, ← piece_data]; simp, by simp⟩⟩, rfl⟩ | exact ⟨_, _, ⟨below_grownBy (hB.alloc hBs _) (by simp; omega) hgrow (fun b e => (hrow.block b e).1), k + 1, k + 1, n + 1, ys ++ [s.extract fr k], by go_num, by go_num, ⟨g', c', rfl, hrow'⟩, by omega, by simp [hyn], Or.inl ⟨by omega, by omega, by rw [List.map_append, ← HC.out, cut_hit (by rw [byte_at s k hk2, hc]) hfk HN.out, ← piece_data]; simp, by simp⟩⟩, rfl, rfl⟩ | exact ⟨_, _, _, ⟨below_grownBy (hB.alloc hBs _) (by simp; omega) hgrow (fun b e => (hrow.block b e).1), k + 1, k + 1, n + 1, ys ++ [s.extract fr k], by go_num, by go_num, ⟨g', c', rfl, hrow'⟩, by omega, by simp [hyn], Or.inl ⟨by omega, by omega, by rw [List.map_append, ← HC.out, cut_hit (by rw [byte_at s k hk2, hc]) hfk HN.out, ← piece_data]; simp, by simp⟩⟩, rfl, rfl, rfl⟩ | exact ⟨_, _, _, _, ⟨below_grownBy (hB.alloc hBs _) (by simp; omega) hgrow (fun b e => (hrow.block b e).1), k + 1, k + 1, n + 1, ys ++ [s.extract fr k], by go_num, by go_num, ⟨g', c', rfl, hrow'⟩, by omega, by simp [hyn], Or.inl ⟨by omega, by omega, by rw [List.map_append, ← HC.out, cut_hit (by rw [byte_at s k hk2, hc]) hfk HN.out, ← piece_data]; simp, by simp⟩⟩, rfl, rfl, rfl, rfl⟩ | exact ⟨_, _, _, _, _, ⟨below_grownBy (hB.alloc hBs _) (by simp; omega) hgrow (fun b e => (hrow.block b e).1), k + 1, k + 1, n + 1, ys ++ [s.extract fr k], by go_num, by go_num, ⟨g', c', rfl, hrow'⟩, by omega, by simp [hyn], Or.inl ⟨by omega, by omega, by rw [List.map_append, ← HC.out, cut_hit (by rw [byte_at s k hk2, hc]) hfk HN.out, ← piece_data]; simp, by simp⟩⟩, rfl, rfl, rfl, rfl, rfl⟩
          case measure => first | (simp [intOf]; done) | (simp [intOf]; omega)
        · have hc2 : ((s[k].toNat : Int) == 32) = false := by simp; intro e; apply hc; apply UInt8.toNat_inj.1; simp; omega
          go_wp2
          go_roundw
          case rel => first | exact ⟨hB, k + 1, fr, n, ys, by go_num, rfl, ⟨g, cp, rfl, hrow⟩, by omega, hyn, Or.inl ⟨by omega, by omega, HC.out, no_step (byte_at s k hk2) hc hfk HN.out⟩⟩ | exact ⟨_, ⟨hB, k + 1, fr, n, ys, by go_num, rfl, ⟨g, cp, rfl, hrow⟩, by omega, hyn, Or.inl ⟨by omega, by omega, HC.out, no_step (byte_at s k hk2) hc hfk HN.out⟩⟩, rfl⟩ | exact ⟨_, _, ⟨hB, k + 1, fr, n, ys, by go_num, rfl, ⟨g, cp, rfl, hrow⟩, by omega, hyn, Or.inl ⟨by omega, by omega, HC.out, no_step (byte_at s k hk2) hc hfk HN.out⟩⟩, rfl, rfl⟩ | exact ⟨_, _, _, ⟨hB, k + 1, fr, n, ys, by go_num, rfl, ⟨g, cp, rfl, hrow⟩, by omega, hyn, Or.inl ⟨by omega, by omega, HC.out, no_step (byte_at s k hk2) hc hfk HN.out⟩⟩, rfl, rfl, rfl⟩ | exact ⟨_, _, _, _, ⟨hB, k + 1, fr, n, ys, by go_num, rfl, ⟨g, cp, rfl, hrow⟩, by omega, hyn, Or.inl ⟨by omega, by omega, HC.out, no_step (byte_at s k hk2) hc hfk HN.out⟩⟩, rfl, rfl, rfl, rfl⟩ | exact ⟨_, _, _, _, _, ⟨hB, k + 1, fr, n, ys, by go_num, rfl, ⟨g, cp, rfl, hrow⟩, by omega, hyn, Or.inl ⟨by omega, by omega, HC.out, no_step (byte_at s k hk2) hc hfk HN.out⟩⟩, rfl, rfl, rfl, rfl, rfl⟩
          case measure => first | (simp [intOf]; done) | (simp [intOf]; omega)
    · obtain ⟨hks, hdone⟩ := hd.out.resolve_left (by omega)
      clear hd
      go_wp2
      go_ret
      exact ⟨_, _, _, ys, rfl, hrow, hdone, hB⟩
end Go.Proofs.YtobeeomeebicnaaDoor
