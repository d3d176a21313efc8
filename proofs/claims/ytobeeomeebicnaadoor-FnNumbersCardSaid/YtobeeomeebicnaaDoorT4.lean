/- FormatNumbers: the reference's and the program's. -/
import Derived.Test.YtobeeomeebicnaaDoorT2
import Derived.Test.YtobeeomeebicnaaDoorT3
set_option linter.unusedSimpArgs false
set_option linter.unusedVariables false
namespace Go.Proofs.YtobeeomeebicnaaDoor
open Go.RowKit
def I64 (xs : List Int) : Prop := ∀ k, k < xs.length → -9223372036854775808 ≤ nth xs k ∧ nth xs k ≤ 9223372036854775807
theorem bs_empty (l : List UInt8) (b : Bool) (h : l.isEmpty = b) : (bs l).toList.isEmpty = b := by rw [Lib.toList_data, bs_data, h]
set_option maxRecDepth 100000 in
set_option maxHeartbeats 400000 in
theorem specFormat_any (ao : Option Addr) (n c : Nat) (xs : List Int) (w : World) (hx : IntsAt w ao n xs) (hb : I64 xs) (hn : n ≤ 2000000) :
    Calls Tryd.prog 6 #[.slice ao n c] w fun e w' => e = .returned (.string (bs (numT xs))) ∧ Below w.heap.size w w' := by
  have hcap := hx.cap
  have hlx := hx.len
  have HL := hid hlx
  have HB := hid hb
  go_enter Tryd.func6, Tryd.ntmps6
  go_wp2
  go_loopw [3, 4] (fun s i wr => Below w.heap.size w wr ∧ ∃ k : Nat, k ≤ n ∧ i = .int .i64 k ∧ s = .string (bs (txt xs k))) (fun _ i _ => n - (intOf i).toNat)
  case atStart => exact ⟨Below.refl _ _, 0, by omega, rfl, by rw [txt_zero]; rfl⟩
  case round =>
    obtain ⟨hB, k, hk, rfl, rfl⟩ := hrel
    have htl : (txt xs k).length ≤ 22 * k := txt_len xs HB.out k (by rw [hlx]; exact hk)
    by_cases hlt : k < n
    · obtain ⟨b, off, rfl, hbs0, hbs, hck⟩ := hx.at hB hlt
      have hr := HB.out k (by omega)
      have HT := hid (txt_succ xs k (by omega))
      have hil := Lib.itoa_length_le _ hr.1 hr.2
      clear hlx hb
      by_cases hk0 : k = 0
      · have kz : ¬ 9223372036854775807 < (bs (txt xs k)).size + (bs (Lib.itoa (nth xs k))).size := by rw [bs_size, bs_size]; omega
        have HT2 : Hid (bs (txt xs (k + 1)) = bs (txt xs k) ++ bs (Lib.itoa (nth xs k))) := by
          show _ = _; rw [HT.out, if_pos hk0, hk0, txt_zero, bs_append]; rfl
        have hk1 : ¬ 0 < k := by omega
        clear hk0 HT
        go_wp2_with (go_at_call 17; refine (l14Dec_any _ hr.1 hr.2 _).mono ?_; rintro e w1 ⟨rfl, hb1⟩)
        go_roundw
        case rel => first | exact ⟨hB.trans (hb1.mono hB.size), k + 1, by omega, by go_num, by rw [HT2.out]⟩ | exact ⟨_, ⟨hB.trans (hb1.mono hB.size), k + 1, by omega, by go_num, by rw [HT2.out]⟩, rfl⟩ | exact ⟨_, _, ⟨hB.trans (hb1.mono hB.size), k + 1, by omega, by go_num, by rw [HT2.out]⟩, rfl, rfl⟩ | exact ⟨_, _, _, ⟨hB.trans (hb1.mono hB.size), k + 1, by omega, by go_num, by rw [HT2.out]⟩, rfl, rfl, rfl⟩ | exact ⟨_, _, _, _, ⟨hB.trans (hb1.mono hB.size), k + 1, by omega, by go_num, by rw [HT2.out]⟩, rfl, rfl, rfl, rfl⟩ | exact ⟨_, _, _, _, _, ⟨hB.trans (hb1.mono hB.size), k + 1, by omega, by go_num, by rw [HT2.out]⟩, rfl, rfl, rfl, rfl, rfl⟩
        case measure => simp [intOf]; omega
      · have kz : ¬ 9223372036854775807 < (bs (txt xs k)).size + (ByteArray.mk #[32]).size := by rw [bs_size]; simp [ByteArray.size]; omega
        have kz2 : ¬ 9223372036854775807 < (bs (txt xs k) ++ ByteArray.mk #[32]).size + (bs (Lib.itoa (nth xs k))).size := by rw [bs_size, ByteArray.size_append, bs_size]; simp [ByteArray.size]; omega
        have HT2 : Hid (bs (txt xs (k + 1)) = bs (txt xs k) ++ ByteArray.mk #[32] ++ bs (Lib.itoa (nth xs k))) := by
          show _ = _; rw [HT.out, if_neg hk0, ← bs_append, ← bs_append]; rfl
        have hk1 : 0 < k := by omega
        clear hk0 HT
        go_wp2_with (go_at_call 17; refine (l14Dec_any _ hr.1 hr.2 _).mono ?_; rintro e w1 ⟨rfl, hb1⟩)
        go_roundw
        case rel => first | exact ⟨hB.trans (hb1.mono hB.size), k + 1, by omega, by go_num, by rw [HT2.out]⟩ | exact ⟨_, ⟨hB.trans (hb1.mono hB.size), k + 1, by omega, by go_num, by rw [HT2.out]⟩, rfl⟩ | exact ⟨_, _, ⟨hB.trans (hb1.mono hB.size), k + 1, by omega, by go_num, by rw [HT2.out]⟩, rfl, rfl⟩ | exact ⟨_, _, _, ⟨hB.trans (hb1.mono hB.size), k + 1, by omega, by go_num, by rw [HT2.out]⟩, rfl, rfl, rfl⟩ | exact ⟨_, _, _, _, ⟨hB.trans (hb1.mono hB.size), k + 1, by omega, by go_num, by rw [HT2.out]⟩, rfl, rfl, rfl, rfl⟩ | exact ⟨_, _, _, _, _, ⟨hB.trans (hb1.mono hB.size), k + 1, by omega, by go_num, by rw [HT2.out]⟩, rfl, rfl, rfl, rfl, rfl⟩
        case measure => simp [intOf]; omega
    · obtain rfl : k = n := by omega
      by_cases h0 : k = 0
      · have HE := hid (bs_empty (txt xs k) true (by rw [h0, txt_zero]; rfl))
        have ke : (bs (txt xs k)).toList.isEmpty = true := HE.out
        have HV : Hid (numT xs = [45]) := by show _ = _; unfold numT; rw [if_pos (by omega)]
        clear h0 hlx
        go_wp2
        go_ret
        exact ⟨by rw [HV.out]; rfl, hB⟩
      · have HE := hid (bs_empty (txt xs k) false (by have := txt_pos xs k (by omega) (by omega); cases h : txt xs k with | nil => exact absurd h this | cons _ _ => rfl))
        have ke : (bs (txt xs k)).toList.isEmpty = false := HE.out
        have HV : Hid (numT xs = txt xs k) := by show _ = _; unfold numT; rw [if_neg (by omega), hlx]
        clear h0 hlx
        go_wp2
        go_ret
        exact ⟨by rw [HV.out]; rfl, hB⟩
set_option maxRecDepth 100000 in
set_option maxHeartbeats 800000 in
theorem numbersText_any (ao : Option Addr) (n c : Nat) (xs : List Int) (w : World) (hx : IntsAt w ao n xs) (hb : I64 xs) (hn : n ≤ 2000000) (hp : Pow w) :
    Calls Tryd.prog 18 #[.slice ao n c] w fun e w' => e = .returned (.string (bs (numT xs))) ∧ Below w.heap.size w w' := by
  have hcap := hx.cap
  have hlx := hx.len
  have HL := hid hlx
  have HB := hid hb
  by_cases hn0 : n = 0
  · have HV : Hid (numT xs = [45]) := by show _ = _; unfold numT; rw [if_pos (by omega)]
    subst hn0
    go_enter Tryd.func18, Tryd.ntmps18
    go_wp2
    go_ret
    exact ⟨by rw [HV.out]; rfl, Below.refl _ _⟩
  have HV : Hid (numT xs = txt xs n) := by show _ = _; unfold numT; rw [if_neg (by omega), hlx]
  have hn1 : ((n : Int) == 0) = false := by simp; omega
  go_enter Tryd.func18, Tryd.ntmps18
  go_wp2
  obtain ⟨q0, hq0⟩ : ∃ q : World, q = w.alloc (.cells #[] 9) := ⟨_, rfl⟩
  rw [← hq0]
  go_loopw [3, 5, 12] (fun ws u i wr => Below w.heap.size w wr ∧ ∃ k : Nat, k ≤ n ∧ i = .int .i64 k ∧ ∃ g cp, ws = .slice (some ⟨g, 0, none⟩) k cp ∧ SRow wr w.heap.size (.slice (some ⟨g, 0, none⟩) k cp) ((xs.take k).map fun x => bs (Lib.itoa x))) (fun _ _ i _ => n - (intOf i).toNat)
  case atStart => exact ⟨by rw [hq0]; exact below_alloc w _, 0, by omega, rfl, _, _, rfl, by rw [hq0]; exact SRow.lit w⟩
  case round =>
    obtain ⟨hB, k, hk, rfl, g, cp, rfl, hrow⟩ := hrel
    have hBs := hB.size
    by_cases hlt : k < n
    · obtain ⟨b, off, rfl, hbs0, hbs, hck⟩ := hx.at hB hlt
      have hr := HB.out k (by omega)
      have hpr := hp.below hB
      have hlk : ((xs.take k).map fun x => bs (Lib.itoa x)).length = k := by simp; omega
      have HT : Hid ((xs.take (k + 1)).map (fun x => bs (Lib.itoa x)) = ((xs.take k).map fun x => bs (Lib.itoa x)) ++ [bs (Lib.itoa (nth xs k))]) := by
        show _ = _; rw [take_one _ _ (by omega), List.map_append]; rfl
      clear hlx hb
      go_wp2_with (first | (go_at_call 29; refine (Itoa_any _ hr.1 hr.2 _ hpr).mono ?_; rintro e w1 ⟨rfl, hb1⟩) | (at_builtin; refine wpList_append_str rfl _ _ rfl w.heap.size _ _ k hlk (by rfl) ((hrow.below hb1).below (below_alloc w1 _)) _ _ (bs (Lib.itoa (nth xs k))) (by rfl) (by simp) (by omega) (by have := hb1.size; simp; omega) ?_; intro g' c' w' hrow' hgrow))
      go_roundw
      case rel => first | exact ⟨below_grownBy ((hB.trans (hb1.mono hBs)).alloc (by have := hb1.size; omega) _) (by have := hb1.size; simp; omega) hgrow (fun b e => (hrow.block b e).1), k + 1, by omega, by go_num, g', c', rfl, by rw [HT.out]; exact hrow'⟩ | exact ⟨_, ⟨below_grownBy ((hB.trans (hb1.mono hBs)).alloc (by have := hb1.size; omega) _) (by have := hb1.size; simp; omega) hgrow (fun b e => (hrow.block b e).1), k + 1, by omega, by go_num, g', c', rfl, by rw [HT.out]; exact hrow'⟩, rfl⟩ | exact ⟨_, _, ⟨below_grownBy ((hB.trans (hb1.mono hBs)).alloc (by have := hb1.size; omega) _) (by have := hb1.size; simp; omega) hgrow (fun b e => (hrow.block b e).1), k + 1, by omega, by go_num, g', c', rfl, by rw [HT.out]; exact hrow'⟩, rfl, rfl⟩ | exact ⟨_, _, _, ⟨below_grownBy ((hB.trans (hb1.mono hBs)).alloc (by have := hb1.size; omega) _) (by have := hb1.size; simp; omega) hgrow (fun b e => (hrow.block b e).1), k + 1, by omega, by go_num, g', c', rfl, by rw [HT.out]; exact hrow'⟩, rfl, rfl, rfl⟩ | exact ⟨_, _, _, _, ⟨below_grownBy ((hB.trans (hb1.mono hBs)).alloc (by have := hb1.size; omega) _) (by have := hb1.size; simp; omega) hgrow (fun b e => (hrow.block b e).1), k + 1, by omega, by go_num, g', c', rfl, by rw [HT.out]; exact hrow'⟩, rfl, rfl, rfl, rfl⟩ | exact ⟨_, _, _, _, _, ⟨below_grownBy ((hB.trans (hb1.mono hBs)).alloc (by have := hb1.size; omega) _) (by have := hb1.size; simp; omega) hgrow (fun b e => (hrow.block b e).1), k + 1, by omega, by go_num, g', c', rfl, by rw [HT.out]; exact hrow'⟩, rfl, rfl, rfl, rfl, rfl⟩
      case measure => simp [intOf]; omega
    · have hkn : k = n := by omega
      have et : xs.take k = xs := by rw [hkn, ← hlx]; exact List.take_length
      rw [et] at hrow
      obtain ⟨hq, hkc, hg1, hg2, hcs⟩ := hrow.at
      have HJ : Hid (Lib.join ((xs.map fun x => bs (Lib.itoa x)).map (·.data.toList)) (bs [32]).data.toList = txt xs n) := by
        show _ = _; rw [words_data, bs_data]; unfold txt; rw [← hkn, et]
      have hjl : (Lib.join ((xs.map fun x => bs (Lib.itoa x)).map (·.data.toList)) (bs [32]).data.toList).length ≤ 140737488355328 := by
        rw [HJ.out]; have := txt_len xs HB.out n (by omega); omega
      have hml : (xs.map fun x => bs (Lib.itoa x)).length = k := by simp; omega
      have hj := Tryd.strings_Join g 0 cp (xs.map fun x => bs (Lib.itoa x)) (bs [32]) wr hcs hg2 (by omega) (by omega) hjl
      rw [hml, HJ.out, show bs [32] = ByteArray.mk #[32] from rfl] at hj
      clear hb hlx et hjl hkn hq hml hcs
      go_wp2_with (go_at_call 30; refine hj.mono ?_; rintro e w1 ⟨rfl, hb1⟩)
      go_ret
      exact ⟨by rw [HV.out]; rfl, hB.trans (hb1.mono hBs)⟩
theorem implFormat_any (ao : Option Addr) (n c : Nat) (xs : List Int) (w : World) (hx : IntsAt w ao n xs) (hb : I64 xs) (hn : n ≤ 2000000) (hp : Pow w) :
    Calls Tryd.prog 8 #[.slice ao n c] w fun e w' => e = .returned (.string (bs (numT xs))) ∧ Below w.heap.size w w' := by
  go_enter Tryd.func8, Tryd.ntmps8
  go_wp2_with (go_at_call 18; refine (numbersText_any _ _ _ xs _ hx hb hn hp).mono ?_; rintro e w1 ⟨rfl, hb1⟩)
  go_ret
  exact ⟨rfl, hb1⟩
end Go.Proofs.YtobeeomeebicnaaDoor
