/- spec.ParseNumbers. -/
import Derived.Test.YtobeeomeebicnaaDoorT6
import Derived.Test.YtobeeomeebicnaaDoorT7
import Derived.Test.YtobeeomeebicnaaDoorW2
set_option linter.unusedSimpArgs false
set_option linter.unusedVariables false
namespace Go.Proofs.YtobeeomeebicnaaDoor
open Go.RowKit
/-- one integer appended: where the new row lies -/
theorem wpList_append_int2 {ops : Array Oper} {rest : List Oper} {o : Oper} {a : Act} {w : World} {Q : Exit → Act → World → Prop} (hgd : o.guard = none) (s x : Operand)
    (ho : o.op = .call { callee := .builtin .append, args := #[s, x], argTypes := #[22, 22] })
    (base : Nat) (v : Value) (xs : List Int) (n : Nat) (hl : xs.length = n) (hs : a.eval s = v) (hown : Row w base v xs)
    (ad : Addr) (c : Nat) (q : Int) (hx : a.eval x = .slice (some ad) 1 c) (hnew : w.cell? ad = some (.int .i64 q))
    (hn : n < 1000000000) (hbase : base ≤ w.heap.size)
    (h : ∀ g cap w', Row w' base (.slice (some ⟨g, 0, none⟩) (n + 1) cap) (xs ++ [q]) → w.grownBy w' v.ownBlock → (v.ownBlock = some g ∨ g = w.heap.size) → wpList Tryd.prog ops Q rest (a.put o.dst (.slice (some ⟨g, 0, none⟩) (n + 1) cap)) w') :
    wpList Tryd.prog ops Q (o :: rest) a w := by
  obtain ⟨i0, hi, hz0, hz1, hz2⟩ := info_parts info_int
  subst hl
  refine wpList_plain hgd fun _ hK => wp_append_lies w s x 22 ho base 3 i0 (.int .i64 0) 1 8 Tryd.underlying22 hi hz0 hz1 hz2 rfl (by decide) v xs.length _ hs hown ad 1 c [.int .i64 q] hx rfl ?_ ?_ (by decide) (by unfold maxLen; omega) (by omega) hbase _ rfl fun g cap w' h1 h2 h3 _ => hK _ _ (h g cap w' ?_ h2 h3)
  · intro j u hj
    match j, hj with
    | 0, hj => simp at hj; subst hj; simpa [Addr.add] using hnew
  · intro u hu; simp at hu; subst hu; rfl
  · simpa [Row] using h1
theorem rowLit (w : World) : Row (w.alloc (.cells #[] 3)) w.heap.size (.slice (some ⟨w.heap.size, 0, none⟩) 0 0) [] := World.ownsRow_lit w #[] 0 (Nat.le_refl _) (by unfold maxLen; omega) rfl
theorem SRow.grown {w w' : World} {base g n c : Nat} {row : Option Nat} {xs : List ByteArray} (h : SRow w base (.slice (some ⟨g, 0, none⟩) n c) xs) (hg : w.grownBy w' row) (hne : some g ≠ row) : SRow w' base (.slice (some ⟨g, 0, none⟩) n c) xs := by
  have hl := SRow.block h g rfl
  refine ⟨h.1, ?_⟩
  rcases h.2 with h2 | ⟨g', cap, cur, hv, hg', hh, r⟩
  · exact .inl h2
  · refine .inr ⟨g', cap, cur, hv, hg', ?_, r⟩
    injection hv with e1 e2 e3
    injection e1 with e1; injection e1 with e1
    rw [← e1] at hh ⊢
    rw [hg.block g hl.2 hne]; exact hh
/-- what a parser gives back -/
def RetN (r : Option (List Int)) (base : Nat) (e : Ending) (w : World) : Prop := ∃ v, e = .returned (.tuple #[v, .bool r.isSome]) ∧ Row w base v (r.getD [])
set_option maxRecDepth 100000 in
set_option maxHeartbeats 1600000 in
theorem specParse_any (s : ByteArray) (w : World) (hs : s.size ≤ 1048576) :
    Calls Tryd.prog 10 #[.string s] w fun e w' => RetN (parseR s.data.toList) w.heap.size e w' ∧ Below w.heap.size w w' := by
  go_enter Tryd.func10, Tryd.ntmps10
  go_wp2_with fail
  obtain ⟨q0, hq0⟩ : ∃ q : World, q = w.alloc (.cells #[] 3) := ⟨_, rfl⟩
  rw [← hq0]
  have hz0 : q0.heap.size = w.heap.size + 1 := by rw [hq0]; simp
  have hbq : Below w.heap.size w q0 := by rw [hq0]; exact below_alloc w _
  have hrq : Row q0 w.heap.size (.slice (some ⟨w.heap.size, 0, none⟩) 0 0) [] := by rw [hq0]; exact rowLit w
  have HQ := hid hq0; clear hq0
  refine (l14Cut_any s q0 (by omega)).mono ?_
  rintro e w1 ⟨gw, n, cW, ys, rfl, hsr, hW, hb1⟩
  obtain ⟨hyn, hnc, hgw1, hgw2, -⟩ := hsr.at
  have hn1 : n ≤ 1048577 := by
    have h1 := cut_count 32 s.data.toList
    rw [← hW, size_list] at h1; simp at h1; omega
  have HW := hid hW; clear hW
  have HYN := hid hyn; clear hyn
  have HK := hid hz0
  have hgne : w.heap.size < gw := by omega
  clear hz0
  have hrq1 := hrq.below hb1
  have hB1 := hbq.trans (hb1.mono hbq.size)
  go_wp2
  go_loopw [4, 6, 7, 8, 18] (fun o i _ _ _ wr => Below w.heap.size w wr ∧ ∃ (k g cp : Nat), k ≤ n ∧ i = .int .i64 k ∧ o = .slice (some ⟨g, 0, none⟩) k cp ∧ Row wr w.heap.size (.slice (some ⟨g, 0, none⟩) k cp) (valsOf numP ((ys.map (·.data.toList)).take k)) ∧ SRow wr q0.heap.size (.slice (some ⟨gw, 0, none⟩) n cW) ys ∧ g ≠ gw ∧ Hid (okAll numP ((ys.map (·.data.toList)).take k) = true) ∧ (0 < k → n ≤ 16)) (fun _ i _ _ _ _ => n - (intOf i).toNat)
  case atStart => exact ⟨hB1, 0, w.heap.size, 0, by omega, rfl, rfl, hrq1, hsr, by omega, rfl, fun h => absurd h (by omega)⟩
  case round =>
    obtain ⟨hB, k, g, cp, hk, rfl, rfl, hrow, hsr, hgg, HO, h16⟩ := hrel
    have hBs := hB.size
    have hrl : (valsOf numP ((ys.map (·.data.toList)).take k)).length = k := by rw [vals_len]; have := HYN.out; simp; omega
    by_cases hlt : k < n
    · obtain ⟨y, hy⟩ : ∃ y, ys[k]? = some y := ⟨ys[k]'(by have := HYN.out; omega), List.getElem?_eq_getElem _⟩
      have hcell : wr.cell? ⟨gw, k, none⟩ = some (.string y) := by have := hsr.at.2.2.2.2 k y hy; simpa using this
      have hyw : (ys.map (·.data.toList))[k]? = some y.data.toList := by rw [List.getElem?_map, hy]; rfl
      have hyc : (cutAt 32 s.data.toList)[k]? = some y.data.toList := by rw [← HW.out]; exact hyw
      have hysz : y.size ≤ 1048576 := by
        have := cut_len 32 s.data.toList _ (List.mem_of_getElem? hyc)
        rw [size_list, size_list] at this; omega
      have HY := hid hyw
      have HYC := hid hyc
      clear hy hyw hyc
      cases hr : numR y.data.toList with
      | none =>
        have HN : Hid (parseR s.data.toList = none) := parseR_bad HYC.out (numP_none1 hr)
        have hc : ∀ w2, Calls Tryd.prog 20 #[.string y] w2 fun e w' => e = .returned (.tuple #[.int .i64 0, .bool false]) ∧ w2 = w' := fun w2 => by
          have := l14Num_any y w2 (by omega); rw [hr] at this; exact this
        have HR := hid hr
        clear hr
        go_wp2_with (go_at_call 20; refine (hc _).mono ?_; rintro e w2 ⟨rfl, rfl⟩)
        refine bodyPost_ret (v := .tuple #[.slice (some ⟨wr.heap.size, 0, none⟩) 0 0, .bool false]) (by simp [results, Tryd.results10, go_sem]) rfl ⟨⟨_, by rw [HN.out]; rfl, by rw [HN.out]; exact (rowLit wr).mono hBs⟩, hB.alloc hBs _⟩
      | some v =>
        have hc : ∀ w2, Calls Tryd.prog 20 #[.string y] w2 fun e w' => e = .returned (.tuple #[.int .i64 v, .bool true]) ∧ w2 = w' := fun w2 => by
          have := l14Num_any y w2 (by omega); rw [hr] at this; exact this
        have HR := hid hr; clear hr
        cases hv : inB (-1000000000) 1000000000 v with
        | false =>
          have HN : Hid (parseR s.data.toList = none) := parseR_bad HYC.out (numP_none2 HR.out hv)
          have hp : ∀ w2, Calls Tryd.prog 21 #[.int .i64 v] w2 fun e w' => e = .returned (.bool false) ∧ w2 = w' := fun w2 => by
            have := l2Part_any v w2; rw [hv] at this; exact this
          clear hv
          go_wp2_with (first | (go_at_call 20; refine (hc _).mono ?_; rintro e w2 ⟨rfl, rfl⟩) | (go_at_call 21; refine (hp _).mono ?_; rintro e w2 ⟨rfl, rfl⟩))
          refine bodyPost_ret (v := .tuple #[.slice (some ⟨wr.heap.size, 0, none⟩) 0 0, .bool false]) (by simp [results, Tryd.results10, go_sem]) rfl ⟨⟨_, by rw [HN.out]; rfl, by rw [HN.out]; exact (rowLit wr).mono hBs⟩, hB.alloc hBs _⟩
        | true =>
          have hp : ∀ w2, Calls Tryd.prog 21 #[.int .i64 v] w2 fun e w' => e = .returned (.bool true) ∧ w2 = w' := fun w2 => by
            have := l2Part_any v w2; rw [hv] at this; exact this
          have HV : Hid (numP y.data.toList = some v) := numP_some1 HR.out hv
          clear hv
          by_cases hn16 : 16 < n
          · have HN : Hid (parseR s.data.toList = none) := parseR_long (by have h1 := HW.out; have h2 := HYN.out; rw [← h1]; simp; omega)
            go_wp2_with (first | (go_at_call 20; refine (hc _).mono ?_; rintro e w2 ⟨rfl, rfl⟩) | (go_at_call 21; refine (hp _).mono ?_; rintro e w2 ⟨rfl, rfl⟩))
            refine bodyPost_ret (v := .tuple #[.slice (some ⟨wr.heap.size, 0, none⟩) 0 0, .bool false]) (by simp [results, Tryd.results10, go_sem]) rfl ⟨⟨_, by rw [HN.out]; rfl, by rw [HN.out]; exact (rowLit wr).mono hBs⟩, hB.alloc hBs _⟩
          · have z16 : decide (16 < (n : Int)) = false := by simp; omega
            go_wp2_with (first | (go_at_call 20; refine (hc _).mono ?_; rintro e w2 ⟨rfl, rfl⟩) | (go_at_call 21; refine (hp _).mono ?_; rintro e w2 ⟨rfl, rfl⟩) | (at_builtin; refine wpList_append_int2 rfl _ _ rfl w.heap.size _ _ k hrl (by rfl) (hrow.below (below_alloc wr _)) _ _ v (by rfl) (by simp) (by omega) (by simp; omega) ?_; intro g' c' w' hrow' hgrow hgn))
            have HB2 := hid (below_grownBy (hB.alloc hBs _) (by simp; omega) hgrow (fun b e => (hrow.block b e).1))
            have hg2 : g' ≠ gw := by
              rcases hgn with h | h
              · have h2 : some g = some g' := h
                injection h2 with h2; omega
              · have := hsr.at.2.2.2.1; simp at h; omega
            have hsr2 : SRow w' q0.heap.size (.slice (some ⟨gw, 0, none⟩) n cW) ys := (hsr.below (below_alloc wr _)).grown hgrow (by intro e; injection e with e; exact hgg e.symm)
            have HT : Hid (valsOf numP ((ys.map (·.data.toList)).take (k + 1)) = valsOf numP ((ys.map (·.data.toList)).take k) ++ [v]) := vals_step numP HY.out HV.out
            have HO2 := hid (ok_step HY.out HV.out HO.out)
            clear hgrow hrow hgn hsr
            go_roundw
            case rel => first | exact ⟨HB2.out, k + 1, g', c', by omega, by go_num, rfl, by rw [HT.out]; exact hrow', hsr2, hg2, HO2.out, fun _ => by omega⟩ | exact ⟨_, ⟨HB2.out, k + 1, g', c', by omega, by go_num, rfl, by rw [HT.out]; exact hrow', hsr2, hg2, HO2.out, fun _ => by omega⟩, rfl⟩ | exact ⟨_, _, ⟨HB2.out, k + 1, g', c', by omega, by go_num, rfl, by rw [HT.out]; exact hrow', hsr2, hg2, HO2.out, fun _ => by omega⟩, rfl, rfl⟩ | exact ⟨_, _, _, ⟨HB2.out, k + 1, g', c', by omega, by go_num, rfl, by rw [HT.out]; exact hrow', hsr2, hg2, HO2.out, fun _ => by omega⟩, rfl, rfl, rfl⟩ | exact ⟨_, _, _, _, ⟨HB2.out, k + 1, g', c', by omega, by go_num, rfl, by rw [HT.out]; exact hrow', hsr2, hg2, HO2.out, fun _ => by omega⟩, rfl, rfl, rfl, rfl⟩ | exact ⟨_, _, _, _, _, ⟨HB2.out, k + 1, g', c', by omega, by go_num, rfl, by rw [HT.out]; exact hrow', hsr2, hg2, HO2.out, fun _ => by omega⟩, rfl, rfl, rfl, rfl, rfl⟩
            case measure => simp [intOf]; omega
    · have hkn : k = n := by omega
      have et : (ys.map (·.data.toList)).take k = cutAt 32 s.data.toList := by
        have h1 := HW.out; have h2 := HYN.out
        rw [List.take_of_length_le (by simp; omega), h1]
      have hO := HO.out
      rw [et] at hrow hO hrl
      have hpos := cutAt_pos 32 s.data.toList
      rw [vals_len] at hrl
      have HN : Hid (parseR s.data.toList = some (valsOf numP (cutAt 32 s.data.toList))) := parseR_good hO (by have := h16 (by omega); omega)
      clear hkn et hO hrl hpos HO
      go_wp2
      refine bodyPost_ret (v := .tuple #[.slice (some ⟨g, 0, none⟩) k cp, .bool true]) (by simp [results, Tryd.results10, go_sem]) rfl ⟨⟨_, by rw [HN.out]; rfl, by rw [HN.out]; exact hrow⟩, hB⟩
end Go.Proofs.YtobeeomeebicnaaDoor
