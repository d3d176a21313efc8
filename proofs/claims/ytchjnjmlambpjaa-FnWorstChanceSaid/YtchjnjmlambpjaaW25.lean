/- Acts that are best by a corner: the reference's PossiblyBest. -/
import Derived.Test.YtchjnjmlambpjaaW24
set_option linter.unusedSimpArgs false
set_option linter.unusedVariables false
namespace Go.Proofs.Ytchjnjmlambpjaa
open Go.RowKit
/-- one integer appended: in the old block or in a new one -/
theorem wpList_append_int2 {ops : Array Oper} {rest : List Oper} {o : Oper} {a : Act} {w : World} {Q : Exit → Act → World → Prop} (hgd : o.guard = none) (s x : Operand)
    (ho : o.op = .call { callee := .builtin .append, args := #[s, x], argTypes := #[22, 22] })
    (base : Nat) (v : Value) (xs : List Int) (n : Nat) (hl : xs.length = n) (hs : a.eval s = v) (hown : Row w base v xs)
    (A c : Nat) (q : Int) (hx : a.eval x = .slice (some ⟨A, 0, none⟩) 1 c) (hnew : w.cell? ⟨A, 0, none⟩ = some (.int .i64 q))
    (hn : n < 1000000000) (hbase : base ≤ w.heap.size)
    (h : ∀ g cap w', Row w' base (.slice (some ⟨g, 0, none⟩) (n + 1) cap) (xs ++ [q]) → w.grownBy w' v.ownBlock → (v.ownBlock = some g ∨ w.heap.size ≤ g) → wpList Try.prog ops Q rest (a.put o.dst (.slice (some ⟨g, 0, none⟩) (n + 1) cap)) w') :
    wpList Try.prog ops Q (o :: rest) a w := by
  obtain ⟨i0, hi, hz0, hz1, hz2⟩ := info_parts info_int
  subst hl
  refine wpList_plain hgd fun _ hK => wp_append_lies w s x 22 ho base 3 i0 (.int .i64 0) 1 8 Try.underlying22 hi hz0 hz1 hz2 rfl (by decide) v xs.length (xs.map (Value.int .i64)) hs hown ⟨A, 0, none⟩ 1 c [.int .i64 q] hx rfl ?_ ?_ (by decide) (by unfold maxLen; omega) (by omega) hbase _ rfl fun g cap w' k1 k2 k3 k4 => hK _ _ (h g cap w' ?_ k2 ?_)
  · intro j u' hj
    match j, hj with
    | 0, hj => simp at hj; subst hj; rw [add_at]; exact hnew
  · intro u' hu'; simp at hu'; subst hu'; rfl
  · simpa [Row] using k1
  · rcases k3 with e | e
    · exact .inl e
    · exact .inr (by omega)
set_option maxHeartbeats 1000000 in
theorem l12Tops_any (i : Nat) (s : Int) (ao bo : Option Addr) (n c m d : Nat) (p : List Int) (acts : List (List Int)) (w : World) (hx : IntsAt w ao n p) (hy : RowsAt w bo m acts) (hi : i < m) (hm8 : m ≤ 8)
    (hm : massOk s p = true) (h0 : nth p 0 = 0) (hag : ∀ k, k < m → gainsOk s (nthL acts k) = true) :
    Calls Try.prog 103 #[.agg #[.int .i64 s, .slice ao n c], .slice bo m d, .int .i64 i] w fun e w' => e = .returned (.bool (topB p acts i)) ∧ Below w.heap.size w w' := by
  have hyl := hid hy.len
  have hcap := hy.cap
  have HM := hid hm; clear hm
  have HZ := hid h0; clear h0
  have HAG := hid hag; clear hag
  have hBa := below_alloc w (.cells #[.int .i64 s, .slice ao n c] 28)
  obtain ⟨W, HW⟩ : ∃ W, Hid (w.alloc (.cells #[.int .i64 s, .slice ao n c] 28) = W) := ⟨_, rfl⟩
  have p0 : W.cell? ⟨w.heap.size, 0, none⟩ = some (.int .i64 s) := by rw [← HW.out]; simp
  have p1 : W.cell? ⟨w.heap.size, 1, none⟩ = some (.slice ao n c) := by rw [← HW.out]; simp
  rw [HW.out] at hBa
  have hxW := hx.below hBa
  have hyW := hy.below hBa
  obtain ⟨t, HT⟩ : ∃ t, Hid (topB p acts i = t) := ⟨_, rfl⟩
  rw [HT.out]
  go_enter Try.func103, Try.ntmps103
  go_wp2
  rw [HW.out]
  go_loopw [7] (fun j wr => ∃ k : Nat, k ≤ m ∧ j = .int .i64 k ∧ allN (fun a => !decide (loS p (nthL acts i) < loS p (nthL acts a))) k = true ∧ Below W.heap.size W wr) (fun j _ => m - (intOf j).toNat)
  case atStart => exact ⟨0, by omega, rfl, rfl, Below.refl _ _⟩
  case round =>
    obtain ⟨k, hk, rfl, ha, hBr⟩ := hrel
    have HA := hid ha; clear ha
    by_cases hlt : k < m
    · have q0 := keep hBr p0
      have q1 := keep hBr p1
      have hxr := hxW.below hBr
      obtain ⟨b, off, a', n', c', rfl, hbs, hbs', hck, hik⟩ := hyW.at hBr hlt
      obtain ⟨b2, off2, a2, n2, c2, e2, _, _, hci, hii⟩ := hyW.at hBr hi
      injection e2 with e2
      injection e2 with e3 e4
      subst e3 e4
      have G1 := mg_of HM.out HZ.out (HAG.out k hlt) hx.len hik.len
      have G2 := mg_of HM.out HZ.out (HAG.out i hi) hx.len hii.len
      have hn29 : n' ≤ 29 := by have := G1.m4; omega
      have hn29' : n2 ≤ 29 := by have := G2.m4; omega
      have HF : Hid (∀ w', IntsAt w' ao n p → IntsAt w' a' n' (nthL acts k) → Calls Try.prog 141 #[.agg #[.int .i64 s, .slice ao n c], .slice a' n' c'] w' fun e w'' => e = .returned (.int .i64 (loS p (nthL acts k))) ∧ Below w'.heap.size w' w'') := fun w' h1 h2 => by
        have := l12Least_any s _ _ _ c _ c' p (nthL acts k) w' h1 h2 G1.n16 G1.n1 hn29 HZ.out G1.xb G1.gb
        unfold loS; rw [G1.xlen]; exact this
      have HG : Hid (∀ w', IntsAt w' ao n p → IntsAt w' a2 n2 (nthL acts i) → Calls Try.prog 141 #[.agg #[.int .i64 s, .slice ao n c], .slice a2 n2 c2] w' fun e w'' => e = .returned (.int .i64 (loS p (nthL acts i))) ∧ Below w'.heap.size w' w'') := fun w' h1 h2 => by
        have := l12Least_any s _ _ _ c _ c2 p (nthL acts i) w' h1 h2 G2.n16 G2.n1 hn29' HZ.out G2.xb G2.gb
        unfold loS; rw [G2.xlen]; exact this
      have HT2 : Hid (loS p (nthL acts i) < loS p (nthL acts k) → t = false) := fun h => by
        rw [← HT.out]; unfold topB
        exact allN_false (p := fun a => !decide (loS p (nthL acts i) < loS p (nthL acts a))) (by rw [hyl.out]; exact hlt) (by simp [h])
      have HS : Hid (allN (fun a => !decide (loS p (nthL acts i) < loS p (nthL acts a))) (k + 1) = (true && !decide (loS p (nthL acts i) < loS p (nthL acts k)))) := by rw [Hid, allN_step, HA.out]
      clear G1 G2 HA
      obtain ⟨F, hF⟩ : ∃ F, loS p (nthL acts k) = F := ⟨_, rfl⟩
      obtain ⟨G, hG⟩ : ∃ G, loS p (nthL acts i) = G := ⟨_, rfl⟩
      rw [hF] at HF HT2
      rw [hG] at HG HT2
      rw [hF] at HS
      have HFe := hid hF; have HGe := hid hG
      clear hF hG
      have hk0 : (0 : Int) ≤ (k : Int) := by omega
      have hk1 : (k : Int) < (m : Int) := by omega
      have hi0 : (0 : Int) ≤ (i : Int) := by omega
      have hi1 : (i : Int) < (m : Int) := by omega
      by_cases hgt : G < F
      · have HFF := hid (HT2.out hgt)
        go_wp2
        refine wp_region_ov (by kernel_rfl) (by kernel_rfl) ?_
        repeat (first | go_big_quiet_step ((first | (go_at_call 141; (with_reducible exact ov_call (HF.out _ (hxr.below (ov_below _ _)) (hik.below (ov_below _ _))))) | (go_at_call 141; (with_reducible exact ov_call (HG.out _ (hxr.below (ov_below _ _)) (hii.below (ov_below _ _))))))) | quiet_step ((first | (go_at_call 141; (with_reducible exact ov_call (HF.out _ (hxr.below (ov_below _ _)) (hik.below (ov_below _ _))))) | (go_at_call 141; (with_reducible exact ov_call (HG.out _ (hxr.below (ov_below _ _)) (hii.below (ov_below _ _))))))))
        refine wpQuiet_nil ?_
        intro _ hw_ov
        obtain ⟨x_ov, hw_ov2⟩ := hw_ov
        subst hw_ov2
        obtain ⟨w3, hw_ov3, hb3⟩ := ov_gen _ x_ov
        rw [hw_ov3]
        clear hw_ov3 x_ov
        go_wp2
        go_ret
        exact ⟨ret_bool HFF.out.symm, chain (chain hBa hBr) hb3⟩
      · go_wp2
        refine wp_region_ov (by kernel_rfl) (by kernel_rfl) ?_
        repeat (first | go_big_quiet_step ((first | (go_at_call 141; (with_reducible exact ov_call (HF.out _ (hxr.below (ov_below _ _)) (hik.below (ov_below _ _))))) | (go_at_call 141; (with_reducible exact ov_call (HG.out _ (hxr.below (ov_below _ _)) (hii.below (ov_below _ _))))))) | quiet_step ((first | (go_at_call 141; (with_reducible exact ov_call (HF.out _ (hxr.below (ov_below _ _)) (hik.below (ov_below _ _))))) | (go_at_call 141; (with_reducible exact ov_call (HG.out _ (hxr.below (ov_below _ _)) (hii.below (ov_below _ _))))))))
        refine wpQuiet_nil ?_
        intro _ hw_ov
        obtain ⟨x_ov, hw_ov2⟩ := hw_ov
        subst hw_ov2
        obtain ⟨w3, hw_ov3, hb3⟩ := ov_gen _ x_ov
        rw [hw_ov3]
        clear hw_ov3 x_ov
        have HB3 := hid (chain hBr hb3)
        have HGT : Hid (decide (G < F) = false) := decide_eq_false (by omega)
        clear hb3
        go_wp2
        go_roundw
        case rel => first | exact ⟨k + 1, by omega, by go_num, by rw [HS.out, HGe.out, HGT.out]; rfl, HB3.out⟩ | exact ⟨_, ⟨k + 1, by omega, by go_num, by rw [HS.out, HGe.out, HGT.out]; rfl, HB3.out⟩, rfl⟩ | exact ⟨_, _, ⟨k + 1, by omega, by go_num, by rw [HS.out, HGe.out, HGT.out]; rfl, HB3.out⟩, rfl, rfl⟩ | exact ⟨_, _, _, ⟨k + 1, by omega, by go_num, by rw [HS.out, HGe.out, HGT.out]; rfl, HB3.out⟩, rfl, rfl, rfl⟩ | exact ⟨_, _, _, _, ⟨k + 1, by omega, by go_num, by rw [HS.out, HGe.out, HGT.out]; rfl, HB3.out⟩, rfl, rfl, rfl, rfl⟩ | exact ⟨_, _, _, _, _, ⟨k + 1, by omega, by go_num, by rw [HS.out, HGe.out, HGT.out]; rfl, HB3.out⟩, rfl, rfl, rfl, rfl, rfl⟩
        case measure => simp [intOf]; omega
    · have hkn : k = m := by omega
      have HTT : Hid (t = true) := by rw [Hid, ← HT.out]; unfold topB; rw [hyl.out, ← hkn]; exact HA.out
      clear hkn
      go_wp2
      go_ret
      exact ⟨ret_bool HTT.out.symm, chain hBa hBr⟩
def bestC (C acts : List (List Int)) (i j : Nat) : Bool := !allN (fun j => !topB (nthL C j) acts i) j
theorem bestC_succ (C acts : List (List Int)) (i j : Nat) : bestC C acts i (j + 1) = (bestC C acts i j || topB (nthL C j) acts i) := by
  unfold bestC; rw [allN_step]; cases allN (fun j => !topB (nthL C j) acts i) j <;> cases topB (nthL C j) acts i <;> rfl
set_option maxHeartbeats 4000000 in
theorem specPossiblyBest_any (s : Int) (ao bo : Option Addr) (n c m d : Nat) (xs : List Int) (acts : List (List Int)) (w : World) (hx : IntsAt w ao n xs) (hy : RowsAt w bo m acts) :
    Calls Try.prog 52 #[.agg #[.int .i64 s, .slice ao n c], .slice bo m d] w fun e w' => (∃ v, e = .returned v ∧ Row w' w.heap.size v (possL s xs acts)) ∧ Below w.heap.size w w' := by
  have hcap := hy.cap
  obtain ⟨W, HW⟩ : ∃ W, Hid (w.alloc (.cells #[.int .i64 s, .slice ao n c] 28) = W) := ⟨_, rfl⟩
  have hBa : Below w.heap.size w W := by rw [← HW.out]; exact below_alloc _ _
  have hp0 : W.cell? ⟨w.heap.size, 0, none⟩ = some (.int .i64 s) := by rw [← HW.out]; simp
  have hp1 : W.cell? ⟨w.heap.size, 1, none⟩ = some (.slice ao n c) := by rw [← HW.out]; simp
  have hzW : W.heap.size = w.heap.size + 1 := by rw [← HW.out]; simp
  have hr0 := Row.lit W
  have hB0 : Below W.heap.size W (W.alloc (.cells #[] 3)) := below_alloc _ _
  have hzW1 : (W.alloc (.cells #[] 3)).heap.size = W.heap.size + 1 := by simp
  rw [hzW] at hr0
  have hp0a := keep hB0 hp0
  have hp1a := keep hB0 hp1
  have hBb := chain hBa hB0
  cases hA : actsOk s xs acts
  · have HU : Hid (possL s xs acts = []) := by rw [Hid]; unfold possL; rw [hA]; rfl
    go_enter Try.func52, Try.ntmps52
    go_wp2_with fail
    rw [HW.out]
    refine (specActsValid_any _ _ _ _ _ _ _ xs acts _ (hx.below hBb) (hy.below hBb)).mono ?_; rw [hA]; rintro e w1 ⟨rfl, hb1⟩
    have HR1 := hid (hr0.below hb1)
    have HB1 := hid (chain hBb hb1)
    clear hb1 hr0
    go_wp2
    go_ret
    exact ⟨⟨_, rfl, by rw [HU.out]; exact HR1.out.mono (by omega)⟩, HB1.out⟩
  · obtain ⟨C, HC⟩ : ∃ C, Hid (cornersL s xs = C) := ⟨_, rfl⟩
    have HU : Hid (possL s xs acts = possTo C acts acts.length) := by rw [Hid, ← HC.out]; unfold possL; rw [hA]; rfl
    obtain ⟨hm, hz, ha1, ha8, hag⟩ := actsOk_facts hA
    obtain ⟨hno, hco⟩ := poss_facts hA
    rw [HC.out] at hco
    have HCO := hid hco; clear hco
    have hyl := hid hy.len
    have HAG : Hid (∀ k, k < m → gainsOk s (nthL acts k) = true) := fun k hk => hag k (by rw [hyl.out]; exact hk)
    clear hag
    have hm8 : m ≤ 8 := by have := hyl.out; omega
    go_enter Try.func52, Try.ntmps52
    go_wp2_with fail
    rw [HW.out]
    refine (specActsValid_any _ _ _ _ _ _ _ xs acts _ (hx.below hBb) (hy.below hBb)).mono ?_; rw [hA]; rintro e w1 ⟨rfl, hb1⟩
    have k0 := keep hb1 hp0a
    have k1 := keep hb1 hp1a
    have hB1 := chain hBb hb1
    replace hr0 := hr0.below hb1
    have hz1 := hb1.size
    rw [hzW1, hzW] at hz1
    clear hb1 hp0a hp1a
    go_wp2_with fail
    refine (CornersOf_any s ao n c xs _ (hx.below hB1)).mono ?_; rintro e w2 ⟨⟨vc, rfl, hmo⟩, hb2⟩
    rw [HC.out] at hmo
    obtain ⟨Q, HQ⟩ : ∃ Q, Hid (C.length = Q) := ⟨_, rfl⟩
    rw [HQ.out] at hmo
    obtain ⟨ac, cc, he, hat⟩ := hmo.form
    subst he
    clear hat
    replace hr0 := hr0.below hb2
    have hB2 := chain hB1 hb2
    have hz2 := hb2.size
    have hmo2 := hmo.mono (base' := w.heap.size + 1 + 1) (by omega)
    have hQ24 : Q ≤ 24 := by rw [← HQ.out, ← HC.out]; exact corners_len _ _
    clear hb2 k0 k1 hmo
    go_wp2
    go_loopw [5, 7] (fun o i wr => ∃ (k : Nat) (v : Value), k ≤ m ∧ i = .int .i64 k ∧ o = v ∧ Row wr (w.heap.size + 1) v (possTo C acts k) ∧ Span (w.heap.size + 1) (w.heap.size + 1 + 1) w2 wr ∧ (∀ b, v.ownBlock = some b → b = w.heap.size + 1 ∨ w2.heap.size ≤ b)) (fun _ i _ => m - (intOf i).toNat)
    case atStart => exact ⟨0, _, by omega, rfl, rfl, hr0, Span.refl _ _ _, fun b e => .inl (own_eq e)⟩
    case round =>
      clear hr0
      obtain ⟨k, v, hk, rfl, rfl, hrow, hS, hvb⟩ := hrel
      obtain ⟨wo, rfl⟩ : ∃ q : World, q = wr := ⟨_, rfl⟩
      have hzS := hS.size
      have hB : Below w.heap.size w wo := Span.below hB2 (by omega) hS (by omega)
      by_cases hlt : k < m
      · obtain ⟨ac', cc', he, hat⟩ := (hmo2.span hS (Nat.le_refl _)).form
        injection he with e1 e2 e3
        subst e1 e3
        clear e2
        have hyo := hy.below hB
        go_wp2
        go_loopw [8, 9] (fun t i wr => ∃ j : Nat, j ≤ Q ∧ i = .int .i64 j ∧ t = .bool (bestC C acts k j) ∧ Below wo.heap.size wo wr) (fun _ i _ => Q - (intOf i).toNat)
        case atStart => exact ⟨0, by omega, rfl, rfl, Below.refl _ _⟩
        case round =>
          obtain ⟨j, hj, rfl, rfl, hBj⟩ := hrel
          have HN := hid (bestC_succ C acts k j)
          by_cases hjt : j < Q
          · obtain ⟨b1, a1, n1, c1, rfl, _, hbb, hc0, hc1, hi1⟩ := hat.at hBj hjt
            obtain ⟨g1, g2⟩ := HCO.out j (by rw [HQ.out]; exact hjt)
            have hj0 : (0 : Int) ≤ (j : Int) := by omega
            have hj1 : (j : Int) < (Q : Int) := by omega
            cases hbt : bestC C acts k j
            · go_wp2_with fail
              refine (l12Tops_any k s a1 bo n1 c1 m d (nthL C j) acts _ hi1 (hyo.below hBj) hlt hm8 g1 g2 HAG.out).mono ?_; rintro e w5 ⟨rfl, hb5⟩
              have HB5 := hid (chain hBj hb5)
              clear hb5
              go_wp2
              go_roundw
              case rel => first | exact ⟨j + 1, by omega, by go_num, by rw [HN.out, hbt]; rfl, HB5.out⟩ | exact ⟨_, ⟨j + 1, by omega, by go_num, by rw [HN.out, hbt]; rfl, HB5.out⟩, rfl⟩ | exact ⟨_, _, ⟨j + 1, by omega, by go_num, by rw [HN.out, hbt]; rfl, HB5.out⟩, rfl, rfl⟩ | exact ⟨_, _, _, ⟨j + 1, by omega, by go_num, by rw [HN.out, hbt]; rfl, HB5.out⟩, rfl, rfl, rfl⟩ | exact ⟨_, _, _, _, ⟨j + 1, by omega, by go_num, by rw [HN.out, hbt]; rfl, HB5.out⟩, rfl, rfl, rfl, rfl⟩ | exact ⟨_, _, _, _, _, ⟨j + 1, by omega, by go_num, by rw [HN.out, hbt]; rfl, HB5.out⟩, rfl, rfl, rfl, rfl, rfl⟩
              case measure => simp [intOf]; omega
            · go_wp2
              go_roundw
              case rel => first | exact ⟨j + 1, by omega, by go_num, by rw [HN.out, hbt]; rfl, hBj⟩ | exact ⟨_, ⟨j + 1, by omega, by go_num, by rw [HN.out, hbt]; rfl, hBj⟩, rfl⟩ | exact ⟨_, _, ⟨j + 1, by omega, by go_num, by rw [HN.out, hbt]; rfl, hBj⟩, rfl, rfl⟩ | exact ⟨_, _, _, ⟨j + 1, by omega, by go_num, by rw [HN.out, hbt]; rfl, hBj⟩, rfl, rfl, rfl⟩ | exact ⟨_, _, _, _, ⟨j + 1, by omega, by go_num, by rw [HN.out, hbt]; rfl, hBj⟩, rfl, rfl, rfl, rfl⟩ | exact ⟨_, _, _, _, _, ⟨j + 1, by omega, by go_num, by rw [HN.out, hbt]; rfl, hBj⟩, rfl, rfl, rfl, rfl, rfl⟩
              case measure => simp [intOf]; omega
          · have hjq : j = Q := by omega
            have HJ := hid hjq
            clear hjq
            have HF : Hid (bestC C acts k j = possB C acts k) := by rw [Hid, HJ.out]; unfold bestC possB; rw [HQ.out]
            rw [HF.out]
            have hrow3 := hrow.below hBj
            have hz3 := hBj.size
            have HLF := possTo_len C acts k
            cases hfk : possB C acts k
            · have HN2 : Hid (possTo C acts (k + 1) = possTo C acts k) := by rw [Hid, possTo_succ, hfk]; rfl
              have HS2 := hid (hS.grown2 (grownBy_below hBj none) (fun k e => by cases e))
              go_wp2
              go_roundw
              case rel => first | exact ⟨k + 1, _, by omega, by go_num, rfl, by rw [HN2.out]; exact hrow3, HS2.out, hvb⟩ | exact ⟨_, ⟨k + 1, _, by omega, by go_num, rfl, by rw [HN2.out]; exact hrow3, HS2.out, hvb⟩, rfl⟩ | exact ⟨_, _, ⟨k + 1, _, by omega, by go_num, rfl, by rw [HN2.out]; exact hrow3, HS2.out, hvb⟩, rfl, rfl⟩ | exact ⟨_, _, _, ⟨k + 1, _, by omega, by go_num, rfl, by rw [HN2.out]; exact hrow3, HS2.out, hvb⟩, rfl, rfl, rfl⟩ | exact ⟨_, _, _, _, ⟨k + 1, _, by omega, by go_num, rfl, by rw [HN2.out]; exact hrow3, HS2.out, hvb⟩, rfl, rfl, rfl, rfl⟩ | exact ⟨_, _, _, _, _, ⟨k + 1, _, by omega, by go_num, rfl, by rw [HN2.out]; exact hrow3, HS2.out, hvb⟩, rfl, rfl, rfl, rfl, rfl⟩
              case measure => simp [intOf]; omega
            · have HN2 : Hid (possTo C acts (k + 1) = possTo C acts k ++ [(k : Int)]) := by rw [Hid, possTo_succ, hfk]; rfl
              obtain ⟨p, HP⟩ : ∃ p, Hid ((possTo C acts k).length = p) := ⟨_, rfl⟩
              rw [HP.out] at HLF
              go_wp2_with (at_builtin; refine wpList_append_int2 rfl _ _ rfl (w.heap.size + 1) _ _ p HP.out (by rfl) (hrow3.below (below_alloc wr _)) _ _ (k : Int) (by rfl) (by simp) (by omega) (by simp; omega) ?_; intro g6 c6 w6 hrow' hgrow hgo6)
              have hgo : g6 = w.heap.size + 1 ∨ w2.heap.size ≤ g6 := by
                rcases hgo6 with h | h
                · exact hvb _ h
                · simp at h; omega
              have HS6 := hid (hS.grown2 (below_grown (hBj.alloc (by omega) _) hgrow) (fun b e => by have := hvb b e; omega))
              have HV : Hid (∀ b, (Value.slice (some ⟨g6, 0, none⟩) (p + 1) c6).ownBlock = some b → b = w.heap.size + 1 ∨ w2.heap.size ≤ b) := fun b e => by
                have e1 := own_eq e
                subst e1
                exact hgo
              clear hgrow hrow hrow3 hvb hS hgo6
              go_roundw
              case rel => first | exact ⟨k + 1, _, by omega, by go_num, rfl, by rw [HN2.out]; exact hrow', HS6.out, HV.out⟩ | exact ⟨_, ⟨k + 1, _, by omega, by go_num, rfl, by rw [HN2.out]; exact hrow', HS6.out, HV.out⟩, rfl⟩ | exact ⟨_, _, ⟨k + 1, _, by omega, by go_num, rfl, by rw [HN2.out]; exact hrow', HS6.out, HV.out⟩, rfl, rfl⟩ | exact ⟨_, _, _, ⟨k + 1, _, by omega, by go_num, rfl, by rw [HN2.out]; exact hrow', HS6.out, HV.out⟩, rfl, rfl, rfl⟩ | exact ⟨_, _, _, _, ⟨k + 1, _, by omega, by go_num, rfl, by rw [HN2.out]; exact hrow', HS6.out, HV.out⟩, rfl, rfl, rfl, rfl⟩ | exact ⟨_, _, _, _, _, ⟨k + 1, _, by omega, by go_num, rfl, by rw [HN2.out]; exact hrow', HS6.out, HV.out⟩, rfl, rfl, rfl, rfl, rfl⟩
              case measure => simp [intOf]; omega
      · have hkn : k = m := by omega
        have HK := hid hkn
        clear hkn
        go_wp2
        go_ret
        exact ⟨⟨_, rfl, by rw [HU.out, hyl.out, ← HK.out]; exact hrow.mono (by omega)⟩, hB⟩
end Go.Proofs.Ytchjnjmlambpjaa
