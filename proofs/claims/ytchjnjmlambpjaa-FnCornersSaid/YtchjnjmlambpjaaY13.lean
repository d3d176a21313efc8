/- The law FnCorners: its walk (printed by fngen.py). -/
import Derived.Test.YtchjnjmlambpjaaD13
import Derived.Test.YtchjnjmlambpjaaE7
import Derived.Test.YtchjnjmlambpjaaE2
import Derived.Test.YtchjnjmlambpjaaE3
import Derived.Test.YtchjnjmlambpjaaZC
import Derived.Test.YtchjnjmlambpjaaC6
set_option linter.unusedSimpArgs false
set_option linter.unusedVariables false
namespace Go.Proofs.Ytchjnjmlambpjaa
open Go.RowKit
/-- does one of the first corners give a set just its belief? -/
def someC (f : Nat → Bool) (k : Nat) : Bool := !allN (fun i => !f i) k
theorem someC_succ (f : Nat → Bool) (k : Nat) : someC f (k + 1) = (someC f k || f k) := by
  show (!(allN _ k && !f k)) = _
  unfold someC
  cases allN (fun i => !f i) k <;> cases f k <;> rfl
theorem someC_of {f : Nat → Bool} {k i : Nat} (hi : i < k) (h : f i = true) : someC f k = true := by
  unfold someC
  rw [allN_false (p := fun i => !f i) hi (by show (!f i) = false; rw [h]; rfl)]
  rfl
theorem Whole_of {s : Int} {xs : List Int} (hm : massOk s xs = true) (ao : Option Addr) (n c : Nat) (w : World) (hx : IntsAt w ao n xs) :
    Calls Try.prog 30 #[.agg #[.int .i64 s, .slice ao n c]] w fun e w' => e = .returned (.int .i64 (isum xs)) ∧ Below w.heap.size w w' := by
  have h := WholeOf_any s ao n c xs w hx
  have e : wholeM s xs = isum xs := by unfold wholeM; rw [hm]; rfl
  rwa [e] at h
theorem Imp_of {s : Int} {xs : List Int} {a : Nat} (hm : massOk s xs = true) (ha : a < xs.length) (ao : Option Addr) (n c : Nat) (w : World) (hx : IntsAt w ao n xs) :
    Calls Try.prog 29 #[.agg #[.int .i64 s, .slice ao n c], .int .i64 a] w fun e w' => e = .returned (.int .i64 (impP a xs)) ∧ Below w.heap.size w w' := by
  have h := ImpliedPart_any s a ao n c xs w hx hm (by rw [← (massOk_facts hm).2.1]; exact ha)
  unfold impP
  rw [hx.len]; exact h
theorem weEqual_not {s : Int} {xs ys : List Int} (h : xs ≠ ys) (ao bo : Option Addr) (n m c d : Nat) (w : World) (hx : IntsAt w ao n xs) (hy : IntsAt w bo m ys) :
    Calls Try.prog 31 #[.agg #[.int .i64 s, .slice ao n c], .agg #[.int .i64 s, .slice bo m d]] w fun e w' => e = .returned (.bool false) ∧ Below w.heap.size w w' := by
  have q := weEqual_any s s ao bo n m c d xs ys w hx hy
  have e : eqMM s s xs ys = false := by unfold eqMM eqList; simp [h]
  rwa [e] at q
theorem corners_none {s : Int} {xs : List Int} (h : normalOk s xs = false) : cornersL s xs = [] := by unfold cornersL; rw [h]; rfl
set_option maxRecDepth 100000 in
set_option maxHeartbeats 16000000 in
theorem FnCorners_walk (ao : Option Addr) (n c : Nat) (w : World) (hx : n ≤ 1048576 → BytesIn w w.heap.size ao n) (hnc : n ≤ c) (hcap : n ≤ 9223372036854775807) :
    Calls Try.prog 5 #[.slice ao n c] w fun e w' => e = .returned (.bool true) ∧ Below w.heap.size w w' := by
  by_cases hn : 1048576 < n
  · go_enter Try.func5, Try.ntmps5
    go_wp2
    go_ret
    exact ⟨rfl, Below.refl _ _⟩
  have HX := hid (hx (by omega))
  clear hx
  go_enter Try.func5, Try.ntmps5
  have hB := Below.refl w.heap.size w
  go_wp2_with fail
  refine (DrawCornersOf_any ao n c _ HX.out hnc).mono ?_; rintro e w1 ⟨⟨s, p, xs, rfl, hr, hlx⟩, hb⟩
  have hd := hb
  replace hB := chain hB hd
  have hs1 := hd.size
  clear hb hd
  obtain ⟨am, nm, cm, rfl, him⟩ := hr.ints
  clear hr
  go_wp2_with fail
  refine (iCornersOf_any s _ _ _ xs _ (him.below (by (repeat (first | exact Below.refl _ _ | assumption | refine Below.alloc ?_ (by first | omega | (simp <;> omega)) _ | refine Below.setCell ?_ (by first | omega | (simp <;> omega)) _ | refine Below.drew ?_ | refine below_drewN ?_))))).mono ?_; rintro e w2 ⟨⟨vc, rfl, hmo⟩, hb⟩
  have mm0 := keep hb (a := ⟨w1.heap.size, 0, none⟩) (v := .int .i64 s) (by simp)
  have mm1 := keep hb (a := ⟨w1.heap.size, 1, none⟩) (v := .slice am nm cm) (by simp)
  have hN1 : w1.heap.size < w2.heap.size := by have := World.block_lt_of_cell? w2 _ mm0; simpa using this
  have hd : Below w1.heap.size w1 w2 := Below.trans (by (repeat (first | exact Below.refl _ _ | assumption | refine Below.alloc ?_ (by first | omega | (simp <;> omega)) _ | refine Below.setCell ?_ (by first | omega | (simp <;> omega)) _ | refine Below.drew ?_ | refine below_drewN ?_))) (hb.mono (by simp <;> omega))
  replace him := him.below hd
  replace hB := chain hB hd
  have hs2 := hd.size
  clear hb hd
  obtain ⟨ac, cc, he, hat⟩ := hmo.form
  subst he
  clear hmo
  obtain ⟨C, HC⟩ : ∃ C, Hid (cornersL s xs = C) := ⟨_, rfl⟩
  obtain ⟨Q, HQ⟩ : ∃ Q, Hid (C.length = Q) := ⟨_, rfl⟩
  rw [HC.out, HQ.out] at hat ⊢
  have hQ24 : Q ≤ 24 := by rw [← HQ.out, ← HC.out]; exact corners_len _ _
  go_wp2_with fail
  refine (CornersOf_any s _ _ _ xs _ him).mono ?_; rintro e w3 ⟨⟨vc2, rfl, hmo⟩, hb⟩
  have hd := hb
  replace mm0 := keep hd mm0
  replace mm1 := keep hd mm1
  replace him := him.below hd
  replace hat := hat.below hd
  replace hB := chain hB hd
  have hs3 := hd.size
  clear hb hd
  obtain ⟨ac2, cc2, he, hat2⟩ := hmo.form
  subst he
  clear hmo
  rw [HC.out, HQ.out] at hat2 ⊢
  cases hno : normalOk s xs
  · have hQ0 : Q = 0 := by rw [← HQ.out, ← HC.out, corners_none hno]; rfl
    subst hQ0
    go_wp2_with fail
    refine (iIsNormal_any s _ _ _ xs _ him).mono ?_; rw [hno]; rintro e w4 ⟨rfl, hb⟩
    have hd := hb
    replace mm0 := keep hd mm0
    replace mm1 := keep hd mm1
    replace him := him.below hd
    replace hat := hat.below hd
    replace hat2 := hat2.below hd
    replace hB := chain hB hd
    have hs4 := hd.size
    clear hb hd
    go_wp2
    go_ret
    exact ⟨rfl, hB⟩
  · have hQ1 : 1 ≤ Q := by rw [← HQ.out, ← HC.out]; exact corners_some hno
    have hq0 : ((Q : Int) == 0) = false := by rw [beq_eq_false_iff_ne]; omega
    obtain ⟨_, _, _, _, hmo, _⟩ := norm_size hno
    have HNO := hid hno
    have HMO := hid hmo
    obtain ⟨hok, -, h16, -, s1, s2, -⟩ := massOk_facts hmo
    have HNS : Hid (xs.length = nsets s) := (massOk_facts hmo).2.1
    have hlm := him.len
    have HGOOD : Hid (∀ i, i < Q → chanceOk s (nthL C i) = true ∧ normalOk s (nthL C i) = true ∧ (nthL C i).length = xs.length) := by rw [Hid, ← HQ.out, ← HC.out]; exact fun i hi => corners_good hi
    have HIMP : Hid (∀ a, a < xs.length → (∀ i, i < Q → impP a xs * isum (nthL C i) ≤ impP a (nthL C i) * isum xs) ∧ ∃ i, i < Q ∧ impP a (nthL C i) * isum xs = impP a xs * isum (nthL C i)) := by rw [Hid, ← HQ.out, ← HC.out]; exact fun a ha => corners_imp hno ha
    have HAP : Hid (∀ i j, i < j → j < Q → nthL C i ≠ nthL C j) := by rw [Hid, ← HQ.out, ← HC.out]; exact fun i j h1 h2 => corners_apart h1 h2
    have HONE : Hid (chanceOk s xs = decide (Q = 1)) := by rw [Hid, ← HQ.out, ← HC.out]; exact corners_one hno
    clear hno hmo
    rw [hlm] at h16
    have HLM := hid hlm
    clear hlm
    obtain ⟨X, hX⟩ : ∃ X, isum xs = X := ⟨_, rfl⟩
    rw [hX] at s1 s2 HIMP
    have HWX : Hid (∀ w', IntsAt w' am nm xs → Calls Try.prog 30 #[.agg #[.int .i64 s, .slice am nm cm]] w' fun e w'' => e = .returned (.int .i64 X) ∧ Below w'.heap.size w' w'') := fun w' h1 => by rw [← hX]; exact Whole_of HMO.out _ _ _ w' h1
    have hXe := hid hX
    clear hX
    go_wp2
    go_loopw [6] (fun  i wr => ∃ a : Nat, a ≤ nm ∧ i = .int .i64 a ∧ Below w3.heap.size w3 wr) (fun  i _ => nm - (intOf i).toNat)
    case atStart => exact ⟨0, by omega, rfl, Below.refl _ _⟩
    case round =>
      obtain ⟨a, ha, rfl, hBr⟩ := hrel
      obtain ⟨w4, rfl⟩ : ∃ q : World, q = wr := ⟨_, rfl⟩
      replace mm0 := keep hBr mm0
      replace mm1 := keep hBr mm1
      replace him := him.below hBr
      replace hat := hat.below hBr
      replace hat2 := hat2.below hBr
      have hB0a := hB
      have hswa := hB.size
      have hsr := hBr.size
      clear hB
      have hB := hBr
      clear hBr
      by_cases hla : a < nm
      · have HIA := hid (HIMP.out a (by rw [HLM.out]; exact hla))
        have ha16 : a < 16 := by omega
        have HAX : Hid (a < xs.length) := by rw [Hid, HLM.out]; exact hla
        obtain ⟨F, HF⟩ : ∃ F : Nat → Bool, Hid (F = fun i => (impP a (nthL C i) * X == impP a xs * isum (nthL C i))) := ⟨_, rfl⟩
        go_wp2
        go_loopw [7, 8] (fun r1 i wr => ∃ k : Nat, k ≤ Q ∧ i = .int .i64 k ∧ r1 = .bool (someC F k) ∧ Below w4.heap.size w4 wr) (fun _ i _ => Q - (intOf i).toNat)
        case atStart => exact ⟨0, by omega, rfl, rfl, Below.refl _ _⟩
        case round =>
          obtain ⟨k, hk, rfl, rfl, hBr⟩ := hrel
          obtain ⟨w5, rfl⟩ : ∃ q : World, q = wr := ⟨_, rfl⟩
          replace mm0 := keep hBr mm0
          replace mm1 := keep hBr mm1
          replace him := him.below hBr
          replace hat := hat.below hBr
          replace hat2 := hat2.below hBr
          have hB0k := hB
          have hswk := hB.size
          have hsr := hBr.size
          clear hB
          have hB := hBr
          clear hBr
          by_cases hlt : k < Q
          · have hk0 : (0 : Int) ≤ (k : Int) := by omega
            have hk1 : (k : Int) < (Q : Int) := by omega
            obtain ⟨b1, a1, n1, c1, e1, _, hbb, hc0, hc1, hi1⟩ := hat.at (Below.refl _ _) hlt
            subst e1
            obtain ⟨g1, g2, g3⟩ := HGOOD.out k hlt
            have hgm := (norm_size g2).2.2.2.2.1
            have HS := hid (someC_succ F k)
            have hFk : F k = (impP a (nthL C k) * X == impP a xs * isum (nthL C k)) := by rw [HF.out]
            have hle := HIA.out.1 k hlt
            obtain ⟨D, hD⟩ : ∃ D, nthL C k = D := ⟨_, rfl⟩
            rw [hD] at hi1 g1 g2 g3 hgm hFk hle
            obtain ⟨_, _, _, _, t1, t2, _⟩ := massOk_facts hgm
            have halx := HAX.out
            have hn1 : n1 = nm := by rw [← hi1.len, g3, HLM.out]
            subst hn1
            have HI1 : Hid (∀ w', IntsAt w' a1 n1 D → Calls Try.prog 29 #[.agg #[.int .i64 s, .slice a1 n1 c1], .int .i64 a] w' fun e w'' => e = .returned (.int .i64 (impP a D)) ∧ Below w'.heap.size w' w'') := fun w' h1 => Imp_of hgm (by rw [g3]; exact halx) _ _ _ w' h1
            have HI2 : Hid (∀ w', IntsAt w' am n1 xs → Calls Try.prog 29 #[.agg #[.int .i64 s, .slice am n1 cm], .int .i64 a] w' fun e w'' => e = .returned (.int .i64 (impP a xs)) ∧ Below w'.heap.size w' w'') := fun w' h1 => Imp_of HMO.out halx _ _ _ w' h1
            have HW1 : Hid (∀ w', IntsAt w' a1 n1 D → Calls Try.prog 30 #[.agg #[.int .i64 s, .slice a1 n1 c1]] w' fun e w'' => e = .returned (.int .i64 (isum D)) ∧ Below w'.heap.size w' w'') := fun w' h1 => Whole_of hgm _ _ _ w' h1
            have pb1 := impP_bd hgm a
            have pb2 := impP_bd HMO.out a
            have p1 := prod_bd pb1 ⟨s1, s2⟩
            have p2 := prod_bd pb2 ⟨t1, t2⟩
            clear hgm g1 g2 g3 hD pb1 pb2 halx
            generalize impP a D = A at *
            generalize impP a xs = B at *
            generalize isum D = Y at *
            have hnl : ¬ A * X < B * Y := by omega
            go_wp2
            refine wp_region_ov (by kernel_rfl) (by kernel_rfl) ?_
            repeat (first | go_big_quiet_step ((first | (go_at_call 29; (with_reducible exact ov_call (HI1.out _ (hi1.below (ov_below _ _))))) | (go_at_call 29; (with_reducible exact ov_call (HI2.out _ (him.below (ov_below _ _))))) | (go_at_call 30; (with_reducible exact ov_call (HWX.out _ (him.below (ov_below _ _))))) | (go_at_call 30; (with_reducible exact ov_call (HW1.out _ (hi1.below (ov_below _ _))))))) | quiet_step ((first | (go_at_call 29; (with_reducible exact ov_call (HI1.out _ (hi1.below (ov_below _ _))))) | (go_at_call 29; (with_reducible exact ov_call (HI2.out _ (him.below (ov_below _ _))))) | (go_at_call 30; (with_reducible exact ov_call (HWX.out _ (him.below (ov_below _ _))))) | (go_at_call 30; (with_reducible exact ov_call (HW1.out _ (hi1.below (ov_below _ _))))))))
            refine wpQuiet_nil ?_
            intro _ hw_ov
            obtain ⟨x_ov, hw_ov2⟩ := hw_ov
            subst hw_ov2
            obtain ⟨wz, hw_ov3, hbz⟩ := ov_gen _ x_ov
            rw [hw_ov3]
            clear hw_ov3 x_ov
            obtain ⟨w6, rfl⟩ : ∃ q : World, q = wz := ⟨_, rfl⟩
            have hd := hbz
            replace mm0 := keep hd mm0
            replace mm1 := keep hd mm1
            replace hc0 := keep hd hc0
            replace hc1 := keep hd hc1
            replace him := him.below hd
            replace hat := hat.below hd
            replace hat2 := hat2.below hd
            replace hi1 := hi1.below hd
            replace hB := chain hB hd
            have hs6 := hd.size
            clear hbz hd
            cases hr1 : someC F k
            · rw [hr1] at HS
              cases he : (A * X == B * Y)
              · go_wp2
                refine wp_region_ov (by kernel_rfl) (by kernel_rfl) ?_
                repeat (first | go_big_quiet_step ((first | (go_at_call 29; (with_reducible exact ov_call (HI1.out _ (hi1.below (ov_below _ _))))) | (go_at_call 29; (with_reducible exact ov_call (HI2.out _ (him.below (ov_below _ _))))) | (go_at_call 30; (with_reducible exact ov_call (HWX.out _ (him.below (ov_below _ _))))) | (go_at_call 30; (with_reducible exact ov_call (HW1.out _ (hi1.below (ov_below _ _))))))) | quiet_step ((first | (go_at_call 29; (with_reducible exact ov_call (HI1.out _ (hi1.below (ov_below _ _))))) | (go_at_call 29; (with_reducible exact ov_call (HI2.out _ (him.below (ov_below _ _))))) | (go_at_call 30; (with_reducible exact ov_call (HWX.out _ (him.below (ov_below _ _))))) | (go_at_call 30; (with_reducible exact ov_call (HW1.out _ (hi1.below (ov_below _ _))))))))
                refine wpQuiet_nil ?_
                intro _ hw_ov
                obtain ⟨x_ov, hw_ov2⟩ := hw_ov
                subst hw_ov2
                obtain ⟨wz, hw_ov3, hbz⟩ := ov_gen _ x_ov
                rw [hw_ov3]
                clear hw_ov3 x_ov
                obtain ⟨w7, rfl⟩ : ∃ q : World, q = wz := ⟨_, rfl⟩
                have hd := hbz
                replace mm0 := keep hd mm0
                replace mm1 := keep hd mm1
                replace hc0 := keep hd hc0
                replace hc1 := keep hd hc1
                replace him := him.below hd
                replace hat := hat.below hd
                replace hat2 := hat2.below hd
                replace hi1 := hi1.below hd
                replace hB := chain hB hd
                have hs7 := hd.size
                clear hbz hd
                go_wp2
                go_roundw
                case rel => first | exact ⟨k + 1, by omega, by go_num, by rw [HS.out]; simp [*], hB⟩ | exact ⟨_, ⟨k + 1, by omega, by go_num, by rw [HS.out]; simp [*], hB⟩, rfl⟩ | exact ⟨_, _, ⟨k + 1, by omega, by go_num, by rw [HS.out]; simp [*], hB⟩, rfl, rfl⟩ | exact ⟨_, _, _, ⟨k + 1, by omega, by go_num, by rw [HS.out]; simp [*], hB⟩, rfl, rfl, rfl⟩ | exact ⟨_, _, _, _, ⟨k + 1, by omega, by go_num, by rw [HS.out]; simp [*], hB⟩, rfl, rfl, rfl, rfl⟩ | exact ⟨_, _, _, _, _, ⟨k + 1, by omega, by go_num, by rw [HS.out]; simp [*], hB⟩, rfl, rfl, rfl, rfl, rfl⟩
                case measure => simp [intOf]; omega
              · go_wp2
                refine wp_region_ov (by kernel_rfl) (by kernel_rfl) ?_
                repeat (first | go_big_quiet_step ((first | (go_at_call 29; (with_reducible exact ov_call (HI1.out _ (hi1.below (ov_below _ _))))) | (go_at_call 29; (with_reducible exact ov_call (HI2.out _ (him.below (ov_below _ _))))) | (go_at_call 30; (with_reducible exact ov_call (HWX.out _ (him.below (ov_below _ _))))) | (go_at_call 30; (with_reducible exact ov_call (HW1.out _ (hi1.below (ov_below _ _))))))) | quiet_step ((first | (go_at_call 29; (with_reducible exact ov_call (HI1.out _ (hi1.below (ov_below _ _))))) | (go_at_call 29; (with_reducible exact ov_call (HI2.out _ (him.below (ov_below _ _))))) | (go_at_call 30; (with_reducible exact ov_call (HWX.out _ (him.below (ov_below _ _))))) | (go_at_call 30; (with_reducible exact ov_call (HW1.out _ (hi1.below (ov_below _ _))))))))
                refine wpQuiet_nil ?_
                intro _ hw_ov
                obtain ⟨x_ov, hw_ov2⟩ := hw_ov
                subst hw_ov2
                obtain ⟨wz, hw_ov3, hbz⟩ := ov_gen _ x_ov
                rw [hw_ov3]
                clear hw_ov3 x_ov
                obtain ⟨w7, rfl⟩ : ∃ q : World, q = wz := ⟨_, rfl⟩
                have hd := hbz
                replace mm0 := keep hd mm0
                replace mm1 := keep hd mm1
                replace hc0 := keep hd hc0
                replace hc1 := keep hd hc1
                replace him := him.below hd
                replace hat := hat.below hd
                replace hat2 := hat2.below hd
                replace hi1 := hi1.below hd
                replace hB := chain hB hd
                have hs7 := hd.size
                clear hbz hd
                go_wp2
                go_roundw
                case rel => first | exact ⟨k + 1, by omega, by go_num, by rw [HS.out]; simp [*], hB⟩ | exact ⟨_, ⟨k + 1, by omega, by go_num, by rw [HS.out]; simp [*], hB⟩, rfl⟩ | exact ⟨_, _, ⟨k + 1, by omega, by go_num, by rw [HS.out]; simp [*], hB⟩, rfl, rfl⟩ | exact ⟨_, _, _, ⟨k + 1, by omega, by go_num, by rw [HS.out]; simp [*], hB⟩, rfl, rfl, rfl⟩ | exact ⟨_, _, _, _, ⟨k + 1, by omega, by go_num, by rw [HS.out]; simp [*], hB⟩, rfl, rfl, rfl, rfl⟩ | exact ⟨_, _, _, _, _, ⟨k + 1, by omega, by go_num, by rw [HS.out]; simp [*], hB⟩, rfl, rfl, rfl, rfl, rfl⟩
                case measure => simp [intOf]; omega
            · rw [hr1] at HS
              go_wp2
              refine wp_region_ov (by kernel_rfl) (by kernel_rfl) ?_
              repeat (first | go_big_quiet_step ((first | (go_at_call 29; (with_reducible exact ov_call (HI1.out _ (hi1.below (ov_below _ _))))) | (go_at_call 29; (with_reducible exact ov_call (HI2.out _ (him.below (ov_below _ _))))) | (go_at_call 30; (with_reducible exact ov_call (HWX.out _ (him.below (ov_below _ _))))) | (go_at_call 30; (with_reducible exact ov_call (HW1.out _ (hi1.below (ov_below _ _))))))) | quiet_step ((first | (go_at_call 29; (with_reducible exact ov_call (HI1.out _ (hi1.below (ov_below _ _))))) | (go_at_call 29; (with_reducible exact ov_call (HI2.out _ (him.below (ov_below _ _))))) | (go_at_call 30; (with_reducible exact ov_call (HWX.out _ (him.below (ov_below _ _))))) | (go_at_call 30; (with_reducible exact ov_call (HW1.out _ (hi1.below (ov_below _ _))))))))
              refine wpQuiet_nil ?_
              intro _ hw_ov
              obtain ⟨x_ov, hw_ov2⟩ := hw_ov
              subst hw_ov2
              obtain ⟨wz, hw_ov3, hbz⟩ := ov_gen _ x_ov
              rw [hw_ov3]
              clear hw_ov3 x_ov
              obtain ⟨w7, rfl⟩ : ∃ q : World, q = wz := ⟨_, rfl⟩
              have hd := hbz
              replace mm0 := keep hd mm0
              replace mm1 := keep hd mm1
              replace hc0 := keep hd hc0
              replace hc1 := keep hd hc1
              replace him := him.below hd
              replace hat := hat.below hd
              replace hat2 := hat2.below hd
              replace hi1 := hi1.below hd
              replace hB := chain hB hd
              have hs7 := hd.size
              clear hbz hd
              go_wp2
              go_roundw
              case rel => first | exact ⟨k + 1, by omega, by go_num, by rw [HS.out]; simp [*], hB⟩ | exact ⟨_, ⟨k + 1, by omega, by go_num, by rw [HS.out]; simp [*], hB⟩, rfl⟩ | exact ⟨_, _, ⟨k + 1, by omega, by go_num, by rw [HS.out]; simp [*], hB⟩, rfl, rfl⟩ | exact ⟨_, _, _, ⟨k + 1, by omega, by go_num, by rw [HS.out]; simp [*], hB⟩, rfl, rfl, rfl⟩ | exact ⟨_, _, _, _, ⟨k + 1, by omega, by go_num, by rw [HS.out]; simp [*], hB⟩, rfl, rfl, rfl, rfl⟩ | exact ⟨_, _, _, _, _, ⟨k + 1, by omega, by go_num, by rw [HS.out]; simp [*], hB⟩, rfl, rfl, rfl, rfl, rfl⟩
              case measure => simp [intOf]; omega
          · obtain rfl : k = Q := by omega
            have h1 : someC F k = true := by obtain ⟨i, hi, e⟩ := HIA.out.2; exact someC_of hi (by rw [HF.out]; simp [e])
            rw [h1]
            go_wp2
            go_roundw
            case rel => first | exact ⟨a + 1, by omega, by go_num, hB0k.trans (hB.mono hswk)⟩ | exact ⟨_, ⟨a + 1, by omega, by go_num, hB0k.trans (hB.mono hswk)⟩, rfl⟩ | exact ⟨_, _, ⟨a + 1, by omega, by go_num, hB0k.trans (hB.mono hswk)⟩, rfl, rfl⟩ | exact ⟨_, _, _, ⟨a + 1, by omega, by go_num, hB0k.trans (hB.mono hswk)⟩, rfl, rfl, rfl⟩ | exact ⟨_, _, _, _, ⟨a + 1, by omega, by go_num, hB0k.trans (hB.mono hswk)⟩, rfl, rfl, rfl, rfl⟩ | exact ⟨_, _, _, _, _, ⟨a + 1, by omega, by go_num, hB0k.trans (hB.mono hswk)⟩, rfl, rfl, rfl, rfl, rfl⟩
            case measure => simp [intOf]; omega
      · obtain rfl : a = nm := by omega
        replace hB := hB0a.trans (hB.mono hswa)
        go_wp2
        go_loopw [11] (fun  i wr => ∃ j : Nat, j ≤ Q ∧ i = .int .i64 j ∧ Below w4.heap.size w4 wr) (fun  i _ => Q - (intOf i).toNat)
        case atStart => exact ⟨0, by omega, rfl, Below.refl _ _⟩
        case round =>
          obtain ⟨j, hj, rfl, hBr⟩ := hrel
          obtain ⟨w5, rfl⟩ : ∃ q : World, q = wr := ⟨_, rfl⟩
          replace mm0 := keep hBr mm0
          replace mm1 := keep hBr mm1
          replace him := him.below hBr
          replace hat := hat.below hBr
          replace hat2 := hat2.below hBr
          have hB0i := hB
          have hswi := hB.size
          have hsr := hBr.size
          clear hB
          have hB := hBr
          clear hBr
          by_cases hli : j < Q
          · have hk0 : (0 : Int) ≤ (j : Int) := by omega
            have hk1 : (j : Int) < (Q : Int) := by omega
            obtain ⟨b1, a1, n1, c1, e1, _, hbb, hc0, hc1, hi1⟩ := hat.at (Below.refl _ _) hli
            subst e1
            obtain ⟨b2, a2, n2, c2, e1, _, hbb2, hd0, hd1, hi2⟩ := hat2.at (Below.refl _ _) hli
            subst e1
            obtain ⟨g1, g2, g3⟩ := HGOOD.out j hli
            have HAL : Hid (∀ a, a < xs.length → impP a xs * isum (nthL C j) ≤ impP a (nthL C j) * isum xs) := by rw [Hid, hXe.out]; exact fun a ha => (HIMP.out a ha).1 j hli
            have HAI : Hid (∀ k, k < j → nthL C j ≠ nthL C k) := fun k hk e => HAP.out k j hk hli e.symm
            obtain ⟨D, hD⟩ : ∃ D, nthL C j = D := ⟨_, rfl⟩
            rw [hD] at hi1 hi2 g1 g2 g3 HAL HAI
            have HE1 : Hid (∀ w', IntsAt w' a1 n1 D → IntsAt w' a2 n2 D → Calls Try.prog 31 #[.agg #[.int .i64 s, .slice a1 n1 c1], .agg #[.int .i64 s, .slice a2 n2 c2]] w' fun e w'' => e = .returned (.bool true) ∧ Below w'.heap.size w' w'') := fun w' h1 h2 => weEqual_eq _ _ _ _ _ _ _ _ _ _ w' h1 h2 rfl rfl
            have HE2 : Hid (∀ w', IntsAt w' a1 n1 D → Calls Try.prog 32 #[.agg #[.int .i64 s, .slice a1 n1 c1]] w' fun e w'' => e = .returned (.bool true) ∧ Below w'.heap.size w' w'') := fun w' h1 => by rw [← g1]; exact IsChance_any s _ _ _ D w' h1
            have HE3 : Hid (∀ w', IntsAt w' am a xs → IntsAt w' a1 n1 D → Calls Try.prog 33 #[.agg #[.int .i64 s, .slice am a cm], .agg #[.int .i64 s, .slice a1 n1 c1]] w' fun e w'' => e = .returned (.bool true) ∧ Below w'.heap.size w' w'') := fun w' h1 h2 => AllowsChance_true s _ _ _ _ _ _ xs D w' h1 h2 HNO.out g1 HAL.out
            have G1 := hid g1
            clear g1 g2 g3 HAL hD
            go_wp2
            refine wp_region_ov (by kernel_rfl) (by kernel_rfl) ?_
            repeat (first | go_big_quiet_step ((first | (go_at_call 31; (with_reducible exact ov_call (HE1.out _ (hi1.below (ov_below _ _)) (hi2.below (ov_below _ _))))) | (go_at_call 32; (with_reducible exact ov_call (HE2.out _ (hi1.below (ov_below _ _))))) | (go_at_call 33; (with_reducible exact ov_call (HE3.out _ (him.below (ov_below _ _)) (hi1.below (ov_below _ _))))))) | quiet_step ((first | (go_at_call 31; (with_reducible exact ov_call (HE1.out _ (hi1.below (ov_below _ _)) (hi2.below (ov_below _ _))))) | (go_at_call 32; (with_reducible exact ov_call (HE2.out _ (hi1.below (ov_below _ _))))) | (go_at_call 33; (with_reducible exact ov_call (HE3.out _ (him.below (ov_below _ _)) (hi1.below (ov_below _ _))))))))
            refine wpQuiet_nil ?_
            intro _ hw_ov
            obtain ⟨x_ov, hw_ov2⟩ := hw_ov
            subst hw_ov2
            obtain ⟨wz, hw_ov3, hbz⟩ := ov_gen _ x_ov
            rw [hw_ov3]
            clear hw_ov3 x_ov
            obtain ⟨w6, rfl⟩ : ∃ q : World, q = wz := ⟨_, rfl⟩
            have hd := hbz
            replace mm0 := keep hd mm0
            replace mm1 := keep hd mm1
            replace hc0 := keep hd hc0
            replace hc1 := keep hd hc1
            replace hd0 := keep hd hd0
            replace hd1 := keep hd hd1
            replace him := him.below hd
            replace hat := hat.below hd
            replace hat2 := hat2.below hd
            replace hi1 := hi1.below hd
            replace hi2 := hi2.below hd
            replace hB := chain hB hd
            have hs6 := hd.size
            clear hbz hd
            clear HE1 HE2 HE3
            go_wp2
            go_loopw [12] (fun  i wr => ∃ k : Nat, k ≤ j ∧ i = .int .i64 k ∧ Below w6.heap.size w6 wr) (fun  i _ => j - (intOf i).toNat)
            case atStart => exact ⟨0, by omega, rfl, Below.refl _ _⟩
            case round =>
              obtain ⟨k, hk, rfl, hBr⟩ := hrel
              obtain ⟨w7, rfl⟩ : ∃ q : World, q = wr := ⟨_, rfl⟩
              replace mm0 := keep hBr mm0
              replace mm1 := keep hBr mm1
              replace hc0 := keep hBr hc0
              replace hc1 := keep hBr hc1
              replace hd0 := keep hBr hd0
              replace hd1 := keep hBr hd1
              replace him := him.below hBr
              replace hat := hat.below hBr
              replace hat2 := hat2.below hBr
              replace hi1 := hi1.below hBr
              replace hi2 := hi2.below hBr
              have hB0k := hB
              have hswk := hB.size
              have hsr := hBr.size
              clear hB
              have hB := hBr
              clear hBr
              by_cases hlt : k < j
              · have hj0 : (0 : Int) ≤ (k : Int) := by omega
                have hj1 : (k : Int) < (Q : Int) := by omega
                have hj2 : (k : Int) < (j : Int) := by omega
                obtain ⟨b3, a3, n3, c3, e3, _, hbb3, hf0, hf1, hi3⟩ := hat.at (Below.refl _ _) (show k < Q by omega)
                injection e3 with e3; injection e3 with e3; subst e3
                have hne := HAI.out k hlt
                obtain ⟨E, hE⟩ : ∃ E, nthL C k = E := ⟨_, rfl⟩
                rw [hE] at hi3 hne
                have HE4 : Hid (∀ w', IntsAt w' a1 n1 D → IntsAt w' a3 n3 E → Calls Try.prog 31 #[.agg #[.int .i64 s, .slice a1 n1 c1], .agg #[.int .i64 s, .slice a3 n3 c3]] w' fun e w'' => e = .returned (.bool false) ∧ Below w'.heap.size w' w'') := fun w' h1 h2 => weEqual_not hne _ _ _ _ _ _ w' h1 h2
                clear hne hE
                go_wp2
                refine wp_region_ov (by kernel_rfl) (by kernel_rfl) ?_
                repeat (first | go_big_quiet_step ((go_at_call 31; (with_reducible exact ov_call (HE4.out _ (hi1.below (ov_below _ _)) (hi3.below (ov_below _ _)))))) | quiet_step ((go_at_call 31; (with_reducible exact ov_call (HE4.out _ (hi1.below (ov_below _ _)) (hi3.below (ov_below _ _)))))))
                refine wpQuiet_nil ?_
                intro _ hw_ov
                obtain ⟨x_ov, hw_ov2⟩ := hw_ov
                subst hw_ov2
                obtain ⟨wz, hw_ov3, hbz⟩ := ov_gen _ x_ov
                rw [hw_ov3]
                clear hw_ov3 x_ov
                have hBz := chain hB hbz
                go_wp2
                go_roundw
                case rel => first | exact ⟨k + 1, by omega, by go_num, hBz⟩ | exact ⟨_, ⟨k + 1, by omega, by go_num, hBz⟩, rfl⟩ | exact ⟨_, _, ⟨k + 1, by omega, by go_num, hBz⟩, rfl, rfl⟩ | exact ⟨_, _, _, ⟨k + 1, by omega, by go_num, hBz⟩, rfl, rfl, rfl⟩ | exact ⟨_, _, _, _, ⟨k + 1, by omega, by go_num, hBz⟩, rfl, rfl, rfl, rfl⟩ | exact ⟨_, _, _, _, _, ⟨k + 1, by omega, by go_num, hBz⟩, rfl, rfl, rfl, rfl, rfl⟩
                case measure => simp [intOf]; omega
              · obtain rfl : k = j := by omega
                go_wp2
                go_roundw
                case rel => first | exact ⟨k + 1, by omega, by go_num, hB0k.trans (hB.mono hswk)⟩ | exact ⟨_, ⟨k + 1, by omega, by go_num, hB0k.trans (hB.mono hswk)⟩, rfl⟩ | exact ⟨_, _, ⟨k + 1, by omega, by go_num, hB0k.trans (hB.mono hswk)⟩, rfl, rfl⟩ | exact ⟨_, _, _, ⟨k + 1, by omega, by go_num, hB0k.trans (hB.mono hswk)⟩, rfl, rfl, rfl⟩ | exact ⟨_, _, _, _, ⟨k + 1, by omega, by go_num, hB0k.trans (hB.mono hswk)⟩, rfl, rfl, rfl, rfl⟩ | exact ⟨_, _, _, _, _, ⟨k + 1, by omega, by go_num, hB0k.trans (hB.mono hswk)⟩, rfl, rfl, rfl, rfl, rfl⟩
                case measure => simp [intOf]; omega
          · obtain rfl : j = Q := by omega
            replace hB := hB0i.trans (hB.mono hswi)
            by_cases h1 : j = 1
            · subst h1
              have hch : chanceOk s xs = true := by rw [HONE.out]; rfl
              go_wp2_with fail
              refine (IsChance_any s _ _ _ xs _ him).mono ?_; rw [hch]; rintro e w6 ⟨rfl, hb⟩
              have hd := hb
              replace mm0 := keep hd mm0
              replace mm1 := keep hd mm1
              replace him := him.below hd
              replace hat := hat.below hd
              replace hat2 := hat2.below hd
              replace hB := chain hB hd
              have hs6 := hd.size
              clear hb hd
              go_wp2
              go_ret
              exact ⟨rfl, hB⟩
            · have hch : chanceOk s xs = false := by rw [HONE.out]; simpa using h1
              have h2 : ((j : Int) == 1) = false := by rw [beq_eq_false_iff_ne]; omega
              go_wp2_with fail
              refine (IsChance_any s _ _ _ xs _ him).mono ?_; rw [hch]; rintro e w6 ⟨rfl, hb⟩
              have hd := hb
              replace mm0 := keep hd mm0
              replace mm1 := keep hd mm1
              replace him := him.below hd
              replace hat := hat.below hd
              replace hat2 := hat2.below hd
              replace hB := chain hB hd
              have hs6 := hd.size
              clear hb hd
              go_wp2
              go_ret
              exact ⟨rfl, hB⟩
end Go.Proofs.Ytchjnjmlambpjaa
