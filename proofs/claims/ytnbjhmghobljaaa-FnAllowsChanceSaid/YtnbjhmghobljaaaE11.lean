/- PossiblePart of the program. AllowsChance of the program, in general. l4Implied of the reference. AllowsChance of the reference, in general. -/
import Derived.Test.YtnbjhmghobljaaaN12
import Derived.Test.YtnbjhmghobljaaaE7
import Derived.Test.YtnbjhmghobljaaaW22
set_option linter.unusedSimpArgs false
set_option linter.unusedVariables false
namespace Go.Proofs.Ytnbjhmghobljaaa
open Go.RowKit
theorem and_meet : ∀ a b : Fin 16, (bits BinOp.and IntKind.i64 ((b.val : Nat) : Int) ((a.val : Nat) : Int) == 0) = decide (b.val &&& a.val = 0) := by decide +kernel
/-- do two sets meet? -/
def meetB (a : Nat) (b : Nat) : Bool := !decide (b &&& a = 0)
theorem posClos_any (a b B : Nat) (w : World) (ha : a < 16) (hb : b < 16) (hB : w.cell? ⟨B, 0, none⟩ = some (.int .i64 a)) :
    Calls Try.prog 102 #[.int .i64 b, .pointer (some ⟨B, 0, none⟩)] w fun e w' => e = .returned (.bool (meetB a b)) ∧ w = w' := by
  have h := and_meet ⟨a, ha⟩ ⟨b, hb⟩
  simp only at h
  unfold meetB
  rw [← h]
  clear h
  go_enter Try.func102, Try.ntmps102
  go_wp2
  go_ret
  exact ⟨rfl, rfl⟩
theorem posClos_call (vs : Array Value) (w' : World) : Sem.run Try.prog (callFunc 102 vs) w' = .ok (.enter 102 vs) w' := by
  have h1 : (Try.f102.name == "runtime.NumGoroutine") = false := by kernel_rfl
  have h2 : Try.f102.body.isNone = false := by kernel_rfl
  have h1' : ¬ Try.f102.name = "runtime.NumGoroutine" := by simpa using h1
  have h2' : ¬ Try.f102.body = none := by intro e; rw [e] at h2; simp at h2
  simp only [callFunc, Sem.run_bind, run_program, Result.andThen_ok, Try.func102, beq_iff_eq, Option.isNone_iff_eq_none, if_neg h1', if_neg h2', Sem.run_pure]
theorem possiblePart_any (s : Int) (a : Nat) (ao : Option Addr) (n c : Nat) (xs : List Int) (w : World) (hx : IntsAt w ao n xs) (ha : a < 16) (hn : n ≤ 16) (hxb : ∀ k, k < n → 0 ≤ nth xs k ∧ nth xs k ≤ 1000000) :
    Calls Try.prog 61 #[.agg #[.int .i64 s, .slice ao n c], .int .i64 a] w fun e w' => e = .returned (.int .i64 (dot (predI (meetB a)) xs n)) ∧ Below w.heap.size w w' := by
  have HXB := hid hxb
  clear hxb
  go_enter Try.func61, Try.ntmps61
  go_wp2_with fail
  refine (sumOver_any s ao n c xs 102 _ (meetB a) _ (hx.below (by (repeat (first | exact Below.refl _ _ | assumption | refine Below.alloc ?_ (by first | omega | (simp <;> omega)) _ | refine Below.setCell ?_ (by first | omega | (simp <;> omega)) _ | refine Below.drew ?_ | refine below_drewN ?_)))) posClos_call ?_ hn HXB.out).mono ?_
  · intro b w' hb hlt
    exact posClos_any a b (w.heap.size + 1) w' ha (by omega) (keep hb (a := ⟨w.heap.size + 1, 0, none⟩) (v := .int .i64 a) (by simp))
  rintro e w1 ⟨rfl, hb⟩
  go_wp2
  go_ret
  exact ⟨rfl, Below.trans (by (repeat (first | exact Below.refl _ _ | assumption | refine Below.alloc ?_ (by first | omega | (simp <;> omega)) _ | refine Below.setCell ?_ (by first | omega | (simp <;> omega)) _ | refine Below.drew ?_ | refine below_drewN ?_))) (hb.mono (by simp <;> omega))⟩
theorem PossiblePart_any (s : Int) (a : Nat) (ao : Option Addr) (n c : Nat) (xs : List Int) (w : World) (hx : IntsAt w ao n xs) (hm : massOk s xs = true) (ha : a < nsets s) :
    Calls Try.prog 21 #[.agg #[.int .i64 s, .slice ao n c], .int .i64 a] w fun e w' => e = .returned (.int .i64 (dot (predI (meetB a)) xs n)) ∧ Below w.heap.size w w' := by
  obtain ⟨hs, hl, h16, hb, _⟩ := massOk_facts hm
  have hxl := hx.len
  have hin : inB 0 ((nsets s : Int) - 1) a = true := inB_iff.2 (by omega)
  have HXB : Hid (∀ k, k < n → 0 ≤ nth xs k ∧ nth xs k ≤ 1000000) := fun k hk => hb k (by omega)
  have hn : n ≤ 16 := by omega
  have ha16 : a < 16 := by omega
  clear hb hl h16
  go_enter Try.func21, Try.ntmps21
  go_wp2_with fail
  refine (isMass_any _ _ _ _ xs _ (hx.below (by (repeat (first | exact Below.refl _ _ | assumption | refine Below.alloc ?_ (by first | omega | (simp <;> omega)) _ | refine Below.setCell ?_ (by first | omega | (simp <;> omega)) _ | refine Below.drew ?_ | refine below_drewN ?_))))).mono ?_; rw [hm]; rintro e w1 ⟨rfl, hb⟩
  obtain ⟨h10, h11, hB1⟩ := box2 hb
  clear hb
  go_wp2_with fail
  refine (isSetOf_any s a _ hs).mono ?_; rw [hin]; rintro e w' ⟨rfl, rfl⟩
  go_wp2_with fail
  refine (possiblePart_any s a _ _ _ xs _ (hx.below hB1) ha16 hn HXB.out).mono ?_; rintro e w2 ⟨rfl, hb⟩
  go_wp2
  go_ret
  exact ⟨rfl, chain hB1 hb⟩
def allowsM (s : Int) (xs : List Int) (u : Int) (ys : List Int) : Bool := oneQ s xs u ys && (normalOk s xs && (chanceOk u ys && allN (fun a => decide (impP a xs * isum ys ≤ impP a ys * isum xs)) xs.length))
set_option maxHeartbeats 4000000 in
theorem AllowsChance_in (s : Int) (ao bo : Option Addr) (n c m d : Nat) (xs ys : List Int) (w : World) (hx : IntsAt w ao n xs) (hy : IntsAt w bo m ys) (hn : normalOk s xs = true) (hc : chanceOk s ys = true) :
    Calls Try.prog 15 #[.agg #[.int .i64 s, .slice ao n c], .agg #[.int .i64 s, .slice bo m d]] w fun e w' => e = .returned (.bool (allowsM s xs s ys)) ∧ Below w.heap.size w w' := by
  have hm : massOk s xs = true := (norm_size hn).2.2.2.2.1
  have hmy : massOk s ys = true := (chance_normal hc).1
  obtain ⟨hk, -, h16, hb, s1, s2, -⟩ := massOk_facts hm
  obtain ⟨-, -, h16y, hby, t1, t2, -⟩ := massOk_facts hmy
  obtain rfl := hx.len
  obtain rfl := hy.len
  have hq : oneQ s xs s ys = true := by unfold oneQ; rw [hm, hmy]; simp
  have HB := hid hb; have HBy := hid hby; clear hb hby
  have HN := hid hn; have HC := hid hc; have HM := hid hm; have HMy := hid hmy
  clear hn hc hm hmy
  obtain ⟨X, hX⟩ : ∃ X, isum xs = X := ⟨_, rfl⟩
  obtain ⟨Y, hY⟩ : ∃ Y, isum ys = Y := ⟨_, rfl⟩
  rw [hX] at s1 s2; rw [hY] at t1 t2
  have HAL : Hid (allowsM s xs s ys = allN (fun a => decide (impP a xs * Y ≤ impP a ys * X)) xs.length) := by rw [Hid, ← hX, ← hY]; unfold allowsM; rw [hq, HN.out, HC.out]; simp
  have hB0 : Below w.heap.size w ((w.alloc (.cells #[.int .i64 s, .slice ao xs.length c] 25)).alloc (.cells #[.int .i64 s, .slice bo ys.length d] 25)) := by (repeat (first | exact Below.refl _ _ | assumption | refine Below.alloc ?_ (by first | omega | (simp <;> omega)) _ | refine Below.setCell ?_ (by first | omega | (simp <;> omega)) _ | refine Below.drew ?_ | refine below_drewN ?_))
  have HCX : Hid (∀ w', IntsAt w' ao xs.length xs → Calls Try.prog 44 #[.agg #[.int .i64 s, .slice ao xs.length c]] w' fun e w'' => e = .returned (.int .i64 X) ∧ Below w'.heap.size w' w'') := fun w' h1 => by rw [← hX]; exact wholeOf_any _ _ _ _ xs w' h1 (fun k hk => by have := HB.out k hk; omega) h16
  have HCY : Hid (∀ w', IntsAt w' bo ys.length ys → Calls Try.prog 44 #[.agg #[.int .i64 s, .slice bo ys.length d]] w' fun e w'' => e = .returned (.int .i64 Y) ∧ Below w'.heap.size w' w'') := fun w' h1 => by rw [← hY]; exact wholeOf_any _ _ _ _ ys w' h1 (fun k hk => by have := HBy.out k hk; omega) h16y
  clear hX hY
  have hx1 := hx.below hB0
  have hy1 := hy.below hB0
  go_enter Try.func15, Try.ntmps15
  go_wp2_with fail
  refine (ofOneQuestion_any _ _ _ _ _ _ _ _ xs ys _ hx1 hy1).mono ?_; rw [hq]; rintro e w1 ⟨rfl, hb1⟩
  have p0 := keep hb1 (a := ⟨w.heap.size, 0, none⟩) (v := .int .i64 s) (by simp)
  have p1 := keep hb1 (a := ⟨w.heap.size, 1, none⟩) (v := .slice ao xs.length c) (by simp)
  have q0 := keep hb1 (a := ⟨w.heap.size + 1, 0, none⟩) (v := .int .i64 s) (by simp)
  have q1 := keep hb1 (a := ⟨w.heap.size + 1, 1, none⟩) (v := .slice bo ys.length d) (by simp)
  have hx2 := hx1.below hb1
  have hy2 := hy1.below hb1
  have hB1 : Below w.heap.size w w1 := Below.trans hB0 (hb1.mono (by simp <;> omega))
  clear hb1 hB0 hq
  go_wp2_with fail
  refine (isNormal_any _ _ _ _ xs _ hx2).mono ?_; rw [HN.out]; rintro e w2 ⟨rfl, hb2⟩
  replace p0 := keep hb2 p0
  replace p1 := keep hb2 p1
  replace q0 := keep hb2 q0
  replace q1 := keep hb2 q1
  have hx3 := hx2.below hb2
  have hy3 := hy2.below hb2
  have hB2 := chain hB1 hb2
  clear hb2
  go_wp2_with fail
  refine (isChance_any _ _ _ _ ys _ hy3).mono ?_; rw [HC.out]; rintro e w3 ⟨rfl, hb3⟩
  replace p0 := keep hb3 p0
  replace p1 := keep hb3 p1
  replace q0 := keep hb3 q0
  replace q1 := keep hb3 q1
  have hx4 := hx3.below hb3
  have hy4 := hy3.below hb3
  have hB3 := chain hB2 hb3
  clear hb3
  obtain ⟨N, hN⟩ : ∃ N, xs.length = N := ⟨_, rfl⟩
  rw [hN] at hx4 h16 HB HCX HAL p1 ⊢
  have HNN := hid hN
  clear hN hx1 hx2 hx3 hx
  go_wp2
  go_loopw [5, 23] (fun _ i wr => ∃ k : Nat, k ≤ N ∧ i = .int .i64 k ∧ Below w3.heap.size w3 wr ∧ Hid (∀ j, j < k → impP j xs * Y ≤ impP j ys * X)) (fun _ i _ => N - (intOf i).toNat)
  case atStart => exact ⟨0, by omega, rfl, Below.refl _ _, fun j hj => by omega⟩
  case round =>
    obtain ⟨k, hk, rfl, hBr, HPR⟩ := hrel
    by_cases hlt : k < N
    · have hx5 := hx4.below hBr
      replace p0 := keep hBr p0
      replace p1 := keep hBr p1
      replace q0 := keep hBr q0
      replace q1 := keep hBr q1
      have hy5 := hy4.below hBr
      have hbx := impP_bd HM.out k
      have hby := impP_bd HMy.out k
      have HIX : Hid (∀ w', IntsAt w' ao N xs → Calls Try.prog 43 #[.agg #[.int .i64 s, .slice ao N c], .int .i64 k] w' fun e w'' => e = .returned (.int .i64 (impP k xs)) ∧ Below w'.heap.size w' w'') := fun w' h1 => by
        have := impliedPart_any s k ao N c xs w' h1 (by omega) h16 HB.out
        unfold impP; rw [HNN.out]; exact this
      have HIY : Hid (∀ w', IntsAt w' bo ys.length ys → Calls Try.prog 43 #[.agg #[.int .i64 s, .slice bo ys.length d], .int .i64 k] w' fun e w'' => e = .returned (.int .i64 (impP k ys)) ∧ Below w'.heap.size w' w'') := fun w' h1 => impliedPart_any s k bo _ d ys w' h1 (by omega) h16y HBy.out
      have g1 := prod_bd hbx ⟨t1, t2⟩
      have g2 := prod_bd hby ⟨s1, s2⟩
      obtain ⟨A, hA⟩ : ∃ q, impP k xs = q := ⟨_, rfl⟩
      obtain ⟨B, hB⟩ : ∃ q, impP k ys = q := ⟨_, rfl⟩
      have HA := hid hA
      have HBB := hid hB
      rw [hA] at HIX g1
      rw [hB] at HIY g2
      clear hA hB hbx hby
      by_cases hnl : B * X < A * Y
      · have HAF : Hid (allowsM s xs s ys = false) := by
          show _ = _
          rw [HAL.out]; exact allN_false hlt (by rw [HA.out, HBB.out]; exact decide_eq_false (by omega))
        go_wp2
        refine wp_region_ov (by kernel_rfl) (by kernel_rfl) ?_
        repeat (first | go_big_quiet_step ((first | (go_at_call 43; (with_reducible exact ov_call (HIX.out _ (hx5.below (ov_below _ _))))) | (go_at_call 43; (with_reducible exact ov_call (HIY.out _ (hy5.below (ov_below _ _))))) | (go_at_call 44; (with_reducible exact ov_call (HCX.out _ (hx5.below (ov_below _ _))))) | (go_at_call 44; (with_reducible exact ov_call (HCY.out _ (hy5.below (ov_below _ _))))))) | quiet_step ((first | (go_at_call 43; (with_reducible exact ov_call (HIX.out _ (hx5.below (ov_below _ _))))) | (go_at_call 43; (with_reducible exact ov_call (HIY.out _ (hy5.below (ov_below _ _))))) | (go_at_call 44; (with_reducible exact ov_call (HCX.out _ (hx5.below (ov_below _ _))))) | (go_at_call 44; (with_reducible exact ov_call (HCY.out _ (hy5.below (ov_below _ _))))))))
        refine wpQuiet_nil ?_
        intro _ hw_ov
        obtain ⟨x_ov, hw_ov2⟩ := hw_ov
        subst hw_ov2
        obtain ⟨w5, hw_ov3, hb5⟩ := ov_gen _ x_ov
        rw [hw_ov3]
        clear hw_ov3 x_ov
        have HB5 := hid (chain hBr hb5)
        clear hb5
        go_wp2
        go_ret
        exact ⟨ret_bool HAF.out.symm, chain hB3 HB5.out⟩
      · have HPR2 : Hid (∀ j, j < k + 1 → impP j xs * Y ≤ impP j ys * X) := fun j hj => by
          by_cases e : j = k
          · rw [e, HA.out, HBB.out]; omega
          · exact HPR.out j (by omega)
        go_wp2
        refine wp_region_ov (by kernel_rfl) (by kernel_rfl) ?_
        repeat (first | go_big_quiet_step ((first | (go_at_call 43; (with_reducible exact ov_call (HIX.out _ (hx5.below (ov_below _ _))))) | (go_at_call 43; (with_reducible exact ov_call (HIY.out _ (hy5.below (ov_below _ _))))) | (go_at_call 44; (with_reducible exact ov_call (HCX.out _ (hx5.below (ov_below _ _))))) | (go_at_call 44; (with_reducible exact ov_call (HCY.out _ (hy5.below (ov_below _ _))))))) | quiet_step ((first | (go_at_call 43; (with_reducible exact ov_call (HIX.out _ (hx5.below (ov_below _ _))))) | (go_at_call 43; (with_reducible exact ov_call (HIY.out _ (hy5.below (ov_below _ _))))) | (go_at_call 44; (with_reducible exact ov_call (HCX.out _ (hx5.below (ov_below _ _))))) | (go_at_call 44; (with_reducible exact ov_call (HCY.out _ (hy5.below (ov_below _ _))))))))
        refine wpQuiet_nil ?_
        intro _ hw_ov
        obtain ⟨x_ov, hw_ov2⟩ := hw_ov
        subst hw_ov2
        obtain ⟨w5, hw_ov3, hb5⟩ := ov_gen _ x_ov
        rw [hw_ov3]
        clear hw_ov3 x_ov
        have HB5 := hid (chain hBr hb5)
        clear hb5
        go_wp2
        go_roundw
        case rel => first | exact ⟨k + 1, by omega, by go_num, HB5.out, HPR2⟩ | exact ⟨_, ⟨k + 1, by omega, by go_num, HB5.out, HPR2⟩, rfl⟩ | exact ⟨_, _, ⟨k + 1, by omega, by go_num, HB5.out, HPR2⟩, rfl, rfl⟩ | exact ⟨_, _, _, ⟨k + 1, by omega, by go_num, HB5.out, HPR2⟩, rfl, rfl, rfl⟩ | exact ⟨_, _, _, _, ⟨k + 1, by omega, by go_num, HB5.out, HPR2⟩, rfl, rfl, rfl, rfl⟩ | exact ⟨_, _, _, _, _, ⟨k + 1, by omega, by go_num, HB5.out, HPR2⟩, rfl, rfl, rfl, rfl, rfl⟩
        case measure => simp [intOf]; omega
    · have hkn : k = N := by omega
      subst hkn
      have HAT : Hid (allowsM s xs s ys = true) := by
        show _ = _
        rw [HAL.out, allN_iff]; exact fun j hj => decide_eq_true (HPR.out j hj)
      clear HPR
      go_wp2
      go_ret
      exact ⟨ret_bool HAT.out.symm, chain hB3 hBr⟩
set_option maxHeartbeats 1000000 in
theorem AllowsChance_any (s u : Int) (ao bo : Option Addr) (n c m d : Nat) (xs ys : List Int) (w : World) (hx : IntsAt w ao n xs) (hy : IntsAt w bo m ys) :
    Calls Try.prog 15 #[.agg #[.int .i64 s, .slice ao n c], .agg #[.int .i64 u, .slice bo m d]] w fun e w' => e = .returned (.bool (allowsM s xs u ys)) ∧ Below w.heap.size w w' := by
  have hB0 : Below w.heap.size w ((w.alloc (.cells #[.int .i64 s, .slice ao n c] 25)).alloc (.cells #[.int .i64 u, .slice bo m d] 25)) := by (repeat (first | exact Below.refl _ _ | assumption | refine Below.alloc ?_ (by first | omega | (simp <;> omega)) _ | refine Below.setCell ?_ (by first | omega | (simp <;> omega)) _ | refine Below.drew ?_ | refine below_drewN ?_))
  cases ho : oneQ s xs u ys with
  | false =>
    have HF : Hid (allowsM s xs u ys = false) := by show _ = _; unfold allowsM; rw [ho]; rfl
    have HO := hid ho
    clear ho
    go_enter Try.func15, Try.ntmps15
    go_wp2_with fail
    refine (ofOneQuestion_any _ _ _ _ _ _ _ _ xs ys _ (hx.below hB0) (hy.below hB0)).mono ?_; rw [HO.out]; rintro e w1 ⟨rfl, hb1⟩
    go_wp2
    go_ret
    exact ⟨ret_bool HF.out.symm, Below.trans hB0 (hb1.mono (by simp <;> omega))⟩
  | true =>
    obtain ⟨k1, k2, k3⟩ : massOk s xs = true ∧ massOk u ys = true ∧ s = u := by
      unfold oneQ at ho; simpa using ho
    subst k3
    have HO := hid ho
    cases hn : normalOk s xs with
    | false =>
      have HF : Hid (allowsM s xs s ys = false) := by show _ = _; unfold allowsM; rw [hn]; simp
      have HN := hid hn
      clear ho hn k1 k2
      go_enter Try.func15, Try.ntmps15
      go_wp2_with fail
      refine (ofOneQuestion_any _ _ _ _ _ _ _ _ xs ys _ (hx.below hB0) (hy.below hB0)).mono ?_; rw [HO.out]; rintro e w1 ⟨rfl, hb1⟩
      have p0 := keep hb1 (a := ⟨w.heap.size, 0, none⟩) (v := .int .i64 s) (by simp)
      have p1 := keep hb1 (a := ⟨w.heap.size, 1, none⟩) (v := .slice ao n c) (by simp)
      have hB1 : Below w.heap.size w w1 := Below.trans hB0 (hb1.mono (by simp <;> omega))
      clear hb1
      go_wp2_with fail
      refine (isNormal_any _ _ _ _ xs _ (hx.below hB1)).mono ?_; rw [HN.out]; rintro e w2 ⟨rfl, hb2⟩
      go_wp2
      go_ret
      exact ⟨ret_bool HF.out.symm, chain hB1 hb2⟩
    | true =>
      cases hc : chanceOk s ys with
      | true => exact AllowsChance_in s ao bo n c m d xs ys w hx hy hn hc
      | false =>
        have HF : Hid (allowsM s xs s ys = false) := by show _ = _; unfold allowsM; rw [hc]; simp
        have HN := hid hn
        have HC := hid hc
        clear ho hn hc k1 k2
        go_enter Try.func15, Try.ntmps15
        go_wp2_with fail
        refine (ofOneQuestion_any _ _ _ _ _ _ _ _ xs ys _ (hx.below hB0) (hy.below hB0)).mono ?_; rw [HO.out]; rintro e w1 ⟨rfl, hb1⟩
        have p0 := keep hb1 (a := ⟨w.heap.size, 0, none⟩) (v := .int .i64 s) (by simp)
        have p1 := keep hb1 (a := ⟨w.heap.size, 1, none⟩) (v := .slice ao n c) (by simp)
        have q0 := keep hb1 (a := ⟨w.heap.size + 1, 0, none⟩) (v := .int .i64 s) (by simp)
        have q1 := keep hb1 (a := ⟨w.heap.size + 1, 1, none⟩) (v := .slice bo m d) (by simp)
        have hB1 : Below w.heap.size w w1 := Below.trans hB0 (hb1.mono (by simp <;> omega))
        clear hb1
        go_wp2_with fail
        refine (isNormal_any _ _ _ _ xs _ (hx.below hB1)).mono ?_; rw [HN.out]; rintro e w2 ⟨rfl, hb2⟩
        replace p0 := keep hb2 p0
        replace p1 := keep hb2 p1
        replace q0 := keep hb2 q0
        replace q1 := keep hb2 q1
        have hB2 := chain hB1 hb2
        clear hb2
        go_wp2_with fail
        refine (isChance_any _ _ _ _ ys _ (hy.below hB2)).mono ?_; rw [HC.out]; rintro e w3 ⟨rfl, hb3⟩
        go_wp2
        go_ret
        exact ⟨ret_bool HF.out.symm, chain hB2 hb3⟩
set_option maxHeartbeats 1000000 in
theorem l4Implied_any (s : Int) (a : Nat) (ao : Option Addr) (n c : Nat) (xs : List Int) (w : World) (hx : IntsAt w ao n xs) (ha : a < 16) (hn : n ≤ 16) (hxb : ∀ k, k < n → 0 ≤ nth xs k ∧ nth xs k ≤ 1000000) :
    Calls Try.prog 56 #[.agg #[.int .i64 s, .slice ao n c], .int .i64 a] w fun e w' => e = .returned (.int .i64 (dot (predI (subB a)) xs n)) ∧ Below w.heap.size w w' := by
  have HXB := hid hxb
  have HBD := hid (predI_bd (subB a) xs n hxb)
  clear hxb
  have hBa := below_alloc w (.cells #[.int .i64 s, .slice ao n c] 25)
  go_enter Try.func56, Try.ntmps56
  go_wp2
  go_loop [5, 6] (fun t i => ∃ k : Nat, k ≤ n ∧ i = .int .i64 k ∧ t = .int .i64 (dot (predI (subB a)) xs k)) (fun _ i => n - (intOf i).toNat)
  case atStart => exact ⟨0, by omega, rfl, rfl⟩
  case round =>
    obtain ⟨k, hk, rfl, rfl⟩ := hrel
    by_cases hlt : k < n
    · obtain ⟨b, off, rfl, hbs, hbs', hck⟩ := hx.at hBa hlt
      have hp := HXB.out k hlt
      have hs := HBD.out k hk
      have hk16 : (k : Int) ≤ 16 := by omega
      have h := andNot_sub ⟨a, ha⟩ ⟨k, by omega⟩
      simp only at h
      have HN : Hid (dot (predI (subB a)) xs (k + 1) = dot (predI (subB a)) xs k + (if subB a k then 1 else 0) * nth xs k) := rfl
      cases hpk : subB a k
      · have h2 : (bits BinOp.andNot IntKind.i64 (k : Int) (a : Int) == 0) = false := by rw [h]; exact hpk
        clear h
        go_wp2
        go_round
        case rel => first | exact ⟨k + 1, by omega, by go_num, by rw [HN.out, hpk]; simp⟩ | exact ⟨_, ⟨k + 1, by omega, by go_num, by rw [HN.out, hpk]; simp⟩, rfl⟩ | exact ⟨_, _, ⟨k + 1, by omega, by go_num, by rw [HN.out, hpk]; simp⟩, rfl, rfl⟩ | exact ⟨_, _, _, ⟨k + 1, by omega, by go_num, by rw [HN.out, hpk]; simp⟩, rfl, rfl, rfl⟩ | exact ⟨_, _, _, _, ⟨k + 1, by omega, by go_num, by rw [HN.out, hpk]; simp⟩, rfl, rfl, rfl, rfl⟩ | exact ⟨_, _, _, _, _, ⟨k + 1, by omega, by go_num, by rw [HN.out, hpk]; simp⟩, rfl, rfl, rfl, rfl, rfl⟩
        case measure => simp [intOf]; omega
      · have h2 : (bits BinOp.andNot IntKind.i64 (k : Int) (a : Int) == 0) = true := by rw [h]; exact hpk
        clear h
        go_wp2
        go_round
        case rel => first | exact ⟨k + 1, by omega, by go_num, by rw [HN.out, hpk]; simp⟩ | exact ⟨_, ⟨k + 1, by omega, by go_num, by rw [HN.out, hpk]; simp⟩, rfl⟩ | exact ⟨_, _, ⟨k + 1, by omega, by go_num, by rw [HN.out, hpk]; simp⟩, rfl, rfl⟩ | exact ⟨_, _, _, ⟨k + 1, by omega, by go_num, by rw [HN.out, hpk]; simp⟩, rfl, rfl, rfl⟩ | exact ⟨_, _, _, _, ⟨k + 1, by omega, by go_num, by rw [HN.out, hpk]; simp⟩, rfl, rfl, rfl, rfl⟩ | exact ⟨_, _, _, _, _, ⟨k + 1, by omega, by go_num, by rw [HN.out, hpk]; simp⟩, rfl, rfl, rfl, rfl, rfl⟩
        case measure => simp [intOf]; omega
    · have hkn : k = n := by omega
      subst hkn
      go_wp2
      go_ret
      exact ⟨rfl, hBa⟩
set_option maxHeartbeats 4000000 in
theorem specAllowsChance_in (s : Int) (ao bo : Option Addr) (n c m d : Nat) (xs ys : List Int) (w : World) (hx : IntsAt w ao n xs) (hy : IntsAt w bo m ys) (hn : normalOk s xs = true) (hc : chanceOk s ys = true) :
    Calls Try.prog 16 #[.agg #[.int .i64 s, .slice ao n c], .agg #[.int .i64 s, .slice bo m d]] w fun e w' => e = .returned (.bool (allowsM s xs s ys)) ∧ Below w.heap.size w w' := by
  have hm : massOk s xs = true := (norm_size hn).2.2.2.2.1
  have hmy : massOk s ys = true := (chance_normal hc).1
  obtain ⟨hk, -, h16, hb, s1, s2, -⟩ := massOk_facts hm
  obtain ⟨-, -, h16y, hby, t1, t2, -⟩ := massOk_facts hmy
  obtain rfl := hx.len
  obtain rfl := hy.len
  have hq : oneQ s xs s ys = true := by unfold oneQ; rw [hm, hmy]; simp
  have HB := hid hb; have HBy := hid hby; clear hb hby
  have HN := hid hn; have HC := hid hc; have HM := hid hm; have HMy := hid hmy
  clear hn hc hm hmy
  obtain ⟨X, hX⟩ : ∃ X, isum xs = X := ⟨_, rfl⟩
  obtain ⟨Y, hY⟩ : ∃ Y, isum ys = Y := ⟨_, rfl⟩
  rw [hX] at s1 s2; rw [hY] at t1 t2
  have HAL : Hid (allowsM s xs s ys = allN (fun a => decide (impP a xs * Y ≤ impP a ys * X)) xs.length) := by rw [Hid, ← hX, ← hY]; unfold allowsM; rw [hq, HN.out, HC.out]; simp
  have hB0 : Below w.heap.size w ((w.alloc (.cells #[.int .i64 s, .slice ao xs.length c] 25)).alloc (.cells #[.int .i64 s, .slice bo ys.length d] 25)) := by (repeat (first | exact Below.refl _ _ | assumption | refine Below.alloc ?_ (by first | omega | (simp <;> omega)) _ | refine Below.setCell ?_ (by first | omega | (simp <;> omega)) _ | refine Below.drew ?_ | refine below_drewN ?_))
  have HCX : Hid (∀ w', IntsAt w' ao xs.length xs → Calls Try.prog 57 #[.agg #[.int .i64 s, .slice ao xs.length c]] w' fun e w'' => e = .returned (.int .i64 X) ∧ Below w'.heap.size w' w'') := fun w' h1 => by rw [← hX]; exact l3Whole_any _ _ _ _ xs w' h1 HM.out
  have HCY : Hid (∀ w', IntsAt w' bo ys.length ys → Calls Try.prog 57 #[.agg #[.int .i64 s, .slice bo ys.length d]] w' fun e w'' => e = .returned (.int .i64 Y) ∧ Below w'.heap.size w' w'') := fun w' h1 => by rw [← hY]; exact l3Whole_any _ _ _ _ ys w' h1 HMy.out
  clear hX hY
  have hx1 := hx.below hB0
  have hy1 := hy.below hB0
  go_enter Try.func16, Try.ntmps16
  go_wp2_with fail
  refine (l3Both_any _ _ _ _ _ _ _ _ xs ys _ hx1 hy1).mono ?_; rw [hq]; rintro e w1 ⟨rfl, hb1⟩
  have p0 := keep hb1 (a := ⟨w.heap.size, 0, none⟩) (v := .int .i64 s) (by simp)
  have p1 := keep hb1 (a := ⟨w.heap.size, 1, none⟩) (v := .slice ao xs.length c) (by simp)
  have q0 := keep hb1 (a := ⟨w.heap.size + 1, 0, none⟩) (v := .int .i64 s) (by simp)
  have q1 := keep hb1 (a := ⟨w.heap.size + 1, 1, none⟩) (v := .slice bo ys.length d) (by simp)
  have hx2 := hx1.below hb1
  have hy2 := hy1.below hb1
  have hB1 : Below w.heap.size w w1 := Below.trans hB0 (hb1.mono (by simp <;> omega))
  clear hb1 hB0 hq
  go_wp2_with fail
  refine (IsNormal_any _ _ _ _ xs _ hx2).mono ?_; rw [HN.out]; rintro e w2 ⟨rfl, hb2⟩
  replace p0 := keep hb2 p0
  replace p1 := keep hb2 p1
  replace q0 := keep hb2 q0
  replace q1 := keep hb2 q1
  have hx3 := hx2.below hb2
  have hy3 := hy2.below hb2
  have hB2 := chain hB1 hb2
  clear hb2
  go_wp2_with fail
  refine (specIsChance_any _ _ _ _ ys _ hy3).mono ?_; rw [HC.out]; rintro e w3 ⟨rfl, hb3⟩
  replace p0 := keep hb3 p0
  replace p1 := keep hb3 p1
  replace q0 := keep hb3 q0
  replace q1 := keep hb3 q1
  have hx4 := hx3.below hb3
  have hy4 := hy3.below hb3
  have hB3 := chain hB2 hb3
  clear hb3
  obtain ⟨N, hN⟩ : ∃ N, xs.length = N := ⟨_, rfl⟩
  rw [hN] at hx4 h16 HB HCX HAL p1 ⊢
  have HNN := hid hN
  clear hN hx1 hx2 hx3 hx
  go_wp2
  go_loopw [5] (fun i wr => ∃ k : Nat, k ≤ N ∧ i = .int .i64 k ∧ Below w3.heap.size w3 wr ∧ Hid (∀ j, j < k → impP j xs * Y ≤ impP j ys * X)) (fun i _ => N - (intOf i).toNat)
  case atStart => exact ⟨0, by omega, rfl, Below.refl _ _, fun j hj => by omega⟩
  case round =>
    obtain ⟨k, hk, rfl, hBr, HPR⟩ := hrel
    replace p0 := keep hBr p0
    replace p1 := keep hBr p1
    replace q0 := keep hBr q0
    replace q1 := keep hBr q1
    by_cases hlt : k < N
    · have hx5 := hx4.below hBr
      have hy5 := hy4.below hBr
      have hbx := impP_bd HM.out k
      have hby := impP_bd HMy.out k
      have HIX : Hid (∀ w', IntsAt w' ao N xs → Calls Try.prog 56 #[.agg #[.int .i64 s, .slice ao N c], .int .i64 k] w' fun e w'' => e = .returned (.int .i64 (impP k xs)) ∧ Below w'.heap.size w' w'') := fun w' h1 => by
        have := l4Implied_any s k ao N c xs w' h1 (by omega) h16 HB.out
        unfold impP; rw [HNN.out]; exact this
      have HIY : Hid (∀ w', IntsAt w' bo ys.length ys → Calls Try.prog 56 #[.agg #[.int .i64 s, .slice bo ys.length d], .int .i64 k] w' fun e w'' => e = .returned (.int .i64 (impP k ys)) ∧ Below w'.heap.size w' w'') := fun w' h1 => l4Implied_any s k bo _ d ys w' h1 (by omega) h16y HBy.out
      have g1 := prod_bd hbx ⟨t1, t2⟩
      have g2 := prod_bd hby ⟨s1, s2⟩
      obtain ⟨A, hA⟩ : ∃ q, impP k xs = q := ⟨_, rfl⟩
      obtain ⟨B, hB⟩ : ∃ q, impP k ys = q := ⟨_, rfl⟩
      have HA := hid hA
      have HBB := hid hB
      rw [hA] at HIX g1
      rw [hB] at HIY g2
      clear hA hB hbx hby
      by_cases hnl : B * X < A * Y
      · have HAF : Hid (allowsM s xs s ys = false) := by
          show _ = _
          rw [HAL.out]; exact allN_false hlt (by rw [HA.out, HBB.out]; exact decide_eq_false (by omega))
        go_wp2
        refine wp_region_ov (by kernel_rfl) (by kernel_rfl) ?_
        repeat (first | go_big_quiet_step ((first | (go_at_call 56; (with_reducible exact ov_call (HIX.out _ (hx5.below (ov_below _ _))))) | (go_at_call 56; (with_reducible exact ov_call (HIY.out _ (hy5.below (ov_below _ _))))) | (go_at_call 57; (with_reducible exact ov_call (HCX.out _ (hx5.below (ov_below _ _))))) | (go_at_call 57; (with_reducible exact ov_call (HCY.out _ (hy5.below (ov_below _ _))))))) | quiet_step ((first | (go_at_call 56; (with_reducible exact ov_call (HIX.out _ (hx5.below (ov_below _ _))))) | (go_at_call 56; (with_reducible exact ov_call (HIY.out _ (hy5.below (ov_below _ _))))) | (go_at_call 57; (with_reducible exact ov_call (HCX.out _ (hx5.below (ov_below _ _))))) | (go_at_call 57; (with_reducible exact ov_call (HCY.out _ (hy5.below (ov_below _ _))))))))
        refine wpQuiet_nil ?_
        intro _ hw_ov
        obtain ⟨x_ov, hw_ov2⟩ := hw_ov
        subst hw_ov2
        obtain ⟨w5, hw_ov3, hb5⟩ := ov_gen _ x_ov
        rw [hw_ov3]
        clear hw_ov3 x_ov
        have HB5 := hid (chain hBr hb5)
        clear hb5
        go_wp2
        go_ret
        exact ⟨ret_bool HAF.out.symm, chain hB3 HB5.out⟩
      · have HPR2 : Hid (∀ j, j < k + 1 → impP j xs * Y ≤ impP j ys * X) := fun j hj => by
          by_cases e : j = k
          · rw [e, HA.out, HBB.out]; omega
          · exact HPR.out j (by omega)
        go_wp2
        refine wp_region_ov (by kernel_rfl) (by kernel_rfl) ?_
        repeat (first | go_big_quiet_step ((first | (go_at_call 56; (with_reducible exact ov_call (HIX.out _ (hx5.below (ov_below _ _))))) | (go_at_call 56; (with_reducible exact ov_call (HIY.out _ (hy5.below (ov_below _ _))))) | (go_at_call 57; (with_reducible exact ov_call (HCX.out _ (hx5.below (ov_below _ _))))) | (go_at_call 57; (with_reducible exact ov_call (HCY.out _ (hy5.below (ov_below _ _))))))) | quiet_step ((first | (go_at_call 56; (with_reducible exact ov_call (HIX.out _ (hx5.below (ov_below _ _))))) | (go_at_call 56; (with_reducible exact ov_call (HIY.out _ (hy5.below (ov_below _ _))))) | (go_at_call 57; (with_reducible exact ov_call (HCX.out _ (hx5.below (ov_below _ _))))) | (go_at_call 57; (with_reducible exact ov_call (HCY.out _ (hy5.below (ov_below _ _))))))))
        refine wpQuiet_nil ?_
        intro _ hw_ov
        obtain ⟨x_ov, hw_ov2⟩ := hw_ov
        subst hw_ov2
        obtain ⟨w5, hw_ov3, hb5⟩ := ov_gen _ x_ov
        rw [hw_ov3]
        clear hw_ov3 x_ov
        have HB5 := hid (chain hBr hb5)
        clear hb5
        go_wp2
        go_roundw
        case rel => first | exact ⟨k + 1, by omega, by go_num, HB5.out, HPR2⟩ | exact ⟨_, ⟨k + 1, by omega, by go_num, HB5.out, HPR2⟩, rfl⟩ | exact ⟨_, _, ⟨k + 1, by omega, by go_num, HB5.out, HPR2⟩, rfl, rfl⟩ | exact ⟨_, _, _, ⟨k + 1, by omega, by go_num, HB5.out, HPR2⟩, rfl, rfl, rfl⟩ | exact ⟨_, _, _, _, ⟨k + 1, by omega, by go_num, HB5.out, HPR2⟩, rfl, rfl, rfl, rfl⟩ | exact ⟨_, _, _, _, _, ⟨k + 1, by omega, by go_num, HB5.out, HPR2⟩, rfl, rfl, rfl, rfl, rfl⟩
        case measure => simp [intOf]; omega
    · have hkn : k = N := by omega
      subst hkn
      have HAT : Hid (allowsM s xs s ys = true) := by
        show _ = _
        rw [HAL.out, allN_iff]; exact fun j hj => decide_eq_true (HPR.out j hj)
      clear HPR
      go_wp2
      go_ret
      exact ⟨ret_bool HAT.out.symm, chain hB3 hBr⟩
set_option maxHeartbeats 1000000 in
theorem specAllowsChance_any (s u : Int) (ao bo : Option Addr) (n c m d : Nat) (xs ys : List Int) (w : World) (hx : IntsAt w ao n xs) (hy : IntsAt w bo m ys) :
    Calls Try.prog 16 #[.agg #[.int .i64 s, .slice ao n c], .agg #[.int .i64 u, .slice bo m d]] w fun e w' => e = .returned (.bool (allowsM s xs u ys)) ∧ Below w.heap.size w w' := by
  have hB0 : Below w.heap.size w ((w.alloc (.cells #[.int .i64 s, .slice ao n c] 25)).alloc (.cells #[.int .i64 u, .slice bo m d] 25)) := by (repeat (first | exact Below.refl _ _ | assumption | refine Below.alloc ?_ (by first | omega | (simp <;> omega)) _ | refine Below.setCell ?_ (by first | omega | (simp <;> omega)) _ | refine Below.drew ?_ | refine below_drewN ?_))
  cases ho : oneQ s xs u ys with
  | false =>
    have HF : Hid (allowsM s xs u ys = false) := by show _ = _; unfold allowsM; rw [ho]; rfl
    have HO := hid ho
    clear ho
    go_enter Try.func16, Try.ntmps16
    go_wp2_with fail
    refine (l3Both_any _ _ _ _ _ _ _ _ xs ys _ (hx.below hB0) (hy.below hB0)).mono ?_; rw [HO.out]; rintro e w1 ⟨rfl, hb1⟩
    go_wp2
    go_ret
    exact ⟨ret_bool HF.out.symm, Below.trans hB0 (hb1.mono (by simp <;> omega))⟩
  | true =>
    obtain ⟨k1, k2, k3⟩ : massOk s xs = true ∧ massOk u ys = true ∧ s = u := by
      unfold oneQ at ho; simpa using ho
    subst k3
    have HO := hid ho
    cases hn : normalOk s xs with
    | false =>
      have HF : Hid (allowsM s xs s ys = false) := by show _ = _; unfold allowsM; rw [hn]; simp
      have HN := hid hn
      clear ho hn k1 k2
      go_enter Try.func16, Try.ntmps16
      go_wp2_with fail
      refine (l3Both_any _ _ _ _ _ _ _ _ xs ys _ (hx.below hB0) (hy.below hB0)).mono ?_; rw [HO.out]; rintro e w1 ⟨rfl, hb1⟩
      have p0 := keep hb1 (a := ⟨w.heap.size, 0, none⟩) (v := .int .i64 s) (by simp)
      have p1 := keep hb1 (a := ⟨w.heap.size, 1, none⟩) (v := .slice ao n c) (by simp)
      have hB1 : Below w.heap.size w w1 := Below.trans hB0 (hb1.mono (by simp <;> omega))
      clear hb1
      go_wp2_with fail
      refine (IsNormal_any _ _ _ _ xs _ (hx.below hB1)).mono ?_; rw [HN.out]; rintro e w2 ⟨rfl, hb2⟩
      go_wp2
      go_ret
      exact ⟨ret_bool HF.out.symm, chain hB1 hb2⟩
    | true =>
      cases hc : chanceOk s ys with
      | true => exact specAllowsChance_in s ao bo n c m d xs ys w hx hy hn hc
      | false =>
        have HF : Hid (allowsM s xs s ys = false) := by show _ = _; unfold allowsM; rw [hc]; simp
        have HN := hid hn
        have HC := hid hc
        clear ho hn hc k1 k2
        go_enter Try.func16, Try.ntmps16
        go_wp2_with fail
        refine (l3Both_any _ _ _ _ _ _ _ _ xs ys _ (hx.below hB0) (hy.below hB0)).mono ?_; rw [HO.out]; rintro e w1 ⟨rfl, hb1⟩
        have p0 := keep hb1 (a := ⟨w.heap.size, 0, none⟩) (v := .int .i64 s) (by simp)
        have p1 := keep hb1 (a := ⟨w.heap.size, 1, none⟩) (v := .slice ao n c) (by simp)
        have q0 := keep hb1 (a := ⟨w.heap.size + 1, 0, none⟩) (v := .int .i64 s) (by simp)
        have q1 := keep hb1 (a := ⟨w.heap.size + 1, 1, none⟩) (v := .slice bo m d) (by simp)
        have hB1 : Below w.heap.size w w1 := Below.trans hB0 (hb1.mono (by simp <;> omega))
        clear hb1
        go_wp2_with fail
        refine (IsNormal_any _ _ _ _ xs _ (hx.below hB1)).mono ?_; rw [HN.out]; rintro e w2 ⟨rfl, hb2⟩
        replace p0 := keep hb2 p0
        replace p1 := keep hb2 p1
        replace q0 := keep hb2 q0
        replace q1 := keep hb2 q1
        have hB2 := chain hB1 hb2
        clear hb2
        go_wp2_with fail
        refine (specIsChance_any _ _ _ _ ys _ (hy.below hB2)).mono ?_; rw [HC.out]; rintro e w3 ⟨rfl, hb3⟩
        go_wp2
        go_ret
        exact ⟨ret_bool HF.out.symm, chain hB2 hb3⟩
end Go.Proofs.Ytnbjhmghobljaaa
