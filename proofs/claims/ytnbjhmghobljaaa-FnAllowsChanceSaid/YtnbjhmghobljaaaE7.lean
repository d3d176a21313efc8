/- Contract that the laws by draws call: IsChance. Contract that the laws by draws call: AllowsChance, where it is true. -/
import Derived.Test.YtnbjhmghobljaaaW13
import Derived.Test.YtnbjhmghobljaaaN12
import Derived.Test.YtnbjhmghobljaaaS9
import Derived.Test.YtnbjhmghobljaaaL2
set_option linter.unusedSimpArgs false
set_option linter.unusedVariables false
namespace Go.Proofs.Ytnbjhmghobljaaa
open Go.RowKit
theorem IsChance_any (s : Int) (ao : Option Addr) (n c : Nat) (xs : List Int) (w : World) (hx : IntsAt w ao n xs) :
    Calls Try.prog 18 #[.agg #[.int .i64 s, .slice ao n c]] w fun e w' => e = .returned (.bool (chanceOk s xs)) ∧ Below w.heap.size w w' := by
  go_enter Try.func18, Try.ntmps18
  go_wp2_with fail
  refine (isChance_any _ _ _ _ xs _ (hx.below (by (repeat (first | exact Below.refl _ _ | assumption | refine Below.alloc ?_ (by first | omega | (simp <;> omega)) _ | refine Below.setCell ?_ (by first | omega | (simp <;> omega)) _ | refine Below.drew ?_ | refine below_drewN ?_))))).mono ?_; rintro e w1 ⟨rfl, hb⟩
  go_wp2
  go_ret
  exact ⟨rfl, Below.trans (by (repeat (first | exact Below.refl _ _ | assumption | refine Below.alloc ?_ (by first | omega | (simp <;> omega)) _ | refine Below.setCell ?_ (by first | omega | (simp <;> omega)) _ | refine Below.drew ?_ | refine below_drewN ?_))) (hb.mono (by simp <;> omega))⟩
theorem impP_bd {s : Int} {xs : List Int} (hm : massOk s xs = true) (a : Nat) : 0 ≤ impP a xs ∧ impP a xs ≤ 16000000 := by
  obtain ⟨_, _, h16, hb, _⟩ := massOk_facts hm
  have := predI_bd (subB a) xs xs.length hb xs.length (Nat.le_refl _)
  unfold impP
  omega
theorem prod_bd {a b : Int} (ha : 0 ≤ a ∧ a ≤ 16000000) (hb : 1 ≤ b ∧ b ≤ 1000000) : IntKind.i64.wrap (a * b) = a * b := by
  refine IntWalk.i64_in _ ?_
  have h1 : 0 ≤ a * b := Int.mul_nonneg ha.1 (by omega)
  have h2 : a * b ≤ 16000000 * 1000000 := Int.mul_le_mul ha.2 hb.2 (by omega) (by omega)
  omega
set_option maxHeartbeats 2000000 in
theorem AllowsChance_true (s : Int) (ao bo : Option Addr) (n c m d : Nat) (xs ys : List Int) (w : World) (hx : IntsAt w ao n xs) (hy : IntsAt w bo m ys) (hn : normalOk s xs = true) (hc : chanceOk s ys = true) (hle : ∀ a, a < xs.length → impP a xs * isum ys ≤ impP a ys * isum xs) :
    Calls Try.prog 15 #[.agg #[.int .i64 s, .slice ao n c], .agg #[.int .i64 s, .slice bo m d]] w fun e w' => e = .returned (.bool true) ∧ Below w.heap.size w w' := by
  have hm : massOk s xs = true := (norm_size hn).2.2.2.2.1
  have hmy : massOk s ys = true := (chance_normal hc).1
  obtain ⟨hk, -, h16, hb, s1, s2, -⟩ := massOk_facts hm
  obtain ⟨-, -, h16y, hby, t1, t2, -⟩ := massOk_facts hmy
  obtain rfl := hx.len
  obtain rfl := hy.len
  have hq : oneQ s xs s ys = true := by unfold oneQ; rw [hm, hmy]; simp
  have HLE := hid hle; clear hle
  have HB := hid hb; have HBy := hid hby; clear hb hby
  have HN := hid hn; have HC := hid hc; have HM := hid hm; have HMy := hid hmy
  clear hn hc hm hmy
  obtain ⟨X, hX⟩ : ∃ X, isum xs = X := ⟨_, rfl⟩
  obtain ⟨Y, hY⟩ : ∃ Y, isum ys = Y := ⟨_, rfl⟩
  rw [hX] at s1 s2; rw [hY] at t1 t2
  have HLE2 : Hid (∀ a, a < xs.length → impP a xs * Y ≤ impP a ys * X) := by rw [Hid, ← hX, ← hY]; exact HLE.out
  have hB0 : Below w.heap.size w ((w.alloc (.cells #[.int .i64 s, .slice ao xs.length c] 25)).alloc (.cells #[.int .i64 s, .slice bo ys.length d] 25)) := by (repeat (first | exact Below.refl _ _ | assumption | refine Below.alloc ?_ (by first | omega | (simp <;> omega)) _ | refine Below.setCell ?_ (by first | omega | (simp <;> omega)) _ | refine Below.drew ?_ | refine below_drewN ?_))
  have HCX : Hid (∀ w', IntsAt w' ao xs.length xs → Calls Try.prog 44 #[.agg #[.int .i64 s, .slice ao xs.length c]] w' fun e w'' => e = .returned (.int .i64 X) ∧ Below w'.heap.size w' w'') := fun w' h1 => by rw [← hX]; exact wholeOf_any _ _ _ _ xs w' h1 (fun k hk => by have := HB.out k hk; omega) h16
  have HCY : Hid (∀ w', IntsAt w' bo ys.length ys → Calls Try.prog 44 #[.agg #[.int .i64 s, .slice bo ys.length d]] w' fun e w'' => e = .returned (.int .i64 Y) ∧ Below w'.heap.size w' w'') := fun w' h1 => by rw [← hY]; exact wholeOf_any _ _ _ _ ys w' h1 (fun k hk => by have := HBy.out k hk; omega) h16y
  clear hX hY HLE
  have hx1 := hx.below hB0
  have hy1 := hy.below hB0
  go_enter Try.func15, Try.ntmps15
  go_wp2_with fail
  refine (ofOneQuestion_any _ _ _ _ _ _ _ _ xs ys _ hx1 hy1).mono ?_; rw [hq]; rintro e w1 ⟨rfl, hb1⟩
  have p0 := keep hb1 (a := ⟨w.heap.size, 0, none⟩) (v := .int .i64 s) (by simp)
  have p1 := keep hb1 (a := ⟨w.heap.size, 1, none⟩) (v := .slice ao xs.length c) (by simp)
  have q0 := keep hb1 (a := ⟨w.heap.size + 1, 0, none⟩) (v := .int .i64 s) (by simp)
  have q1 := keep hb1 (a := ⟨w.heap.size + 1, 1, none⟩) (v := .slice bo ys.length d) (by simp)
  have hx2 := hx1.below hb1
  have hy2 := hy1.below hb1
  have hB1 : Below w.heap.size w w1 := Below.trans hB0 (hb1.mono (by simp <;> omega))
  clear hb1 hB0 hq
  go_wp2_with fail
  refine (isNormal_any _ _ _ _ xs _ hx2).mono ?_; rw [HN.out]; rintro e w2 ⟨rfl, hb2⟩
  replace p0 := keep hb2 p0
  replace p1 := keep hb2 p1
  replace q0 := keep hb2 q0
  replace q1 := keep hb2 q1
  have hx3 := hx2.below hb2
  have hy3 := hy2.below hb2
  have hB2 := chain hB1 hb2
  clear hb2
  go_wp2_with fail
  refine (isChance_any _ _ _ _ ys _ hy3).mono ?_; rw [HC.out]; rintro e w3 ⟨rfl, hb3⟩
  replace p0 := keep hb3 p0
  replace p1 := keep hb3 p1
  replace q0 := keep hb3 q0
  replace q1 := keep hb3 q1
  have hx4 := hx3.below hb3
  have hy4 := hy3.below hb3
  have hB3 := chain hB2 hb3
  clear hb3
  obtain ⟨N, hN⟩ : ∃ N, xs.length = N := ⟨_, rfl⟩
  rw [hN] at hx4 h16 HB HCX HLE2 p1 ⊢
  have HNN := hid hN
  clear hN hx1 hx2 hx3 hx
  go_wp2
  go_loopw [5, 23] (fun _ i wr => ∃ k : Nat, k ≤ N ∧ i = .int .i64 k ∧ Below w3.heap.size w3 wr) (fun _ i _ => N - (intOf i).toNat)
  case atStart => exact ⟨0, by omega, rfl, Below.refl _ _⟩
  case round =>
    obtain ⟨k, hk, rfl, hBr⟩ := hrel
    by_cases hlt : k < N
    · have hx5 := hx4.below hBr
      replace p0 := keep hBr p0
      replace p1 := keep hBr p1
      replace q0 := keep hBr q0
      replace q1 := keep hBr q1
      have hy5 := hy4.below hBr
      have hbx := impP_bd HM.out k
      have hby := impP_bd HMy.out k
      have hle := HLE2.out k hlt
      have HIX : Hid (∀ w', IntsAt w' ao N xs → Calls Try.prog 43 #[.agg #[.int .i64 s, .slice ao N c], .int .i64 k] w' fun e w'' => e = .returned (.int .i64 (impP k xs)) ∧ Below w'.heap.size w' w'') := fun w' h1 => by
        have := impliedPart_any s k ao N c xs w' h1 (by omega) h16 HB.out
        unfold impP; rw [HNN.out]; exact this
      have HIY : Hid (∀ w', IntsAt w' bo ys.length ys → Calls Try.prog 43 #[.agg #[.int .i64 s, .slice bo ys.length d], .int .i64 k] w' fun e w'' => e = .returned (.int .i64 (impP k ys)) ∧ Below w'.heap.size w' w'') := fun w' h1 => impliedPart_any s k bo _ d ys w' h1 (by omega) h16y HBy.out
      have g1 := prod_bd hbx ⟨t1, t2⟩
      have g2 := prod_bd hby ⟨s1, s2⟩
      generalize impP k xs = A at *
      generalize impP k ys = B at *
      have hnl : ¬ B * X < A * Y := by omega
      go_wp2
      refine wp_region_ov (by kernel_rfl) (by kernel_rfl) ?_
      repeat (first | go_big_quiet_step ((first | (go_at_call 43; (with_reducible exact ov_call (HIX.out _ (hx5.below (ov_below _ _))))) | (go_at_call 43; (with_reducible exact ov_call (HIY.out _ (hy5.below (ov_below _ _))))) | (go_at_call 44; (with_reducible exact ov_call (HCX.out _ (hx5.below (ov_below _ _))))) | (go_at_call 44; (with_reducible exact ov_call (HCY.out _ (hy5.below (ov_below _ _))))))) | quiet_step ((first | (go_at_call 43; (with_reducible exact ov_call (HIX.out _ (hx5.below (ov_below _ _))))) | (go_at_call 43; (with_reducible exact ov_call (HIY.out _ (hy5.below (ov_below _ _))))) | (go_at_call 44; (with_reducible exact ov_call (HCX.out _ (hx5.below (ov_below _ _))))) | (go_at_call 44; (with_reducible exact ov_call (HCY.out _ (hy5.below (ov_below _ _))))))))
      refine wpQuiet_nil ?_
      intro _ hw_ov
      obtain ⟨x_ov, hw_ov2⟩ := hw_ov
      subst hw_ov2
      obtain ⟨w5, hw_ov3, hb5⟩ := ov_gen _ x_ov
      rw [hw_ov3]
      clear hw_ov3 x_ov
      have HB5 := hid (chain hBr hb5)
      clear hb5
      go_wp2
      go_roundw
      case rel => first | exact ⟨k + 1, by omega, by go_num, HB5.out⟩ | exact ⟨_, ⟨k + 1, by omega, by go_num, HB5.out⟩, rfl⟩ | exact ⟨_, _, ⟨k + 1, by omega, by go_num, HB5.out⟩, rfl, rfl⟩ | exact ⟨_, _, _, ⟨k + 1, by omega, by go_num, HB5.out⟩, rfl, rfl, rfl⟩ | exact ⟨_, _, _, _, ⟨k + 1, by omega, by go_num, HB5.out⟩, rfl, rfl, rfl, rfl⟩ | exact ⟨_, _, _, _, _, ⟨k + 1, by omega, by go_num, HB5.out⟩, rfl, rfl, rfl, rfl, rfl⟩
      case measure => simp [intOf]; omega
    · have hkn : k = N := by omega
      subst hkn
      go_wp2
      go_ret
      exact ⟨rfl, chain hB3 hBr⟩
end Go.Proofs.Ytnbjhmghobljaaa
