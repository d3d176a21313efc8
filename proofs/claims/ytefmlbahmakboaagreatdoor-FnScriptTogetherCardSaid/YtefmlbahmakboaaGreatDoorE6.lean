/- Contract that the laws by draws call: IsChance. Contract that the laws by draws call: AllowsChance, where it is true. Contracts that the laws by draws call: ChanceOf, BeliefOf, IsChance. -/
import Derived.Test.YtefmlbahmakboaaGreatDoorW13
import Derived.Test.YtefmlbahmakboaaGreatDoorN12
import Derived.Test.YtefmlbahmakboaaGreatDoorS9
import Derived.Test.YtefmlbahmakboaaGreatDoorL2
import Derived.Test.YtefmlbahmakboaaGreatDoorW15
import Derived.Test.YtefmlbahmakboaaGreatDoorW3
import Derived.Test.YtefmlbahmakboaaGreatDoorW21
set_option linter.unusedSimpArgs false
set_option linter.unusedVariables false
namespace Go.Proofs.YtefmlbahmakboaaGreatDoor
open Go.RowKit
theorem impP_bd {s : Int} {xs : List Int} (hm : massOk s xs = true) (a : Nat) : 0 ≤ impP a xs ∧ impP a xs ≤ 16000000 := by
  obtain ⟨_, _, h16, hb, _⟩ := massOk_facts hm
  have := predI_bd (subB a) xs xs.length hb xs.length (Nat.le_refl _)
  unfold impP
  omega
theorem prod_bd {a b : Int} (ha : 0 ≤ a ∧ a ≤ 16000000) (hb : 1 ≤ b ∧ b ≤ 1000000) : IntKind.i64.wrap (a * b) = a * b := by
  refine IntWalk.i64_in _ ?_
  have h1 : 0 ≤ a * b := Int.mul_nonneg ha.1 (by omega)
  have h2 : a * b ≤ 16000000 * 1000000 := Int.mul_le_mul ha.2 hb.2 (by omega) (by omega)
  omega
set_option maxHeartbeats 2000000 in
theorem ChanceOf_any (s : Int) (a : Nat) (ao : Option Addr) (n c : Nat) (xs : List Int) (w : World) (hx : IntsAt w ao n xs) (hm : massOk s xs = true) (ha : a < xs.length) (hn0 : 1 ≤ isum xs - nth xs 0) :
    Calls Tryz.prog 207 #[.agg #[.int .i64 s, .slice ao n c], .int .i64 a] w fun e w' => e = .returned (.tuple #[.agg #[.int .i64 (redF (evenTo xs a xs.length) (12 * (isum xs - nth xs 0))).num, .int .i64 (redF (evenTo xs a xs.length) (12 * (isum xs - nth xs 0))).den], .bool (redF (evenTo xs a xs.length) (12 * (isum xs - nth xs 0))).ok]) ∧ Below w.heap.size w w' := by
  obtain ⟨hs, hl, h16, hxb, s1, s2, _⟩ := massOk_facts hm
  have hN := nsets_le hs
  have hin : inB 0 ((nsets s : Int) - 1) a = true := inB_iff.2 (by omega)
  obtain rfl : n = xs.length := hx.len.symm
  have hev := evenTo_bd xs a xs.length h16 hxb xs.length (Nat.le_refl _)
  have hz := hxb 0 (by omega)
  have HXB := hid hxb
  obtain ⟨N, hNe⟩ : ∃ N, xs.length = N := ⟨_, rfl⟩
  rw [hNe] at hx h16 ha hev ⊢
  have HNE := hid hNe
  have HNB : Hid (∀ k, k < N → 0 ≤ nth xs k ∧ nth xs k ≤ 1000000) := by show ∀ k, k < N → _; rw [← hNe]; exact hxb
  have hN0 : 0 < N := by omega
  obtain ⟨E, hE⟩ : ∃ E, evenTo xs a N = E := ⟨_, rfl⟩
  obtain ⟨W, hW⟩ : ∃ W, isum xs = W := ⟨_, rfl⟩
  obtain ⟨z, hzz⟩ : ∃ z, nth xs 0 = z := ⟨_, rfl⟩
  rw [hE] at hev
  rw [hE, hW, hzz]
  rw [hW] at s1 s2 hn0
  rw [hzz] at hz hn0
  have hq1 : IntKind.i64.wrap (W - z) = W - z := IntWalk.i64_in _ (by omega)
  have hq2 : IntKind.i64.wrap (12 * (W - z)) = 12 * (W - z) := IntWalk.i64_in _ (by omega)
  have hne : (W == z) = false := by simp; omega
  obtain ⟨b, off, rfl, hb1, hb2, hck⟩ := hx.at (Below.refl _ _) hN0
  rw [Nat.add_zero, hzz] at hck
  have HC0 : Hid (∀ w', IntsAt w' (some ⟨b, off, none⟩) N xs → Calls Tryz.prog 42 #[.agg #[.int .i64 s, .slice (some ⟨b, off, none⟩) N c]] w' fun e w'' => e = .returned (.bool true) ∧ Below w'.heap.size w' w'') := fun w' h1 => by rw [← hm]; exact isMass_any _ _ _ _ xs _ h1
  have HC1 : Hid (∀ w', IntsAt w' (some ⟨b, off, none⟩) N xs → Calls Tryz.prog 74 #[.agg #[.int .i64 s, .slice (some ⟨b, off, none⟩) N c], .int .i64 a] w' fun e w'' => e = .returned (.int .i64 E) ∧ Below w'.heap.size w' w'') := fun w' h1 => by rw [← hE]; exact sharedPart_any _ _ _ _ a xs w' h1 h16 (by omega) HNB.out
  have HC2 : Hid (∀ w', IntsAt w' (some ⟨b, off, none⟩) N xs → Calls Tryz.prog 48 #[.agg #[.int .i64 s, .slice (some ⟨b, off, none⟩) N c]] w' fun e w'' => e = .returned (.int .i64 W) ∧ Below w'.heap.size w' w'') := fun w' h1 => by rw [← hW]; exact wholeOf_any _ _ _ _ xs w' h1 (fun k hk => by have := HNB.out k hk; omega) h16
  have HC3 : Hid (∀ w', Calls Tryz.prog 159 #[.int .i64 s, .int .i64 a] w' fun e w'' => e = .returned (.bool true) ∧ w' = w'') := fun w' => by rw [← hin]; exact isSetOf_any s a w' hs
  obtain ⟨fn, hfn⟩ : ∃ r, redF E (12 * (W - z)) = r := ⟨_, rfl⟩
  rw [hfn]
  have HC4 : Hid (∀ w', Calls Tryz.prog 47 #[.int .i64 E, .int .i64 (12 * (W - z))] w' fun e w'' => e = .returned (.tuple #[.agg #[.int .i64 fn.num, .int .i64 fn.den], .bool fn.ok]) ∧ Below w'.heap.size w' w'') := fun w' => by rw [← hfn]; exact lowest_any _ _ w' (by omega) (by omega) (by omega) (by omega) (by omega)
  have hB0 : Below w.heap.size w ((w.alloc (.cells #[.int .i64 s, .slice (some ⟨b, off, none⟩) N c] 25)).alloc (.cells #[.int .i64 0, .int .i64 0] 33)) := by (repeat (first | exact Below.refl _ _ | assumption | refine Below.alloc ?_ (by first | omega | (simp <;> omega)) _ | refine Below.setCell ?_ (by first | omega | (simp <;> omega)) _ | refine Below.drew ?_ | refine below_drewN ?_))
  have hx2 := hx.below hB0
  have hck2 := keep hB0 hck
  clear hm hs hl hxb hE hW hzz hNe hfn hin hck
  go_enter Tryz.func207, Tryz.ntmps207
  go_wp2_with fail
  obtain ⟨w1, hw1⟩ : ∃ w1, (w.alloc (.cells #[.int .i64 s, .slice (some ⟨b, off, none⟩) N c] 25)).alloc (.cells #[.int .i64 0, .int .i64 0] 33) = w1 := ⟨_, rfl⟩
  rw [hw1]
  rw [hw1] at hB0 hx2 hck2
  have p0 : w1.cell? ⟨w.heap.size, 0, none⟩ = some (.int .i64 s) := by rw [← hw1]; simp
  have p1 : w1.cell? ⟨w.heap.size, 1, none⟩ = some (.slice (some ⟨b, off, none⟩) N c) := by rw [← hw1]; simp
  have h10 : w1.cell? ⟨w.heap.size + 1, 0, none⟩ = some (.int .i64 0) := by rw [← hw1]; simp
  have h11 : w1.cell? ⟨w.heap.size + 1, 1, none⟩ = some (.int .i64 0) := by rw [← hw1]; simp
  have f20 : w1.frozen? ⟨w.heap.size + 1, 0, none⟩ = false := by rw [← hw1]; simp
  have f21 : w1.frozen? ⟨w.heap.size + 1, 1, none⟩ = false := by rw [← hw1]; simp
  clear hw1 hx
  refine wp_region_ov (by kernel_rfl) (by kernel_rfl) ?_
  repeat (first | go_big_quiet_step ((first | (go_at_call 42; (with_reducible exact ov_call (HC0.out _ (hx2.below (ov_below _ _))))) | (go_at_call 159; (with_reducible exact ov_same (HC3.out _))) | (go_at_call 48; (with_reducible exact ov_call (HC2.out _ (hx2.below (ov_below _ _))))))) | quiet_step ((first | (go_at_call 42; (with_reducible exact ov_call (HC0.out _ (hx2.below (ov_below _ _))))) | (go_at_call 159; (with_reducible exact ov_same (HC3.out _))) | (go_at_call 48; (with_reducible exact ov_call (HC2.out _ (hx2.below (ov_below _ _))))))))
  refine wpQuiet_nil ?_
  intro _ hw_ov
  obtain ⟨x_ov, hw_ov2⟩ := hw_ov
  subst hw_ov2
  obtain ⟨w3, hw_ov3, hb3⟩ := ov_gen _ x_ov
  rw [hw_ov3]
  clear hw_ov3 x_ov
  have hx3 := hx2.below hb3
  replace f20 := keepF hb3 h10 f20
  replace f21 := keepF hb3 h11 f21
  replace h10 := keep hb3 h10
  replace h11 := keep hb3 h11
  replace p0 := keep hb3 p0
  replace p1 := keep hb3 p1
  replace hck2 := keep hb3 hck2
  have hB3 := chain hB0 hb3
  clear hb3 hx2 hB0
  go_wp2_with fail
  refine wp_region_ov_tail 14 (by kernel_rfl) (by kernel_rfl) (fun _ _ _ _ _ h => h) ?_
  simp only [List.take_succ_cons, List.take_zero, List.drop_succ_cons, List.drop_zero]
  repeat (first | go_big_quiet_step ((first | (go_at_call 74; (with_reducible exact ov_call (HC1.out _ (hx3.below (ov_below _ _))))) | (go_at_call 48; (with_reducible exact ov_call (HC2.out _ (hx3.below (ov_below _ _))))) | (go_at_call 47; (with_reducible exact ov_call (HC4.out _))))) | quiet_step ((first | (go_at_call 74; (with_reducible exact ov_call (HC1.out _ (hx3.below (ov_below _ _))))) | (go_at_call 48; (with_reducible exact ov_call (HC2.out _ (hx3.below (ov_below _ _))))) | (go_at_call 47; (with_reducible exact ov_call (HC4.out _))))))
  refine wpQuiet_nil ?_
  intro _ hw_ov
  obtain ⟨x_ov, hw_ov2⟩ := hw_ov
  subst hw_ov2
  obtain ⟨w4, hw_ov3, hb4⟩ := ov_gen _ x_ov
  rw [hw_ov3]
  clear hw_ov3 x_ov
  replace f20 := keepF hb4 h10 f20
  replace f21 := keepF hb4 h11 f21
  replace h10 := keep hb4 h10
  replace h11 := keep hb4 h11
  have hB4 := chain hB3 hb4
  clear hb4 p0 p1 hck2
  go_wp2
  refine bodyPost_ret (v := .tuple #[.agg #[.int .i64 fn.num, .int .i64 fn.den], .bool fn.ok]) (by simp [results, Tryz.results207, go_sem, h10, h11, f20, f21]) rfl ⟨?_, ?_⟩
  · rfl
  · (repeat (first | exact Below.refl _ _ | assumption | refine Below.alloc ?_ (by first | omega | (simp <;> omega)) _ | refine Below.setCell ?_ (by first | omega | (simp <;> omega)) _ | refine Below.drew ?_ | refine below_drewN ?_))
set_option maxHeartbeats 2000000 in
theorem BeliefOf_any (s : Int) (a : Nat) (ao : Option Addr) (n c : Nat) (xs : List Int) (w : World) (hx : IntsAt w ao n xs) (hm : massOk s xs = true) (ha : a < xs.length) :
    Calls Tryz.prog 205 #[.agg #[.int .i64 s, .slice ao n c], .int .i64 a] w fun e w' => e = .returned (.tuple #[.agg #[.int .i64 (redF (dot (predI (subB a)) xs xs.length - nth xs 0) (isum xs)).num, .int .i64 (redF (dot (predI (subB a)) xs xs.length - nth xs 0) (isum xs)).den], .bool (redF (dot (predI (subB a)) xs xs.length - nth xs 0) (isum xs)).ok]) ∧ Below w.heap.size w w' := by
  obtain ⟨hs, hl, h16, hxb, s1, s2, _⟩ := massOk_facts hm
  have hN := nsets_le hs
  have hin : inB 0 ((nsets s : Int) - 1) a = true := inB_iff.2 (by omega)
  obtain rfl : n = xs.length := hx.len.symm
  have hev := sub_bdS (subB a) hm
  have hz := hxb 0 (by omega)
  obtain ⟨N, hNe⟩ : ∃ N, xs.length = N := ⟨_, rfl⟩
  rw [hNe] at hx h16 ha hev ⊢
  have HNB : Hid (∀ k, k < N → 0 ≤ nth xs k ∧ nth xs k ≤ 1000000) := by show ∀ k, k < N → _; rw [← hNe]; exact hxb
  have hN0 : 0 < N := by omega
  obtain ⟨E, hE⟩ : ∃ E, dot (predI (subB a)) xs N = E := ⟨_, rfl⟩
  obtain ⟨W, hW⟩ : ∃ W, isum xs = W := ⟨_, rfl⟩
  obtain ⟨z, hzz⟩ : ∃ z, nth xs 0 = z := ⟨_, rfl⟩
  rw [hE] at hev
  rw [hE, hW, hzz]
  rw [hW] at s1 s2
  rw [hzz] at hz
  have hq1 : IntKind.i64.wrap (E - z) = E - z := IntWalk.i64_in _ (by omega)
  obtain ⟨b, off, rfl, hb1, hb2, hck⟩ := hx.at (Below.refl _ _) hN0
  rw [Nat.add_zero, hzz] at hck
  have HC1 : Hid (∀ w', IntsAt w' (some ⟨b, off, none⟩) N xs → Calls Tryz.prog 213 #[.agg #[.int .i64 s, .slice (some ⟨b, off, none⟩) N c], .int .i64 a] w' fun e w'' => e = .returned (.int .i64 E) ∧ Below w'.heap.size w' w'') := fun w' h1 => by rw [← hE]; exact impliedPart_any _ a _ _ _ xs w' h1 (by omega) h16 HNB.out
  have HC2 : Hid (∀ w', IntsAt w' (some ⟨b, off, none⟩) N xs → Calls Tryz.prog 48 #[.agg #[.int .i64 s, .slice (some ⟨b, off, none⟩) N c]] w' fun e w'' => e = .returned (.int .i64 W) ∧ Below w'.heap.size w' w'') := fun w' h1 => by rw [← hW]; exact wholeOf_any _ _ _ _ xs w' h1 (fun k hk => by have := HNB.out k hk; omega) h16
  obtain ⟨fn, hfn⟩ : ∃ r, redF (E - z) W = r := ⟨_, rfl⟩
  rw [hfn]
  have HC4 : Hid (∀ w', Calls Tryz.prog 47 #[.int .i64 (E - z), .int .i64 W] w' fun e w'' => e = .returned (.tuple #[.agg #[.int .i64 fn.num, .int .i64 fn.den], .bool fn.ok]) ∧ Below w'.heap.size w' w'') := fun w' => by rw [← hfn]; exact lowest_any _ _ w' (by omega) (by omega) (by omega) (by omega) (by omega)
  have hB0 : Below w.heap.size w ((w.alloc (.cells #[.int .i64 s, .slice (some ⟨b, off, none⟩) N c] 25)).alloc (.cells #[.int .i64 0, .int .i64 0] 33)) := by (repeat (first | exact Below.refl _ _ | assumption | refine Below.alloc ?_ (by first | omega | (simp <;> omega)) _ | refine Below.setCell ?_ (by first | omega | (simp <;> omega)) _ | refine Below.drew ?_ | refine below_drewN ?_))
  have hx2 := hx.below hB0
  have hck2 := keep hB0 hck
  have HM := hid hm
  have HIN := hid hin
  clear hl hxb hE hW hzz hNe hfn hin hck hm
  go_enter Tryz.func205, Tryz.ntmps205
  go_wp2_with fail
  refine (isMass_any _ _ _ _ xs _ hx2).mono ?_; rw [HM.out]; rintro e w1 ⟨rfl, hb1⟩
  have p0 := keep hb1 (a := ⟨w.heap.size, 0, none⟩) (v := .int .i64 s) (by simp)
  have p1 := keep hb1 (a := ⟨w.heap.size, 1, none⟩) (v := .slice (some ⟨b, off, none⟩) N c) (by simp)
  obtain ⟨h10, h11, f20, f21⟩ := boxG (w.heap.size + 1) hb1 (by simp)
  have hx3 := hx2.below hb1
  replace hck2 := keep hb1 hck2
  have hB1 : Below w.heap.size w w1 := Below.trans (by (repeat (first | exact Below.refl _ _ | assumption | refine Below.alloc ?_ (by simp <;> omega) _ | refine Below.setCell ?_ (by simp <;> omega) _ | refine Below.drew ?_ | refine below_drewN ?_))) (hb1.mono (by simp <;> omega))
  clear hb1 hB0
  go_wp2_with fail
  refine (isSetOf_any s a _ hs).mono ?_; rw [HIN.out]; rintro e w' ⟨rfl, rfl⟩
  go_wp2_with fail
  refine wp_region_ov_tail 13 (by kernel_rfl) (by kernel_rfl) (fun _ _ _ _ _ h => h) ?_
  simp only [List.take_succ_cons, List.take_zero, List.drop_succ_cons, List.drop_zero]
  repeat (first | go_big_quiet_step ((first | (go_at_call 213; (with_reducible exact ov_call (HC1.out _ (hx3.below (ov_below _ _))))) | (go_at_call 48; (with_reducible exact ov_call (HC2.out _ (hx3.below (ov_below _ _))))) | (go_at_call 47; (with_reducible exact ov_call (HC4.out _))))) | quiet_step ((first | (go_at_call 213; (with_reducible exact ov_call (HC1.out _ (hx3.below (ov_below _ _))))) | (go_at_call 48; (with_reducible exact ov_call (HC2.out _ (hx3.below (ov_below _ _))))) | (go_at_call 47; (with_reducible exact ov_call (HC4.out _))))))
  refine wpQuiet_nil ?_
  intro _ hw_ov
  obtain ⟨x_ov, hw_ov2⟩ := hw_ov
  subst hw_ov2
  obtain ⟨w4, hw_ov3, hb4⟩ := ov_gen _ x_ov
  rw [hw_ov3]
  clear hw_ov3 x_ov
  replace f20 := keepF hb4 h10 f20
  replace f21 := keepF hb4 h11 f21
  replace h10 := keep hb4 h10
  replace h11 := keep hb4 h11
  have hB4 := chain hB1 hb4
  clear hb4 p0 p1 hck2
  go_wp2
  refine bodyPost_ret (v := .tuple #[.agg #[.int .i64 fn.num, .int .i64 fn.den], .bool fn.ok]) (by simp [results, Tryz.results205, go_sem, h10, h11, f20, f21]) rfl ⟨?_, ?_⟩
  · rfl
  · (repeat (first | exact Below.refl _ _ | assumption | refine Below.alloc ?_ (by first | omega | (simp <;> omega)) _ | refine Below.setCell ?_ (by first | omega | (simp <;> omega)) _ | refine Below.drew ?_ | refine below_drewN ?_))
end Go.Proofs.YtefmlbahmakboaaGreatDoor
