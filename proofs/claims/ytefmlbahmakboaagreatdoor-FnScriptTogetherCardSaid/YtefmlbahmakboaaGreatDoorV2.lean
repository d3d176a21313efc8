/- Measures of the program: PossibilityOf, MeanSize, ContourOf, TableOf (common); texts of fractions. Measures of the program: PossibilityOf, MeanSize, ContourOf, TableOf (common); texts of fractions. BeliefOf on both sides, in general; ChanceOf where nothing is told; the commands belief, possible, chance, size, contour, table. -/
import Derived.Test.YtefmlbahmakboaaGreatDoorE6
import Derived.Test.YtefmlbahmakboaaGreatDoorE11
import Derived.Test.YtefmlbahmakboaaGreatDoorS2
import Derived.Test.YtefmlbahmakboaaGreatDoorT9
import Derived.Test.YtefmlbahmakboaaGreatDoorU5
import Derived.Test.YtefmlbahmakboaaGreatDoorU8
import Derived.Test.YtefmlbahmakboaaGreatDoorU10
set_option linter.unusedSimpArgs false
set_option linter.unusedVariables false
namespace Go.Proofs.YtefmlbahmakboaaGreatDoor
open Go.RowKit
set_option maxHeartbeats 2000000 in
theorem PossibilityOf_of (s : Int) (a : Nat) (ao : Option Addr) (n c : Nat) (xs : List Int) (w : World) (hx : IntsAt w ao n xs) (hm : massOk s xs = true) (ha : a < xs.length) :
    Calls Tryz.prog 206 #[.agg #[.int .i64 s, .slice ao n c], .int .i64 a] w fun e w' => e = .returned (.tuple #[.agg #[.int .i64 (redF (dot (predI (meetB a)) xs xs.length) (isum xs)).num, .int .i64 (redF (dot (predI (meetB a)) xs xs.length) (isum xs)).den], .bool (redF (dot (predI (meetB a)) xs xs.length) (isum xs)).ok]) ∧ Below w.heap.size w w' := by
  obtain ⟨hs, hl, h16, hxb, s1, s2, _⟩ := massOk_facts hm
  have hN := nsets_le hs
  have hin : inB 0 ((nsets s : Int) - 1) a = true := inB_iff.2 (by omega)
  obtain rfl : n = xs.length := hx.len.symm
  have hev := sub_bdS (meetB a) hm
  obtain ⟨N, hNe⟩ : ∃ N, xs.length = N := ⟨_, rfl⟩
  rw [hNe] at hx h16 ha hev ⊢
  have HNB : Hid (∀ k, k < N → 0 ≤ nth xs k ∧ nth xs k ≤ 1000000) := by show ∀ k, k < N → _; rw [← hNe]; exact hxb
  have ha16 : a < 16 := by omega
  obtain ⟨E, hE⟩ : ∃ E, dot (predI (meetB a)) xs N = E := ⟨_, rfl⟩
  obtain ⟨W, hW⟩ : ∃ W, isum xs = W := ⟨_, rfl⟩
  rw [hE] at hev
  rw [hE, hW]
  rw [hW] at s1 s2
  have HC1 : Hid (∀ w', IntsAt w' ao N xs → Calls Tryz.prog 96 #[.agg #[.int .i64 s, .slice ao N c], .int .i64 a] w' fun e w'' => e = .returned (.int .i64 E) ∧ Below w'.heap.size w' w'') := fun w' h1 => by rw [← hE]; exact possiblePart_any _ a _ _ _ xs w' h1 ha16 h16 HNB.out
  have HC2 : Hid (∀ w', IntsAt w' ao N xs → Calls Tryz.prog 48 #[.agg #[.int .i64 s, .slice ao N c]] w' fun e w'' => e = .returned (.int .i64 W) ∧ Below w'.heap.size w' w'') := fun w' h1 => by rw [← hW]; exact wholeOf_any _ _ _ _ xs w' h1 (fun k hk => by have := HNB.out k hk; omega) h16
  obtain ⟨fn, hfn⟩ : ∃ r, redF E W = r := ⟨_, rfl⟩
  rw [hfn]
  have HC4 : Hid (∀ w', Calls Tryz.prog 47 #[.int .i64 E, .int .i64 W] w' fun e w'' => e = .returned (.tuple #[.agg #[.int .i64 fn.num, .int .i64 fn.den], .bool fn.ok]) ∧ Below w'.heap.size w' w'') := fun w' => by rw [← hfn]; exact lowest_any _ _ w' (by omega) (by omega) (by omega) (by omega) (by omega)
  have hB0 : Below w.heap.size w ((w.alloc (.cells #[.int .i64 s, .slice ao N c] 25)).alloc (.cells #[.int .i64 0, .int .i64 0] 33)) := by (repeat (first | exact Below.refl _ _ | assumption | refine Below.alloc ?_ (by first | omega | (simp <;> omega)) _ | refine Below.setCell ?_ (by first | omega | (simp <;> omega)) _ | refine Below.drew ?_ | refine below_drewN ?_))
  have hx2 := hx.below hB0
  have HM := hid hm
  have HIN := hid hin
  clear hl hxb hE hW hNe hfn hin hm
  go_enter Tryz.func206, Tryz.ntmps206
  go_wp2_with fail
  refine (isMass_any _ _ _ _ xs _ hx2).mono ?_; rw [HM.out]; rintro e w1 ⟨rfl, hb1⟩
  have p0 := keep hb1 (a := ⟨w.heap.size, 0, none⟩) (v := .int .i64 s) (by simp)
  have p1 := keep hb1 (a := ⟨w.heap.size, 1, none⟩) (v := .slice ao N c) (by simp)
  obtain ⟨h10, h11, f20, f21⟩ := boxG (w.heap.size + 1) hb1 (by simp)
  have hx3 := hx2.below hb1
  have hB1 : Below w.heap.size w w1 := Below.trans (by (repeat (first | exact Below.refl _ _ | assumption | refine Below.alloc ?_ (by simp <;> omega) _ | refine Below.setCell ?_ (by simp <;> omega) _ | refine Below.drew ?_ | refine below_drewN ?_))) (hb1.mono (by simp <;> omega))
  clear hb1 hB0
  go_wp2_with fail
  refine (isSetOf_any s a _ hs).mono ?_; rw [HIN.out]; rintro e w' ⟨rfl, rfl⟩
  go_wp2_with fail
  refine wp_region_ov_tail 8 (by kernel_rfl) (by kernel_rfl) (fun _ _ _ _ _ h => h) ?_
  simp only [List.take_succ_cons, List.take_zero, List.drop_succ_cons, List.drop_zero]
  repeat (first | go_big_quiet_step ((first | (go_at_call 96; (with_reducible exact ov_call (HC1.out _ (hx3.below (ov_below _ _))))) | (go_at_call 48; (with_reducible exact ov_call (HC2.out _ (hx3.below (ov_below _ _))))) | (go_at_call 47; (with_reducible exact ov_call (HC4.out _))))) | quiet_step ((first | (go_at_call 96; (with_reducible exact ov_call (HC1.out _ (hx3.below (ov_below _ _))))) | (go_at_call 48; (with_reducible exact ov_call (HC2.out _ (hx3.below (ov_below _ _))))) | (go_at_call 47; (with_reducible exact ov_call (HC4.out _))))))
  refine wpQuiet_nil ?_
  intro _ hw_ov
  obtain ⟨x_ov, hw_ov2⟩ := hw_ov
  subst hw_ov2
  obtain ⟨w4, hw_ov3, hb4⟩ := ov_gen _ x_ov
  rw [hw_ov3]
  clear hw_ov3 x_ov
  replace f20 := keepF hb4 h10 f20
  replace f21 := keepF hb4 h11 f21
  replace h10 := keep hb4 h10
  replace h11 := keep hb4 h11
  have hB4 := chain hB1 hb4
  clear hb4 p0 p1
  go_wp2
  refine bodyPost_ret (v := .tuple #[.agg #[.int .i64 fn.num, .int .i64 fn.den], .bool fn.ok]) (by simp [results, Tryz.results206, go_sem, h10, h11, f20, f21]) rfl ⟨?_, ?_⟩
  · rfl
  · (repeat (first | exact Below.refl _ _ | assumption | refine Below.alloc ?_ (by first | omega | (simp <;> omega)) _ | refine Below.setCell ?_ (by first | omega | (simp <;> omega)) _ | refine Below.drew ?_ | refine below_drewN ?_))
def sizeTo (xs : List Int) (k : Nat) : Int := iter (fun a t => t + nth xs a * (cnt a : Int)) 0 k
theorem sizeTo_bd {xs : List Int} {n : Nat} (hn : n ≤ 16) (h : ∀ k, k < n → 0 ≤ nth xs k ∧ nth xs k ≤ 1000000) : ∀ k, k ≤ n → 0 ≤ sizeTo xs k ∧ sizeTo xs k ≤ 4000000 * (k : Int) := by
  intro k
  induction k with
  | zero => intro _; exact ⟨Int.le_refl _, by simp [sizeTo, iter]⟩
  | succ k ih =>
    intro hk
    have h1 := ih (by omega)
    have h2 := h k (by omega)
    have h3 := cnt_le k (by omega)
    have e : sizeTo xs (k + 1) = sizeTo xs k + nth xs k * (cnt k : Int) := rfl
    have m1 : 0 ≤ nth xs k * (cnt k : Int) := Int.mul_nonneg h2.1 (by omega)
    have m2 : nth xs k * (cnt k : Int) ≤ 4000000 := by
      have := Int.mul_le_mul h2.2 (show (cnt k : Int) ≤ 4 by omega) (by omega) (by omega)
      omega
    rw [e]; omega
set_option maxRecDepth 100000 in
set_option maxHeartbeats 2000000 in
theorem MeanSize_of (s : Int) (ao : Option Addr) (n c : Nat) (xs : List Int) (w : World) (hx : IntsAt w ao n xs) (hm : massOk s xs = true) :
    Calls Tryz.prog 208 #[.agg #[.int .i64 s, .slice ao n c]] w fun e w' => e = .returned (.tuple #[.agg #[.int .i64 (redF (sizeTo xs xs.length) (isum xs)).num, .int .i64 (redF (sizeTo xs xs.length) (isum xs)).den], .bool (redF (sizeTo xs xs.length) (isum xs)).ok]) ∧ Below w.heap.size w w' := by
  obtain ⟨hs, hl, h16, hxb, s1, s2, _⟩ := massOk_facts hm
  have hN := nsets_le hs
  obtain rfl : n = xs.length := hx.len.symm
  obtain ⟨N, hNe⟩ : ∃ N, xs.length = N := ⟨_, rfl⟩
  rw [hNe] at hx h16 ⊢
  have HNB : Hid (∀ k, k < N → 0 ≤ nth xs k ∧ nth xs k ≤ 1000000) := by show ∀ k, k < N → _; rw [← hNe]; exact hxb
  have HSB := hid (sizeTo_bd h16 HNB.out)
  have hev := HSB.out N (Nat.le_refl _)
  obtain ⟨W, hW⟩ : ∃ W, isum xs = W := ⟨_, rfl⟩
  obtain ⟨fn, hfn⟩ : ∃ r, redF (sizeTo xs N) (isum xs) = r := ⟨_, rfl⟩
  rw [hfn]
  rw [hW] at hfn s1 s2
  have HC2 : Hid (∀ w', IntsAt w' ao N xs → Calls Tryz.prog 48 #[.agg #[.int .i64 s, .slice ao N c]] w' fun e w'' => e = .returned (.int .i64 W) ∧ Below w'.heap.size w' w'') := fun w' h1 => by rw [← hW]; exact wholeOf_any _ _ _ _ xs w' h1 (fun k hk => by have := HNB.out k hk; omega) h16
  have HC4 : Hid (∀ w', Calls Tryz.prog 47 #[.int .i64 (sizeTo xs N), .int .i64 W] w' fun e w'' => e = .returned (.tuple #[.agg #[.int .i64 fn.num, .int .i64 fn.den], .bool fn.ok]) ∧ Below w'.heap.size w' w'') := fun w' => by rw [← hfn]; exact lowest_any _ _ w' (by omega) (by omega) (by omega) (by omega) (by omega)
  have hB0 : Below w.heap.size w ((w.alloc (.cells #[.int .i64 s, .slice ao N c] 25)).alloc (.cells #[.int .i64 0, .int .i64 0] 33)) := by (repeat (first | exact Below.refl _ _ | assumption | refine Below.alloc ?_ (by first | omega | (simp <;> omega)) _ | refine Below.setCell ?_ (by first | omega | (simp <;> omega)) _ | refine Below.drew ?_ | refine below_drewN ?_))
  have hx2 := hx.below hB0
  have HM := hid hm
  clear hl hxb hW hNe hfn hm hev
  go_enter Tryz.func208, Tryz.ntmps208
  go_wp2_with fail
  refine (isMass_any _ _ _ _ xs _ hx2).mono ?_; rw [HM.out]; rintro e w1 ⟨rfl, hb1⟩
  have p0 := keep hb1 (a := ⟨w.heap.size, 0, none⟩) (v := .int .i64 s) (by simp)
  have p1 := keep hb1 (a := ⟨w.heap.size, 1, none⟩) (v := .slice ao N c) (by simp)
  obtain ⟨h10, h11, f20, f21⟩ := boxG (w.heap.size + 1) hb1 (by simp)
  have hx3 := hx2.below hb1
  have hB1 : Below w.heap.size w w1 := Below.trans (by (repeat (first | exact Below.refl _ _ | assumption | refine Below.alloc ?_ (by simp <;> omega) _ | refine Below.setCell ?_ (by simp <;> omega) _ | refine Below.drew ?_ | refine below_drewN ?_))) (hb1.mono (by simp <;> omega))
  clear hb1 hB0 hx2
  go_wp2
  go_loop [4, 5, 6, 14] (fun t _ _ i => ∃ k : Nat, k ≤ N ∧ i = .int .i64 k ∧ t = .int .i64 (sizeTo xs k)) (fun _ _ _ i => N - (intOf i).toNat)
  case atStart => exact ⟨0, by omega, rfl, rfl⟩
  case round =>
    obtain ⟨k, hk, rfl, rfl⟩ := hrel
    by_cases hlt : k < N
    · obtain ⟨b, off, rfl, hbs, hbs', hck⟩ := hx.at hB1 hlt
      have hp := HNB.out k hlt
      have he := HSB.out k hk
      have hc := cnt_le k (by omega)
      have HN : Hid (sizeTo xs (k + 1) = sizeTo xs k + nth xs k * (cnt k : Int)) := rfl
      have hk16 : (k : Int) ≤ 16 := by omega
      obtain ⟨q, HQ⟩ : ∃ q : Nat, Hid (cnt k = q) := ⟨_, rfl⟩
      rw [HQ.out] at hc HN
      have hm1 : 0 ≤ nth xs k * (q : Int) := Int.mul_nonneg hp.1 (by omega)
      have hm2 : nth xs k * (q : Int) ≤ 4000000 := by
        have := Int.mul_le_mul hp.2 (show (q : Int) ≤ 4 by omega) (by omega) (by omega)
        omega
      have hu : IntKind.u64.wrap (k : Int) = (k : Int) := by rw [IntWalk.u64_in]; omega
      go_wp2_with (go_at_call 120; refine (OnesCount_any _ _ (by omega)).mono ?_; rw [HQ.out]; rintro e w' ⟨rfl, rfl⟩)
      go_round
      case rel => first | exact ⟨k + 1, by omega, by go_num, by rw [HN.out]⟩ | exact ⟨_, ⟨k + 1, by omega, by go_num, by rw [HN.out]⟩, rfl⟩ | exact ⟨_, _, ⟨k + 1, by omega, by go_num, by rw [HN.out]⟩, rfl, rfl⟩ | exact ⟨_, _, _, ⟨k + 1, by omega, by go_num, by rw [HN.out]⟩, rfl, rfl, rfl⟩ | exact ⟨_, _, _, _, ⟨k + 1, by omega, by go_num, by rw [HN.out]⟩, rfl, rfl, rfl, rfl⟩ | exact ⟨_, _, _, _, _, ⟨k + 1, by omega, by go_num, by rw [HN.out]⟩, rfl, rfl, rfl, rfl, rfl⟩
      case measure => simp [intOf]; omega
    · obtain rfl : k = N := by omega
      go_wp2_with fail
      refine (HC2.out _ hx3).mono ?_; rintro e w2 ⟨rfl, hb2⟩
      replace f20 := keepF hb2 h10 f20
      replace f21 := keepF hb2 h11 f21
      replace h10 := keep hb2 h10
      replace h11 := keep hb2 h11
      have hB2 := chain hB1 hb2
      clear hb2 p0 p1
      go_wp2_with fail
      refine (HC4.out _).mono ?_; rintro e w4 ⟨rfl, hb4⟩
      replace f20 := keepF hb4 h10 f20
      replace f21 := keepF hb4 h11 f21
      replace h10 := keep hb4 h10
      replace h11 := keep hb4 h11
      have hB4 := chain hB2 hb4
      clear hb4
      go_wp2
      refine bodyPost_ret (v := .tuple #[.agg #[.int .i64 fn.num, .int .i64 fn.den], .bool fn.ok]) (by simp [results, Tryz.results208, go_sem, h10, h11, f20, f21]) rfl ⟨?_, ?_⟩
      · rfl
      · (repeat (first | exact Below.refl _ _ | assumption | refine Below.alloc ?_ (by first | omega | (simp <;> omega)) _ | refine Below.setCell ?_ (by first | omega | (simp <;> omega)) _ | refine Below.drew ?_ | refine below_drewN ?_))
/-- how possible each answer is -/
def contL (s : Int) (xs : List Int) : List Int := scTo (fun k => dot (predI (meetB (2 ^ k))) xs xs.length) s.toNat
set_option maxRecDepth 100000 in
set_option maxHeartbeats 4000000 in
theorem contourOf_of (s : Int) (ao : Option Addr) (n c : Nat) (xs : List Int) (w : World) (hx : IntsAt w ao n xs) (hm : massOk s xs = true) :
    Calls Tryz.prog 247 #[.agg #[.int .i64 s, .slice ao n c]] w fun e w' => (∃ v, e = .returned v ∧ Row w' w.heap.size v (contL s xs)) ∧ Below w.heap.size w w' := by
  obtain ⟨hs, hl, h16, hxb, s1, s2, _⟩ := massOk_facts hm
  have hN := nsets_le hs
  have hs4 : 1 ≤ s ∧ s ≤ 4 := by rcases okSize_iff.1 hs with h | h | h | h <;> omega
  obtain ⟨M, rfl⟩ : ∃ M : Nat, s = (M : Int) := ⟨s.toNat, by omega⟩
  obtain rfl : n = xs.length := hx.len.symm
  obtain ⟨N, hNe⟩ : ∃ N, xs.length = N := ⟨_, rfl⟩
  rw [hNe] at hx h16
  have HNB : Hid (∀ k, k < N → 0 ≤ nth xs k ∧ nth xs k ≤ 1000000) := by show ∀ k, k < N → _; rw [← hNe]; exact hxb
  obtain ⟨f, HF⟩ : ∃ f : Nat → Int, Hid ((fun k => dot (predI (meetB (2 ^ k))) xs N) = f) := ⟨_, rfl⟩
  have HF2 : Hid (∀ k, dot (predI (meetB (2 ^ k))) xs N = f k) := fun k => by rw [← HF.out]
  have HCL : Hid (contL (M : Int) xs = scTo f M) := by rw [Hid, ← HF.out, ← hNe]; rfl
  rw [HCL.out, hNe]
  clear hl hxb hNe hm hs hN s1 s2
  go_enter Tryz.func247, Tryz.ntmps247
  go_wp2
  obtain ⟨w1, hw1⟩ : ∃ W, (w.alloc (.cells #[.int .i64 (M : Int), .slice ao N c] 25)).alloc (.cells #[] 3) = W := ⟨_, rfl⟩
  have hp0 : w1.cell? ⟨w.heap.size, 0, none⟩ = some (.int .i64 (M : Int)) := by rw [← hw1]; simp
  have hp1 : w1.cell? ⟨w.heap.size, 1, none⟩ = some (.slice ao N c) := by rw [← hw1]; simp
  have hr1 : Row w1 (w.heap.size + 1) (.slice (some ⟨w.heap.size + 1, 0, none⟩) 0 0) (scTo f 0) := by
    have : Row ((w.alloc (.cells #[.int .i64 (M : Int), .slice ao N c] 25)).alloc (.cells #[] 3)) (w.alloc (.cells #[.int .i64 (M : Int), .slice ao N c] 25)).heap.size (.slice (some ⟨(w.alloc (.cells #[.int .i64 (M : Int), .slice ao N c] 25)).heap.size, 0, none⟩) 0 0) [] := World.ownsRow_lit _ #[] 0 (Nat.le_refl _) (by unfold maxLen; omega) rfl
    rw [hw1] at this
    simpa [scTo, iter] using this
  have hB1 : Below w.heap.size w w1 := by rw [← hw1]; (repeat (first | exact Below.refl _ _ | assumption | refine Below.alloc ?_ (by first | omega | (simp <;> omega)) _ | refine Below.setCell ?_ (by first | omega | (simp <;> omega)) _ | refine Below.drew ?_ | refine below_drewN ?_))
  have hz1 : w.heap.size + 1 < w1.heap.size := by rw [← hw1]; simp
  rw [hw1]
  clear hw1
  go_loopw [3, 4, 8] (fun o _ i wr => ∃ (k : Nat) (v : Value), k ≤ M ∧ i = .int .i64 k ∧ o = v ∧ Row wr (w.heap.size + 1) v (scTo f k) ∧ Below (w.heap.size + 1) w1 wr ∧ w1.heap.size ≤ wr.heap.size) (fun _ _ i _ => M - (intOf i).toNat)
  case atStart => exact ⟨0, _, by omega, rfl, rfl, hr1, Below.refl _ _, Nat.le_refl _⟩
  case round =>
    obtain ⟨k, v, hk, rfl, rfl, hrow, hBr, hzr⟩ := hrel
    have hB : Below w.heap.size w wr := hB1.trans (hBr.mono (by omega))
    have hq0 := keepB hBr (by omega) hp0
    have hq1 := keepB hBr (by omega) hp1
    by_cases hlt : k < M
    · have HLn := hid (scTo_len f k)
      have hk0 : (0 : Int) ≤ (k : Int) := by omega
      have hk1 : (k : Int) < (M : Int) := by omega
      have hsh := shl_nat k (by omega)
      have h2k : 2 ^ k < 16 := by
        rcases (show k = 0 ∨ k = 1 ∨ k = 2 ∨ k = 3 by omega) with rfl | rfl | rfl | rfl <;> decide
      obtain ⟨q, HQ⟩ : ∃ q : Nat, Hid (2 ^ k = q) := ⟨_, rfl⟩
      have HFK : Hid (dot (predI (meetB q)) xs N = f k) := by rw [← HQ.out]; exact HF2.out k
      rw [HQ.out] at hsh h2k
      have hnk : ¬ (k : Int) < 0 := by omega
      have HPP : Hid (∀ w', IntsAt w' ao N xs → Calls Tryz.prog 96 #[.agg #[.int .i64 (M : Int), .slice ao N c], .int .i64 (q : Int)] w' fun e w'' => e = .returned (.int .i64 (f k)) ∧ Below w'.heap.size w' w'') := fun w' h1 => by rw [← HFK.out]; exact possiblePart_any _ q _ _ _ xs w' h1 h2k h16 HNB.out
      go_wp2
      refine wp_region_ov_tail1 5 _ _ (by kernel_rfl) (by kernel_rfl) rfl rfl rfl (fun _ _ _ _ _ h => h) ⟨_, rfl⟩ ?_
      simp only [List.take_succ_cons, List.take_zero, List.drop_succ_cons, List.drop_zero]
      repeat (first | go_big_quiet_step ((go_at_call 96; (with_reducible exact ov_call (HPP.out _ ((hx.below hB).below (ov_below _ _)))))) | quiet_step ((go_at_call 96; (with_reducible exact ov_call (HPP.out _ ((hx.below hB).below (ov_below _ _)))))))
      refine wpQuiet_nil ?_
      intro _ hw_ov
      obtain ⟨x_ov, hw_ov2⟩ := hw_ov
      subst hw_ov2
      obtain ⟨w3, hw_ov3, hb3⟩ := ov_gen _ x_ov
      rw [hw_ov3]
      clear hw_ov3 x_ov
      have hrow3 := hrow.below hb3
      have hz3 := hb3.size
      go_wp2_with (at_builtin; refine wpList_append_int rfl _ _ rfl (w.heap.size + 1) _ _ k HLn.out (by rfl) (hrow3.below (below_alloc w3 _)) _ _ (f k) (by rfl) (by simp) (by omega) (by simp; omega) ?_; intro g' c' w' hrow' hgrow)
      have HB' := hid (below_grownBy (B := w.heap.size + 1) ((hBr.trans (hb3.mono (by omega))).alloc (by omega) _) (by simp; omega) hgrow (fun b e => (hrow3.block b e).1))
      have hz' : w1.heap.size ≤ w'.heap.size := by have := hgrow.size; simp at this; omega
      clear hgrow hrow hrow3 hB hBr hb3
      go_roundw
      case rel => first | exact ⟨k + 1, _, by omega, by go_num, rfl, hrow', HB'.out, hz'⟩ | exact ⟨_, ⟨k + 1, _, by omega, by go_num, rfl, hrow', HB'.out, hz'⟩, rfl⟩ | exact ⟨_, _, ⟨k + 1, _, by omega, by go_num, rfl, hrow', HB'.out, hz'⟩, rfl, rfl⟩ | exact ⟨_, _, _, ⟨k + 1, _, by omega, by go_num, rfl, hrow', HB'.out, hz'⟩, rfl, rfl, rfl⟩ | exact ⟨_, _, _, _, ⟨k + 1, _, by omega, by go_num, rfl, hrow', HB'.out, hz'⟩, rfl, rfl, rfl, rfl⟩ | exact ⟨_, _, _, _, _, ⟨k + 1, _, by omega, by go_num, rfl, hrow', HB'.out, hz'⟩, rfl, rfl, rfl, rfl, rfl⟩
      case measure => simp [intOf]; omega
    · obtain rfl : k = M := by omega
      go_wp2
      go_ret
      exact ⟨⟨_, rfl, hrow.mono (by omega)⟩, hB⟩
set_option maxHeartbeats 1000000 in
theorem ContourOf_of (s : Int) (ao : Option Addr) (n c : Nat) (xs : List Int) (w : World) (hx : IntsAt w ao n xs) (hm : massOk s xs = true) :
    Calls Tryz.prog 209 #[.agg #[.int .i64 s, .slice ao n c]] w fun e w' => (∃ v, e = .returned v ∧ Row w' w.heap.size v (contL s xs)) ∧ Below w.heap.size w w' := by
  have HM := hid hm
  clear hm
  go_enter Tryz.func209, Tryz.ntmps209
  go_wp2_with fail
  refine (isMass_any _ _ _ _ xs _ (hx.below (by (repeat (first | exact Below.refl _ _ | assumption | refine Below.alloc ?_ (by first | omega | (simp <;> omega)) _ | refine Below.setCell ?_ (by first | omega | (simp <;> omega)) _ | refine Below.drew ?_ | refine below_drewN ?_))))).mono ?_; rw [HM.out]; rintro e w1 ⟨rfl, hb1⟩
  have p0 := keep hb1 (a := ⟨w.heap.size, 0, none⟩) (v := .int .i64 s) (by simp)
  have p1 := keep hb1 (a := ⟨w.heap.size, 1, none⟩) (v := .slice ao n c) (by simp)
  have hB1 : Below w.heap.size w w1 := Below.trans (by (repeat (first | exact Below.refl _ _ | assumption | refine Below.alloc ?_ (by first | omega | (simp <;> omega)) _ | refine Below.setCell ?_ (by first | omega | (simp <;> omega)) _ | refine Below.drew ?_ | refine below_drewN ?_))) (hb1.mono (by simp <;> omega))
  clear hb1
  go_wp2_with fail
  refine (contourOf_of s _ _ _ xs _ (hx.below hB1) HM.out).mono ?_; rintro e w2 ⟨⟨v, rfl, hr⟩, hb2⟩
  go_wp2
  go_ret
  exact ⟨⟨_, rfl, hr.mono (by have := hB1.size; omega)⟩, chain hB1 hb2⟩
/-- the text of a fraction -/
def fracT (a b : Int) : List UInt8 := if fracOk a b then (if b = 1 then Lib.itoa a else Lib.itoa a ++ 47 :: Lib.itoa b) else []
theorem frac_facts {a b : Int} (h : fracOk a b = true) : -1000000000 ≤ a ∧ a ≤ 1000000000 ∧ 1 ≤ b ∧ b ≤ 1000000000 := by
  unfold fracOk at h
  simp only [Bool.and_eq_true, inB_iff] at h
  omega
theorem itoa_len11 {x : Int} (h0 : -1000000000 ≤ x) (h1 : x ≤ 1000000000) : (Lib.itoa x).length ≤ 30 := by have := Lib.itoa_length_le x (by omega) (by omega); omega
theorem fracT_len (a b : Int) : (fracT a b).length ≤ 70 := by
  unfold fracT
  split
  · rename_i h
    obtain ⟨h1, h2, h3, h4⟩ := frac_facts h
    have e1 := itoa_len11 h1 h2
    have e2 := itoa_len11 (x := b) (by omega) h4
    split
    · omega
    · simp; omega
  · simp
set_option maxHeartbeats 1000000 in
theorem FormatFraction_any (a b : Int) (w : World) (hp : Pow w) :
    Calls Tryz.prog 53 #[.agg #[.int .i64 a, .int .i64 b]] w fun e w' => e = .returned (.string (bs (fracT a b))) ∧ Below w.heap.size w w' := by
  cases ho : fracOk a b
  · have HT : Hid (fracT a b = []) := by rw [Hid]; unfold fracT; rw [ho]; rfl
    rw [HT.out]
    go_enter Tryz.func53, Tryz.ntmps53
    go_wp2_with fail
    refine (isFraction_any _ _ _).mono ?_; rw [ho]; rintro e w1 ⟨rfl, hb1⟩
    have hB1 : Below w.heap.size w w1 := Below.trans (by (repeat (first | exact Below.refl _ _ | assumption | refine Below.alloc ?_ (by first | omega | (simp <;> omega)) _ | refine Below.setCell ?_ (by first | omega | (simp <;> omega)) _ | refine Below.drew ?_ | refine below_drewN ?_))) (hb1.mono (by simp <;> omega))
    clear hb1
    go_wp2
    go_ret
    exact ⟨rfl, hB1⟩
  · obtain ⟨h1, h2, h3, h4⟩ := frac_facts ho
    have e1 := itoa_len11 h1 h2
    have e2 := itoa_len11 (x := b) (by omega) h4
    by_cases hb1 : b = 1
    · have HT : Hid (fracT a b = Lib.itoa a) := by rw [Hid]; unfold fracT; rw [ho, if_pos rfl, if_pos hb1]
      rw [HT.out]
      subst hb1
      have HO := hid ho
      clear ho
      go_enter Tryz.func53, Tryz.ntmps53
      go_wp2_with fail
      refine (isFraction_any _ _ _).mono ?_; rw [HO.out]; rintro e w1 ⟨rfl, hb1⟩
      have p0 := keep hb1 (a := ⟨w.heap.size, 0, none⟩) (v := .int .i64 a) (by simp)
      have p1 := keep hb1 (a := ⟨w.heap.size, 1, none⟩) (v := .int .i64 1) (by simp)
      have hB1 : Below w.heap.size w w1 := Below.trans (by (repeat (first | exact Below.refl _ _ | assumption | refine Below.alloc ?_ (by first | omega | (simp <;> omega)) _ | refine Below.setCell ?_ (by first | omega | (simp <;> omega)) _ | refine Below.drew ?_ | refine below_drewN ?_))) (hb1.mono (by simp <;> omega))
      clear hb1
      go_wp2_with fail
      refine (Itoa_any a (by omega) (by omega) _ (hp.below hB1)).mono ?_; rintro e w2 ⟨rfl, hb2⟩
      replace p0 := keep hb2 p0
      replace p1 := keep hb2 p1
      have hB2 := chain hB1 hb2
      clear hb2
      go_wp2
      go_ret
      exact ⟨rfl, hB2⟩
    · have hbn : (b == 1) = false := beq_eq_false_iff_ne.2 hb1
      have hbn2 : (b != 1) = true := bne_iff_ne.2 hb1
      obtain ⟨A, hA⟩ : ∃ A, Lib.itoa a = A := ⟨_, rfl⟩
      obtain ⟨B, hB⟩ : ∃ B, Lib.itoa b = B := ⟨_, rfl⟩
      have HT : Hid (bs (fracT a b) = bs A ++ (ByteArray.mk #[47] ++ bs B)) := by
        rw [Hid]; unfold fracT; rw [ho, if_pos rfl, if_neg hb1, hA, hB, show ByteArray.mk #[47] = bs [47] from rfl, bs_append, bs_append]; rfl
      rw [HT.out]
      rw [hA] at e1
      rw [hB] at e2
      have kz1 : ¬ 9223372036854775807 < (ByteArray.mk #[47]).size + (bs B).size := by rw [bs_size]; simp [ByteArray.size]; omega
      have kz2 : ¬ 9223372036854775807 < (bs A).size + (ByteArray.mk #[47] ++ bs B).size := by rw [ByteArray.size_append, bs_size, bs_size]; simp [ByteArray.size]; omega
      have HO := hid ho
      have HA := hid hA; have HBB := hid hB
      clear ho hA hB
      go_enter Tryz.func53, Tryz.ntmps53
      go_wp2_with fail
      refine (isFraction_any _ _ _).mono ?_; rw [HO.out]; rintro e w1 ⟨rfl, hb1⟩
      have p0 := keep hb1 (a := ⟨w.heap.size, 0, none⟩) (v := .int .i64 a) (by simp)
      have p1 := keep hb1 (a := ⟨w.heap.size, 1, none⟩) (v := .int .i64 b) (by simp)
      have hB1 : Below w.heap.size w w1 := Below.trans (by (repeat (first | exact Below.refl _ _ | assumption | refine Below.alloc ?_ (by first | omega | (simp <;> omega)) _ | refine Below.setCell ?_ (by first | omega | (simp <;> omega)) _ | refine Below.drew ?_ | refine below_drewN ?_))) (hb1.mono (by simp <;> omega))
      clear hb1
      go_wp2_with fail
      refine (Itoa_any a (by omega) (by omega) _ (hp.below hB1)).mono ?_; rw [HA.out]; rintro e w2 ⟨rfl, hb2⟩
      replace p0 := keep hb2 p0
      replace p1 := keep hb2 p1
      have hB2 := chain hB1 hb2
      clear hb2
      go_wp2_with fail
      refine (Itoa_any b (by omega) (by omega) _ (hp.below hB2)).mono ?_; rw [HBB.out]; rintro e w3 ⟨rfl, hb3⟩
      have hB3 := chain hB2 hb3
      clear hb3
      go_wp2
      go_ret
      exact ⟨rfl, hB3⟩
/-- what is told of a fraction -/
def tellF (f : FR) : List UInt8 := if f.ok then fracT f.num f.den else [110, 111]
theorem tellF_len (f : FR) : (tellF f).length ≤ 70 := by
  unfold tellF; split
  · exact fracT_len _ _
  · simp
theorem fractionOr_any (f : FR) (w : World) (hp : Pow w) :
    Calls Tryz.prog 105 #[.agg #[.int .i64 f.num, .int .i64 f.den], .bool f.ok] w fun e w' => e = .returned (.string (bs (tellF f))) ∧ Below w.heap.size w w' := by
  cases ho : f.ok
  · have HT : Hid (bs (tellF f) = ByteArray.mk #[110, 111]) := by rw [Hid]; unfold tellF; rw [ho]; rfl
    rw [HT.out]
    clear ho
    go_enter Tryz.func105, Tryz.ntmps105
    go_wp2
    go_ret
    exact ⟨rfl, by (repeat (first | exact Below.refl _ _ | assumption | refine Below.alloc ?_ (by first | omega | (simp <;> omega)) _ | refine Below.setCell ?_ (by first | omega | (simp <;> omega)) _ | refine Below.drew ?_ | refine below_drewN ?_))⟩
  · have HT : Hid (tellF f = fracT f.num f.den) := by rw [Hid]; unfold tellF; rw [ho]; rfl
    rw [HT.out]
    clear ho
    go_enter Tryz.func105, Tryz.ntmps105
    go_wp2_with fail
    refine (FormatFraction_any _ _ _ (hp.below (by (repeat (first | exact Below.refl _ _ | assumption | refine Below.alloc ?_ (by first | omega | (simp <;> omega)) _ | refine Below.setCell ?_ (by first | omega | (simp <;> omega)) _ | refine Below.drew ?_ | refine below_drewN ?_))))).mono ?_; rintro e w1 ⟨rfl, hb1⟩
    go_wp2
    go_ret
    exact ⟨rfl, Below.trans (by (repeat (first | exact Below.refl _ _ | assumption | refine Below.alloc ?_ (by first | omega | (simp <;> omega)) _ | refine Below.setCell ?_ (by first | omega | (simp <;> omega)) _ | refine Below.drew ?_ | refine below_drewN ?_))) (hb1.mono (by simp <;> omega))⟩
/-- is set a in set b? -/
def supB (a : Nat) (b : Nat) : Bool := decide (a &&& b = a)
theorem comClos_any (a b B : Nat) (w : World) (ha : a < 16) (hb : b < 16) (hB : w.cell? ⟨B, 0, none⟩ = some (.int .i64 a)) :
    Calls Tryz.prog 214 #[.int .i64 b, .pointer (some ⟨B, 0, none⟩)] w fun e w' => e = .returned (.bool (supB a b)) ∧ w = w' := by
  have h := andNot_sub ⟨b, hb⟩ ⟨a, ha⟩
  go_enter Tryz.func214, Tryz.ntmps214
  go_wp2
  go_ret
  exact ⟨ret_bool (by simp [supB, h]), rfl⟩
theorem comClos_call (vs : Array Value) (w' : World) : Sem.run Tryz.prog (callFunc 214 vs) w' = .ok (.enter 214 vs) w' := by
  have h1 : (Tryz.f214.name == "runtime.NumGoroutine") = false := by kernel_rfl
  have h2 : Tryz.f214.body.isNone = false := by kernel_rfl
  have h1' : ¬ Tryz.f214.name = "runtime.NumGoroutine" := by simpa using h1
  have h2' : ¬ Tryz.f214.body = none := by intro e; rw [e] at h2; simp at h2
  simp only [callFunc, Sem.run_bind, run_program, Result.andThen_ok, Tryz.func214, beq_iff_eq, Option.isNone_iff_eq_none, if_neg h1', if_neg h2', Sem.run_pure]
theorem com_call (vs : Array Value) (w' : World) : Sem.run Tryz.prog (callFunc 163 vs) w' = .ok (.enter 163 vs) w' := by
  have h1 : (Tryz.f163.name == "runtime.NumGoroutine") = false := by kernel_rfl
  have h2 : Tryz.f163.body.isNone = false := by kernel_rfl
  have h1' : ¬ Tryz.f163.name = "runtime.NumGoroutine" := by simpa using h1
  have h2' : ¬ Tryz.f163.body = none := by intro e; rw [e] at h2; simp at h2
  simp only [callFunc, Sem.run_bind, run_program, Result.andThen_ok, Tryz.func163, beq_iff_eq, Option.isNone_iff_eq_none, if_neg h1', if_neg h2', Sem.run_pure]
theorem CommonPart_of (s : Int) (a : Nat) (ao : Option Addr) (n c : Nat) (xs : List Int) (w : World) (hx : IntsAt w ao n xs) (hm : massOk s xs = true) (ha : a < nsets s) :
    Calls Tryz.prog 163 #[.agg #[.int .i64 s, .slice ao n c], .int .i64 a] w fun e w' => e = .returned (.int .i64 (dot (predI (supB a)) xs n)) ∧ Below w.heap.size w w' := by
  obtain ⟨hs, hl, h16, hb, _⟩ := massOk_facts hm
  have hxl := hx.len
  have hN := nsets_le hs
  have hin : inB 0 ((nsets s : Int) - 1) a = true := inB_iff.2 (by omega)
  have HXB : Hid (∀ k, k < n → 0 ≤ nth xs k ∧ nth xs k ≤ 1000000) := fun k hk => hb k (by omega)
  have hn : n ≤ 16 := by omega
  have ha16 : a < 16 := by omega
  have HM := hid hm
  clear hb hl h16 hm
  go_enter Tryz.func163, Tryz.ntmps163
  go_wp2_with fail
  refine (isMass_any _ _ _ _ xs _ (hx.below (by (repeat (first | exact Below.refl _ _ | assumption | refine Below.alloc ?_ (by first | omega | (simp <;> omega)) _ | refine Below.setCell ?_ (by first | omega | (simp <;> omega)) _ | refine Below.drew ?_ | refine below_drewN ?_))))).mono ?_; rw [HM.out]; rintro e w1 ⟨rfl, hb⟩
  have p0 := keep hb (a := ⟨w.heap.size, 0, none⟩) (v := .int .i64 s) (by simp)
  have p1 := keep hb (a := ⟨w.heap.size, 1, none⟩) (v := .slice ao n c) (by simp)
  have q0 := keep hb (a := ⟨w.heap.size + 1, 0, none⟩) (v := .int .i64 a) (by simp)
  have hB1 : Below w.heap.size w w1 := Below.trans (by (repeat (first | exact Below.refl _ _ | assumption | refine Below.alloc ?_ (by first | omega | (simp <;> omega)) _ | refine Below.setCell ?_ (by first | omega | (simp <;> omega)) _ | refine Below.drew ?_ | refine below_drewN ?_))) (hb.mono (by simp <;> omega))
  clear hb
  go_wp2_with fail
  refine (isSetOf_any s a _ hs).mono ?_; rw [hin]; rintro e w' ⟨rfl, rfl⟩
  go_wp2_with fail
  refine (sumOver_any s ao n c xs 214 _ (supB a) _ (hx.below hB1) comClos_call ?_ hn HXB.out).mono ?_
  · intro b w' hb hlt
    exact comClos_any a b (w.heap.size + 1) w' ha16 (by omega) (keep hb q0)
  rintro e w2 ⟨rfl, hb⟩
  go_wp2
  go_ret
  exact ⟨rfl, chain hB1 hb⟩
/-- what could still go to all answers of each set -/
def comL (xs : List Int) : List Int := scTo (fun a => dot (predI (supB a)) xs xs.length) xs.length
set_option maxRecDepth 100000 in
set_option maxHeartbeats 400000 in
theorem TableOf_common (s : Int) (ao : Option Addr) (n c : Nat) (xs : List Int) (w : World) (hx : IntsAt w ao n xs) (hm : massOk s xs = true) :
    Calls Tryz.prog 102 #[.agg #[.int .i64 s, .slice ao n c], .string (ByteArray.mk #[99, 111, 109, 109, 111, 110])] w fun e w' => (∃ v, e = .returned v ∧ Row w' w.heap.size v (comL xs)) ∧ Below w.heap.size w w' := by
  obtain ⟨hs, hl, h16, hxb, s1, s2, _⟩ := massOk_facts hm
  have hN := nsets_le hs
  obtain rfl : n = xs.length := hx.len.symm
  obtain ⟨N, hNe⟩ : ∃ N, xs.length = N := ⟨_, rfl⟩
  rw [hNe] at hx h16
  have HNS : Hid (N = nsets s) := by show N = nsets s; omega
  obtain ⟨f, HF⟩ : ∃ f : Nat → Int, Hid ((fun a => dot (predI (supB a)) xs N) = f) := ⟨_, rfl⟩
  have HF2 : Hid (∀ k, dot (predI (supB k)) xs N = f k) := fun k => by rw [← HF.out]
  have HCL : Hid (comL xs = scTo f N) := by rw [Hid, ← HF.out, ← hNe]; rfl
  rw [HCL.out, hNe]
  have HM := hid hm
  clear hl hxb hNe hm hs s1 s2 hN
  have hcc := com_call
  go_enter Tryz.func102, Tryz.ntmps102
  go_wp2_with fail
  refine (isMass_any _ _ _ _ xs _ (hx.below (by (repeat (first | exact Below.refl _ _ | assumption | refine Below.alloc ?_ (by first | omega | (simp <;> omega)) _ | refine Below.setCell ?_ (by first | omega | (simp <;> omega)) _ | refine Below.drew ?_ | refine below_drewN ?_))))).mono ?_; rw [HM.out]; rintro e w2 ⟨rfl, hb2⟩
  have g0 := keep hb2 (a := ⟨w.heap.size, 0, none⟩) (v := .int .i64 s) (by simp)
  have g1 := keep hb2 (a := ⟨w.heap.size, 1, none⟩) (v := .slice ao N c) (by simp)
  have hB2 : Below w.heap.size w w2 := Below.trans (by (repeat (first | exact Below.refl _ _ | assumption | refine Below.alloc ?_ (by first | omega | (simp <;> omega)) _ | refine Below.setCell ?_ (by first | omega | (simp <;> omega)) _ | refine Below.drew ?_ | refine below_drewN ?_))) (hb2.mono (by simp <;> omega))
  have hz2 : w.heap.size < w2.heap.size := by have := World.block_lt_of_cell? w2 _ g0; simpa using this
  clear hb2
  go_wp2
  obtain ⟨w1, hw1⟩ : ∃ W, w2.alloc (.cells #[] 3) = W := ⟨_, rfl⟩
  have hb12 : Below w2.heap.size w2 w1 := by rw [← hw1]; exact below_alloc _ _
  have hp0 := keep hb12 g0
  have hp1 := keep hb12 g1
  obtain ⟨Z, hZ⟩ : ∃ Z, w2.heap.size = Z := ⟨_, rfl⟩
  have hr1 : Row w1 Z (.slice (some ⟨Z, 0, none⟩) 0 0) (scTo f 0) := by
    have : Row (w2.alloc (.cells #[] 3)) w2.heap.size (.slice (some ⟨w2.heap.size, 0, none⟩) 0 0) [] := World.ownsRow_lit _ #[] 0 (Nat.le_refl _) (by unfold maxLen; omega) rfl
    rw [hw1, hZ] at this
    simpa [scTo, iter] using this
  have hB1 : Below w.heap.size w w1 := chain hB2 hb12
  have hz1 : Z < w1.heap.size := by rw [← hw1, ← hZ]; simp
  rw [hw1, hZ]
  rw [hZ] at hz2
  clear hw1 hb12 g0 g1 hZ hB2
  go_loopw [6, 7, 24] (fun o _ i wr => ∃ (k : Nat) (v : Value), k ≤ N ∧ i = .int .i64 k ∧ o = v ∧ Row wr Z v (scTo f k) ∧ Below Z w1 wr ∧ w1.heap.size ≤ wr.heap.size) (fun _ _ i _ => N - (intOf i).toNat)
  case atStart => exact ⟨0, _, by omega, rfl, rfl, hr1, Below.refl _ _, Nat.le_refl _⟩
  case round =>
    obtain ⟨k, v, hk, rfl, rfl, hrow, hBr, hzr⟩ := hrel
    have hB : Below w.heap.size w wr := hB1.trans (hBr.mono (by omega))
    have hq0 := keepB hBr (by omega) hp0
    have hq1 := keepB hBr (by omega) hp1
    by_cases hlt : k < N
    · have HLn := hid (scTo_len f k)
      have hk0 : (0 : Int) ≤ (k : Int) := by omega
      have hk1 : (k : Int) < (N : Int) := by omega
      have HFK := hid (HF2.out k)
      go_wp2_with fail
      refine (CommonPart_of s k ao N c xs _ (hx.below hB) HM.out (by rw [← HNS.out]; exact hlt)).mono ?_; rintro e w3 ⟨rfl, hb3⟩
      have hrow3 := hrow.below hb3
      rw [HFK.out]
      have hz3 := hb3.size
      go_wp2_with (at_builtin; refine wpList_append_int rfl _ _ rfl Z _ _ k HLn.out (by rfl) (hrow3.below (below_alloc w3 _)) _ _ (f k) (by rfl) (by simp) (by omega) (by simp; omega) ?_; intro g' c' w' hrow' hgrow)
      have HB' := hid (below_grownBy (B := Z) ((hBr.trans (hb3.mono (by omega))).alloc (by omega) _) (by simp; omega) hgrow (fun b e => (hrow3.block b e).1))
      have hz' : w1.heap.size ≤ w'.heap.size := by have := hgrow.size; simp at this; omega
      clear hgrow hrow hrow3 hB hBr hb3
      go_roundw
      case rel => first | exact ⟨k + 1, _, by omega, by go_num, rfl, hrow', HB'.out, hz'⟩ | exact ⟨_, ⟨k + 1, _, by omega, by go_num, rfl, hrow', HB'.out, hz'⟩, rfl⟩ | exact ⟨_, _, ⟨k + 1, _, by omega, by go_num, rfl, hrow', HB'.out, hz'⟩, rfl, rfl⟩ | exact ⟨_, _, _, ⟨k + 1, _, by omega, by go_num, rfl, hrow', HB'.out, hz'⟩, rfl, rfl, rfl⟩ | exact ⟨_, _, _, _, ⟨k + 1, _, by omega, by go_num, rfl, hrow', HB'.out, hz'⟩, rfl, rfl, rfl, rfl⟩ | exact ⟨_, _, _, _, _, ⟨k + 1, _, by omega, by go_num, rfl, hrow', HB'.out, hz'⟩, rfl, rfl, rfl, rfl, rfl⟩
      case measure => simp [intOf]; omega
    · obtain rfl : k = N := by omega
      go_wp2
      go_ret
      exact ⟨⟨_, rfl, hrow.mono (by omega)⟩, hB⟩
/-- how much a set is believed -/
def belF (s : Int) (xs : List Int) (a : Int) : FR := if massOk s xs && setOk s a then redF (dot (predI (subB a.toNat)) xs xs.length - nth xs 0) (isum xs) else FR.no
theorem belF_no {s : Int} {xs : List Int} {a : Int} (h : (massOk s xs && setOk s a) = false) : belF s xs a = FR.no := by unfold belF; rw [h]; rfl
theorem belF_yes {s : Int} {xs : List Int} {a : Nat} (h : (massOk s xs && setOk s (a : Int)) = true) : belF s xs (a : Int) = redF (dot (predI (subB a)) xs xs.length - nth xs 0) (isum xs) := by unfold belF; rw [h, Int.toNat_natCast]; rfl
/-- the chance of a set, if parts are shared -/
def chaF (xs : List Int) (a : Nat) : FR := if isum xs = nth xs 0 then FR.no else redF (evenTo xs a xs.length) (12 * (isum xs - nth xs 0))
theorem at0_le (q j : Nat) : at1 0 j ≤ predI (subB q) j := by
  unfold at1 predI
  by_cases h : j = 0
  · subst h
    have e : subB q 0 = true := by unfold subB; simp
    rw [if_pos rfl, e]; simp
  · rw [if_neg h]; split <;> omega
theorem bel_ge {s : Int} {xs : List Int} (h : massOk s xs = true) (q : Nat) : 0 ≤ dot (predI (subB q)) xs xs.length - nth xs 0 ∧ dot (predI (subB q)) xs xs.length ≤ 1000000 ∧ 0 ≤ nth xs 0 ∧ nth xs 0 ≤ 1000000 ∧ nth xs 0 ≤ isum xs := by
  obtain ⟨hs, hl, h16, hxb, h1, h2, _⟩ := massOk_facts h
  have hN := nsets_le hs
  have h0 := dot_mono xs xs.length (fun j hj => (hxb j hj).1) (fun j _ _ => at0_le q j)
  rw [dot_at1, if_pos (by omega)] at h0
  have h3 := (sub_bdS (subB q) h).2
  have h4 := hxb 0 (by omega)
  have h5 := dot_mono (g := at1 0) (h := fun _ => 1) xs xs.length (fun j hj => (hxb j hj).1) (fun j _ _ => by unfold at1; split <;> omega)
  rw [dot_at1, if_pos (by omega), dot_one] at h5
  exact ⟨by omega, h3, h4.1, h4.2, h5⟩
set_option maxHeartbeats 1000000 in
theorem BeliefOf_all (s a : Int) (ao : Option Addr) (n c : Nat) (xs : List Int) (w : World) (hx : IntsAt w ao n xs) :
    Calls Tryz.prog 205 #[.agg #[.int .i64 s, .slice ao n c], .int .i64 a] w fun e w' => e = .returned (.tuple #[.agg #[.int .i64 (belF s xs a).num, .int .i64 (belF s xs a).den], .bool (belF s xs a).ok]) ∧ Below w.heap.size w w' := by
  have hxx := hx.below (w' := (w.alloc (.cells #[.int .i64 s, .slice ao n c] 25)).alloc (.cells #[.int .i64 0, .int .i64 0] 33)) (by (repeat (first | exact Below.refl _ _ | assumption | refine Below.alloc ?_ (by first | omega | (simp <;> omega)) _ | refine Below.setCell ?_ (by first | omega | (simp <;> omega)) _ | refine Below.drew ?_ | refine below_drewN ?_)))
  cases hm : massOk s xs
  · have HR : Hid (belF s xs a = FR.no) := belF_no (by rw [hm]; rfl)
    rw [HR.out]
    go_enter Tryz.func205, Tryz.ntmps205
    go_wp2_with fail
    refine (isMass_any _ _ _ _ xs _ hxx).mono ?_; rw [hm]; rintro e w1 ⟨rfl, hb1⟩
    obtain ⟨h10, h11, f20, f21⟩ := boxG (w.heap.size + 1) hb1 (by simp)
    have hB1 : Below w.heap.size w w1 := Below.trans (by (repeat (first | exact Below.refl _ _ | assumption | refine Below.alloc ?_ (by first | omega | (simp <;> omega)) _ | refine Below.setCell ?_ (by first | omega | (simp <;> omega)) _ | refine Below.drew ?_ | refine below_drewN ?_))) (hb1.mono (by simp <;> omega))
    clear hb1
    go_wp2
    refine bodyPost_ret (v := .tuple #[.agg #[.int .i64 0, .int .i64 0], .bool false]) (by simp [results, Tryz.results205, go_sem, h10, h11]) rfl ⟨?_, ?_⟩
    · rfl
    · (repeat (first | exact Below.refl _ _ | assumption | refine Below.alloc ?_ (by first | omega | (simp <;> omega)) _ | refine Below.setCell ?_ (by first | omega | (simp <;> omega)) _ | refine Below.drew ?_ | refine below_drewN ?_))
  · cases hset : setOk s a
    · have HR : Hid (belF s xs a = FR.no) := belF_no (by rw [hset, Bool.and_false])
      obtain ⟨hs, _⟩ := massOk_facts hm
      have hin : inB 0 ((nsets s : Int) - 1) a = false := by simpa [setOk, hs] using hset
      rw [HR.out]
      have HM := hid hm
      clear hm
      go_enter Tryz.func205, Tryz.ntmps205
      go_wp2_with fail
      refine (isMass_any _ _ _ _ xs _ hxx).mono ?_; rw [HM.out]; rintro e w1 ⟨rfl, hb1⟩
      obtain ⟨h10, h11, f20, f21⟩ := boxG (w.heap.size + 1) hb1 (by simp)
      have p0 := keep hb1 (a := ⟨w.heap.size, 0, none⟩) (v := .int .i64 s) (by simp)
      have p1 := keep hb1 (a := ⟨w.heap.size, 1, none⟩) (v := .slice ao n c) (by simp)
      have hB1 : Below w.heap.size w w1 := Below.trans (by (repeat (first | exact Below.refl _ _ | assumption | refine Below.alloc ?_ (by first | omega | (simp <;> omega)) _ | refine Below.setCell ?_ (by first | omega | (simp <;> omega)) _ | refine Below.drew ?_ | refine below_drewN ?_))) (hb1.mono (by simp <;> omega))
      clear hb1
      go_wp2_with fail
      refine (isSetOf_any s a _ hs).mono ?_; rw [hin]; rintro e w' ⟨rfl, rfl⟩
      go_wp2
      refine bodyPost_ret (v := .tuple #[.agg #[.int .i64 0, .int .i64 0], .bool false]) (by simp [results, Tryz.results205, go_sem, h10, h11]) rfl ⟨?_, ?_⟩
      · rfl
      · (repeat (first | exact Below.refl _ _ | assumption | refine Below.alloc ?_ (by first | omega | (simp <;> omega)) _ | refine Below.setCell ?_ (by first | omega | (simp <;> omega)) _ | refine Below.drew ?_ | refine below_drewN ?_))
    · obtain ⟨hs, hl, _⟩ := massOk_facts hm
      have hin : inB 0 ((nsets s : Int) - 1) a = true := by simpa [setOk, hs] using hset
      obtain ⟨q, rfl⟩ : ∃ q : Nat, a = (q : Int) := ⟨a.toNat, by have := inB_iff.1 hin; omega⟩
      rw [belF_yes (by rw [hm, hset]; rfl)]
      exact BeliefOf_any s q ao n c xs w hx hm (by have := inB_iff.1 hin; omega)
set_option maxHeartbeats 2000000 in
theorem ChanceOf_none (s : Int) (a : Nat) (ao : Option Addr) (n c : Nat) (xs : List Int) (w : World) (hx : IntsAt w ao n xs) (hm : massOk s xs = true) (ha : a < xs.length) (hn0 : isum xs = nth xs 0) :
    Calls Tryz.prog 207 #[.agg #[.int .i64 s, .slice ao n c], .int .i64 a] w fun e w' => e = .returned (.tuple #[.agg #[.int .i64 0, .int .i64 0], .bool false]) ∧ Below w.heap.size w w' := by
  obtain ⟨hs, hl, h16, hxb, s1, s2, _⟩ := massOk_facts hm
  have hN := nsets_le hs
  have hin : inB 0 ((nsets s : Int) - 1) a = true := inB_iff.2 (by omega)
  obtain rfl : n = xs.length := hx.len.symm
  have hev := evenTo_bd xs a xs.length h16 hxb xs.length (Nat.le_refl _)
  have hz := hxb 0 (by omega)
  have HXB := hid hxb
  obtain ⟨N, hNe⟩ : ∃ N, xs.length = N := ⟨_, rfl⟩
  rw [hNe] at hx h16 ha hev ⊢
  have HNE := hid hNe
  have HNB : Hid (∀ k, k < N → 0 ≤ nth xs k ∧ nth xs k ≤ 1000000) := by show ∀ k, k < N → _; rw [← hNe]; exact hxb
  have hN0 : 0 < N := by omega
  obtain ⟨E, hE⟩ : ∃ E, evenTo xs a N = E := ⟨_, rfl⟩
  obtain ⟨W, hW⟩ : ∃ W, isum xs = W := ⟨_, rfl⟩
  obtain ⟨z, hzz⟩ : ∃ z, nth xs 0 = z := ⟨_, rfl⟩
  rw [hE] at hev
  rw [hW] at s1 s2 hn0
  rw [hzz] at hz hn0
  have hne : (W == z) = true := by simp; omega
  obtain ⟨b, off, rfl, hb1, hb2, hck⟩ := hx.at (Below.refl _ _) hN0
  rw [Nat.add_zero, hzz] at hck
  have HC0 : Hid (∀ w', IntsAt w' (some ⟨b, off, none⟩) N xs → Calls Tryz.prog 42 #[.agg #[.int .i64 s, .slice (some ⟨b, off, none⟩) N c]] w' fun e w'' => e = .returned (.bool true) ∧ Below w'.heap.size w' w'') := fun w' h1 => by rw [← hm]; exact isMass_any _ _ _ _ xs _ h1
  have HC2 : Hid (∀ w', IntsAt w' (some ⟨b, off, none⟩) N xs → Calls Tryz.prog 48 #[.agg #[.int .i64 s, .slice (some ⟨b, off, none⟩) N c]] w' fun e w'' => e = .returned (.int .i64 W) ∧ Below w'.heap.size w' w'') := fun w' h1 => by rw [← hW]; exact wholeOf_any _ _ _ _ xs w' h1 (fun k hk => by have := HNB.out k hk; omega) h16
  have HC3 : Hid (∀ w', Calls Tryz.prog 159 #[.int .i64 s, .int .i64 a] w' fun e w'' => e = .returned (.bool true) ∧ w' = w'') := fun w' => by rw [← hin]; exact isSetOf_any s a w' hs
  have hB0 : Below w.heap.size w ((w.alloc (.cells #[.int .i64 s, .slice (some ⟨b, off, none⟩) N c] 25)).alloc (.cells #[.int .i64 0, .int .i64 0] 33)) := by (repeat (first | exact Below.refl _ _ | assumption | refine Below.alloc ?_ (by first | omega | (simp <;> omega)) _ | refine Below.setCell ?_ (by first | omega | (simp <;> omega)) _ | refine Below.drew ?_ | refine below_drewN ?_))
  have hx2 := hx.below hB0
  have hck2 := keep hB0 hck
  clear hm hs hl hxb hE hW hzz hNe hin hck
  go_enter Tryz.func207, Tryz.ntmps207
  go_wp2_with fail
  obtain ⟨w1, hw1⟩ : ∃ w1, (w.alloc (.cells #[.int .i64 s, .slice (some ⟨b, off, none⟩) N c] 25)).alloc (.cells #[.int .i64 0, .int .i64 0] 33) = w1 := ⟨_, rfl⟩
  rw [hw1]
  rw [hw1] at hB0 hx2 hck2
  have p0 : w1.cell? ⟨w.heap.size, 0, none⟩ = some (.int .i64 s) := by rw [← hw1]; simp
  have p1 : w1.cell? ⟨w.heap.size, 1, none⟩ = some (.slice (some ⟨b, off, none⟩) N c) := by rw [← hw1]; simp
  have h10 : w1.cell? ⟨w.heap.size + 1, 0, none⟩ = some (.int .i64 0) := by rw [← hw1]; simp
  have h11 : w1.cell? ⟨w.heap.size + 1, 1, none⟩ = some (.int .i64 0) := by rw [← hw1]; simp
  have f20 : w1.frozen? ⟨w.heap.size + 1, 0, none⟩ = false := by rw [← hw1]; simp
  have f21 : w1.frozen? ⟨w.heap.size + 1, 1, none⟩ = false := by rw [← hw1]; simp
  clear hw1 hx
  refine wp_region_ov (by kernel_rfl) (by kernel_rfl) ?_
  repeat (first | go_big_quiet_step ((first | (go_at_call 42; (with_reducible exact ov_call (HC0.out _ (hx2.below (ov_below _ _))))) | (go_at_call 159; (with_reducible exact ov_same (HC3.out _))) | (go_at_call 48; (with_reducible exact ov_call (HC2.out _ (hx2.below (ov_below _ _))))))) | quiet_step ((first | (go_at_call 42; (with_reducible exact ov_call (HC0.out _ (hx2.below (ov_below _ _))))) | (go_at_call 159; (with_reducible exact ov_same (HC3.out _))) | (go_at_call 48; (with_reducible exact ov_call (HC2.out _ (hx2.below (ov_below _ _))))))))
  refine wpQuiet_nil ?_
  intro _ hw_ov
  obtain ⟨x_ov, hw_ov2⟩ := hw_ov
  subst hw_ov2
  obtain ⟨w3, hw_ov3, hb3⟩ := ov_gen _ x_ov
  rw [hw_ov3]
  clear hw_ov3 x_ov
  have hx3 := hx2.below hb3
  replace f20 := keepF hb3 h10 f20
  replace f21 := keepF hb3 h11 f21
  replace h10 := keep hb3 h10
  replace h11 := keep hb3 h11
  replace p0 := keep hb3 p0
  replace p1 := keep hb3 p1
  replace hck2 := keep hb3 hck2
  have hB3 := chain hB0 hb3
  clear hb3 hx2 hB0
  go_wp2
  refine bodyPost_ret (v := .tuple #[.agg #[.int .i64 0, .int .i64 0], .bool false]) (by simp [results, Tryz.results207, go_sem, h10, h11, f20, f21]) rfl ⟨?_, ?_⟩
  · rfl
  · (repeat (first | exact Below.refl _ _ | assumption | refine Below.alloc ?_ (by first | omega | (simp <;> omega)) _ | refine Below.setCell ?_ (by first | omega | (simp <;> omega)) _ | refine Below.drew ?_ | refine below_drewN ?_))
theorem ChanceOf_all (s : Int) (a : Nat) (ao : Option Addr) (n c : Nat) (xs : List Int) (w : World) (hx : IntsAt w ao n xs) (hm : massOk s xs = true) (ha : a < xs.length) :
    Calls Tryz.prog 207 #[.agg #[.int .i64 s, .slice ao n c], .int .i64 a] w fun e w' => e = .returned (.tuple #[.agg #[.int .i64 (chaF xs a).num, .int .i64 (chaF xs a).den], .bool (chaF xs a).ok]) ∧ Below w.heap.size w w' := by
  by_cases h : isum xs = nth xs 0
  · have e : chaF xs a = FR.no := by unfold chaF; rw [if_pos h]
    rw [e]; exact ChanceOf_none s a ao n c xs w hx hm ha h
  · have e : chaF xs a = redF (evenTo xs a xs.length) (12 * (isum xs - nth xs 0)) := by unfold chaF; rw [if_neg h]
    rw [e]; exact ChanceOf_any s a ao n c xs w hx hm ha (by have := (bel_ge hm 0).2.2.2.2; omega)
set_option maxRecDepth 100000 in
set_option maxHeartbeats 2000000 in
theorem pl_belief (d : DS) (a : Nat) (hda : d.a = (a : Int)) (hm : massOk d.s d.xs = true) (ha : a < d.xs.length) : Pl [98, 101, 108, 105, 101, 102] d (tellF (redF (dot (predI (subB a)) d.xs d.xs.length - nth d.xs 0) (isum d.xs))) d := by
  intro w0 w D hv hD hb hd
  rw [show bs [98, 101, 108, 105, 101, 102] = ByteArray.mk #[98, 101, 108, 105, 101, 102] from rfl]
  obtain ⟨f, hf⟩ : ∃ f, redF (dot (predI (subB a)) d.xs d.xs.length - nth d.xs 0) (isum d.xs) = f := ⟨_, rfl⟩
  rw [hf]
  obtain ⟨am, nm, cm, h1, hrm, hnm⟩ := hd.m
  have h0 := hd.c0
  have h4 := hd.c4
  rw [hda] at h4
  have hlt := hd.lt
  have hlv := hv.below hb
  have him := hrm.view
  have HB : Hid (∀ w', IntsAt w' am nm d.xs → Calls Tryz.prog 205 #[.agg #[.int .i64 d.s, .slice am nm cm], .int .i64 (a : Int)] w' fun e w'' => e = .returned (.tuple #[.agg #[.int .i64 f.num, .int .i64 f.den], .bool f.ok]) ∧ Below w'.heap.size w' w'') := fun w' h => by rw [← hf]; exact BeliefOf_any d.s a _ _ _ d.xs w' h hm ha
  have HF : Hid (∀ w', LibV w' → Calls Tryz.prog 105 #[.agg #[.int .i64 f.num, .int .i64 f.den], .bool f.ok] w' fun e w'' => e = .returned (.string (bs (tellF f))) ∧ Below w'.heap.size w' w'') := fun w' h => fractionOr_any f w' h.pow
  have HT : Hid (Calls Tryz.prog 158 #[.pointer (some ⟨D, 0, none⟩), .string (ByteArray.mk #[98, 101, 108, 105, 101, 102])] w fun e w' => e = .returned (.string (bs (tellF f))) ∧ Below w.heap.size w w') := by
    show Calls Tryz.prog 158 #[.pointer (some ⟨D, 0, none⟩), .string (ByteArray.mk #[98, 101, 108, 105, 101, 102])] w fun e w' => e = .returned (.string (bs (tellF f))) ∧ Below w.heap.size w w'
    clear hf hda hm ha hd hv hb hD hrm hnm
    go_enter Tryz.func158, Tryz.ntmps158
    go_wp2_with fail
    refine wp_region_ov (by kernel_rfl) (by kernel_rfl) ?_
    repeat (first | go_big_quiet_step ((first | (go_at_call 205; (with_reducible exact ov_call (HB.out _ (him.below (ov_below _ _))))) | (go_at_call 105; (with_reducible exact ov_call (HF.out _ (hlv.below (ov_below _ _))))))) | quiet_step ((first | (go_at_call 205; (with_reducible exact ov_call (HB.out _ (him.below (ov_below _ _))))) | (go_at_call 105; (with_reducible exact ov_call (HF.out _ (hlv.below (ov_below _ _))))))))
    refine wpQuiet_nil ?_
    intro _ hw_ov
    obtain ⟨x_ov, hw_ov2⟩ := hw_ov
    subst hw_ov2
    obtain ⟨wz, hw_ov3, hbz⟩ := ov_gen _ x_ov
    rw [hw_ov3]
    clear hw_ov3 x_ov
    go_wp2
    go_ret
    exact ⟨rfl, hbz⟩
  clear hf hda hm ha
  go_enter Tryz.func99, Tryz.ntmps99
  go_wp2_with fail
  refine HT.out.mono ?_; rintro e w1 ⟨rfl, hb1⟩
  go_wp2
  go_ret
  exact ⟨rfl, hd.below hb1, Span.of_below hb1⟩
set_option maxRecDepth 100000 in
set_option maxHeartbeats 2000000 in
theorem pl_possible (d : DS) (a : Nat) (hda : d.a = (a : Int)) (hm : massOk d.s d.xs = true) (ha : a < d.xs.length) : Pl [112, 111, 115, 115, 105, 98, 108, 101] d (tellF (redF (dot (predI (meetB a)) d.xs d.xs.length) (isum d.xs))) d := by
  intro w0 w D hv hD hb hd
  rw [show bs [112, 111, 115, 115, 105, 98, 108, 101] = ByteArray.mk #[112, 111, 115, 115, 105, 98, 108, 101] from rfl]
  obtain ⟨f, hf⟩ : ∃ f, redF (dot (predI (meetB a)) d.xs d.xs.length) (isum d.xs) = f := ⟨_, rfl⟩
  rw [hf]
  obtain ⟨am, nm, cm, h1, hrm, hnm⟩ := hd.m
  have h0 := hd.c0
  have h4 := hd.c4
  rw [hda] at h4
  have hlt := hd.lt
  have hlv := hv.below hb
  have him := hrm.view
  have HB : Hid (∀ w', IntsAt w' am nm d.xs → Calls Tryz.prog 206 #[.agg #[.int .i64 d.s, .slice am nm cm], .int .i64 (a : Int)] w' fun e w'' => e = .returned (.tuple #[.agg #[.int .i64 f.num, .int .i64 f.den], .bool f.ok]) ∧ Below w'.heap.size w' w'') := fun w' h => by rw [← hf]; exact PossibilityOf_of d.s a _ _ _ d.xs w' h hm ha
  have HF : Hid (∀ w', LibV w' → Calls Tryz.prog 105 #[.agg #[.int .i64 f.num, .int .i64 f.den], .bool f.ok] w' fun e w'' => e = .returned (.string (bs (tellF f))) ∧ Below w'.heap.size w' w'') := fun w' h => fractionOr_any f w' h.pow
  have HT : Hid (Calls Tryz.prog 158 #[.pointer (some ⟨D, 0, none⟩), .string (ByteArray.mk #[112, 111, 115, 115, 105, 98, 108, 101])] w fun e w' => e = .returned (.string (bs (tellF f))) ∧ Below w.heap.size w w') := by
    show Calls Tryz.prog 158 #[.pointer (some ⟨D, 0, none⟩), .string (ByteArray.mk #[112, 111, 115, 115, 105, 98, 108, 101])] w fun e w' => e = .returned (.string (bs (tellF f))) ∧ Below w.heap.size w w'
    clear hf hda hm ha hd hv hb hD hrm hnm
    go_enter Tryz.func158, Tryz.ntmps158
    go_wp2_with fail
    refine wp_region_ov (by kernel_rfl) (by kernel_rfl) ?_
    repeat (first | go_big_quiet_step ((first | (go_at_call 206; (with_reducible exact ov_call (HB.out _ (him.below (ov_below _ _))))) | (go_at_call 105; (with_reducible exact ov_call (HF.out _ (hlv.below (ov_below _ _))))))) | quiet_step ((first | (go_at_call 206; (with_reducible exact ov_call (HB.out _ (him.below (ov_below _ _))))) | (go_at_call 105; (with_reducible exact ov_call (HF.out _ (hlv.below (ov_below _ _))))))))
    refine wpQuiet_nil ?_
    intro _ hw_ov
    obtain ⟨x_ov, hw_ov2⟩ := hw_ov
    subst hw_ov2
    obtain ⟨wz, hw_ov3, hbz⟩ := ov_gen _ x_ov
    rw [hw_ov3]
    clear hw_ov3 x_ov
    go_wp2
    go_ret
    exact ⟨rfl, hbz⟩
  clear hf hda hm ha
  go_enter Tryz.func99, Tryz.ntmps99
  go_wp2_with fail
  refine HT.out.mono ?_; rintro e w1 ⟨rfl, hb1⟩
  go_wp2
  go_ret
  exact ⟨rfl, hd.below hb1, Span.of_below hb1⟩
set_option maxRecDepth 100000 in
set_option maxHeartbeats 2000000 in
theorem pl_chance (d : DS) (a : Nat) (hda : d.a = (a : Int)) (hm : massOk d.s d.xs = true) (ha : a < d.xs.length) : Pl [99, 104, 97, 110, 99, 101] d (tellF (chaF d.xs a)) d := by
  intro w0 w D hv hD hb hd
  rw [show bs [99, 104, 97, 110, 99, 101] = ByteArray.mk #[99, 104, 97, 110, 99, 101] from rfl]
  obtain ⟨f, hf⟩ : ∃ f, chaF d.xs a = f := ⟨_, rfl⟩
  rw [hf]
  obtain ⟨am, nm, cm, h1, hrm, hnm⟩ := hd.m
  have h0 := hd.c0
  have h4 := hd.c4
  rw [hda] at h4
  have hlt := hd.lt
  have hlv := hv.below hb
  have him := hrm.view
  have HB : Hid (∀ w', IntsAt w' am nm d.xs → Calls Tryz.prog 207 #[.agg #[.int .i64 d.s, .slice am nm cm], .int .i64 (a : Int)] w' fun e w'' => e = .returned (.tuple #[.agg #[.int .i64 f.num, .int .i64 f.den], .bool f.ok]) ∧ Below w'.heap.size w' w'') := fun w' h => by rw [← hf]; exact ChanceOf_all d.s a _ _ _ d.xs w' h hm ha
  have HF : Hid (∀ w', LibV w' → Calls Tryz.prog 105 #[.agg #[.int .i64 f.num, .int .i64 f.den], .bool f.ok] w' fun e w'' => e = .returned (.string (bs (tellF f))) ∧ Below w'.heap.size w' w'') := fun w' h => fractionOr_any f w' h.pow
  have HT : Hid (Calls Tryz.prog 158 #[.pointer (some ⟨D, 0, none⟩), .string (ByteArray.mk #[99, 104, 97, 110, 99, 101])] w fun e w' => e = .returned (.string (bs (tellF f))) ∧ Below w.heap.size w w') := by
    show Calls Tryz.prog 158 #[.pointer (some ⟨D, 0, none⟩), .string (ByteArray.mk #[99, 104, 97, 110, 99, 101])] w fun e w' => e = .returned (.string (bs (tellF f))) ∧ Below w.heap.size w w'
    clear hf hda hm ha hd hv hb hD hrm hnm
    go_enter Tryz.func158, Tryz.ntmps158
    go_wp2_with fail
    refine wp_region_ov (by kernel_rfl) (by kernel_rfl) ?_
    repeat (first | go_big_quiet_step ((first | (go_at_call 207; (with_reducible exact ov_call (HB.out _ (him.below (ov_below _ _))))) | (go_at_call 105; (with_reducible exact ov_call (HF.out _ (hlv.below (ov_below _ _))))))) | quiet_step ((first | (go_at_call 207; (with_reducible exact ov_call (HB.out _ (him.below (ov_below _ _))))) | (go_at_call 105; (with_reducible exact ov_call (HF.out _ (hlv.below (ov_below _ _))))))))
    refine wpQuiet_nil ?_
    intro _ hw_ov
    obtain ⟨x_ov, hw_ov2⟩ := hw_ov
    subst hw_ov2
    obtain ⟨wz, hw_ov3, hbz⟩ := ov_gen _ x_ov
    rw [hw_ov3]
    clear hw_ov3 x_ov
    go_wp2
    go_ret
    exact ⟨rfl, hbz⟩
  clear hf hda hm ha
  go_enter Tryz.func99, Tryz.ntmps99
  go_wp2_with fail
  refine HT.out.mono ?_; rintro e w1 ⟨rfl, hb1⟩
  go_wp2
  go_ret
  exact ⟨rfl, hd.below hb1, Span.of_below hb1⟩
set_option maxRecDepth 100000 in
set_option maxHeartbeats 2000000 in
theorem pl_size (d : DS) (hm : massOk d.s d.xs = true) : Pl [115, 105, 122, 101] d (tellF (redF (sizeTo d.xs d.xs.length) (isum d.xs))) d := by
  intro w0 w D hv hD hb hd
  rw [show bs [115, 105, 122, 101] = ByteArray.mk #[115, 105, 122, 101] from rfl]
  obtain ⟨f, hf⟩ : ∃ f, redF (sizeTo d.xs d.xs.length) (isum d.xs) = f := ⟨_, rfl⟩
  rw [hf]
  obtain ⟨am, nm, cm, h1, hrm, hnm⟩ := hd.m
  have h0 := hd.c0
  have hlt := hd.lt
  have hlv := hv.below hb
  have him := hrm.view
  have HB : Hid (∀ w', IntsAt w' am nm d.xs → Calls Tryz.prog 208 #[.agg #[.int .i64 d.s, .slice am nm cm]] w' fun e w'' => e = .returned (.tuple #[.agg #[.int .i64 f.num, .int .i64 f.den], .bool f.ok]) ∧ Below w'.heap.size w' w'') := fun w' h => by rw [← hf]; exact MeanSize_of d.s _ _ _ d.xs w' h hm
  have HT : Hid (Calls Tryz.prog 158 #[.pointer (some ⟨D, 0, none⟩), .string (ByteArray.mk #[115, 105, 122, 101])] w fun e w' => e = .returned (.string (bs (tellF f))) ∧ Below w.heap.size w w') := by
    show Calls Tryz.prog 158 #[.pointer (some ⟨D, 0, none⟩), .string (ByteArray.mk #[115, 105, 122, 101])] w fun e w' => e = .returned (.string (bs (tellF f))) ∧ Below w.heap.size w w'
    clear hf hm hd hv hb hD hrm hnm
    go_enter Tryz.func158, Tryz.ntmps158
    go_wp2_with fail
    refine (HB.out _ him).mono ?_; rintro e w1 ⟨rfl, hb1⟩
    go_wp2_with fail
    refine (fractionOr_any f _ (hlv.below hb1).pow).mono ?_; rintro e w2 ⟨rfl, hb2⟩
    go_wp2
    go_ret
    exact ⟨rfl, chain hb1 hb2⟩
  clear hf hm
  go_enter Tryz.func99, Tryz.ntmps99
  go_wp2_with fail
  refine HT.out.mono ?_; rintro e w1 ⟨rfl, hb1⟩
  go_wp2
  go_ret
  exact ⟨rfl, hd.below hb1, Span.of_below hb1⟩
theorem I64_of {xs : List Int} (h : ∀ k, k < xs.length → 0 ≤ nth xs k ∧ nth xs k ≤ 1000000) : I64 xs := fun k hk => by have := h k hk; omega
theorem contL_bd {s : Int} {xs : List Int} (hm : massOk s xs = true) : ∀ k, k < (contL s xs).length → 0 ≤ nth (contL s xs) k ∧ nth (contL s xs) k ≤ 1000000 := fun k hk => by
  unfold contL at hk ⊢
  rw [scTo_len] at hk
  rw [scTo_nth _ _ _ hk]
  exact sub_bdS _ hm
theorem contL_len {s : Int} {xs : List Int} (hm : massOk s xs = true) : (contL s xs).length ≤ 4 := by
  obtain ⟨hs, _⟩ := massOk_facts hm
  unfold contL; rw [scTo_len]
  rcases okSize_iff.1 hs with h | h | h | h <;> omega
theorem comL_bd {s : Int} {xs : List Int} (hm : massOk s xs = true) : ∀ k, k < (comL xs).length → 0 ≤ nth (comL xs) k ∧ nth (comL xs) k ≤ 1000000 := fun k hk => by
  unfold comL at hk ⊢
  rw [scTo_len] at hk
  rw [scTo_nth _ _ _ hk]
  exact sub_bdS _ hm
theorem comL_len (xs : List Int) : (comL xs).length = xs.length := by unfold comL; rw [scTo_len]
set_option maxRecDepth 100000 in
set_option maxHeartbeats 2000000 in
theorem pl_contour (d : DS) (hm : massOk d.s d.xs = true) : Pl [99, 111, 110, 116, 111, 117, 114] d (numT (contL d.s d.xs)) d := by
  intro w0 w D hv hD hb hd
  rw [show bs [99, 111, 110, 116, 111, 117, 114] = ByteArray.mk #[99, 111, 110, 116, 111, 117, 114] from rfl]
  obtain ⟨am, nm, cm, h1, hrm, hnm⟩ := hd.m
  have h0 := hd.c0
  have hlt := hd.lt
  have hlv := hv.below hb
  have him := hrm.view
  have HI := hid (I64_of (contL_bd hm))
  have HL := hid (contL_len hm)
  have HM := hid hm
  have HT : Hid (Calls Tryz.prog 158 #[.pointer (some ⟨D, 0, none⟩), .string (ByteArray.mk #[99, 111, 110, 116, 111, 117, 114])] w fun e w' => e = .returned (.string (bs (numT (contL d.s d.xs)))) ∧ Below w.heap.size w w') := by
    show Calls Tryz.prog 158 #[.pointer (some ⟨D, 0, none⟩), .string (ByteArray.mk #[99, 111, 110, 116, 111, 117, 114])] w fun e w' => e = .returned (.string (bs (numT (contL d.s d.xs)))) ∧ Below w.heap.size w w'
    clear hm hd hv hb hD hrm hnm
    go_enter Tryz.func158, Tryz.ntmps158
    go_wp2_with fail
    refine (ContourOf_of d.s _ _ _ d.xs _ him HM.out).mono ?_; rintro e w1 ⟨⟨v, rfl, hr⟩, hb1⟩
    obtain ⟨a, n, c, rfl, hi⟩ := hr.ints
    go_wp2_with fail
    refine (numbersText_any _ _ _ _ _ hi HI.out (by have := hi.len; have := HL.out; omega) (hlv.below hb1).pow).mono ?_; rintro e w2 ⟨rfl, hb2⟩
    go_wp2
    go_ret
    exact ⟨rfl, chain hb1 hb2⟩
  clear hm
  go_enter Tryz.func99, Tryz.ntmps99
  go_wp2_with fail
  refine HT.out.mono ?_; rintro e w1 ⟨rfl, hb1⟩
  go_wp2
  go_ret
  exact ⟨rfl, hd.below hb1, Span.of_below hb1⟩
set_option maxRecDepth 100000 in
set_option maxHeartbeats 2000000 in
theorem run_table (d : DS) (hm : massOk d.s d.xs = true) : Ln ([116, 97, 98, 108, 101] ++ 32 :: [99, 111, 109, 109, 111, 110]) d (numT (comL d.xs)) d := by
  intro w0 w D hv hD hb hd
  have HC := hid (cut_app 32 [116, 97, 98, 108, 101] [99, 111, 109, 109, 111, 110] (by decide))
  have hll : ([116, 97, 98, 108, 101] ++ 32 :: [99, 111, 109, 109, 111, 110] : List UInt8).length ≤ 2000000 := by simp
  have hz0 := hb.size
  have HI := hid (I64_of (comL_bd hm))
  have HL := hid (comL_len d.xs)
  have HM := hid hm
  obtain ⟨_, _, h16, _⟩ := massOk_facts hm
  have hc16 : (comL d.xs).length ≤ 16 := by rw [HL.out]; exact h16
  have hc1 : 1 ≤ (comL d.xs).length := by
    obtain ⟨hs, hl, _⟩ := massOk_facts hm
    have := nsets_le hs
    rw [HL.out]; omega
  obtain ⟨L, hL⟩ : ∃ L, ([116, 97, 98, 108, 101] ++ 32 :: [99, 111, 109, 109, 111, 110] : List UInt8) = L := ⟨_, rfl⟩
  rw [hL] at HC hll ⊢
  clear hL hm h16
  obtain ⟨am, nm, cm, h1, hrm, hnm⟩ := hd.m
  have h0 := hd.c0
  have hlt := hd.lt
  go_enter Tryz.func58, Tryz.ntmps58
  go_wp2_with fail
  refine (cut_any L 32 _ _ _ HC.out hll _ (hv.below hb)).mono ?_; rw [show bs [116, 97, 98, 108, 101] = ByteArray.mk #[116, 97, 98, 108, 101] from rfl, show bs [99, 111, 109, 109, 111, 110] = ByteArray.mk #[99, 111, 109, 109, 111, 110] from rfl]; rintro e w1 ⟨rfl, hb1⟩
  have hd1 := hd.below hb1
  replace h0 := keep hb1 h0
  replace h1 := keep hb1 h1
  have hbb := hb.trans (hb1.mono hz0)
  have him := hrm.view.below hb1
  go_wp2_with fail
  refine (TableOf_common d.s _ _ _ d.xs _ him HM.out).mono ?_; rintro e w2 ⟨⟨v, rfl, hr⟩, hb2⟩
  obtain ⟨a, n, c, rfl, hi⟩ := hr.ints
  have hn := hi.len
  have hnz : ((n : Int) == 0) = false := by rw [beq_eq_false_iff_ne]; omega
  have hbb2 := hbb.trans (hb2.mono hbb.size)
  go_wp2_with fail
  refine (numbersText_any _ _ _ _ _ hi HI.out (by omega) (hv.below hbb2).pow).mono ?_; rintro e w3 ⟨rfl, hb3⟩
  have hd3 := (hd1.below hb2).below hb3
  have hs3 := ((Span.of_below (lo := D) (hi := D + 1) hb1).trans (Span.of_below hb2)).trans (Span.of_below hb3)
  go_wp2
  go_ret
  exact ⟨rfl, hd3, hs3⟩
end Go.Proofs.YtefmlbahmakboaaGreatDoor
