/- The chance of the least mean: the program's WorstChance. -/
import Derived.Test.YtchjnjmlambpjaaW26
import Derived.Test.YtchjnjmlambpjaaW6
import Derived.BigRegion
set_option linter.unusedSimpArgs false
set_option linter.unusedVariables false
namespace Go.Proofs.Ytchjnjmlambpjaa
open Go.RowKit
theorem isNaN_any (x : Int) (w : World) : Calls Try.prog 119 #[.int .i64 x] w fun e w' => e = .returned (.bool false) ∧ w = w' := by
  have hx : (x != x) = false := by simp
  go_enter Try.func119, Try.ntmps119
  go_wp2
  go_ret
  exact ⟨rfl, rfl⟩
def cmpI (x y : Int) : Int := if x < y then -1 else if y < x then 1 else 0
theorem Compare_any (x y : Int) (w : World) : Calls Try.prog 73 #[.int .i64 x, .int .i64 y] w fun e w' => e = .returned (.int .i64 (cmpI x y)) ∧ Below w.heap.size w w' := by
  obtain ⟨r, HR⟩ : ∃ r, Hid (cmpI x y = r) := ⟨_, rfl⟩
  rw [HR.out]
  by_cases h1 : x < y
  · have HE : Hid (r = -1) := by rw [Hid, ← HR.out]; unfold cmpI; rw [if_pos h1]
    go_enter Try.func73, Try.ntmps73
    go_wp2_with fail
    refine (isNaN_any _ _).mono ?_; rintro e w1 ⟨rfl, rfl⟩
    go_wp2_with fail
    refine (isNaN_any _ _).mono ?_; rintro e w1 ⟨rfl, rfl⟩
    go_wp2
    go_ret
    exact ⟨by rw [HE.out]; rfl, Below.refl _ _⟩
  · by_cases h2 : y < x
    · have HE : Hid (r = 1) := by rw [Hid, ← HR.out]; unfold cmpI; rw [if_neg h1, if_pos h2]
      go_enter Try.func73, Try.ntmps73
      go_wp2_with fail
      refine (isNaN_any _ _).mono ?_; rintro e w1 ⟨rfl, rfl⟩
      go_wp2_with fail
      refine (isNaN_any _ _).mono ?_; rintro e w1 ⟨rfl, rfl⟩
      go_wp2
      go_ret
      exact ⟨by rw [HE.out]; rfl, Below.refl _ _⟩
    · have HE : Hid (r = 0) := by rw [Hid, ← HR.out]; unfold cmpI; rw [if_neg h1, if_neg h2]
      go_enter Try.func73, Try.ntmps73
      go_wp2_with fail
      refine (isNaN_any _ _).mono ?_; rintro e w1 ⟨rfl, rfl⟩
      go_wp2_with fail
      refine (isNaN_any _ _).mono ?_; rintro e w1 ⟨rfl, rfl⟩
      go_wp2
      go_ret
      exact ⟨by rw [HE.out]; rfl, Below.refl _ _⟩
theorem worstClos_any (B x y m cg : Nat) (ag : Option Addr) (gs : List Int) (w : World) (hB : w.cell? ⟨B, 0, none⟩ = some (.slice ag m cg)) (hg : IntsAt w ag m gs) (hx : x < m) (hy : y < m) :
    Calls Try.prog 72 #[.int .i64 x, .int .i64 y, .pointer (some ⟨B, 0, none⟩)] w fun e w' => e = .returned (.int .i64 (cmpI (nth gs x) (nth gs y))) ∧ Below w.heap.size w w' := by
  obtain ⟨b, o, rfl, hb1, hb2, hcx⟩ := hg.at (Below.refl _ _) hx
  obtain ⟨b', o', e1, _, _, hcy⟩ := hg.at (Below.refl _ _) hy
  injection e1 with e1
  injection e1 with e2 e3
  subst e2 e3
  have hcap := hg.cap
  have HC : Hid (∀ w', Calls Try.prog 73 #[.int .i64 (nth gs x), .int .i64 (nth gs y)] w' fun e w'' => e = .returned (.int .i64 (cmpI (nth gs x) (nth gs y))) ∧ Below w'.heap.size w' w'') := fun w' => Compare_any _ _ w'
  have hx0 : (0 : Int) ≤ (x : Int) := by omega
  have hx1 : (x : Int) < (m : Int) := by omega
  have hy0 : (0 : Int) ≤ (y : Int) := by omega
  have hy1 : (y : Int) < (m : Int) := by omega
  go_enter Try.func72, Try.ntmps72
  go_wp2
  refine wp_region_ov (by kernel_rfl) (by kernel_rfl) ?_
  repeat (first | go_big_quiet_step ((go_at_call 73; (with_reducible exact ov_call (HC.out _)))) | quiet_step ((go_at_call 73; (with_reducible exact ov_call (HC.out _)))))
  refine wpQuiet_nil ?_
  intro _ hw_ov
  obtain ⟨x_ov, hw_ov2⟩ := hw_ov
  subst hw_ov2
  obtain ⟨w3, hw_ov3, hb3⟩ := ov_gen _ x_ov
  rw [hw_ov3]
  clear hw_ov3 x_ov
  go_wp2
  go_ret
  exact ⟨rfl, hb3⟩
theorem worstClos_call (vs : Array Value) (w' : World) : Sem.run Try.prog (callFunc 72 vs) w' = .ok (.enter 72 vs) w' := by
  have h1 : (Try.f72.name == "runtime.NumGoroutine") = false := by kernel_rfl
  have h2 : Try.f72.body.isNone = false := by kernel_rfl
  have h1' : ¬ Try.f72.name = "runtime.NumGoroutine" := by simpa using h1
  have h2' : ¬ Try.f72.body = none := by intro e; rw [e] at h2; simp at h2
  simp only [callFunc, Sem.run_bind, run_program, Result.andThen_ok, Try.func72, beq_iff_eq, Option.isNone_iff_eq_none, if_neg h1', if_neg h2', Sem.run_pure]
set_option maxHeartbeats 4000000 in
theorem insSort_any (g n c base B : Nat) (gs : List Int) (w : World) (hn1 : 1 ≤ n) (hn : n ≤ 1000) (hr : Row w base (.slice (some ⟨g, 0, none⟩) n c) (restL 0 n))
    (hcmp : ∀ (w' : World) (x y : Nat), w.grownBy w' (some g) → x < n → y < n → Calls Try.prog 72 #[.int .i64 x, .int .i64 y, .pointer (some ⟨B, 0, none⟩)] w' fun e w'' => e = .returned (.int .i64 (cmpI (nth gs x) (nth gs y))) ∧ Below w'.heap.size w' w'') :
    Calls Try.prog 148 #[.slice (some ⟨g, 0, none⟩) n c, .int .i64 0, .int .i64 n, .func (.func 72) #[] #[.pointer (some ⟨B, 0, none⟩)]] w fun e w' => e = .returned (.tuple #[]) ∧ Row w' base (.slice (some ⟨g, 0, none⟩) n c) (sortTo gs n) ∧ w.grownBy w' (some g) := by
  have hcf := worstClos_call
  have HCMP := hid hcmp; clear hcmp
  have hr1 : Row w base (.slice (some ⟨g, 0, none⟩) n c) (sortTo gs 1 ++ restL 1 n) := by rw [restL_cons (show 0 < n by omega)] at hr; exact hr
  clear hr
  go_enter Try.func148, Try.ntmps148
  go_wp2
  go_loopw [8] (fun i wr => ∃ k : Nat, 1 ≤ k ∧ k ≤ n ∧ i = .int .i64 k ∧ Row wr base (.slice (some ⟨g, 0, none⟩) n c) (sortTo gs k ++ restL k n) ∧ w.grownBy wr (some g)) (fun i _ => n - (intOf i).toNat)
  case atStart => exact ⟨1, by omega, hn1, rfl, hr1, grownBy_refl _ _⟩
  case round =>
    clear hr1
    obtain ⟨k, hk1, hk, rfl, hrow, hG⟩ := hrel
    by_cases hlt : k < n
    · have hkl := hid (sortTo_len gs k)
      have hmem := hid (sortTo_mem gs k)
      have HSS := hid (sortTo_succ gs k)
      obtain ⟨l, hl⟩ : ∃ l, Hid (sortTo gs k = l) := ⟨_, rfl⟩
      rw [hl.out] at hkl hmem HSS hrow
      obtain ⟨p0, HP0⟩ : ∃ p, Hid (downTo gs l k k = p) := ⟨_, rfl⟩
      have HEND : Hid (putL l k p0 n = sortTo gs (k + 1) ++ restL (k + 1) n) := by rw [Hid, ← HP0.out, HSS.out]; have := putL_end (gs := gs) (l := l) (i := k) (n := n); rw [hkl.out] at this; exact this
      rw [← putL_start hkl.out hlt] at hrow
      go_wp2
      go_loopw [9] (fun j wr => ∃ q : Nat, q ≤ k ∧ j = .int .i64 q ∧ Row wr base (.slice (some ⟨g, 0, none⟩) n c) (putL l k q n) ∧ downTo gs l k q = p0 ∧ w.grownBy wr (some g)) (fun j _ => (intOf j).toNat)
      case atStart => exact ⟨k, Nat.le_refl _, rfl, hrow, HP0.out, hG⟩
      case round =>
        clear hrow hG
        obtain ⟨q, hq, rfl, hrow, hdn, hG⟩ := hrel
        have HDN := hid hdn; clear hdn
        match q, hq, hrow, HDN with
        | 0, hq, hrow, HDN =>
          go_wp2
          refine wp_region_ov (by kernel_rfl) (by kernel_rfl) ?_
          repeat (first | go_big_quiet_step ((fail)) | quiet_step ((fail)))
          refine wpQuiet_nil ?_
          intro _ hw_ov
          obtain ⟨x_ov, hw_ov2⟩ := hw_ov
          subst hw_ov2
          obtain ⟨w3, hw_ov3, hb3⟩ := ov_gen _ x_ov
          rw [hw_ov3]
          clear hw_ov3 x_ov
          have HR3 : Hid (Row w3 base (.slice (some ⟨g, 0, none⟩) n c) (sortTo gs (k + 1) ++ restL (k + 1) n)) := by rw [Hid, ← HEND.out, ← HDN.out]; exact hrow.below hb3
          have HG3 := hid (grownBy_trans hG (grownBy_below hb3 (some g)))
          clear hb3 hrow hG
          go_wp2
          go_roundw
          case rel => first | exact ⟨k + 1, by omega, by omega, by go_num, HR3.out, HG3.out⟩ | exact ⟨_, ⟨k + 1, by omega, by omega, by go_num, HR3.out, HG3.out⟩, rfl⟩ | exact ⟨_, _, ⟨k + 1, by omega, by omega, by go_num, HR3.out, HG3.out⟩, rfl, rfl⟩ | exact ⟨_, _, _, ⟨k + 1, by omega, by omega, by go_num, HR3.out, HG3.out⟩, rfl, rfl, rfl⟩ | exact ⟨_, _, _, _, ⟨k + 1, by omega, by omega, by go_num, HR3.out, HG3.out⟩, rfl, rfl, rfl, rfl⟩ | exact ⟨_, _, _, _, _, ⟨k + 1, by omega, by omega, by go_num, HR3.out, HG3.out⟩, rfl, rfl, rfl, rfl, rfl⟩
          case measure => simp [intOf]; omega
        | q + 1, hq, hrow, HDN =>
          have hq1n : q + 1 < n := by omega
          have hqn : q < n := by omega
          have hlq : nth l q ∈ l := nth_mem _ _ (by rw [hkl.out]; omega)
          rw [hmem.out] at hlq
          obtain ⟨Y, hY⟩ : ∃ Y : Nat, nth l q = (Y : Int) := ⟨(nth l q).toNat, by omega⟩
          have hYk : Y < k := by omega
          have e1 : nth (putL l k (q + 1) n) (q + 1) = (k : Int) := by rw [putL_nth hkl.out hq, if_neg (by omega), if_pos rfl]
          have e2 : nth (putL l k (q + 1) n) q = (Y : Int) := by rw [putL_nth hkl.out hq, if_pos (by omega), hY]
          obtain ⟨c0, f0, _⟩ := hrow.cellAt hq1n
          obtain ⟨c1, f1, _⟩ := hrow.cellAt hqn
          rw [e1] at c0
          rw [e2] at c1
          have HSW := hid (putL_swap (n := n) hkl.out hq hlt)
          rw [hY] at HSW
          have HDS : Hid (downTo gs l k (q + 1) = if nth gs k < nth gs Y then downTo gs l k q else q + 1) := by rw [Hid]; show (if nth gs k < nth gs (nth l q).toNat then downTo gs l k q else q + 1) = _; rw [hY]; rfl
          obtain ⟨r, hr⟩ : ∃ r, cmpI (nth gs k) (nth gs Y) = r := ⟨_, rfl⟩
          have HC : Hid (∀ w', w.grownBy w' (some g) → Calls Try.prog 72 #[.int .i64 k, .int .i64 Y, .pointer (some ⟨B, 0, none⟩)] w' fun e w'' => e = .returned (.int .i64 r) ∧ Below w'.heap.size w' w'') := fun w' h => by rw [← hr]; exact HCMP.out w' k Y h hlt (by omega)
          clear e1 e2 hY hlq
          have hq0 : (0 : Int) < (q : Int) + 1 := by omega
          have hz : g < wr.heap.size := World.block_lt_of_cell? _ _ c0
          by_cases hless : nth gs k < nth gs Y
          · have hr1 : r = -1 := by rw [← hr]; unfold cmpI; rw [if_pos hless]
            have HDQ : Hid (downTo gs l k q = p0) := by rw [Hid, ← HDN.out, HDS.out, if_pos hless]
            subst hr1
            clear hless hr
            go_wp2
            refine wp_region_ov (by kernel_rfl) (by kernel_rfl) ?_
            repeat (first | go_big_quiet_step ((go_at_call 72; (with_reducible exact ov_call (HC.out _ (grownBy_trans hG (grownBy_below (ov_below _ _) _)))))) | quiet_step ((go_at_call 72; (with_reducible exact ov_call (HC.out _ (grownBy_trans hG (grownBy_below (ov_below _ _) _)))))))
            refine wpQuiet_nil ?_
            intro _ hw_ov
            obtain ⟨x_ov, hw_ov2⟩ := hw_ov
            subst hw_ov2
            obtain ⟨w3, hw_ov3, hb3⟩ := ov_gen _ x_ov
            rw [hw_ov3]
            clear hw_ov3 x_ov
            replace c0 := keep hb3 c0
            replace c1 := keep hb3 c1
            have hrow3 := hrow.below hb3
            have hG3 := grownBy_trans hG (grownBy_below hb3 (some g))
            have g0 := (hrow3.cellAt hq1n).2.1
            have g1 := (hrow3.cellAt hqn).2.1
            obtain ⟨s1, t1⟩ := hrow3.store hq1n (Y : Int)
            obtain ⟨s2, t2⟩ := s1.store hqn (k : Int)
            rw [HSW.out] at s2
            have HW4 := hid (s2.below (drew_below _))
            have HG4 := hid (grownBy_trans (grownBy_trans (grownBy_trans hG3 t1) t2) (grownBy_below (drew_below _) (some g)))
            clear hb3 hrow hrow3 s1 s2 t1 t2 hG hG3 f0 f1
            have b0 : (0 : Int) ≤ (q : Int) := by omega
            have b1 : (q : Int) < (n : Int) := by omega
            have b2 : (q : Int) + 1 < (n : Int) := by omega
            have b3 : (0 : Int) ≤ (q : Int) + 1 := by omega
            have b4 : ((q : Int) + 1).toNat = q + 1 := by omega
            go_wp2
            go_big_region
            obtain ⟨w4, hw4⟩ : ∃ W, ((w3.setCell ⟨g, q + 1, none⟩ (.int .i64 (Y : Int))).setCell ⟨g, q, none⟩ (.int .i64 (k : Int))).drew = W := ⟨_, rfl⟩
            first | rw [hw4] | rw [show ({ ((w3.setCell ⟨g, q + 1, none⟩ (.int .i64 (Y : Int))).setCell ⟨g, q, none⟩ (.int .i64 (k : Int))) with drawn := ((w3.setCell ⟨g, q + 1, none⟩ (.int .i64 (Y : Int))).setCell ⟨g, q, none⟩ (.int .i64 (k : Int))).drawn + 1 } : World) = w4 from hw4]
            have HW5 : Hid (Row w4 base (.slice (some ⟨g, 0, none⟩) n c) (putL l k q n)) := by rw [Hid, ← hw4]; exact HW4.out
            have HG5 : Hid (w.grownBy w4 (some g)) := by rw [Hid, ← hw4]; exact HG4.out
            clear hw4 HW4 HG4 c0 c1 g0 g1
            go_wp2
            go_roundw
            case rel => first | exact ⟨q, by omega, by go_num, HW5.out, HDQ.out, HG5.out⟩ | exact ⟨_, ⟨q, by omega, by go_num, HW5.out, HDQ.out, HG5.out⟩, rfl⟩ | exact ⟨_, _, ⟨q, by omega, by go_num, HW5.out, HDQ.out, HG5.out⟩, rfl, rfl⟩ | exact ⟨_, _, _, ⟨q, by omega, by go_num, HW5.out, HDQ.out, HG5.out⟩, rfl, rfl, rfl⟩ | exact ⟨_, _, _, _, ⟨q, by omega, by go_num, HW5.out, HDQ.out, HG5.out⟩, rfl, rfl, rfl, rfl⟩ | exact ⟨_, _, _, _, _, ⟨q, by omega, by go_num, HW5.out, HDQ.out, HG5.out⟩, rfl, rfl, rfl, rfl, rfl⟩
            case measure => simp [intOf]
          · have hr1 : ¬ r < 0 := by rw [← hr]; unfold cmpI; rw [if_neg hless]; split <;> omega
            have HDQ : Hid (q + 1 = p0) := by rw [Hid, ← HDN.out, HDS.out, if_neg hless]
            clear hless hr
            go_wp2
            refine wp_region_ov (by kernel_rfl) (by kernel_rfl) ?_
            repeat (first | go_big_quiet_step ((go_at_call 72; (with_reducible exact ov_call (HC.out _ (grownBy_trans hG (grownBy_below (ov_below _ _) _)))))) | quiet_step ((go_at_call 72; (with_reducible exact ov_call (HC.out _ (grownBy_trans hG (grownBy_below (ov_below _ _) _)))))))
            refine wpQuiet_nil ?_
            intro _ hw_ov
            obtain ⟨x_ov, hw_ov2⟩ := hw_ov
            subst hw_ov2
            obtain ⟨w3, hw_ov3, hb3⟩ := ov_gen _ x_ov
            rw [hw_ov3]
            clear hw_ov3 x_ov
            have HR3 : Hid (Row w3 base (.slice (some ⟨g, 0, none⟩) n c) (sortTo gs (k + 1) ++ restL (k + 1) n)) := by rw [Hid, ← HEND.out, ← HDQ.out]; exact hrow.below hb3
            have HG3 := hid (grownBy_trans hG (grownBy_below hb3 (some g)))
            clear hb3 hrow hG
            go_wp2
            go_roundw
            case rel => first | exact ⟨k + 1, by omega, by omega, by go_num, HR3.out, HG3.out⟩ | exact ⟨_, ⟨k + 1, by omega, by omega, by go_num, HR3.out, HG3.out⟩, rfl⟩ | exact ⟨_, _, ⟨k + 1, by omega, by omega, by go_num, HR3.out, HG3.out⟩, rfl, rfl⟩ | exact ⟨_, _, _, ⟨k + 1, by omega, by omega, by go_num, HR3.out, HG3.out⟩, rfl, rfl, rfl⟩ | exact ⟨_, _, _, _, ⟨k + 1, by omega, by omega, by go_num, HR3.out, HG3.out⟩, rfl, rfl, rfl, rfl⟩ | exact ⟨_, _, _, _, _, ⟨k + 1, by omega, by omega, by go_num, HR3.out, HG3.out⟩, rfl, rfl, rfl, rfl, rfl⟩
            case measure => simp [intOf]; omega
    · have hkn : k = n := by omega
      have HRE : Hid (sortTo gs k ++ restL k n = sortTo gs n) := by rw [Hid, hkn]; unfold restL; rw [Nat.sub_self]; simp
      clear hkn
      go_wp2
      go_end0
      exact ⟨rfl, by rw [← HRE.out]; exact hrow, hG⟩
theorem stable_any (g n c base B : Nat) (gs : List Int) (w : World) (hn1 : 1 ≤ n) (hn : n ≤ 19) (hr : Row w base (.slice (some ⟨g, 0, none⟩) n c) (restL 0 n))
    (hcmp : ∀ (w' : World) (x y : Nat), w.grownBy w' (some g) → x < n → y < n → Calls Try.prog 72 #[.int .i64 x, .int .i64 y, .pointer (some ⟨B, 0, none⟩)] w' fun e w'' => e = .returned (.int .i64 (cmpI (nth gs x) (nth gs y))) ∧ Below w'.heap.size w' w'') :
    Calls Try.prog 118 #[.slice (some ⟨g, 0, none⟩) n c, .int .i64 n, .func (.func 72) #[] #[.pointer (some ⟨B, 0, none⟩)]] w fun e w' => e = .returned (.tuple #[]) ∧ Row w' base (.slice (some ⟨g, 0, none⟩) n c) (sortTo gs n) ∧ w.grownBy w' (some g) := by
  have HCMP := hid hcmp; clear hcmp
  have h20 : ¬ (20 : Int) ≤ (n : Int) := by omega
  have h20b : ¬ (20 : Int) < (n : Int) := by omega
  go_enter Try.func118, Try.ntmps118
  go_wp2
  refine wp_loop_rounds 1 ?_
  rw [rounds_succ]
  go_wp2_with fail
  refine (insSort_any g n c base B gs w hn1 (by omega) hr HCMP.out).mono ?_; rintro e w1 ⟨rfl, hr1, hg1⟩
  go_wp2
  refine wp_loop_rounds 1 ?_
  rw [rounds_succ]
  go_wp2
  go_end0
  exact ⟨rfl, hr1, hg1⟩
theorem sortStable_any (g n c base B : Nat) (gs : List Int) (w : World) (hn1 : 1 ≤ n) (hn : n ≤ 19) (hr : Row w base (.slice (some ⟨g, 0, none⟩) n c) (restL 0 n))
    (hcmp : ∀ (w' : World) (x y : Nat), w.grownBy w' (some g) → x < n → y < n → Calls Try.prog 72 #[.int .i64 x, .int .i64 y, .pointer (some ⟨B, 0, none⟩)] w' fun e w'' => e = .returned (.int .i64 (cmpI (nth gs x) (nth gs y))) ∧ Below w'.heap.size w' w'') :
    Calls Try.prog 71 #[.slice (some ⟨g, 0, none⟩) n c, .func (.func 72) #[] #[.pointer (some ⟨B, 0, none⟩)]] w fun e w' => e = .returned (.tuple #[]) ∧ Row w' base (.slice (some ⟨g, 0, none⟩) n c) (sortTo gs n) ∧ w.grownBy w' (some g) := by
  have HCMP := hid hcmp; clear hcmp
  go_enter Try.func71, Try.ntmps71
  go_wp2_with fail
  refine (stable_any g n c base B gs w hn1 hn hr HCMP.out).mono ?_; rintro e w1 ⟨rfl, hr1, hg1⟩
  go_wp2
  go_end0
  exact ⟨rfl, hr1, hg1⟩
end Go.Proofs.Ytchjnjmlambpjaa
