/- The law FnSafest: its walk (printed by fngen.py). -/
import Derived.Test.YtaplpgmkobokhaaD18
import Derived.Test.YtaplpgmkobokhaaN7
import Derived.Test.YtaplpgmkobokhaaW9
import Derived.Test.YtaplpgmkobokhaaW6
set_option linter.unusedSimpArgs false
set_option linter.unusedVariables false
namespace Go.Proofs.Ytaplpgmkobokhaa
open Go.RowKit
theorem keepS3 {w w' : World} {a b c : Addr} {u v x : Value} (ha : w.cell? a = some u) (hb : w.cell? b = some v) (hc : w.cell? c = some x) (h : Below w.heap.size w w') : w'.cell? a = some u ∧ w'.cell? b = some v ∧ w'.cell? c = some x ∧ Below w.heap.size w w' := ⟨keep h ha, keep h hb, keep h hc, h⟩
set_option maxRecDepth 100000 in
set_option maxHeartbeats 16000000 in
theorem FnSafest_walk (ao : Option Addr) (n c : Nat) (w : World) (hx : n ≤ 1048576 → BytesIn w w.heap.size ao n) (hnc : n ≤ c) (hcap : n ≤ 9223372036854775807) :
    Calls Try.prog 5 #[.slice ao n c] w fun e w' => e = .returned (.bool true) ∧ Below w.heap.size w w' := by
  by_cases hn : 1048576 < n
  · go_enter Try.func5, Try.ntmps5
    go_wp2
    go_ret
    exact ⟨rfl, Below.refl _ _⟩
  have HX := hid (hx (by omega))
  clear hx
  go_enter Try.func5, Try.ntmps5
  have hB := Below.refl w.heap.size w
  go_wp2_with fail
  refine (DrawSafestAct_any ao n c _ HX.out hnc).mono ?_; rintro e w1 ⟨⟨s, p, xs, q, acts, rfl, hr, hlx, hr2, hl9, hsh⟩, hb⟩
  have hd := hb
  replace hB := chain hB hd
  have hs1 := hd.size
  clear hb hd
  obtain ⟨am, nm, cm, rfl, him⟩ := hr.ints
  clear hr
  obtain ⟨aq, nq, cq, rfl, hnq, hiq⟩ := hr2.form
  clear hr2
  subst hnq
  obtain ⟨M, hM⟩ : ∃ M, acts.length = M := ⟨_, rfl⟩
  rw [hM] at hiq hl9 ⊢
  have HM := hid hM
  clear hM
  obtain ⟨r1, HA⟩ : ∃ r, Hid (bestM (actsOk s xs acts) (fun k => sumF 1000 xs (nthL acts k) xs.length) M = r) := ⟨_, rfl⟩
  obtain ⟨r2, HB⟩ : ∃ r, Hid (bestM (actsOk s xs acts) (fun k => -(sumF 1000 xs (negTo (nthL acts k) (nthL acts k).length) xs.length)) M = r) := ⟨_, rfl⟩
  go_wp2_with fail
  refine (SafestAct_any s _ _ _ _ _ _ xs acts _ (him.below (by (repeat (first | exact Below.refl _ _ | assumption | refine Below.alloc ?_ (by first | omega | (simp <;> omega)) _ | refine Below.setCell ?_ (by first | omega | (simp <;> omega)) _ | refine Below.drew ?_ | refine below_drewN ?_)))) (hiq.below (by (repeat (first | exact Below.refl _ _ | assumption | refine Below.alloc ?_ (by first | omega | (simp <;> omega)) _ | refine Below.setCell ?_ (by first | omega | (simp <;> omega)) _ | refine Below.drew ?_ | refine below_drewN ?_))))).mono ?_; rw [HA.out]; rintro e w2 ⟨rfl, hb⟩
  have mm0 := keep hb (a := ⟨w1.heap.size, 0, none⟩) (v := .int .i64 s) (by simp)
  have mm1 := keep hb (a := ⟨w1.heap.size, 1, none⟩) (v := .slice am nm cm) (by simp)
  have hN1 : w1.heap.size < w2.heap.size := by have := World.block_lt_of_cell? w2 _ mm0; simpa using this
  have hd : Below w1.heap.size w1 w2 := Below.trans (by (repeat (first | exact Below.refl _ _ | assumption | refine Below.alloc ?_ (by first | omega | (simp <;> omega)) _ | refine Below.setCell ?_ (by first | omega | (simp <;> omega)) _ | refine Below.drew ?_ | refine below_drewN ?_))) (hb.mono (by simp <;> omega))
  replace him := him.below hd
  replace hiq := hiq.below hd
  replace hB := chain hB hd
  have hs2 := hd.size
  clear hb hd
  go_wp2_with fail
  refine (BoldestAct_any s _ _ _ _ _ _ xs acts _ him hiq).mono ?_; rw [HB.out]; rintro e w3 ⟨rfl, hb⟩
  have hd := hb
  replace mm0 := keep hd mm0
  replace mm1 := keep hd mm1
  replace him := him.below hd
  replace hiq := hiq.below hd
  replace hB := chain hB hd
  have hs3 := hd.size
  clear hb hd
  obtain ⟨bo, HBO⟩ : ∃ r, Hid (actsOk s xs acts = r) := ⟨_, rfl⟩
  have HC1 : Hid (∀ w', IntsAt w' am nm xs → RowsAt w' aq M acts → Calls Try.prog 24 #[.agg #[.int .i64 s, .slice am nm cm], .slice aq M cq] w' fun e w'' => e = .returned (.int .i64 r1) ∧ Below w'.heap.size w' w'') := fun w' h1 h2 => by rw [← HA.out]; exact specSafestAct_any s _ _ _ _ _ _ xs acts w' h1 h2
  have HC2 : Hid (∀ w', IntsAt w' am nm xs → RowsAt w' aq M acts → Calls Try.prog 25 #[.agg #[.int .i64 s, .slice am nm cm], .slice aq M cq] w' fun e w'' => e = .returned (.int .i64 r2) ∧ Below w'.heap.size w' w'') := fun w' h1 h2 => by rw [← HB.out]; exact specBoldestAct_any s _ _ _ _ _ _ xs acts w' h1 h2
  have HC3 : Hid (∀ w', IntsAt w' am nm xs → RowsAt w' aq M acts → Calls Try.prog 26 #[.agg #[.int .i64 s, .slice am nm cm], .slice aq M cq] w' fun e w'' => e = .returned (.bool bo) ∧ Below w'.heap.size w' w'') := fun w' h1 h2 => by rw [← HBO.out]; exact ActsValid_any s _ _ _ _ _ _ xs acts w' h1 h2
  have HC4 : Hid (∀ w', IntsAt w' am nm xs → RowsAt w' aq M acts → Calls Try.prog 27 #[.agg #[.int .i64 s, .slice am nm cm], .slice aq M cq] w' fun e w'' => e = .returned (.bool bo) ∧ Below w'.heap.size w' w'') := fun w' h1 h2 => by rw [← HBO.out]; exact specActsValid_any s _ _ _ _ _ _ xs acts w' h1 h2
  cases bo
  · have hr1 : r1 = -1 := by rw [← HA.out, HBO.out]; rfl
    have hr2 : r2 = -1 := by rw [← HB.out, HBO.out]; rfl
    subst hr1 hr2
    go_wp2
    refine wp_region_ov (by kernel_rfl) (by kernel_rfl) ?_
    repeat (first | go_big_quiet_step ((first | (go_at_call 24; (with_reducible exact ov_call (HC1.out _ (him.below (ov_below _ _)) (hiq.below (ov_below _ _))))) | (go_at_call 25; (with_reducible exact ov_call (HC2.out _ (him.below (ov_below _ _)) (hiq.below (ov_below _ _))))) | (go_at_call 26; (with_reducible exact ov_call (HC3.out _ (him.below (ov_below _ _)) (hiq.below (ov_below _ _))))) | (go_at_call 27; (with_reducible exact ov_call (HC4.out _ (him.below (ov_below _ _)) (hiq.below (ov_below _ _))))))) | quiet_step ((first | (go_at_call 24; (with_reducible exact ov_call (HC1.out _ (him.below (ov_below _ _)) (hiq.below (ov_below _ _))))) | (go_at_call 25; (with_reducible exact ov_call (HC2.out _ (him.below (ov_below _ _)) (hiq.below (ov_below _ _))))) | (go_at_call 26; (with_reducible exact ov_call (HC3.out _ (him.below (ov_below _ _)) (hiq.below (ov_below _ _))))) | (go_at_call 27; (with_reducible exact ov_call (HC4.out _ (him.below (ov_below _ _)) (hiq.below (ov_below _ _))))))))
    refine wpQuiet_nil ?_
    intro _ hw_ov
    obtain ⟨x_ov, hw_ov2⟩ := hw_ov
    subst hw_ov2
    obtain ⟨w4, hw_ov3, hb⟩ := ov_gen _ x_ov
    rw [hw_ov3]
    clear hw_ov3 x_ov
    have hd := hb
    replace mm0 := keep hd mm0
    replace mm1 := keep hd mm1
    replace him := him.below hd
    replace hiq := hiq.below hd
    replace hB := chain hB hd
    have hs4 := hd.size
    clear hb hd
    go_wp2
    refine wp_region_ov (by kernel_rfl) (by kernel_rfl) ?_
    repeat (first | go_big_quiet_step ((first | (go_at_call 24; (with_reducible exact ov_call (HC1.out _ (him.below (ov_below _ _)) (hiq.below (ov_below _ _))))) | (go_at_call 25; (with_reducible exact ov_call (HC2.out _ (him.below (ov_below _ _)) (hiq.below (ov_below _ _))))) | (go_at_call 26; (with_reducible exact ov_call (HC3.out _ (him.below (ov_below _ _)) (hiq.below (ov_below _ _))))) | (go_at_call 27; (with_reducible exact ov_call (HC4.out _ (him.below (ov_below _ _)) (hiq.below (ov_below _ _))))))) | quiet_step ((first | (go_at_call 24; (with_reducible exact ov_call (HC1.out _ (him.below (ov_below _ _)) (hiq.below (ov_below _ _))))) | (go_at_call 25; (with_reducible exact ov_call (HC2.out _ (him.below (ov_below _ _)) (hiq.below (ov_below _ _))))) | (go_at_call 26; (with_reducible exact ov_call (HC3.out _ (him.below (ov_below _ _)) (hiq.below (ov_below _ _))))) | (go_at_call 27; (with_reducible exact ov_call (HC4.out _ (him.below (ov_below _ _)) (hiq.below (ov_below _ _))))))))
    refine wpQuiet_nil ?_
    intro _ hw_ov
    obtain ⟨x_ov, hw_ov2⟩ := hw_ov
    subst hw_ov2
    obtain ⟨w5, hw_ov3, hb⟩ := ov_gen _ x_ov
    rw [hw_ov3]
    clear hw_ov3 x_ov
    have hd := hb
    replace mm0 := keep hd mm0
    replace mm1 := keep hd mm1
    replace him := him.below hd
    replace hiq := hiq.below hd
    replace hB := chain hB hd
    have hs5 := hd.size
    clear hb hd
    go_wp2
    go_ret
    exact ⟨rfl, hB⟩
  · obtain ⟨_, hM1, hM8, _⟩ := acts_gains HBO.out
    rw [HM.out] at hM1 hM8
    obtain ⟨k1, hk1⟩ : ∃ k, Hid (argTo (fun k => sumF 1000 xs (nthL acts k) xs.length) M = k) := ⟨_, rfl⟩
    have hkM1 : k1 < M := by rw [← hk1.out]; exact argTo_lt _ _ (by omega)
    have hr1 : r1 = (k1 : Int) := by rw [← HA.out, HBO.out, ← hk1.out]; rfl
    subst hr1
    have hkn1 : ¬ (k1 : Int) < 0 := by omega
    have hki1 : (k1 : Int) < (M : Int) := by omega
    have hkj1 : (0 : Int) ≤ (k1 : Int) := by omega
    obtain ⟨k2, hk2⟩ : ∃ k, Hid (argTo (fun k => -(sumF 1000 xs (negTo (nthL acts k) (nthL acts k).length) xs.length)) M = k) := ⟨_, rfl⟩
    have hkM2 : k2 < M := by rw [← hk2.out]; exact argTo_lt _ _ (by omega)
    have hr2 : r2 = (k2 : Int) := by rw [← HB.out, HBO.out, ← hk2.out]; rfl
    subst hr2
    have hkn2 : ¬ (k2 : Int) < 0 := by omega
    have hki2 : (k2 : Int) < (M : Int) := by omega
    have hkj2 : (0 : Int) ≤ (k2 : Int) := by omega
    go_wp2
    refine wp_region_ov (by kernel_rfl) (by kernel_rfl) ?_
    repeat (first | go_big_quiet_step ((first | (go_at_call 24; (with_reducible exact ov_call (HC1.out _ (him.below (ov_below _ _)) (hiq.below (ov_below _ _))))) | (go_at_call 25; (with_reducible exact ov_call (HC2.out _ (him.below (ov_below _ _)) (hiq.below (ov_below _ _))))) | (go_at_call 26; (with_reducible exact ov_call (HC3.out _ (him.below (ov_below _ _)) (hiq.below (ov_below _ _))))) | (go_at_call 27; (with_reducible exact ov_call (HC4.out _ (him.below (ov_below _ _)) (hiq.below (ov_below _ _))))))) | quiet_step ((first | (go_at_call 24; (with_reducible exact ov_call (HC1.out _ (him.below (ov_below _ _)) (hiq.below (ov_below _ _))))) | (go_at_call 25; (with_reducible exact ov_call (HC2.out _ (him.below (ov_below _ _)) (hiq.below (ov_below _ _))))) | (go_at_call 26; (with_reducible exact ov_call (HC3.out _ (him.below (ov_below _ _)) (hiq.below (ov_below _ _))))) | (go_at_call 27; (with_reducible exact ov_call (HC4.out _ (him.below (ov_below _ _)) (hiq.below (ov_below _ _))))))))
    refine wpQuiet_nil ?_
    intro _ hw_ov
    obtain ⟨x_ov, hw_ov2⟩ := hw_ov
    subst hw_ov2
    obtain ⟨w4, hw_ov3, hb⟩ := ov_gen _ x_ov
    rw [hw_ov3]
    clear hw_ov3 x_ov
    have hd := hb
    replace mm0 := keep hd mm0
    replace mm1 := keep hd mm1
    replace him := him.below hd
    replace hiq := hiq.below hd
    replace hB := chain hB hd
    have hs4 := hd.size
    clear hb hd
    clear HC1 HC2 HC3 HC4
    have HLAW : Hid (∀ i, i < M → _) := fun i hi => safest_law HBO.out (i := i) (k := k1) (b := k2) (by rw [HM.out]; exact hi) (by rw [HM.out]; exact hk1.out) (by rw [HM.out]; exact hk2.out)
    have HU1 : Hid (∀ i, i < M → beatsM s xs (nthL acts i) (nthL acts k1) = false) := fun i hi => by rw [← hk1.out]; exact safest_unbeaten hi
    have HU2 : Hid (∀ i, i < M → beatsM s xs (nthL acts i) (nthL acts k2) = false) := fun i hi => by rw [← hk2.out]; exact boldest_unbeaten hi
    clear hk1 hk2
    obtain ⟨b1, o1, a1, n1, c1, e1, _, _, hc1, hi1⟩ := hiq.at (Below.refl _ _) hkM1
    obtain ⟨b2, o2, a2, n2, c2, e2, _, _, hc2, hi2⟩ := hiq.at (Below.refl _ _) hkM2
    subst e1
    injection e2 with e3; injection e3 with e4 e5; subst e4 e5
    obtain ⟨g1, hg1⟩ : ∃ g, nthL acts k1 = g := ⟨_, rfl⟩
    obtain ⟨g2, hg2⟩ : ∃ g, nthL acts k2 = g := ⟨_, rfl⟩
    rw [hg1] at hi1 HLAW HU1
    rw [hg2] at hi2 HLAW HU2
    obtain ⟨fL, HL⟩ : ∃ r, Hid (meanM s xs g1 = r) := ⟨_, rfl⟩
    go_wp2
    refine wp_region_joinF (ι := Nat) (fun act bk => (Act.put (Act.put (Act.put (Act.put (Act.put (Act.put (Act.put (Act.put (Act.put (Act.put (Act.put act (some 88) (.agg #[.int .i64 s, .slice am nm cm])) (some 89) (.slice (some ⟨b1, o1, none⟩) M cq)) (some 90) (.int .i64 k1)) (some 91) (.pointer (some ⟨b1, o1 + k1, none⟩))) (some 92) (.slice a1 n1 c1)) (some 93) (.tuple #[.agg #[.int .i64 fL.num, .int .i64 fL.den], .bool fL.ok])) (some 87) (.tuple #[.agg #[.int .i64 fL.num, .int .i64 fL.den], .bool fL.ok])) (some 94) (.agg #[.int .i64 fL.num, .int .i64 fL.den])) (some 95) (.bool fL.ok)) (some 7) (.pointer (some ⟨bk, 0, none⟩))) (some 8) (.bool fL.ok))) (fun b W => Bx W b (.int .i64 fL.num) (.int .i64 fL.den) ∧ Below w4.heap.size w4 W) ?_ ?_
    · go_region_held3 (fun w' => w'.cell? ⟨w1.heap.size, 0, none⟩ = some (.int .i64 s) ∧ w'.cell? ⟨w1.heap.size, 1, none⟩ = some (.slice am nm cm) ∧ w'.cell? ⟨b1, o1 + k1, none⟩ = some (.slice a1 n1 c1) ∧ Below w4.heap.size w4 w') (first | (refine keepS3 mm0 mm1 hc1 ?_; (repeat (first | exact Below.refl _ _ | assumption | refine Below.alloc ?_ (by first | omega | (simp <;> omega)) _ | refine Below.setCell ?_ (by first | omega | (simp <;> omega)) _ | refine Below.drew ?_ | refine below_drewN ?_)); done)) (first | (go_at_call 18; refine (LowestMean_any s _ _ _ _ _ _ xs g1 w4.drew (him.below (by (repeat (first | exact Below.refl _ _ | assumption | refine Below.alloc ?_ (by first | omega | (simp <;> omega)) _ | refine Below.setCell ?_ (by first | omega | (simp <;> omega)) _ | refine Below.drew ?_ | refine below_drewN ?_)))) (hi1.below (by (repeat (first | exact Below.refl _ _ | assumption | refine Below.alloc ?_ (by first | omega | (simp <;> omega)) _ | refine Below.setCell ?_ (by first | omega | (simp <;> omega)) _ | refine Below.drew ?_ | refine below_drewN ?_))))).mono ?_; rw [HL.out]; rintro e wz ⟨rfl, hbz⟩; have hdz : Below w4.heap.size w4 wz := Below.trans (by (repeat (first | exact Below.refl _ _ | assumption | refine Below.alloc ?_ (by first | omega | (simp <;> omega)) _ | refine Below.setCell ?_ (by first | omega | (simp <;> omega)) _ | refine Below.drew ?_ | refine below_drewN ?_))) (hbz.mono (by simp <;> omega)); have z0 := keep hdz mm0; have z1 := keep hdz mm1; have zc := keep hdz hc1; have hsz := hdz.size) | (go_at_call 18; refine (LowestMean_any s _ _ _ _ _ _ xs g1 (w4.alloc (.cells #[.int .i64 0, .int .i64 0] 31)).drew (him.below (by (repeat (first | exact Below.refl _ _ | assumption | refine Below.alloc ?_ (by first | omega | (simp <;> omega)) _ | refine Below.setCell ?_ (by first | omega | (simp <;> omega)) _ | refine Below.drew ?_ | refine below_drewN ?_)))) (hi1.below (by (repeat (first | exact Below.refl _ _ | assumption | refine Below.alloc ?_ (by first | omega | (simp <;> omega)) _ | refine Below.setCell ?_ (by first | omega | (simp <;> omega)) _ | refine Below.drew ?_ | refine below_drewN ?_))))).mono ?_; rw [HL.out]; rintro e wz ⟨rfl, hbz⟩; have hdz : Below w4.heap.size w4 wz := Below.trans (by (repeat (first | exact Below.refl _ _ | assumption | refine Below.alloc ?_ (by first | omega | (simp <;> omega)) _ | refine Below.setCell ?_ (by first | omega | (simp <;> omega)) _ | refine Below.drew ?_ | refine below_drewN ?_))) (hbz.mono (by simp <;> omega)); have z0 := keep hdz mm0; have z1 := keep hdz mm1; have zc := keep hdz hc1; have hsz := hdz.size; have kb0 := keep hbz (a := ⟨w4.heap.size, 0, none⟩) (v := .int .i64 0) (by simp); have kb1 := keep hbz (a := ⟨w4.heap.size, 1, none⟩) (v := .int .i64 0) (by simp); have kf0 := keepF hbz (a := ⟨w4.heap.size, 0, none⟩) (v := .int .i64 0) (by simp) (by simp); have kf1 := keepF hbz (a := ⟨w4.heap.size, 1, none⟩) (v := .int .i64 0) (by simp) (by simp); have hlz : w4.heap.size < wz.heap.size := (by have h_z := hbz.size; simp at h_z; omega)))
      · exact ⟨wz.heap.size, by simp [Act.put], Bx.mk2 rfl, by (repeat (first | exact Below.refl _ _ | assumption | refine Below.alloc ?_ (by first | omega | (simp <;> omega)) _ | refine Below.setCell ?_ (by first | omega | (simp <;> omega)) _ | refine Below.drew ?_ | refine below_drewN ?_))⟩
      · exact ⟨w4.heap.size, by simp [Act.put], (show Bx wz w4.heap.size _ _ from ⟨kb0, kb1, kf0, kf1, hlz⟩).put2 _ _, by (repeat (first | exact Below.refl _ _ | assumption | refine Below.alloc ?_ (by first | omega | (simp <;> omega)) _ | refine Below.setCell ?_ (by first | omega | (simp <;> omega)) _ | refine Below.drew ?_ | refine below_drewN ?_))⟩
    rintro bLx w5 ⟨hbx, hb⟩
    have hd := hb
    replace mm0 := keep hd mm0
    replace mm1 := keep hd mm1
    replace hc1 := keep hd hc1
    replace hc2 := keep hd hc2
    replace him := him.below hd
    replace hiq := hiq.below hd
    replace hi1 := hi1.below hd
    replace hi2 := hi2.below hd
    replace hB := chain hB hd
    have hs5 := hd.size
    clear hb hd
    have fL0 := hbx.c0
    have fL1 := hbx.c1
    clear hbx
    obtain ⟨fH, HH⟩ : ∃ r, Hid (meanH s xs g2 = r) := ⟨_, rfl⟩
    go_wp2
    refine wp_region_joinF (ι := Nat) (fun act bk => (Act.put (Act.put (Act.put (Act.put (Act.put (Act.put (Act.put (Act.put (Act.put (Act.put (Act.put act (some 97) (.agg #[.int .i64 s, .slice am nm cm])) (some 98) (.slice (some ⟨b1, o1, none⟩) M cq)) (some 99) (.int .i64 k2)) (some 100) (.pointer (some ⟨b1, o1 + k2, none⟩))) (some 101) (.slice a2 n2 c2)) (some 102) (.tuple #[.agg #[.int .i64 fH.num, .int .i64 fH.den], .bool fH.ok])) (some 96) (.tuple #[.agg #[.int .i64 fH.num, .int .i64 fH.den], .bool fH.ok])) (some 103) (.agg #[.int .i64 fH.num, .int .i64 fH.den])) (some 104) (.bool fH.ok)) (some 9) (.pointer (some ⟨bk, 0, none⟩))) (some 10) (.bool fH.ok))) (fun b W => Bx W b (.int .i64 fH.num) (.int .i64 fH.den) ∧ Below w5.heap.size w5 W) ?_ ?_
    · go_region_held3 (fun w' => w'.cell? ⟨w1.heap.size, 0, none⟩ = some (.int .i64 s) ∧ w'.cell? ⟨w1.heap.size, 1, none⟩ = some (.slice am nm cm) ∧ w'.cell? ⟨b1, o1 + k2, none⟩ = some (.slice a2 n2 c2) ∧ Below w5.heap.size w5 w') (first | (refine keepS3 mm0 mm1 hc2 ?_; (repeat (first | exact Below.refl _ _ | assumption | refine Below.alloc ?_ (by first | omega | (simp <;> omega)) _ | refine Below.setCell ?_ (by first | omega | (simp <;> omega)) _ | refine Below.drew ?_ | refine below_drewN ?_)); done)) (first | (go_at_call 16; refine (HighestMean_any s _ _ _ _ _ _ xs g2 w5.drew (him.below (by (repeat (first | exact Below.refl _ _ | assumption | refine Below.alloc ?_ (by first | omega | (simp <;> omega)) _ | refine Below.setCell ?_ (by first | omega | (simp <;> omega)) _ | refine Below.drew ?_ | refine below_drewN ?_)))) (hi2.below (by (repeat (first | exact Below.refl _ _ | assumption | refine Below.alloc ?_ (by first | omega | (simp <;> omega)) _ | refine Below.setCell ?_ (by first | omega | (simp <;> omega)) _ | refine Below.drew ?_ | refine below_drewN ?_))))).mono ?_; rw [HH.out]; rintro e wz ⟨rfl, hbz⟩; have hdz : Below w5.heap.size w5 wz := Below.trans (by (repeat (first | exact Below.refl _ _ | assumption | refine Below.alloc ?_ (by first | omega | (simp <;> omega)) _ | refine Below.setCell ?_ (by first | omega | (simp <;> omega)) _ | refine Below.drew ?_ | refine below_drewN ?_))) (hbz.mono (by simp <;> omega)); have z0 := keep hdz mm0; have z1 := keep hdz mm1; have zc := keep hdz hc2; have hsz := hdz.size) | (go_at_call 16; refine (HighestMean_any s _ _ _ _ _ _ xs g2 (w5.alloc (.cells #[.int .i64 0, .int .i64 0] 31)).drew (him.below (by (repeat (first | exact Below.refl _ _ | assumption | refine Below.alloc ?_ (by first | omega | (simp <;> omega)) _ | refine Below.setCell ?_ (by first | omega | (simp <;> omega)) _ | refine Below.drew ?_ | refine below_drewN ?_)))) (hi2.below (by (repeat (first | exact Below.refl _ _ | assumption | refine Below.alloc ?_ (by first | omega | (simp <;> omega)) _ | refine Below.setCell ?_ (by first | omega | (simp <;> omega)) _ | refine Below.drew ?_ | refine below_drewN ?_))))).mono ?_; rw [HH.out]; rintro e wz ⟨rfl, hbz⟩; have hdz : Below w5.heap.size w5 wz := Below.trans (by (repeat (first | exact Below.refl _ _ | assumption | refine Below.alloc ?_ (by first | omega | (simp <;> omega)) _ | refine Below.setCell ?_ (by first | omega | (simp <;> omega)) _ | refine Below.drew ?_ | refine below_drewN ?_))) (hbz.mono (by simp <;> omega)); have z0 := keep hdz mm0; have z1 := keep hdz mm1; have zc := keep hdz hc2; have hsz := hdz.size; have kb0 := keep hbz (a := ⟨w5.heap.size, 0, none⟩) (v := .int .i64 0) (by simp); have kb1 := keep hbz (a := ⟨w5.heap.size, 1, none⟩) (v := .int .i64 0) (by simp); have kf0 := keepF hbz (a := ⟨w5.heap.size, 0, none⟩) (v := .int .i64 0) (by simp) (by simp); have kf1 := keepF hbz (a := ⟨w5.heap.size, 1, none⟩) (v := .int .i64 0) (by simp) (by simp); have hlz : w5.heap.size < wz.heap.size := (by have h_z := hbz.size; simp at h_z; omega)))
      · exact ⟨wz.heap.size, by simp [Act.put], Bx.mk2 rfl, by (repeat (first | exact Below.refl _ _ | assumption | refine Below.alloc ?_ (by first | omega | (simp <;> omega)) _ | refine Below.setCell ?_ (by first | omega | (simp <;> omega)) _ | refine Below.drew ?_ | refine below_drewN ?_))⟩
      · exact ⟨w5.heap.size, by simp [Act.put], (show Bx wz w5.heap.size _ _ from ⟨kb0, kb1, kf0, kf1, hlz⟩).put2 _ _, by (repeat (first | exact Below.refl _ _ | assumption | refine Below.alloc ?_ (by first | omega | (simp <;> omega)) _ | refine Below.setCell ?_ (by first | omega | (simp <;> omega)) _ | refine Below.drew ?_ | refine below_drewN ?_))⟩
    rintro bHx w6 ⟨hbx, hb⟩
    have hd := hb
    replace mm0 := keep hd mm0
    replace mm1 := keep hd mm1
    replace hc1 := keep hd hc1
    replace hc2 := keep hd hc2
    replace fL0 := keep hd fL0
    replace fL1 := keep hd fL1
    replace him := him.below hd
    replace hiq := hiq.below hd
    replace hi1 := hi1.below hd
    replace hi2 := hi2.below hd
    replace hB := chain hB hd
    have hs6 := hd.size
    clear hb hd
    have fH0 := hbx.c0
    have fH1 := hbx.c1
    clear hbx
    go_wp2
    go_loopw [11] (fun i wr => ∃ a : Nat, a ≤ M ∧ i = .int .i64 a ∧ Below w6.heap.size w6 wr) (fun i _ => M - (intOf i).toNat)
    case atStart => exact ⟨0, by omega, rfl, Below.refl _ _⟩
    case round =>
      obtain ⟨a, ha, rfl, hBr⟩ := hrel
      obtain ⟨w7, rfl⟩ : ∃ q : World, q = wr := ⟨_, rfl⟩
      replace mm0 := keep hBr mm0
      replace mm1 := keep hBr mm1
      replace hc1 := keep hBr hc1
      replace hc2 := keep hBr hc2
      replace fL0 := keep hBr fL0
      replace fL1 := keep hBr fL1
      replace fH0 := keep hBr fH0
      replace fH1 := keep hBr fH1
      replace him := him.below hBr
      replace hiq := hiq.below hBr
      replace hi1 := hi1.below hBr
      replace hi2 := hi2.below hBr
      have hB0 := hB
      have hsw := hB.size
      have hsr := hBr.size
      clear hB
      have hB := hBr
      by_cases hlt : a < M
      · have ha0 : (0 : Int) ≤ (a : Int) := by omega
        have ha1 : (a : Int) < (M : Int) := by omega
        obtain ⟨b3, o3, a3, n3, c3, e3, _, _, hc3, hi3⟩ := hiq.at (Below.refl _ _) hlt
        injection e3 with e4; injection e4 with e5 e6; subst e5 e6
        obtain ⟨⟨l1, l2⟩, l3, l4⟩ := HLAW.out a hlt
        have u1 := HU1.out a hlt
        have u2 := HU2.out a hlt
        obtain ⟨g3, hg3⟩ : ∃ g, nthL acts a = g := ⟨_, rfl⟩
        rw [hg3] at hi3 l1 l2 l3 l4 u1 u2
        clear hg3
        rw [HL.out] at l1 l2
        rw [HH.out] at l3 l4
        have L1 := hid l1
        have L2 := hid l2
        have L3 := hid l3
        have L4 := hid l4
        have U1 := hid u1
        have U2 := hid u2
        clear l1 l2 l3 l4 u1 u2
        obtain ⟨fX, HX⟩ : ∃ r, Hid (meanM s xs g3 = r) := ⟨_, rfl⟩
        go_wp2
        refine wp_region_joinF (ι := Nat) (fun act bk => (Act.put (Act.put (Act.put (Act.put (Act.put (Act.put (Act.put (Act.put (Act.put (Act.put (Act.put act (some 112) (.agg #[.int .i64 s, .slice am nm cm])) (some 113) (.slice (some ⟨b1, o1, none⟩) M cq)) (some 114) (.int .i64 a)) (some 115) (.pointer (some ⟨b1, o1 + a, none⟩))) (some 116) (.slice a3 n3 c3)) (some 117) (.tuple #[.agg #[.int .i64 fX.num, .int .i64 fX.den], .bool fX.ok])) (some 111) (.tuple #[.agg #[.int .i64 fX.num, .int .i64 fX.den], .bool fX.ok])) (some 118) (.agg #[.int .i64 fX.num, .int .i64 fX.den])) (some 119) (.bool fX.ok)) (some 12) (.pointer (some ⟨bk, 0, none⟩))) (some 13) (.bool fX.ok))) (fun b W => Bx W b (.int .i64 fX.num) (.int .i64 fX.den) ∧ Below w7.heap.size w7 W) ?_ ?_
        · go_region_held3 (fun w' => w'.cell? ⟨w1.heap.size, 0, none⟩ = some (.int .i64 s) ∧ w'.cell? ⟨w1.heap.size, 1, none⟩ = some (.slice am nm cm) ∧ w'.cell? ⟨b1, o1 + a, none⟩ = some (.slice a3 n3 c3) ∧ Below w7.heap.size w7 w') (first | (refine keepS3 mm0 mm1 hc3 ?_; (repeat (first | exact Below.refl _ _ | assumption | refine Below.alloc ?_ (by first | omega | (simp <;> omega)) _ | refine Below.setCell ?_ (by first | omega | (simp <;> omega)) _ | refine Below.drew ?_ | refine below_drewN ?_)); done)) (first | (go_at_call 18; refine (LowestMean_any s _ _ _ _ _ _ xs g3 w7.drew (him.below (by (repeat (first | exact Below.refl _ _ | assumption | refine Below.alloc ?_ (by first | omega | (simp <;> omega)) _ | refine Below.setCell ?_ (by first | omega | (simp <;> omega)) _ | refine Below.drew ?_ | refine below_drewN ?_)))) (hi3.below (by (repeat (first | exact Below.refl _ _ | assumption | refine Below.alloc ?_ (by first | omega | (simp <;> omega)) _ | refine Below.setCell ?_ (by first | omega | (simp <;> omega)) _ | refine Below.drew ?_ | refine below_drewN ?_))))).mono ?_; rw [HX.out]; rintro e wz ⟨rfl, hbz⟩; have hdz : Below w7.heap.size w7 wz := Below.trans (by (repeat (first | exact Below.refl _ _ | assumption | refine Below.alloc ?_ (by first | omega | (simp <;> omega)) _ | refine Below.setCell ?_ (by first | omega | (simp <;> omega)) _ | refine Below.drew ?_ | refine below_drewN ?_))) (hbz.mono (by simp <;> omega)); have z0 := keep hdz mm0; have z1 := keep hdz mm1; have zc := keep hdz hc3; have hsz := hdz.size) | (go_at_call 18; refine (LowestMean_any s _ _ _ _ _ _ xs g3 (w7.alloc (.cells #[.int .i64 0, .int .i64 0] 31)).drew (him.below (by (repeat (first | exact Below.refl _ _ | assumption | refine Below.alloc ?_ (by first | omega | (simp <;> omega)) _ | refine Below.setCell ?_ (by first | omega | (simp <;> omega)) _ | refine Below.drew ?_ | refine below_drewN ?_)))) (hi3.below (by (repeat (first | exact Below.refl _ _ | assumption | refine Below.alloc ?_ (by first | omega | (simp <;> omega)) _ | refine Below.setCell ?_ (by first | omega | (simp <;> omega)) _ | refine Below.drew ?_ | refine below_drewN ?_))))).mono ?_; rw [HX.out]; rintro e wz ⟨rfl, hbz⟩; have hdz : Below w7.heap.size w7 wz := Below.trans (by (repeat (first | exact Below.refl _ _ | assumption | refine Below.alloc ?_ (by first | omega | (simp <;> omega)) _ | refine Below.setCell ?_ (by first | omega | (simp <;> omega)) _ | refine Below.drew ?_ | refine below_drewN ?_))) (hbz.mono (by simp <;> omega)); have z0 := keep hdz mm0; have z1 := keep hdz mm1; have zc := keep hdz hc3; have hsz := hdz.size; have kb0 := keep hbz (a := ⟨w7.heap.size, 0, none⟩) (v := .int .i64 0) (by simp); have kb1 := keep hbz (a := ⟨w7.heap.size, 1, none⟩) (v := .int .i64 0) (by simp); have kf0 := keepF hbz (a := ⟨w7.heap.size, 0, none⟩) (v := .int .i64 0) (by simp) (by simp); have kf1 := keepF hbz (a := ⟨w7.heap.size, 1, none⟩) (v := .int .i64 0) (by simp) (by simp); have hlz : w7.heap.size < wz.heap.size := (by have h_z := hbz.size; simp at h_z; omega)))
          · exact ⟨wz.heap.size, by simp [Act.put], Bx.mk2 rfl, by (repeat (first | exact Below.refl _ _ | assumption | refine Below.alloc ?_ (by first | omega | (simp <;> omega)) _ | refine Below.setCell ?_ (by first | omega | (simp <;> omega)) _ | refine Below.drew ?_ | refine below_drewN ?_))⟩
          · exact ⟨w7.heap.size, by simp [Act.put], (show Bx wz w7.heap.size _ _ from ⟨kb0, kb1, kf0, kf1, hlz⟩).put2 _ _, by (repeat (first | exact Below.refl _ _ | assumption | refine Below.alloc ?_ (by first | omega | (simp <;> omega)) _ | refine Below.setCell ?_ (by first | omega | (simp <;> omega)) _ | refine Below.drew ?_ | refine below_drewN ?_))⟩
        rintro bXx w8 ⟨hbx, hb⟩
        have hd := hb
        replace mm0 := keep hd mm0
        replace mm1 := keep hd mm1
        replace hc1 := keep hd hc1
        replace hc2 := keep hd hc2
        replace fL0 := keep hd fL0
        replace fL1 := keep hd fL1
        replace fH0 := keep hd fH0
        replace fH1 := keep hd fH1
        replace hc3 := keep hd hc3
        replace him := him.below hd
        replace hiq := hiq.below hd
        replace hi1 := hi1.below hd
        replace hi2 := hi2.below hd
        replace hi3 := hi3.below hd
        replace hB := chain hB hd
        have hs8 := hd.size
        clear hb hd
        have fX0 := hbx.c0
        have fX1 := hbx.c1
        clear hbx
        obtain ⟨fY, HY⟩ : ∃ r, Hid (meanH s xs g3 = r) := ⟨_, rfl⟩
        go_wp2
        refine wp_region_joinF (ι := Nat) (fun act bk => (Act.put (Act.put (Act.put (Act.put (Act.put (Act.put (Act.put (Act.put (Act.put (Act.put (Act.put act (some 121) (.agg #[.int .i64 s, .slice am nm cm])) (some 122) (.slice (some ⟨b1, o1, none⟩) M cq)) (some 123) (.int .i64 a)) (some 124) (.pointer (some ⟨b1, o1 + a, none⟩))) (some 125) (.slice a3 n3 c3)) (some 126) (.tuple #[.agg #[.int .i64 fY.num, .int .i64 fY.den], .bool fY.ok])) (some 120) (.tuple #[.agg #[.int .i64 fY.num, .int .i64 fY.den], .bool fY.ok])) (some 127) (.agg #[.int .i64 fY.num, .int .i64 fY.den])) (some 128) (.bool fY.ok)) (some 14) (.pointer (some ⟨bk, 0, none⟩))) (some 15) (.bool fY.ok))) (fun b W => Bx W b (.int .i64 fY.num) (.int .i64 fY.den) ∧ Below w8.heap.size w8 W) ?_ ?_
        · go_region_held3 (fun w' => w'.cell? ⟨w1.heap.size, 0, none⟩ = some (.int .i64 s) ∧ w'.cell? ⟨w1.heap.size, 1, none⟩ = some (.slice am nm cm) ∧ w'.cell? ⟨b1, o1 + a, none⟩ = some (.slice a3 n3 c3) ∧ Below w8.heap.size w8 w') (first | (refine keepS3 mm0 mm1 hc3 ?_; (repeat (first | exact Below.refl _ _ | assumption | refine Below.alloc ?_ (by first | omega | (simp <;> omega)) _ | refine Below.setCell ?_ (by first | omega | (simp <;> omega)) _ | refine Below.drew ?_ | refine below_drewN ?_)); done)) (first | (go_at_call 16; refine (HighestMean_any s _ _ _ _ _ _ xs g3 w8.drew (him.below (by (repeat (first | exact Below.refl _ _ | assumption | refine Below.alloc ?_ (by first | omega | (simp <;> omega)) _ | refine Below.setCell ?_ (by first | omega | (simp <;> omega)) _ | refine Below.drew ?_ | refine below_drewN ?_)))) (hi3.below (by (repeat (first | exact Below.refl _ _ | assumption | refine Below.alloc ?_ (by first | omega | (simp <;> omega)) _ | refine Below.setCell ?_ (by first | omega | (simp <;> omega)) _ | refine Below.drew ?_ | refine below_drewN ?_))))).mono ?_; rw [HY.out]; rintro e wz ⟨rfl, hbz⟩; have hdz : Below w8.heap.size w8 wz := Below.trans (by (repeat (first | exact Below.refl _ _ | assumption | refine Below.alloc ?_ (by first | omega | (simp <;> omega)) _ | refine Below.setCell ?_ (by first | omega | (simp <;> omega)) _ | refine Below.drew ?_ | refine below_drewN ?_))) (hbz.mono (by simp <;> omega)); have z0 := keep hdz mm0; have z1 := keep hdz mm1; have zc := keep hdz hc3; have hsz := hdz.size) | (go_at_call 16; refine (HighestMean_any s _ _ _ _ _ _ xs g3 (w8.alloc (.cells #[.int .i64 0, .int .i64 0] 31)).drew (him.below (by (repeat (first | exact Below.refl _ _ | assumption | refine Below.alloc ?_ (by first | omega | (simp <;> omega)) _ | refine Below.setCell ?_ (by first | omega | (simp <;> omega)) _ | refine Below.drew ?_ | refine below_drewN ?_)))) (hi3.below (by (repeat (first | exact Below.refl _ _ | assumption | refine Below.alloc ?_ (by first | omega | (simp <;> omega)) _ | refine Below.setCell ?_ (by first | omega | (simp <;> omega)) _ | refine Below.drew ?_ | refine below_drewN ?_))))).mono ?_; rw [HY.out]; rintro e wz ⟨rfl, hbz⟩; have hdz : Below w8.heap.size w8 wz := Below.trans (by (repeat (first | exact Below.refl _ _ | assumption | refine Below.alloc ?_ (by first | omega | (simp <;> omega)) _ | refine Below.setCell ?_ (by first | omega | (simp <;> omega)) _ | refine Below.drew ?_ | refine below_drewN ?_))) (hbz.mono (by simp <;> omega)); have z0 := keep hdz mm0; have z1 := keep hdz mm1; have zc := keep hdz hc3; have hsz := hdz.size; have kb0 := keep hbz (a := ⟨w8.heap.size, 0, none⟩) (v := .int .i64 0) (by simp); have kb1 := keep hbz (a := ⟨w8.heap.size, 1, none⟩) (v := .int .i64 0) (by simp); have kf0 := keepF hbz (a := ⟨w8.heap.size, 0, none⟩) (v := .int .i64 0) (by simp) (by simp); have kf1 := keepF hbz (a := ⟨w8.heap.size, 1, none⟩) (v := .int .i64 0) (by simp) (by simp); have hlz : w8.heap.size < wz.heap.size := (by have h_z := hbz.size; simp at h_z; omega)))
          · exact ⟨wz.heap.size, by simp [Act.put], Bx.mk2 rfl, by (repeat (first | exact Below.refl _ _ | assumption | refine Below.alloc ?_ (by first | omega | (simp <;> omega)) _ | refine Below.setCell ?_ (by first | omega | (simp <;> omega)) _ | refine Below.drew ?_ | refine below_drewN ?_))⟩
          · exact ⟨w8.heap.size, by simp [Act.put], (show Bx wz w8.heap.size _ _ from ⟨kb0, kb1, kf0, kf1, hlz⟩).put2 _ _, by (repeat (first | exact Below.refl _ _ | assumption | refine Below.alloc ?_ (by first | omega | (simp <;> omega)) _ | refine Below.setCell ?_ (by first | omega | (simp <;> omega)) _ | refine Below.drew ?_ | refine below_drewN ?_))⟩
        rintro bYx w9 ⟨hbx, hb⟩
        have hd := hb
        replace mm0 := keep hd mm0
        replace mm1 := keep hd mm1
        replace hc1 := keep hd hc1
        replace hc2 := keep hd hc2
        replace fL0 := keep hd fL0
        replace fL1 := keep hd fL1
        replace fH0 := keep hd fH0
        replace fH1 := keep hd fH1
        replace hc3 := keep hd hc3
        replace fX0 := keep hd fX0
        replace fX1 := keep hd fX1
        replace him := him.below hd
        replace hiq := hiq.below hd
        replace hi1 := hi1.below hd
        replace hi2 := hi2.below hd
        replace hi3 := hi3.below hd
        replace hB := chain hB hd
        have hs9 := hd.size
        clear hb hd
        have fY0 := hbx.c0
        have fY1 := hbx.c1
        clear hbx
        rw [HX.out] at L1 L2
        rw [HY.out] at L3 L4
        have HD1 : Hid (∀ w', Calls Try.prog 20 #[.agg #[.int .i64 fL.num, .int .i64 fL.den], .agg #[.int .i64 fX.num, .int .i64 fX.den]] w' fun e w'' => e = .returned (.bool false) ∧ Below w'.heap.size w' w'') := fun w' => by rw [← L1.out]; exact LessFraction_any _ _ _ _ w'
        have HD2 : Hid (∀ w', Calls Try.prog 20 #[.agg #[.int .i64 fH.num, .int .i64 fH.den], .agg #[.int .i64 fY.num, .int .i64 fY.den]] w' fun e w'' => e = .returned (.bool false) ∧ Below w'.heap.size w' w'') := fun w' => by rw [← L3.out]; exact LessFraction_any _ _ _ _ w'
        have HE1 : Hid (∀ w', IntsAt w' am nm xs → IntsAt w' a3 n3 g3 → IntsAt w' a1 n1 g1 → Calls Try.prog 28 #[.agg #[.int .i64 s, .slice am nm cm], .slice a3 n3 c3, .slice a1 n1 c1] w' fun e w'' => e = .returned (.bool false) ∧ Below w'.heap.size w' w'') := fun w' h1 h2 h3 => by rw [← U1.out]; exact BeatsAct_any s _ _ _ _ _ _ _ _ _ xs _ _ w' h1 h2 h3
        have HE2 : Hid (∀ w', IntsAt w' am nm xs → IntsAt w' a3 n3 g3 → IntsAt w' a2 n2 g2 → Calls Try.prog 28 #[.agg #[.int .i64 s, .slice am nm cm], .slice a3 n3 c3, .slice a2 n2 c2] w' fun e w'' => e = .returned (.bool false) ∧ Below w'.heap.size w' w'') := fun w' h1 h2 h3 => by rw [← U2.out]; exact BeatsAct_any s _ _ _ _ _ _ _ _ _ xs _ _ w' h1 h2 h3
        clear HLAW HU1 HU2 HA HB HBO L1 L3 U1 U2
        by_cases q1 : a < k1
        · have d1 : (a : Int) < (k1 : Int) := by omega
          have n1' := L2.out q1
          by_cases m1 : fX.num = fL.num
          · have x1 : (fX.num == fL.num) = true := beq_iff_eq.2 m1
            have y1 : (fX.den == fL.den) = false := beq_eq_false_iff_ne.2 (fun h => n1' ⟨m1, h⟩)
            clear n1' m1
            by_cases q2 : a < k2
            · have d2 : (a : Int) < (k2 : Int) := by omega
              have n2' := L4.out q2
              by_cases m2 : fY.num = fH.num
              · have x2 : (fY.num == fH.num) = true := beq_iff_eq.2 m2
                have y2 : (fY.den == fH.den) = false := beq_eq_false_iff_ne.2 (fun h => n2' ⟨m2, h⟩)
                clear n2' m2
                clear L2 L4
                go_wp2
                refine wp_region_ov (by kernel_rfl) (by kernel_rfl) ?_
                repeat (first | go_big_quiet_step ((first | (go_at_call 20; first | (with_reducible exact ov_call (HD1.out _)) | (with_reducible exact ov_call (HD2.out _))) | (go_at_call 28; first | (with_reducible exact ov_call (HE1.out _ (him.below (ov_below _ _)) (hi3.below (ov_below _ _)) (hi1.below (ov_below _ _)))) | (with_reducible exact ov_call (HE2.out _ (him.below (ov_below _ _)) (hi3.below (ov_below _ _)) (hi2.below (ov_below _ _))))))) | quiet_step ((first | (go_at_call 20; first | (with_reducible exact ov_call (HD1.out _)) | (with_reducible exact ov_call (HD2.out _))) | (go_at_call 28; first | (with_reducible exact ov_call (HE1.out _ (him.below (ov_below _ _)) (hi3.below (ov_below _ _)) (hi1.below (ov_below _ _)))) | (with_reducible exact ov_call (HE2.out _ (him.below (ov_below _ _)) (hi3.below (ov_below _ _)) (hi2.below (ov_below _ _))))))))
                refine wpQuiet_nil ?_
                intro _ hw_ov
                obtain ⟨x_ov, hw_ov2⟩ := hw_ov
                subst hw_ov2
                obtain ⟨wz, hw_ov3, hbz⟩ := ov_gen _ x_ov
                rw [hw_ov3]
                clear hw_ov3 x_ov
                have hBz := chain hB hbz
                go_wp2
                go_roundw
                case rel => first | exact ⟨a + 1, by omega, by go_num, hBz⟩ | exact ⟨_, ⟨a + 1, by omega, by go_num, hBz⟩, rfl⟩ | exact ⟨_, _, ⟨a + 1, by omega, by go_num, hBz⟩, rfl, rfl⟩ | exact ⟨_, _, _, ⟨a + 1, by omega, by go_num, hBz⟩, rfl, rfl, rfl⟩ | exact ⟨_, _, _, _, ⟨a + 1, by omega, by go_num, hBz⟩, rfl, rfl, rfl, rfl⟩ | exact ⟨_, _, _, _, _, ⟨a + 1, by omega, by go_num, hBz⟩, rfl, rfl, rfl, rfl, rfl⟩
                case measure => simp [intOf]; omega
              · have x2 : (fY.num == fH.num) = false := beq_eq_false_iff_ne.2 m2
                clear n2' m2
                clear L2 L4
                go_wp2
                refine wp_region_ov (by kernel_rfl) (by kernel_rfl) ?_
                repeat (first | go_big_quiet_step ((first | (go_at_call 20; first | (with_reducible exact ov_call (HD1.out _)) | (with_reducible exact ov_call (HD2.out _))) | (go_at_call 28; first | (with_reducible exact ov_call (HE1.out _ (him.below (ov_below _ _)) (hi3.below (ov_below _ _)) (hi1.below (ov_below _ _)))) | (with_reducible exact ov_call (HE2.out _ (him.below (ov_below _ _)) (hi3.below (ov_below _ _)) (hi2.below (ov_below _ _))))))) | quiet_step ((first | (go_at_call 20; first | (with_reducible exact ov_call (HD1.out _)) | (with_reducible exact ov_call (HD2.out _))) | (go_at_call 28; first | (with_reducible exact ov_call (HE1.out _ (him.below (ov_below _ _)) (hi3.below (ov_below _ _)) (hi1.below (ov_below _ _)))) | (with_reducible exact ov_call (HE2.out _ (him.below (ov_below _ _)) (hi3.below (ov_below _ _)) (hi2.below (ov_below _ _))))))))
                refine wpQuiet_nil ?_
                intro _ hw_ov
                obtain ⟨x_ov, hw_ov2⟩ := hw_ov
                subst hw_ov2
                obtain ⟨wz, hw_ov3, hbz⟩ := ov_gen _ x_ov
                rw [hw_ov3]
                clear hw_ov3 x_ov
                have hBz := chain hB hbz
                go_wp2
                go_roundw
                case rel => first | exact ⟨a + 1, by omega, by go_num, hBz⟩ | exact ⟨_, ⟨a + 1, by omega, by go_num, hBz⟩, rfl⟩ | exact ⟨_, _, ⟨a + 1, by omega, by go_num, hBz⟩, rfl, rfl⟩ | exact ⟨_, _, _, ⟨a + 1, by omega, by go_num, hBz⟩, rfl, rfl, rfl⟩ | exact ⟨_, _, _, _, ⟨a + 1, by omega, by go_num, hBz⟩, rfl, rfl, rfl, rfl⟩ | exact ⟨_, _, _, _, _, ⟨a + 1, by omega, by go_num, hBz⟩, rfl, rfl, rfl, rfl, rfl⟩
                case measure => simp [intOf]; omega
            · have d2 : ¬ (a : Int) < (k2 : Int) := by omega
              clear L2 L4
              go_wp2
              refine wp_region_ov (by kernel_rfl) (by kernel_rfl) ?_
              repeat (first | go_big_quiet_step ((first | (go_at_call 20; first | (with_reducible exact ov_call (HD1.out _)) | (with_reducible exact ov_call (HD2.out _))) | (go_at_call 28; first | (with_reducible exact ov_call (HE1.out _ (him.below (ov_below _ _)) (hi3.below (ov_below _ _)) (hi1.below (ov_below _ _)))) | (with_reducible exact ov_call (HE2.out _ (him.below (ov_below _ _)) (hi3.below (ov_below _ _)) (hi2.below (ov_below _ _))))))) | quiet_step ((first | (go_at_call 20; first | (with_reducible exact ov_call (HD1.out _)) | (with_reducible exact ov_call (HD2.out _))) | (go_at_call 28; first | (with_reducible exact ov_call (HE1.out _ (him.below (ov_below _ _)) (hi3.below (ov_below _ _)) (hi1.below (ov_below _ _)))) | (with_reducible exact ov_call (HE2.out _ (him.below (ov_below _ _)) (hi3.below (ov_below _ _)) (hi2.below (ov_below _ _))))))))
              refine wpQuiet_nil ?_
              intro _ hw_ov
              obtain ⟨x_ov, hw_ov2⟩ := hw_ov
              subst hw_ov2
              obtain ⟨wz, hw_ov3, hbz⟩ := ov_gen _ x_ov
              rw [hw_ov3]
              clear hw_ov3 x_ov
              have hBz := chain hB hbz
              go_wp2
              go_roundw
              case rel => first | exact ⟨a + 1, by omega, by go_num, hBz⟩ | exact ⟨_, ⟨a + 1, by omega, by go_num, hBz⟩, rfl⟩ | exact ⟨_, _, ⟨a + 1, by omega, by go_num, hBz⟩, rfl, rfl⟩ | exact ⟨_, _, _, ⟨a + 1, by omega, by go_num, hBz⟩, rfl, rfl, rfl⟩ | exact ⟨_, _, _, _, ⟨a + 1, by omega, by go_num, hBz⟩, rfl, rfl, rfl, rfl⟩ | exact ⟨_, _, _, _, _, ⟨a + 1, by omega, by go_num, hBz⟩, rfl, rfl, rfl, rfl, rfl⟩
              case measure => simp [intOf]; omega
          · have x1 : (fX.num == fL.num) = false := beq_eq_false_iff_ne.2 m1
            clear n1' m1
            by_cases q2 : a < k2
            · have d2 : (a : Int) < (k2 : Int) := by omega
              have n2' := L4.out q2
              by_cases m2 : fY.num = fH.num
              · have x2 : (fY.num == fH.num) = true := beq_iff_eq.2 m2
                have y2 : (fY.den == fH.den) = false := beq_eq_false_iff_ne.2 (fun h => n2' ⟨m2, h⟩)
                clear n2' m2
                clear L2 L4
                go_wp2
                refine wp_region_ov (by kernel_rfl) (by kernel_rfl) ?_
                repeat (first | go_big_quiet_step ((first | (go_at_call 20; first | (with_reducible exact ov_call (HD1.out _)) | (with_reducible exact ov_call (HD2.out _))) | (go_at_call 28; first | (with_reducible exact ov_call (HE1.out _ (him.below (ov_below _ _)) (hi3.below (ov_below _ _)) (hi1.below (ov_below _ _)))) | (with_reducible exact ov_call (HE2.out _ (him.below (ov_below _ _)) (hi3.below (ov_below _ _)) (hi2.below (ov_below _ _))))))) | quiet_step ((first | (go_at_call 20; first | (with_reducible exact ov_call (HD1.out _)) | (with_reducible exact ov_call (HD2.out _))) | (go_at_call 28; first | (with_reducible exact ov_call (HE1.out _ (him.below (ov_below _ _)) (hi3.below (ov_below _ _)) (hi1.below (ov_below _ _)))) | (with_reducible exact ov_call (HE2.out _ (him.below (ov_below _ _)) (hi3.below (ov_below _ _)) (hi2.below (ov_below _ _))))))))
                refine wpQuiet_nil ?_
                intro _ hw_ov
                obtain ⟨x_ov, hw_ov2⟩ := hw_ov
                subst hw_ov2
                obtain ⟨wz, hw_ov3, hbz⟩ := ov_gen _ x_ov
                rw [hw_ov3]
                clear hw_ov3 x_ov
                have hBz := chain hB hbz
                go_wp2
                go_roundw
                case rel => first | exact ⟨a + 1, by omega, by go_num, hBz⟩ | exact ⟨_, ⟨a + 1, by omega, by go_num, hBz⟩, rfl⟩ | exact ⟨_, _, ⟨a + 1, by omega, by go_num, hBz⟩, rfl, rfl⟩ | exact ⟨_, _, _, ⟨a + 1, by omega, by go_num, hBz⟩, rfl, rfl, rfl⟩ | exact ⟨_, _, _, _, ⟨a + 1, by omega, by go_num, hBz⟩, rfl, rfl, rfl, rfl⟩ | exact ⟨_, _, _, _, _, ⟨a + 1, by omega, by go_num, hBz⟩, rfl, rfl, rfl, rfl, rfl⟩
                case measure => simp [intOf]; omega
              · have x2 : (fY.num == fH.num) = false := beq_eq_false_iff_ne.2 m2
                clear n2' m2
                clear L2 L4
                go_wp2
                refine wp_region_ov (by kernel_rfl) (by kernel_rfl) ?_
                repeat (first | go_big_quiet_step ((first | (go_at_call 20; first | (with_reducible exact ov_call (HD1.out _)) | (with_reducible exact ov_call (HD2.out _))) | (go_at_call 28; first | (with_reducible exact ov_call (HE1.out _ (him.below (ov_below _ _)) (hi3.below (ov_below _ _)) (hi1.below (ov_below _ _)))) | (with_reducible exact ov_call (HE2.out _ (him.below (ov_below _ _)) (hi3.below (ov_below _ _)) (hi2.below (ov_below _ _))))))) | quiet_step ((first | (go_at_call 20; first | (with_reducible exact ov_call (HD1.out _)) | (with_reducible exact ov_call (HD2.out _))) | (go_at_call 28; first | (with_reducible exact ov_call (HE1.out _ (him.below (ov_below _ _)) (hi3.below (ov_below _ _)) (hi1.below (ov_below _ _)))) | (with_reducible exact ov_call (HE2.out _ (him.below (ov_below _ _)) (hi3.below (ov_below _ _)) (hi2.below (ov_below _ _))))))))
                refine wpQuiet_nil ?_
                intro _ hw_ov
                obtain ⟨x_ov, hw_ov2⟩ := hw_ov
                subst hw_ov2
                obtain ⟨wz, hw_ov3, hbz⟩ := ov_gen _ x_ov
                rw [hw_ov3]
                clear hw_ov3 x_ov
                have hBz := chain hB hbz
                go_wp2
                go_roundw
                case rel => first | exact ⟨a + 1, by omega, by go_num, hBz⟩ | exact ⟨_, ⟨a + 1, by omega, by go_num, hBz⟩, rfl⟩ | exact ⟨_, _, ⟨a + 1, by omega, by go_num, hBz⟩, rfl, rfl⟩ | exact ⟨_, _, _, ⟨a + 1, by omega, by go_num, hBz⟩, rfl, rfl, rfl⟩ | exact ⟨_, _, _, _, ⟨a + 1, by omega, by go_num, hBz⟩, rfl, rfl, rfl, rfl⟩ | exact ⟨_, _, _, _, _, ⟨a + 1, by omega, by go_num, hBz⟩, rfl, rfl, rfl, rfl, rfl⟩
                case measure => simp [intOf]; omega
            · have d2 : ¬ (a : Int) < (k2 : Int) := by omega
              clear L2 L4
              go_wp2
              refine wp_region_ov (by kernel_rfl) (by kernel_rfl) ?_
              repeat (first | go_big_quiet_step ((first | (go_at_call 20; first | (with_reducible exact ov_call (HD1.out _)) | (with_reducible exact ov_call (HD2.out _))) | (go_at_call 28; first | (with_reducible exact ov_call (HE1.out _ (him.below (ov_below _ _)) (hi3.below (ov_below _ _)) (hi1.below (ov_below _ _)))) | (with_reducible exact ov_call (HE2.out _ (him.below (ov_below _ _)) (hi3.below (ov_below _ _)) (hi2.below (ov_below _ _))))))) | quiet_step ((first | (go_at_call 20; first | (with_reducible exact ov_call (HD1.out _)) | (with_reducible exact ov_call (HD2.out _))) | (go_at_call 28; first | (with_reducible exact ov_call (HE1.out _ (him.below (ov_below _ _)) (hi3.below (ov_below _ _)) (hi1.below (ov_below _ _)))) | (with_reducible exact ov_call (HE2.out _ (him.below (ov_below _ _)) (hi3.below (ov_below _ _)) (hi2.below (ov_below _ _))))))))
              refine wpQuiet_nil ?_
              intro _ hw_ov
              obtain ⟨x_ov, hw_ov2⟩ := hw_ov
              subst hw_ov2
              obtain ⟨wz, hw_ov3, hbz⟩ := ov_gen _ x_ov
              rw [hw_ov3]
              clear hw_ov3 x_ov
              have hBz := chain hB hbz
              go_wp2
              go_roundw
              case rel => first | exact ⟨a + 1, by omega, by go_num, hBz⟩ | exact ⟨_, ⟨a + 1, by omega, by go_num, hBz⟩, rfl⟩ | exact ⟨_, _, ⟨a + 1, by omega, by go_num, hBz⟩, rfl, rfl⟩ | exact ⟨_, _, _, ⟨a + 1, by omega, by go_num, hBz⟩, rfl, rfl, rfl⟩ | exact ⟨_, _, _, _, ⟨a + 1, by omega, by go_num, hBz⟩, rfl, rfl, rfl, rfl⟩ | exact ⟨_, _, _, _, _, ⟨a + 1, by omega, by go_num, hBz⟩, rfl, rfl, rfl, rfl, rfl⟩
              case measure => simp [intOf]; omega
        · have d1 : ¬ (a : Int) < (k1 : Int) := by omega
          by_cases q2 : a < k2
          · have d2 : (a : Int) < (k2 : Int) := by omega
            have n2' := L4.out q2
            by_cases m2 : fY.num = fH.num
            · have x2 : (fY.num == fH.num) = true := beq_iff_eq.2 m2
              have y2 : (fY.den == fH.den) = false := beq_eq_false_iff_ne.2 (fun h => n2' ⟨m2, h⟩)
              clear n2' m2
              clear L2 L4
              go_wp2
              refine wp_region_ov (by kernel_rfl) (by kernel_rfl) ?_
              repeat (first | go_big_quiet_step ((first | (go_at_call 20; first | (with_reducible exact ov_call (HD1.out _)) | (with_reducible exact ov_call (HD2.out _))) | (go_at_call 28; first | (with_reducible exact ov_call (HE1.out _ (him.below (ov_below _ _)) (hi3.below (ov_below _ _)) (hi1.below (ov_below _ _)))) | (with_reducible exact ov_call (HE2.out _ (him.below (ov_below _ _)) (hi3.below (ov_below _ _)) (hi2.below (ov_below _ _))))))) | quiet_step ((first | (go_at_call 20; first | (with_reducible exact ov_call (HD1.out _)) | (with_reducible exact ov_call (HD2.out _))) | (go_at_call 28; first | (with_reducible exact ov_call (HE1.out _ (him.below (ov_below _ _)) (hi3.below (ov_below _ _)) (hi1.below (ov_below _ _)))) | (with_reducible exact ov_call (HE2.out _ (him.below (ov_below _ _)) (hi3.below (ov_below _ _)) (hi2.below (ov_below _ _))))))))
              refine wpQuiet_nil ?_
              intro _ hw_ov
              obtain ⟨x_ov, hw_ov2⟩ := hw_ov
              subst hw_ov2
              obtain ⟨wz, hw_ov3, hbz⟩ := ov_gen _ x_ov
              rw [hw_ov3]
              clear hw_ov3 x_ov
              have hBz := chain hB hbz
              go_wp2
              go_roundw
              case rel => first | exact ⟨a + 1, by omega, by go_num, hBz⟩ | exact ⟨_, ⟨a + 1, by omega, by go_num, hBz⟩, rfl⟩ | exact ⟨_, _, ⟨a + 1, by omega, by go_num, hBz⟩, rfl, rfl⟩ | exact ⟨_, _, _, ⟨a + 1, by omega, by go_num, hBz⟩, rfl, rfl, rfl⟩ | exact ⟨_, _, _, _, ⟨a + 1, by omega, by go_num, hBz⟩, rfl, rfl, rfl, rfl⟩ | exact ⟨_, _, _, _, _, ⟨a + 1, by omega, by go_num, hBz⟩, rfl, rfl, rfl, rfl, rfl⟩
              case measure => simp [intOf]; omega
            · have x2 : (fY.num == fH.num) = false := beq_eq_false_iff_ne.2 m2
              clear n2' m2
              clear L2 L4
              go_wp2
              refine wp_region_ov (by kernel_rfl) (by kernel_rfl) ?_
              repeat (first | go_big_quiet_step ((first | (go_at_call 20; first | (with_reducible exact ov_call (HD1.out _)) | (with_reducible exact ov_call (HD2.out _))) | (go_at_call 28; first | (with_reducible exact ov_call (HE1.out _ (him.below (ov_below _ _)) (hi3.below (ov_below _ _)) (hi1.below (ov_below _ _)))) | (with_reducible exact ov_call (HE2.out _ (him.below (ov_below _ _)) (hi3.below (ov_below _ _)) (hi2.below (ov_below _ _))))))) | quiet_step ((first | (go_at_call 20; first | (with_reducible exact ov_call (HD1.out _)) | (with_reducible exact ov_call (HD2.out _))) | (go_at_call 28; first | (with_reducible exact ov_call (HE1.out _ (him.below (ov_below _ _)) (hi3.below (ov_below _ _)) (hi1.below (ov_below _ _)))) | (with_reducible exact ov_call (HE2.out _ (him.below (ov_below _ _)) (hi3.below (ov_below _ _)) (hi2.below (ov_below _ _))))))))
              refine wpQuiet_nil ?_
              intro _ hw_ov
              obtain ⟨x_ov, hw_ov2⟩ := hw_ov
              subst hw_ov2
              obtain ⟨wz, hw_ov3, hbz⟩ := ov_gen _ x_ov
              rw [hw_ov3]
              clear hw_ov3 x_ov
              have hBz := chain hB hbz
              go_wp2
              go_roundw
              case rel => first | exact ⟨a + 1, by omega, by go_num, hBz⟩ | exact ⟨_, ⟨a + 1, by omega, by go_num, hBz⟩, rfl⟩ | exact ⟨_, _, ⟨a + 1, by omega, by go_num, hBz⟩, rfl, rfl⟩ | exact ⟨_, _, _, ⟨a + 1, by omega, by go_num, hBz⟩, rfl, rfl, rfl⟩ | exact ⟨_, _, _, _, ⟨a + 1, by omega, by go_num, hBz⟩, rfl, rfl, rfl, rfl⟩ | exact ⟨_, _, _, _, _, ⟨a + 1, by omega, by go_num, hBz⟩, rfl, rfl, rfl, rfl, rfl⟩
              case measure => simp [intOf]; omega
          · have d2 : ¬ (a : Int) < (k2 : Int) := by omega
            clear L2 L4
            go_wp2
            refine wp_region_ov (by kernel_rfl) (by kernel_rfl) ?_
            repeat (first | go_big_quiet_step ((first | (go_at_call 20; first | (with_reducible exact ov_call (HD1.out _)) | (with_reducible exact ov_call (HD2.out _))) | (go_at_call 28; first | (with_reducible exact ov_call (HE1.out _ (him.below (ov_below _ _)) (hi3.below (ov_below _ _)) (hi1.below (ov_below _ _)))) | (with_reducible exact ov_call (HE2.out _ (him.below (ov_below _ _)) (hi3.below (ov_below _ _)) (hi2.below (ov_below _ _))))))) | quiet_step ((first | (go_at_call 20; first | (with_reducible exact ov_call (HD1.out _)) | (with_reducible exact ov_call (HD2.out _))) | (go_at_call 28; first | (with_reducible exact ov_call (HE1.out _ (him.below (ov_below _ _)) (hi3.below (ov_below _ _)) (hi1.below (ov_below _ _)))) | (with_reducible exact ov_call (HE2.out _ (him.below (ov_below _ _)) (hi3.below (ov_below _ _)) (hi2.below (ov_below _ _))))))))
            refine wpQuiet_nil ?_
            intro _ hw_ov
            obtain ⟨x_ov, hw_ov2⟩ := hw_ov
            subst hw_ov2
            obtain ⟨wz, hw_ov3, hbz⟩ := ov_gen _ x_ov
            rw [hw_ov3]
            clear hw_ov3 x_ov
            have hBz := chain hB hbz
            go_wp2
            go_roundw
            case rel => first | exact ⟨a + 1, by omega, by go_num, hBz⟩ | exact ⟨_, ⟨a + 1, by omega, by go_num, hBz⟩, rfl⟩ | exact ⟨_, _, ⟨a + 1, by omega, by go_num, hBz⟩, rfl, rfl⟩ | exact ⟨_, _, _, ⟨a + 1, by omega, by go_num, hBz⟩, rfl, rfl, rfl⟩ | exact ⟨_, _, _, _, ⟨a + 1, by omega, by go_num, hBz⟩, rfl, rfl, rfl, rfl⟩ | exact ⟨_, _, _, _, _, ⟨a + 1, by omega, by go_num, hBz⟩, rfl, rfl, rfl, rfl, rfl⟩
            case measure => simp [intOf]; omega
      · obtain rfl : a = M := by omega
        go_wp2
        go_ret
        exact ⟨rfl, hB0.trans (hB.mono hsw)⟩
end Go.Proofs.Ytaplpgmkobokhaa
