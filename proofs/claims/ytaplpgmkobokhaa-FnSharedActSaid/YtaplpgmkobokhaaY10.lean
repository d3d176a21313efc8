/- The law FnSharedAct: its walk (printed by fngen.py). -/
import Derived.Test.YtaplpgmkobokhaaD16
import Derived.Test.YtaplpgmkobokhaaN8
import Derived.Test.YtaplpgmkobokhaaW9
import Derived.Test.YtaplpgmkobokhaaW14
import Derived.Test.YtaplpgmkobokhaaW17
import Derived.Test.YtaplpgmkobokhaaW21
set_option linter.unusedSimpArgs false
set_option linter.unusedVariables false
namespace Go.Proofs.Ytaplpgmkobokhaa
open Go.RowKit
theorem keepS3 {w w' : World} {a b c : Addr} {u v x : Value} (ha : w.cell? a = some u) (hb : w.cell? b = some v) (hc : w.cell? c = some x) (h : Below w.heap.size w w') : w'.cell? a = some u ∧ w'.cell? b = some v ∧ w'.cell? c = some x ∧ Below w.heap.size w w' := ⟨keep h ha, keep h hb, keep h hc, h⟩
set_option maxRecDepth 100000 in
set_option maxHeartbeats 16000000 in
theorem FnSharedAct_walk (ao : Option Addr) (n c : Nat) (w : World) (hx : n ≤ 1048576 → BytesIn w w.heap.size ao n) (hnc : n ≤ c) (hcap : n ≤ 9223372036854775807) :
    Calls Try.prog 7 #[.slice ao n c] w fun e w' => e = .returned (.bool true) ∧ Below w.heap.size w w' := by
  by_cases hn : 1048576 < n
  · go_enter Try.func7, Try.ntmps7
    go_wp2
    go_ret
    exact ⟨rfl, Below.refl _ _⟩
  have HX := hid (hx (by omega))
  clear hx
  go_enter Try.func7, Try.ntmps7
  have hB := Below.refl w.heap.size w
  go_wp2_with fail
  refine (DrawSharedAct_any ao n c _ HX.out hnc).mono ?_; rintro e w1 ⟨⟨s, p, xs, q, acts, rfl, hr, hlx, hr2, hl9, hsh⟩, hb⟩
  have hd := hb
  replace hB := chain hB hd
  have hs1 := hd.size
  clear hb hd
  obtain ⟨am, nm, cm, rfl, him⟩ := hr.ints
  clear hr
  obtain ⟨aq, nq, cq, rfl, hnq, hiq⟩ := hr2.form
  clear hr2
  subst hnq
  obtain ⟨M, hM⟩ : ∃ M, acts.length = M := ⟨_, rfl⟩
  rw [hM] at hiq hl9 ⊢
  have HM := hid hM
  clear hM
  obtain ⟨r1, HA⟩ : ∃ r, Hid (bestM (actsOk s xs acts) (fun k => shTo xs (nthL acts k) (nthL acts k).length) M = r) := ⟨_, rfl⟩
  go_wp2_with fail
  refine (SharedAct_any s _ _ _ _ _ _ xs acts _ (him.below (by (repeat (first | exact Below.refl _ _ | assumption | refine Below.alloc ?_ (by first | omega | (simp <;> omega)) _ | refine Below.setCell ?_ (by first | omega | (simp <;> omega)) _ | refine Below.drew ?_ | refine below_drewN ?_)))) (hiq.below (by (repeat (first | exact Below.refl _ _ | assumption | refine Below.alloc ?_ (by first | omega | (simp <;> omega)) _ | refine Below.setCell ?_ (by first | omega | (simp <;> omega)) _ | refine Below.drew ?_ | refine below_drewN ?_))))).mono ?_; rw [HA.out]; rintro e w2 ⟨rfl, hb⟩
  have mm0 := keep hb (a := ⟨w1.heap.size, 0, none⟩) (v := .int .i64 s) (by simp)
  have mm1 := keep hb (a := ⟨w1.heap.size, 1, none⟩) (v := .slice am nm cm) (by simp)
  have hN1 : w1.heap.size < w2.heap.size := by have := World.block_lt_of_cell? w2 _ mm0; simpa using this
  have hd : Below w1.heap.size w1 w2 := Below.trans (by (repeat (first | exact Below.refl _ _ | assumption | refine Below.alloc ?_ (by first | omega | (simp <;> omega)) _ | refine Below.setCell ?_ (by first | omega | (simp <;> omega)) _ | refine Below.drew ?_ | refine below_drewN ?_))) (hb.mono (by simp <;> omega))
  replace him := him.below hd
  replace hiq := hiq.below hd
  replace hB := chain hB hd
  have hs2 := hd.size
  clear hb hd
  go_wp2_with fail
  refine (specSharedAct_any s _ _ _ _ _ _ xs acts _ him hiq).mono ?_; rw [HA.out]; rintro e w3 ⟨rfl, hb⟩
  have hd := hb
  replace mm0 := keep hd mm0
  replace mm1 := keep hd mm1
  replace him := him.below hd
  replace hiq := hiq.below hd
  replace hB := chain hB hd
  have hs3 := hd.size
  clear hb hd
  obtain ⟨bo, HBO⟩ : ∃ r, Hid (actsOk s xs acts = r) := ⟨_, rfl⟩
  cases bo
  · have hr1 : r1 = -1 := by rw [← HA.out, HBO.out]; rfl
    subst hr1
    go_wp2_with fail
    refine (specSharedAct_any s _ _ _ _ _ _ xs acts _ him hiq).mono ?_; rw [HA.out]; rintro e w4 ⟨rfl, hb⟩
    have hd := hb
    replace mm0 := keep hd mm0
    replace mm1 := keep hd mm1
    replace him := him.below hd
    replace hiq := hiq.below hd
    replace hB := chain hB hd
    have hs4 := hd.size
    clear hb hd
    go_wp2
    go_ret
    exact ⟨rfl, hB⟩
  · obtain ⟨_, hM1, hM8, _⟩ := acts_gains HBO.out
    rw [HM.out] at hM1 hM8
    obtain ⟨k1, hk1⟩ : ∃ k, Hid (argTo (fun k => shTo xs (nthL acts k) (nthL acts k).length) M = k) := ⟨_, rfl⟩
    have hkM1 : k1 < M := by rw [← hk1.out]; exact argTo_lt _ _ (by omega)
    have hr1 : r1 = (k1 : Int) := by rw [← HA.out, HBO.out, ← hk1.out]; rfl
    subst hr1
    have hkn1 : ¬ (k1 : Int) < 0 := by omega
    have hki1 : (k1 : Int) < (M : Int) := by omega
    have hkj1 : (0 : Int) ≤ (k1 : Int) := by omega
    obtain ⟨rK, HK⟩ : ∃ r, Hid (shareM s xs = r) := ⟨_, rfl⟩
    go_wp2_with fail
    refine (SharedChance_any _ _ _ _ xs _ him).mono ?_; rw [HK.out]; rintro e w4 ⟨⟨vK, rfl, hrK⟩, hb⟩
    obtain ⟨aK, nK, cK, rfl, hiK⟩ := hrK.ints
    clear hrK
    have hd := hb
    replace mm0 := keep hd mm0
    replace mm1 := keep hd mm1
    replace him := him.below hd
    replace hiq := hiq.below hd
    replace hB := chain hB hd
    have hs4 := hd.size
    clear hb hd
    cases ho : rK.ok
    · go_wp2
      go_ret
      exact ⟨rfl, by (repeat (first | exact Below.refl _ _ | assumption | refine Below.alloc ?_ (by first | omega | (simp <;> omega)) _ | refine Below.setCell ?_ (by first | omega | (simp <;> omega)) _ | refine Below.drew ?_ | refine below_drewN ?_))⟩
    · have hpo : (shareM s xs).ok = true := by rw [HK.out]; exact ho
      have hks : rK.size = s := by obtain ⟨_, _, e1, _⟩ := share_facts hpo; rw [← HK.out]; exact e1
      have HLAW := hid (shared_law HBO.out hpo (k := k1) (by rw [HM.out]; exact hk1.out))
      rw [HK.out, HM.out] at HLAW
      have HU1 : Hid (∀ i, i < M → beatsM s xs (nthL acts i) (nthL acts k1) = false) := fun i hi => by rw [← hk1.out]; exact shared_unbeaten hi
      clear hk1 hpo
      subst hks
      go_wp2
      obtain ⟨w5, hww5⟩ : ∃ W, (w4.alloc (.cells #[.int .i64 rK.size, .slice aK nK cK] 25)) = W := ⟨_, rfl⟩
      rw [hww5]
      have hd : Below w4.heap.size w4 w5 := by rw [← hww5]; (repeat (first | exact Below.refl _ _ | assumption | refine Below.alloc ?_ (by first | omega | (simp <;> omega)) _ | refine Below.setCell ?_ (by first | omega | (simp <;> omega)) _ | refine Below.drew ?_ | refine below_drewN ?_))
      have mK0 : w5.cell? ⟨w4.heap.size, 0, none⟩ = some (.int .i64 rK.size) := by rw [← hww5]; simp
      have mK1 : w5.cell? ⟨w4.heap.size, 1, none⟩ = some (.slice aK nK cK) := by rw [← hww5]; simp
      have hN2 : w4.heap.size < w5.heap.size := by rw [← hww5]; simp
      replace mm0 := keep hd mm0
      replace mm1 := keep hd mm1
      replace him := him.below hd
      replace hiq := hiq.below hd
      replace hiK := hiK.below hd
      replace hB := chain hB hd
      have hs5 := hd.size
      clear hd hww5
      obtain ⟨b1, o1, a1, n1, c1, e1, _, _, hc1, hi1⟩ := hiq.at (Below.refl _ _) hkM1
      subst e1
      obtain ⟨g1, hg1⟩ : ∃ g, nthL acts k1 = g := ⟨_, rfl⟩
      rw [hg1] at hi1 HLAW HU1
      obtain ⟨fL, HL⟩ : ∃ r, Hid (meanC rK.size rK.parts g1 = r) := ⟨_, rfl⟩
      go_wp2
      refine wp_region_joinF (ι := Nat) (fun act bk => (Act.put (Act.put (Act.put (Act.put (Act.put (Act.put (Act.put (Act.put (Act.put (Act.put (Act.put act (some 46) (.agg #[.int .i64 rK.size, .slice aK nK cK])) (some 47) (.slice (some ⟨b1, o1, none⟩) M cq)) (some 48) (.int .i64 k1)) (some 49) (.pointer (some ⟨b1, o1 + k1, none⟩))) (some 50) (.slice a1 n1 c1)) (some 51) (.tuple #[.agg #[.int .i64 fL.num, .int .i64 fL.den], .bool fL.ok])) (some 45) (.tuple #[.agg #[.int .i64 fL.num, .int .i64 fL.den], .bool fL.ok])) (some 52) (.agg #[.int .i64 fL.num, .int .i64 fL.den])) (some 53) (.bool fL.ok)) (some 8) (.pointer (some ⟨bk, 0, none⟩))) (some 9) (.bool fL.ok))) (fun b W => Bx W b (.int .i64 fL.num) (.int .i64 fL.den) ∧ Below w5.heap.size w5 W) ?_ ?_
      · go_region_held3 (fun w' => w'.cell? ⟨w4.heap.size, 0, none⟩ = some (.int .i64 rK.size) ∧ w'.cell? ⟨w4.heap.size, 1, none⟩ = some (.slice aK nK cK) ∧ w'.cell? ⟨b1, o1 + k1, none⟩ = some (.slice a1 n1 c1) ∧ Below w5.heap.size w5 w') (first | (refine keepS3 mK0 mK1 hc1 ?_; (repeat (first | exact Below.refl _ _ | assumption | refine Below.alloc ?_ (by first | omega | (simp <;> omega)) _ | refine Below.setCell ?_ (by first | omega | (simp <;> omega)) _ | refine Below.drew ?_ | refine below_drewN ?_)); done)) (first | (go_at_call 35; refine (MeanOf_any rK.size _ _ _ _ _ _ rK.parts g1 w5.drew (hiK.below (by (repeat (first | exact Below.refl _ _ | assumption | refine Below.alloc ?_ (by first | omega | (simp <;> omega)) _ | refine Below.setCell ?_ (by first | omega | (simp <;> omega)) _ | refine Below.drew ?_ | refine below_drewN ?_)))) (hi1.below (by (repeat (first | exact Below.refl _ _ | assumption | refine Below.alloc ?_ (by first | omega | (simp <;> omega)) _ | refine Below.setCell ?_ (by first | omega | (simp <;> omega)) _ | refine Below.drew ?_ | refine below_drewN ?_))))).mono ?_; rw [HL.out]; rintro e wz ⟨rfl, hbz⟩; have hdz : Below w5.heap.size w5 wz := Below.trans (by (repeat (first | exact Below.refl _ _ | assumption | refine Below.alloc ?_ (by first | omega | (simp <;> omega)) _ | refine Below.setCell ?_ (by first | omega | (simp <;> omega)) _ | refine Below.drew ?_ | refine below_drewN ?_))) (hbz.mono (by simp <;> omega)); have z0 := keep hdz mK0; have z1 := keep hdz mK1; have zc := keep hdz hc1; have hsz := hdz.size) | (go_at_call 35; refine (MeanOf_any rK.size _ _ _ _ _ _ rK.parts g1 (w5.alloc (.cells #[.int .i64 0, .int .i64 0] 31)).drew (hiK.below (by (repeat (first | exact Below.refl _ _ | assumption | refine Below.alloc ?_ (by first | omega | (simp <;> omega)) _ | refine Below.setCell ?_ (by first | omega | (simp <;> omega)) _ | refine Below.drew ?_ | refine below_drewN ?_)))) (hi1.below (by (repeat (first | exact Below.refl _ _ | assumption | refine Below.alloc ?_ (by first | omega | (simp <;> omega)) _ | refine Below.setCell ?_ (by first | omega | (simp <;> omega)) _ | refine Below.drew ?_ | refine below_drewN ?_))))).mono ?_; rw [HL.out]; rintro e wz ⟨rfl, hbz⟩; have hdz : Below w5.heap.size w5 wz := Below.trans (by (repeat (first | exact Below.refl _ _ | assumption | refine Below.alloc ?_ (by first | omega | (simp <;> omega)) _ | refine Below.setCell ?_ (by first | omega | (simp <;> omega)) _ | refine Below.drew ?_ | refine below_drewN ?_))) (hbz.mono (by simp <;> omega)); have z0 := keep hdz mK0; have z1 := keep hdz mK1; have zc := keep hdz hc1; have hsz := hdz.size; have kb0 := keep hbz (a := ⟨w5.heap.size, 0, none⟩) (v := .int .i64 0) (by simp); have kb1 := keep hbz (a := ⟨w5.heap.size, 1, none⟩) (v := .int .i64 0) (by simp); have kf0 := keepF hbz (a := ⟨w5.heap.size, 0, none⟩) (v := .int .i64 0) (by simp) (by simp); have kf1 := keepF hbz (a := ⟨w5.heap.size, 1, none⟩) (v := .int .i64 0) (by simp) (by simp); have hlz : w5.heap.size < wz.heap.size := (by have h_z := hbz.size; simp at h_z; omega)))
        · exact ⟨wz.heap.size, by simp [Act.put], Bx.mk2 rfl, by (repeat (first | exact Below.refl _ _ | assumption | refine Below.alloc ?_ (by first | omega | (simp <;> omega)) _ | refine Below.setCell ?_ (by first | omega | (simp <;> omega)) _ | refine Below.drew ?_ | refine below_drewN ?_))⟩
        · exact ⟨w5.heap.size, by simp [Act.put], (show Bx wz w5.heap.size _ _ from ⟨kb0, kb1, kf0, kf1, hlz⟩).put2 _ _, by (repeat (first | exact Below.refl _ _ | assumption | refine Below.alloc ?_ (by first | omega | (simp <;> omega)) _ | refine Below.setCell ?_ (by first | omega | (simp <;> omega)) _ | refine Below.drew ?_ | refine below_drewN ?_))⟩
      rintro bLx w6 ⟨hbx, hb⟩
      have hd := hb
      replace mm0 := keep hd mm0
      replace mm1 := keep hd mm1
      replace mK0 := keep hd mK0
      replace mK1 := keep hd mK1
      replace hc1 := keep hd hc1
      replace him := him.below hd
      replace hiq := hiq.below hd
      replace hiK := hiK.below hd
      replace hi1 := hi1.below hd
      replace hB := chain hB hd
      have hs6 := hd.size
      clear hb hd
      have fL0 := hbx.c0
      have fL1 := hbx.c1
      clear hbx
      go_wp2
      go_loopw [10] (fun i wr => ∃ a : Nat, a ≤ M ∧ i = .int .i64 a ∧ Below w6.heap.size w6 wr) (fun i _ => M - (intOf i).toNat)
      case atStart => exact ⟨0, by omega, rfl, Below.refl _ _⟩
      case round =>
        obtain ⟨a, ha, rfl, hBr⟩ := hrel
        obtain ⟨w7, rfl⟩ : ∃ q : World, q = wr := ⟨_, rfl⟩
        replace mm0 := keep hBr mm0
        replace mm1 := keep hBr mm1
        replace mK0 := keep hBr mK0
        replace mK1 := keep hBr mK1
        replace hc1 := keep hBr hc1
        replace fL0 := keep hBr fL0
        replace fL1 := keep hBr fL1
        replace him := him.below hBr
        replace hiq := hiq.below hBr
        replace hiK := hiK.below hBr
        replace hi1 := hi1.below hBr
        have hB0 := hB
        have hsw := hB.size
        have hsr := hBr.size
        clear hB
        have hB := hBr
        by_cases hlt : a < M
        · have ha0 : (0 : Int) ≤ (a : Int) := by omega
          have ha1 : (a : Int) < (M : Int) := by omega
          obtain ⟨b3, o3, a3, n3, c3, e3, _, _, hc3, hi3⟩ := hiq.at (Below.refl _ _) hlt
          injection e3 with e4; injection e4 with e5 e6; subst e5 e6
          obtain ⟨l1, l2⟩ := HLAW.out.1 a (by first | exact hlt | (rw [HM.out]; exact hlt))
          have u1 := HU1.out a hlt
          obtain ⟨g3, hg3⟩ : ∃ g, nthL acts a = g := ⟨_, rfl⟩
          rw [hg3] at hi3 l1 l2 u1
          clear hg3
          rw [HL.out] at l1 l2
          have L1 := hid l1
          have L2 := hid l2
          have U1 := hid u1
          clear l1 l2 u1
          obtain ⟨fX, HX⟩ : ∃ r, Hid (meanC rK.size rK.parts g3 = r) := ⟨_, rfl⟩
          go_wp2
          refine wp_region_joinF (ι := Nat) (fun act bk => (Act.put (Act.put (Act.put (Act.put (Act.put (Act.put (Act.put (Act.put (Act.put (Act.put (Act.put act (some 61) (.agg #[.int .i64 rK.size, .slice aK nK cK])) (some 62) (.slice (some ⟨b1, o1, none⟩) M cq)) (some 63) (.int .i64 a)) (some 64) (.pointer (some ⟨b1, o1 + a, none⟩))) (some 65) (.slice a3 n3 c3)) (some 66) (.tuple #[.agg #[.int .i64 fX.num, .int .i64 fX.den], .bool fX.ok])) (some 60) (.tuple #[.agg #[.int .i64 fX.num, .int .i64 fX.den], .bool fX.ok])) (some 67) (.agg #[.int .i64 fX.num, .int .i64 fX.den])) (some 68) (.bool fX.ok)) (some 11) (.pointer (some ⟨bk, 0, none⟩))) (some 12) (.bool fX.ok))) (fun b W => Bx W b (.int .i64 fX.num) (.int .i64 fX.den) ∧ Below w7.heap.size w7 W) ?_ ?_
          · go_region_held3 (fun w' => w'.cell? ⟨w4.heap.size, 0, none⟩ = some (.int .i64 rK.size) ∧ w'.cell? ⟨w4.heap.size, 1, none⟩ = some (.slice aK nK cK) ∧ w'.cell? ⟨b1, o1 + a, none⟩ = some (.slice a3 n3 c3) ∧ Below w7.heap.size w7 w') (first | (refine keepS3 mK0 mK1 hc3 ?_; (repeat (first | exact Below.refl _ _ | assumption | refine Below.alloc ?_ (by first | omega | (simp <;> omega)) _ | refine Below.setCell ?_ (by first | omega | (simp <;> omega)) _ | refine Below.drew ?_ | refine below_drewN ?_)); done)) (first | (go_at_call 35; refine (MeanOf_any rK.size _ _ _ _ _ _ rK.parts g3 w7.drew (hiK.below (by (repeat (first | exact Below.refl _ _ | assumption | refine Below.alloc ?_ (by first | omega | (simp <;> omega)) _ | refine Below.setCell ?_ (by first | omega | (simp <;> omega)) _ | refine Below.drew ?_ | refine below_drewN ?_)))) (hi3.below (by (repeat (first | exact Below.refl _ _ | assumption | refine Below.alloc ?_ (by first | omega | (simp <;> omega)) _ | refine Below.setCell ?_ (by first | omega | (simp <;> omega)) _ | refine Below.drew ?_ | refine below_drewN ?_))))).mono ?_; rw [HX.out]; rintro e wz ⟨rfl, hbz⟩; have hdz : Below w7.heap.size w7 wz := Below.trans (by (repeat (first | exact Below.refl _ _ | assumption | refine Below.alloc ?_ (by first | omega | (simp <;> omega)) _ | refine Below.setCell ?_ (by first | omega | (simp <;> omega)) _ | refine Below.drew ?_ | refine below_drewN ?_))) (hbz.mono (by simp <;> omega)); have z0 := keep hdz mK0; have z1 := keep hdz mK1; have zc := keep hdz hc3; have hsz := hdz.size) | (go_at_call 35; refine (MeanOf_any rK.size _ _ _ _ _ _ rK.parts g3 (w7.alloc (.cells #[.int .i64 0, .int .i64 0] 31)).drew (hiK.below (by (repeat (first | exact Below.refl _ _ | assumption | refine Below.alloc ?_ (by first | omega | (simp <;> omega)) _ | refine Below.setCell ?_ (by first | omega | (simp <;> omega)) _ | refine Below.drew ?_ | refine below_drewN ?_)))) (hi3.below (by (repeat (first | exact Below.refl _ _ | assumption | refine Below.alloc ?_ (by first | omega | (simp <;> omega)) _ | refine Below.setCell ?_ (by first | omega | (simp <;> omega)) _ | refine Below.drew ?_ | refine below_drewN ?_))))).mono ?_; rw [HX.out]; rintro e wz ⟨rfl, hbz⟩; have hdz : Below w7.heap.size w7 wz := Below.trans (by (repeat (first | exact Below.refl _ _ | assumption | refine Below.alloc ?_ (by first | omega | (simp <;> omega)) _ | refine Below.setCell ?_ (by first | omega | (simp <;> omega)) _ | refine Below.drew ?_ | refine below_drewN ?_))) (hbz.mono (by simp <;> omega)); have z0 := keep hdz mK0; have z1 := keep hdz mK1; have zc := keep hdz hc3; have hsz := hdz.size; have kb0 := keep hbz (a := ⟨w7.heap.size, 0, none⟩) (v := .int .i64 0) (by simp); have kb1 := keep hbz (a := ⟨w7.heap.size, 1, none⟩) (v := .int .i64 0) (by simp); have kf0 := keepF hbz (a := ⟨w7.heap.size, 0, none⟩) (v := .int .i64 0) (by simp) (by simp); have kf1 := keepF hbz (a := ⟨w7.heap.size, 1, none⟩) (v := .int .i64 0) (by simp) (by simp); have hlz : w7.heap.size < wz.heap.size := (by have h_z := hbz.size; simp at h_z; omega)))
            · exact ⟨wz.heap.size, by simp [Act.put], Bx.mk2 rfl, by (repeat (first | exact Below.refl _ _ | assumption | refine Below.alloc ?_ (by first | omega | (simp <;> omega)) _ | refine Below.setCell ?_ (by first | omega | (simp <;> omega)) _ | refine Below.drew ?_ | refine below_drewN ?_))⟩
            · exact ⟨w7.heap.size, by simp [Act.put], (show Bx wz w7.heap.size _ _ from ⟨kb0, kb1, kf0, kf1, hlz⟩).put2 _ _, by (repeat (first | exact Below.refl _ _ | assumption | refine Below.alloc ?_ (by first | omega | (simp <;> omega)) _ | refine Below.setCell ?_ (by first | omega | (simp <;> omega)) _ | refine Below.drew ?_ | refine below_drewN ?_))⟩
          rintro bXx w8 ⟨hbx, hb⟩
          have hd := hb
          replace mm0 := keep hd mm0
          replace mm1 := keep hd mm1
          replace mK0 := keep hd mK0
          replace mK1 := keep hd mK1
          replace hc1 := keep hd hc1
          replace fL0 := keep hd fL0
          replace fL1 := keep hd fL1
          replace hc3 := keep hd hc3
          replace him := him.below hd
          replace hiq := hiq.below hd
          replace hiK := hiK.below hd
          replace hi1 := hi1.below hd
          replace hi3 := hi3.below hd
          replace hB := chain hB hd
          have hs8 := hd.size
          clear hb hd
          have fX0 := hbx.c0
          have fX1 := hbx.c1
          clear hbx
          rw [HX.out] at L1 L2
          have HD1 : Hid (∀ w', Calls Try.prog 20 #[.agg #[.int .i64 fL.num, .int .i64 fL.den], .agg #[.int .i64 fX.num, .int .i64 fX.den]] w' fun e w'' => e = .returned (.bool false) ∧ Below w'.heap.size w' w'') := fun w' => by rw [← L1.out]; exact LessFraction_any _ _ _ _ w'
          have HE1 : Hid (∀ w', IntsAt w' am nm xs → IntsAt w' a3 n3 g3 → IntsAt w' a1 n1 g1 → Calls Try.prog 28 #[.agg #[.int .i64 rK.size, .slice am nm cm], .slice a3 n3 c3, .slice a1 n1 c1] w' fun e w'' => e = .returned (.bool false) ∧ Below w'.heap.size w' w'') := fun w' h1 h2 h3 => by rw [← U1.out]; exact BeatsAct_any rK.size _ _ _ _ _ _ _ _ _ xs _ _ w' h1 h2 h3
          by_cases q1 : a < k1
          · have d1 : (a : Int) < (k1 : Int) := by omega
            have n1' := L2.out q1
            by_cases m1 : fX.num = fL.num
            · have x1 : (fX.num == fL.num) = true := beq_iff_eq.2 m1
              have y1 : (fX.den == fL.den) = false := beq_eq_false_iff_ne.2 (fun h => n1' ⟨m1, h⟩)
              clear n1' m1
              clear L2
              go_wp2
              refine wp_region_ov (by kernel_rfl) (by kernel_rfl) ?_
              repeat (first | go_big_quiet_step ((first | (go_at_call 20; (with_reducible exact ov_call (HD1.out _))) | (go_at_call 28; (with_reducible exact ov_call (HE1.out _ (him.below (ov_below _ _)) (hi3.below (ov_below _ _)) (hi1.below (ov_below _ _))))))) | quiet_step ((first | (go_at_call 20; (with_reducible exact ov_call (HD1.out _))) | (go_at_call 28; (with_reducible exact ov_call (HE1.out _ (him.below (ov_below _ _)) (hi3.below (ov_below _ _)) (hi1.below (ov_below _ _))))))))
              refine wpQuiet_nil ?_
              intro _ hw_ov
              obtain ⟨x_ov, hw_ov2⟩ := hw_ov
              subst hw_ov2
              obtain ⟨wz, hw_ov3, hbz⟩ := ov_gen _ x_ov
              rw [hw_ov3]
              clear hw_ov3 x_ov
              have hBz := chain hB hbz
              go_wp2
              go_roundw
              case rel => first | exact ⟨a + 1, by omega, by go_num, hBz⟩ | exact ⟨_, ⟨a + 1, by omega, by go_num, hBz⟩, rfl⟩ | exact ⟨_, _, ⟨a + 1, by omega, by go_num, hBz⟩, rfl, rfl⟩ | exact ⟨_, _, _, ⟨a + 1, by omega, by go_num, hBz⟩, rfl, rfl, rfl⟩ | exact ⟨_, _, _, _, ⟨a + 1, by omega, by go_num, hBz⟩, rfl, rfl, rfl, rfl⟩ | exact ⟨_, _, _, _, _, ⟨a + 1, by omega, by go_num, hBz⟩, rfl, rfl, rfl, rfl, rfl⟩
              case measure => simp [intOf]; omega
            · have x1 : (fX.num == fL.num) = false := beq_eq_false_iff_ne.2 m1
              clear n1' m1
              clear L2
              go_wp2
              refine wp_region_ov (by kernel_rfl) (by kernel_rfl) ?_
              repeat (first | go_big_quiet_step ((first | (go_at_call 20; (with_reducible exact ov_call (HD1.out _))) | (go_at_call 28; (with_reducible exact ov_call (HE1.out _ (him.below (ov_below _ _)) (hi3.below (ov_below _ _)) (hi1.below (ov_below _ _))))))) | quiet_step ((first | (go_at_call 20; (with_reducible exact ov_call (HD1.out _))) | (go_at_call 28; (with_reducible exact ov_call (HE1.out _ (him.below (ov_below _ _)) (hi3.below (ov_below _ _)) (hi1.below (ov_below _ _))))))))
              refine wpQuiet_nil ?_
              intro _ hw_ov
              obtain ⟨x_ov, hw_ov2⟩ := hw_ov
              subst hw_ov2
              obtain ⟨wz, hw_ov3, hbz⟩ := ov_gen _ x_ov
              rw [hw_ov3]
              clear hw_ov3 x_ov
              have hBz := chain hB hbz
              go_wp2
              go_roundw
              case rel => first | exact ⟨a + 1, by omega, by go_num, hBz⟩ | exact ⟨_, ⟨a + 1, by omega, by go_num, hBz⟩, rfl⟩ | exact ⟨_, _, ⟨a + 1, by omega, by go_num, hBz⟩, rfl, rfl⟩ | exact ⟨_, _, _, ⟨a + 1, by omega, by go_num, hBz⟩, rfl, rfl, rfl⟩ | exact ⟨_, _, _, _, ⟨a + 1, by omega, by go_num, hBz⟩, rfl, rfl, rfl, rfl⟩ | exact ⟨_, _, _, _, _, ⟨a + 1, by omega, by go_num, hBz⟩, rfl, rfl, rfl, rfl, rfl⟩
              case measure => simp [intOf]; omega
          · have d1 : ¬ (a : Int) < (k1 : Int) := by omega
            clear L2
            go_wp2
            refine wp_region_ov (by kernel_rfl) (by kernel_rfl) ?_
            repeat (first | go_big_quiet_step ((first | (go_at_call 20; (with_reducible exact ov_call (HD1.out _))) | (go_at_call 28; (with_reducible exact ov_call (HE1.out _ (him.below (ov_below _ _)) (hi3.below (ov_below _ _)) (hi1.below (ov_below _ _))))))) | quiet_step ((first | (go_at_call 20; (with_reducible exact ov_call (HD1.out _))) | (go_at_call 28; (with_reducible exact ov_call (HE1.out _ (him.below (ov_below _ _)) (hi3.below (ov_below _ _)) (hi1.below (ov_below _ _))))))))
            refine wpQuiet_nil ?_
            intro _ hw_ov
            obtain ⟨x_ov, hw_ov2⟩ := hw_ov
            subst hw_ov2
            obtain ⟨wz, hw_ov3, hbz⟩ := ov_gen _ x_ov
            rw [hw_ov3]
            clear hw_ov3 x_ov
            have hBz := chain hB hbz
            go_wp2
            go_roundw
            case rel => first | exact ⟨a + 1, by omega, by go_num, hBz⟩ | exact ⟨_, ⟨a + 1, by omega, by go_num, hBz⟩, rfl⟩ | exact ⟨_, _, ⟨a + 1, by omega, by go_num, hBz⟩, rfl, rfl⟩ | exact ⟨_, _, _, ⟨a + 1, by omega, by go_num, hBz⟩, rfl, rfl, rfl⟩ | exact ⟨_, _, _, _, ⟨a + 1, by omega, by go_num, hBz⟩, rfl, rfl, rfl, rfl⟩ | exact ⟨_, _, _, _, _, ⟨a + 1, by omega, by go_num, hBz⟩, rfl, rfl, rfl, rfl, rfl⟩
            case measure => simp [intOf]; omega
        · obtain rfl : a = M := by omega
          have HB2 := hid HLAW.out.2
          go_wp2_with fail
          refine (SafestAct_any rK.size _ _ _ _ _ _ rK.parts acts _ hiK hiq).mono ?_; rw [HB2.out]; rintro e w8 ⟨rfl, hb⟩
          have hd := hb
          replace mm0 := keep hd mm0
          replace mm1 := keep hd mm1
          replace mK0 := keep hd mK0
          replace mK1 := keep hd mK1
          replace hc1 := keep hd hc1
          replace fL0 := keep hd fL0
          replace fL1 := keep hd fL1
          replace him := him.below hd
          replace hiq := hiq.below hd
          replace hiK := hiK.below hd
          replace hi1 := hi1.below hd
          replace hB := chain hB hd
          have hs8 := hd.size
          clear hb hd
          go_wp2
          go_ret
          exact ⟨rfl, hB0.trans (hB.mono hsw)⟩
end Go.Proofs.Ytaplpgmkobokhaa
