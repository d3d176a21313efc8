/- The law FnRegret: its walk (printed by fngen.py). -/
import Derived.Test.YtchjnjmlambpjaaD22
import Derived.Test.YtchjnjmlambpjaaN11
import Derived.Test.YtchjnjmlambpjaaW9
import Derived.Test.YtchjnjmlambpjaaC5
import Derived.Test.YtchjnjmlambpjaaL2
set_option linter.unusedSimpArgs false
set_option linter.unusedVariables false
namespace Go.Proofs.Ytchjnjmlambpjaa
open Go.RowKit
theorem keepS3 {w w' : World} {a b c : Addr} {u v x : Value} (ha : w.cell? a = some u) (hb : w.cell? b = some v) (hc : w.cell? c = some x) (h : Below w.heap.size w w') : w'.cell? a = some u ∧ w'.cell? b = some v ∧ w'.cell? c = some x ∧ Below w.heap.size w w' := ⟨keep h ha, keep h hb, keep h hc, h⟩
set_option maxRecDepth 100000 in
set_option maxHeartbeats 16000000 in
theorem FnRegret_walk (ao : Option Addr) (n c : Nat) (w : World) (hx : n ≤ 1048576 → BytesIn w w.heap.size ao n) (hnc : n ≤ c) (hcap : n ≤ 9223372036854775807) :
    Calls Try.prog 9 #[.slice ao n c] w fun e w' => e = .returned (.bool true) ∧ Below w.heap.size w w' := by
  by_cases hn : 1048576 < n
  · go_enter Try.func9, Try.ntmps9
    go_wp2
    go_ret
    exact ⟨rfl, Below.refl _ _⟩
  have HX := hid (hx (by omega))
  clear hx
  go_enter Try.func9, Try.ntmps9
  have hB := Below.refl w.heap.size w
  go_wp2_with fail
  refine (DrawRegretOf_any ao n c _ HX.out hnc).mono ?_; rintro e w1 ⟨⟨s, p, xs, q, acts, kk, rfl, hr, hlx, hr2, hl9, hsh⟩, hb⟩
  have hd := hb
  replace hB := chain hB hd
  have hs1 := hd.size
  clear hb hd
  obtain ⟨am, nm, cm, rfl, him⟩ := hr.ints
  clear hr
  obtain ⟨aq, nq, cq, rfl, hnq, hiq⟩ := hr2.form
  clear hr2
  subst hnq
  obtain ⟨M, hM⟩ : ∃ M, acts.length = M := ⟨_, rfl⟩
  rw [hM] at hiq hl9 ⊢
  have HM := hid hM
  clear hM
  obtain ⟨fR, HR⟩ : ∃ r, Hid (regretM s xs acts kk = r) := ⟨_, rfl⟩
  go_wp2_with fail
  refine (RegretOf_any s kk _ _ _ _ _ _ xs acts _ (him.below (by (repeat (first | exact Below.refl _ _ | assumption | refine Below.alloc ?_ (by first | omega | (simp <;> omega)) _ | refine Below.setCell ?_ (by first | omega | (simp <;> omega)) _ | refine Below.drew ?_ | refine below_drewN ?_)))) (hiq.below (by (repeat (first | exact Below.refl _ _ | assumption | refine Below.alloc ?_ (by first | omega | (simp <;> omega)) _ | refine Below.setCell ?_ (by first | omega | (simp <;> omega)) _ | refine Below.drew ?_ | refine below_drewN ?_))))).mono ?_; rw [HR.out]; rintro e w2 ⟨rfl, hb⟩
  have mm0 := keep hb (a := ⟨w1.heap.size, 0, none⟩) (v := .int .i64 s) (by simp)
  have mm1 := keep hb (a := ⟨w1.heap.size, 1, none⟩) (v := .slice am nm cm) (by simp)
  have hN1 : w1.heap.size < w2.heap.size := by have := World.block_lt_of_cell? w2 _ mm0; simpa using this
  have hd : Below w1.heap.size w1 w2 := Below.trans (by (repeat (first | exact Below.refl _ _ | assumption | refine Below.alloc ?_ (by first | omega | (simp <;> omega)) _ | refine Below.setCell ?_ (by first | omega | (simp <;> omega)) _ | refine Below.drew ?_ | refine below_drewN ?_))) (hb.mono (by simp <;> omega))
  replace him := him.below hd
  replace hiq := hiq.below hd
  replace hB := chain hB hd
  have hs2 := hd.size
  clear hb hd
  go_wp2_with fail
  refine (specRegretOf_any s kk _ _ _ _ _ _ xs acts _ (him.below (by (repeat (first | exact Below.refl _ _ | assumption | refine Below.alloc ?_ (by first | omega | (simp <;> omega)) _ | refine Below.setCell ?_ (by first | omega | (simp <;> omega)) _ | refine Below.drew ?_ | refine below_drewN ?_)))) (hiq.below (by (repeat (first | exact Below.refl _ _ | assumption | refine Below.alloc ?_ (by first | omega | (simp <;> omega)) _ | refine Below.setCell ?_ (by first | omega | (simp <;> omega)) _ | refine Below.drew ?_ | refine below_drewN ?_))))).mono ?_; rw [HR.out]; rintro e w3 ⟨rfl, hb⟩
  have fR0 := keep hb (a := ⟨w2.heap.size, 0, none⟩) (v := .int .i64 fR.num) (by simp)
  have fR1 := keep hb (a := ⟨w2.heap.size, 1, none⟩) (v := .int .i64 fR.den) (by simp)
  have hN2 : w2.heap.size < w3.heap.size := by have := World.block_lt_of_cell? w3 _ fR0; simpa using this
  have hd : Below w2.heap.size w2 w3 := Below.trans (by (repeat (first | exact Below.refl _ _ | assumption | refine Below.alloc ?_ (by first | omega | (simp <;> omega)) _ | refine Below.setCell ?_ (by first | omega | (simp <;> omega)) _ | refine Below.drew ?_ | refine below_drewN ?_))) (hb.mono (by simp <;> omega))
  replace mm0 := keep hd mm0
  replace mm1 := keep hd mm1
  replace him := him.below hd
  replace hiq := hiq.below hd
  replace hB := chain hB hd
  have hs3 := hd.size
  clear hb hd
  cases ho : fR.ok
  · go_wp2
    go_ret
    exact ⟨rfl, by (repeat (first | exact Below.refl _ _ | assumption | refine Below.alloc ?_ (by first | omega | (simp <;> omega)) _ | refine Below.setCell ?_ (by first | omega | (simp <;> omega)) _ | refine Below.drew ?_ | refine below_drewN ?_))⟩
  · have hro : (regretM s xs acts kk).ok = true := by rw [HR.out]; exact ho
    obtain ⟨hA, hk0, hk1⟩ := regret_okI hro
    obtain ⟨k0, rfl⟩ : ∃ k0 : Nat, kk = (k0 : Int) := ⟨kk.toNat, by omega⟩
    have hkl : k0 < acts.length := by omega
    have HLAW := hid (regret_law hkl hA hro)
    have hkM : k0 < M := by rw [← HM.out]; exact hkl
    have hM1 : 1 ≤ M := by omega
    clear hk0 hk1 hkl hro
    obtain ⟨hno, -, -, -⟩ := acts_gains hA
    clear hno hA
    have hkk1 : (k0 : Int) < (M : Int) := by omega
    have hkk0 : (0 : Int) ≤ (k0 : Int) := by omega
    go_wp2_with fail
    refine (iCornersOf_any s _ _ _ xs _ (him.below (by (repeat (first | exact Below.refl _ _ | assumption | refine Below.alloc ?_ (by first | omega | (simp <;> omega)) _ | refine Below.setCell ?_ (by first | omega | (simp <;> omega)) _ | refine Below.drew ?_ | refine below_drewN ?_))))).mono ?_; rintro e w4 ⟨⟨vc, rfl, hmo⟩, hb⟩
    have fQ0 := keep hb (a := ⟨w3.heap.size, 0, none⟩) (v := .int .i64 fR.num) (by simp)
    have fQ1 := keep hb (a := ⟨w3.heap.size, 1, none⟩) (v := .int .i64 fR.den) (by simp)
    have hN3 : w3.heap.size < w4.heap.size := by have := World.block_lt_of_cell? w4 _ fQ0; simpa using this
    have hd : Below w3.heap.size w3 w4 := Below.trans (by (repeat (first | exact Below.refl _ _ | assumption | refine Below.alloc ?_ (by first | omega | (simp <;> omega)) _ | refine Below.setCell ?_ (by first | omega | (simp <;> omega)) _ | refine Below.drew ?_ | refine below_drewN ?_))) (hb.mono (by simp <;> omega))
    replace mm0 := keep hd mm0
    replace mm1 := keep hd mm1
    replace fR0 := keep hd fR0
    replace fR1 := keep hd fR1
    replace him := him.below hd
    replace hiq := hiq.below hd
    replace hB := chain hB hd
    have hs4 := hd.size
    clear hb hd
    obtain ⟨ac, cc, he, hat⟩ := hmo.form
    subst he
    clear hmo
    obtain ⟨C, HC⟩ : ∃ C, Hid (cornersL s xs = C) := ⟨_, rfl⟩
    obtain ⟨Q, HQ⟩ : ∃ Q, Hid (C.length = Q) := ⟨_, rfl⟩
    rw [HC.out, HQ.out] at hat ⊢
    have hQ24 : Q ≤ 24 := by rw [← HQ.out, ← HC.out]; exact corners_len _ _
    rw [HR.out, HM.out, HC.out, HQ.out] at HLAW
    go_wp2
    go_loopw [11] (fun  i wr => ∃ a : Nat, a ≤ M ∧ i = .int .i64 a ∧ Below w4.heap.size w4 wr) (fun  i _ => M - (intOf i).toNat)
    case atStart => exact ⟨0, by omega, rfl, Below.refl _ _⟩
    case round =>
      obtain ⟨a, ha, rfl, hBr⟩ := hrel
      obtain ⟨w5, rfl⟩ : ∃ q : World, q = wr := ⟨_, rfl⟩
      replace mm0 := keep hBr mm0
      replace mm1 := keep hBr mm1
      replace fR0 := keep hBr fR0
      replace fR1 := keep hBr fR1
      replace fQ0 := keep hBr fQ0
      replace fQ1 := keep hBr fQ1
      replace him := him.below hBr
      replace hiq := hiq.below hBr
      replace hat := hat.below hBr
      have hB0a := hB
      have hswa := hB.size
      have hsr := hBr.size
      clear hB
      have hB := hBr
      clear hBr
      by_cases hla : a < M
      · have ha0 : (0 : Int) ≤ (a : Int) := by omega
        have ha1 : (a : Int) < (M : Int) := by omega
        obtain ⟨b3, o3, a3, n3, c3, e3, _, _, hc3, hi3⟩ := hiq.at (Below.refl _ _) hla
        obtain ⟨b4, o4, a4, n4, c4, e4, _, _, hc4, hi4⟩ := hiq.at (Below.refl _ _) hkM
        subst e3
        injection e4 with e5; injection e5 with e6 e7; subst e6 e7
        have HNZ := hid (HLAW.out.2.2.1 a hla)
        have HLJ : Hid (∀ j, j < Q → _) := fun j hj => HLAW.out.2.2.2 a j hla hj
        obtain ⟨g3, hg3⟩ : ∃ g, nthL acts a = g := ⟨_, rfl⟩
        obtain ⟨g4, hg4⟩ : ∃ g, nthL acts k0 = g := ⟨_, rfl⟩
        rw [hg3] at hi3
        rw [hg4] at hi4
        rw [hg3, hg4] at HNZ HLJ
        clear hg3 hg4
        have HC0 : ∀ w', IntsAt w' am nm xs → IntsAt w' a3 n3 g3 → IntsAt w' a4 n4 g4 → Calls Try.prog 43 #[.agg #[.int .i64 s, .slice am nm cm], .slice a3 n3 c3, .slice a4 n4 c4] w' fun e w'' => e = .returned (.bool (beatsM s xs g3 g4)) ∧ Below w'.heap.size w' w'' := fun w' h1 h2 h3 => BeatsAct_any s _ _ _ _ _ _ _ _ _ xs _ _ w' h1 h2 h3
        cases hbe : beatsM s xs g3 g4
        · rw [hbe] at HC0
          have HC1 := hid HC0
          clear HC0
          go_wp2
          refine wp_region_ov (by kernel_rfl) (by kernel_rfl) ?_
          repeat (first | go_big_quiet_step ((go_at_call 43; (with_reducible exact ov_call (HC1.out _ (him.below (ov_below _ _)) (hi3.below (ov_below _ _)) (hi4.below (ov_below _ _)))))) | quiet_step ((go_at_call 43; (with_reducible exact ov_call (HC1.out _ (him.below (ov_below _ _)) (hi3.below (ov_below _ _)) (hi4.below (ov_below _ _)))))))
          refine wpQuiet_nil ?_
          intro _ hw_ov
          obtain ⟨x_ov, hw_ov2⟩ := hw_ov
          subst hw_ov2
          obtain ⟨wz, hw_ov3, hbz⟩ := ov_gen _ x_ov
          rw [hw_ov3]
          clear hw_ov3 x_ov
          obtain ⟨w6, rfl⟩ : ∃ q : World, q = wz := ⟨_, rfl⟩
          have hd := hbz
          replace mm0 := keep hd mm0
          replace mm1 := keep hd mm1
          replace fR0 := keep hd fR0
          replace fR1 := keep hd fR1
          replace fQ0 := keep hd fQ0
          replace fQ1 := keep hd fQ1
          replace hc3 := keep hd hc3
          replace hc4 := keep hd hc4
          replace him := him.below hd
          replace hiq := hiq.below hd
          replace hat := hat.below hd
          replace hi3 := hi3.below hd
          replace hi4 := hi4.below hd
          replace hB := chain hB hd
          have hs6 := hd.size
          clear hbz hd
          clear HC1 HNZ
          go_wp2
          go_loopw [12] (fun  i wr => ∃ j : Nat, j ≤ Q ∧ i = .int .i64 j ∧ Below w6.heap.size w6 wr) (fun  i _ => Q - (intOf i).toNat)
          case atStart => exact ⟨0, by omega, rfl, Below.refl _ _⟩
          case round =>
            obtain ⟨j, hj, rfl, hBr⟩ := hrel
            obtain ⟨w7, rfl⟩ : ∃ q : World, q = wr := ⟨_, rfl⟩
            replace mm0 := keep hBr mm0
            replace mm1 := keep hBr mm1
            replace fR0 := keep hBr fR0
            replace fR1 := keep hBr fR1
            replace fQ0 := keep hBr fQ0
            replace fQ1 := keep hBr fQ1
            replace hc3 := keep hBr hc3
            replace hc4 := keep hBr hc4
            replace him := him.below hBr
            replace hiq := hiq.below hBr
            replace hat := hat.below hBr
            replace hi3 := hi3.below hBr
            replace hi4 := hi4.below hBr
            have hB0j := hB
            have hswj := hB.size
            have hsr := hBr.size
            clear hB
            have hB := hBr
            clear hBr
            by_cases hlj : j < Q
            · have hj0 : (0 : Int) ≤ (j : Int) := by omega
              have hj1 : (j : Int) < (Q : Int) := by omega
              obtain ⟨b1, a1, n1, c1, e1, _, hbb, hc0, hc1, hi1⟩ := hat.at (Below.refl _ _) hlj
              subst e1
              obtain ⟨v1, v2, l1⟩ := HLJ.out j hlj
              obtain ⟨D, hD⟩ : ∃ D, nthL C j = D := ⟨_, rfl⟩
              rw [hD] at hi1 v1 v2 l1
              clear hD
              have V1 := hid v1
              have V2 := hid v2
              have L1 := hid l1
              clear v1 v2 l1
              obtain ⟨fX, HX⟩ : ∃ r, Hid (meanC s D g3 = r) := ⟨_, rfl⟩
              go_wp2
              refine wp_region_joinF (ι := Nat) (fun act bk => (Act.put (Act.put (Act.put (Act.put (Act.put (Act.put (Act.put (Act.put (Act.put (Act.put (Act.put (Act.put (Act.put (Act.put act (some 94) (.slice (some ⟨b1, 0, none⟩) Q cc)) (some 95) (.int .i64 j)) (some 96) (.pointer (some ⟨b1, j * 2, none⟩))) (some 97) (.agg #[.int .i64 s, .slice a1 n1 c1])) (some 98) (.slice (some ⟨b3, o3, none⟩) M cq)) (some 99) (.int .i64 a)) (some 100) (.pointer (some ⟨b3, o3 + a, none⟩))) (some 101) (.slice a3 n3 c3)) (some 102) (.tuple #[.agg #[.int .i64 fX.num, .int .i64 fX.den], .bool fX.ok])) (some 93) (.tuple #[.agg #[.int .i64 fX.num, .int .i64 fX.den], .bool fX.ok])) (some 103) (.agg #[.int .i64 fX.num, .int .i64 fX.den])) (some 104) (.bool fX.ok)) (some 13) (.pointer (some ⟨bk, 0, none⟩))) (some 14) (.bool fX.ok))) (fun b W => Bx W b (.int .i64 fX.num) (.int .i64 fX.den) ∧ Below w7.heap.size w7 W) ?_ ?_
              · go_region_held3 (fun w' => w'.cell? ⟨b1, j * 2, none⟩ = some (.int .i64 s) ∧ w'.cell? ⟨b1, j * 2 + 1, none⟩ = some (.slice a1 n1 c1) ∧ w'.cell? ⟨b3, o3 + a, none⟩ = some (.slice a3 n3 c3) ∧ Below w7.heap.size w7 w') (first | (refine keepS3 hc0 hc1 hc3 ?_; (repeat (first | exact Below.refl _ _ | assumption | refine Below.alloc ?_ (by first | omega | (simp <;> omega)) _ | refine Below.setCell ?_ (by first | omega | (simp <;> omega)) _ | refine Below.drew ?_ | refine below_drewN ?_)); done)) (first | (go_at_call 39; refine (MeanOf_any s _ _ _ _ _ _ D g3 w7.drew (hi1.below (by (repeat (first | exact Below.refl _ _ | assumption | refine Below.alloc ?_ (by first | omega | (simp <;> omega)) _ | refine Below.setCell ?_ (by first | omega | (simp <;> omega)) _ | refine Below.drew ?_ | refine below_drewN ?_)))) (hi3.below (by (repeat (first | exact Below.refl _ _ | assumption | refine Below.alloc ?_ (by first | omega | (simp <;> omega)) _ | refine Below.setCell ?_ (by first | omega | (simp <;> omega)) _ | refine Below.drew ?_ | refine below_drewN ?_))))).mono ?_; rw [HX.out]; rintro e wz ⟨rfl, hbz⟩; have hdz : Below w7.heap.size w7 wz := Below.trans (by (repeat (first | exact Below.refl _ _ | assumption | refine Below.alloc ?_ (by first | omega | (simp <;> omega)) _ | refine Below.setCell ?_ (by first | omega | (simp <;> omega)) _ | refine Below.drew ?_ | refine below_drewN ?_))) (hbz.mono (by simp <;> omega)); have z0 := keep hdz hc0; have z1 := keep hdz hc1; have zc := keep hdz hc3; have hsz := hdz.size) | (go_at_call 39; refine (MeanOf_any s _ _ _ _ _ _ D g3 (w7.alloc (.cells #[.int .i64 0, .int .i64 0] 49)).drew (hi1.below (by (repeat (first | exact Below.refl _ _ | assumption | refine Below.alloc ?_ (by first | omega | (simp <;> omega)) _ | refine Below.setCell ?_ (by first | omega | (simp <;> omega)) _ | refine Below.drew ?_ | refine below_drewN ?_)))) (hi3.below (by (repeat (first | exact Below.refl _ _ | assumption | refine Below.alloc ?_ (by first | omega | (simp <;> omega)) _ | refine Below.setCell ?_ (by first | omega | (simp <;> omega)) _ | refine Below.drew ?_ | refine below_drewN ?_))))).mono ?_; rw [HX.out]; rintro e wz ⟨rfl, hbz⟩; have hdz : Below w7.heap.size w7 wz := Below.trans (by (repeat (first | exact Below.refl _ _ | assumption | refine Below.alloc ?_ (by first | omega | (simp <;> omega)) _ | refine Below.setCell ?_ (by first | omega | (simp <;> omega)) _ | refine Below.drew ?_ | refine below_drewN ?_))) (hbz.mono (by simp <;> omega)); have z0 := keep hdz hc0; have z1 := keep hdz hc1; have zc := keep hdz hc3; have hsz := hdz.size; have kb0 := keep hbz (a := ⟨w7.heap.size, 0, none⟩) (v := .int .i64 0) (by simp); have kb1 := keep hbz (a := ⟨w7.heap.size, 1, none⟩) (v := .int .i64 0) (by simp); have kf0 := keepF hbz (a := ⟨w7.heap.size, 0, none⟩) (v := .int .i64 0) (by simp) (by simp); have kf1 := keepF hbz (a := ⟨w7.heap.size, 1, none⟩) (v := .int .i64 0) (by simp) (by simp); have hlz : w7.heap.size < wz.heap.size := (by have h_z := hbz.size; simp at h_z; omega)))
                · exact ⟨wz.heap.size, by simp [Act.put], Bx.mk2 rfl, by (repeat (first | exact Below.refl _ _ | assumption | refine Below.alloc ?_ (by first | omega | (simp <;> omega)) _ | refine Below.setCell ?_ (by first | omega | (simp <;> omega)) _ | refine Below.drew ?_ | refine below_drewN ?_))⟩
                · exact ⟨w7.heap.size, by simp [Act.put], (show Bx wz w7.heap.size _ _ from ⟨kb0, kb1, kf0, kf1, hlz⟩).put2 _ _, by (repeat (first | exact Below.refl _ _ | assumption | refine Below.alloc ?_ (by first | omega | (simp <;> omega)) _ | refine Below.setCell ?_ (by first | omega | (simp <;> omega)) _ | refine Below.drew ?_ | refine below_drewN ?_))⟩
              rintro bXx w8 ⟨hbx, hb⟩
              have hd := hb
              replace mm0 := keep hd mm0
              replace mm1 := keep hd mm1
              replace fR0 := keep hd fR0
              replace fR1 := keep hd fR1
              replace fQ0 := keep hd fQ0
              replace fQ1 := keep hd fQ1
              replace hc3 := keep hd hc3
              replace hc4 := keep hd hc4
              replace hc0 := keep hd hc0
              replace hc1 := keep hd hc1
              replace him := him.below hd
              replace hiq := hiq.below hd
              replace hat := hat.below hd
              replace hi3 := hi3.below hd
              replace hi4 := hi4.below hd
              replace hi1 := hi1.below hd
              replace hB := chain hB hd
              have hs8 := hd.size
              clear hb hd
              have fX0 := hbx.c0
              have fX1 := hbx.c1
              clear hbx
              obtain ⟨fY, HY⟩ : ∃ r, Hid (meanC s D g4 = r) := ⟨_, rfl⟩
              go_wp2
              refine wp_region_joinF (ι := Nat) (fun act bk => (Act.put (Act.put (Act.put (Act.put (Act.put (Act.put (Act.put (Act.put (Act.put (Act.put (Act.put (Act.put (Act.put (Act.put act (some 106) (.slice (some ⟨b1, 0, none⟩) Q cc)) (some 107) (.int .i64 j)) (some 108) (.pointer (some ⟨b1, j * 2, none⟩))) (some 109) (.agg #[.int .i64 s, .slice a1 n1 c1])) (some 110) (.slice (some ⟨b3, o3, none⟩) M cq)) (some 111) (.int .i64 k0)) (some 112) (.pointer (some ⟨b3, o3 + k0, none⟩))) (some 113) (.slice a4 n4 c4)) (some 114) (.tuple #[.agg #[.int .i64 fY.num, .int .i64 fY.den], .bool fY.ok])) (some 105) (.tuple #[.agg #[.int .i64 fY.num, .int .i64 fY.den], .bool fY.ok])) (some 115) (.agg #[.int .i64 fY.num, .int .i64 fY.den])) (some 116) (.bool fY.ok)) (some 15) (.pointer (some ⟨bk, 0, none⟩))) (some 16) (.bool fY.ok))) (fun b W => Bx W b (.int .i64 fY.num) (.int .i64 fY.den) ∧ Below w8.heap.size w8 W) ?_ ?_
              · go_region_held3 (fun w' => w'.cell? ⟨b1, j * 2, none⟩ = some (.int .i64 s) ∧ w'.cell? ⟨b1, j * 2 + 1, none⟩ = some (.slice a1 n1 c1) ∧ w'.cell? ⟨b3, o3 + k0, none⟩ = some (.slice a4 n4 c4) ∧ Below w8.heap.size w8 w') (first | (refine keepS3 hc0 hc1 hc4 ?_; (repeat (first | exact Below.refl _ _ | assumption | refine Below.alloc ?_ (by first | omega | (simp <;> omega)) _ | refine Below.setCell ?_ (by first | omega | (simp <;> omega)) _ | refine Below.drew ?_ | refine below_drewN ?_)); done)) (first | (go_at_call 39; refine (MeanOf_any s _ _ _ _ _ _ D g4 w8.drew (hi1.below (by (repeat (first | exact Below.refl _ _ | assumption | refine Below.alloc ?_ (by first | omega | (simp <;> omega)) _ | refine Below.setCell ?_ (by first | omega | (simp <;> omega)) _ | refine Below.drew ?_ | refine below_drewN ?_)))) (hi4.below (by (repeat (first | exact Below.refl _ _ | assumption | refine Below.alloc ?_ (by first | omega | (simp <;> omega)) _ | refine Below.setCell ?_ (by first | omega | (simp <;> omega)) _ | refine Below.drew ?_ | refine below_drewN ?_))))).mono ?_; rw [HY.out]; rintro e wz ⟨rfl, hbz⟩; have hdz : Below w8.heap.size w8 wz := Below.trans (by (repeat (first | exact Below.refl _ _ | assumption | refine Below.alloc ?_ (by first | omega | (simp <;> omega)) _ | refine Below.setCell ?_ (by first | omega | (simp <;> omega)) _ | refine Below.drew ?_ | refine below_drewN ?_))) (hbz.mono (by simp <;> omega)); have z0 := keep hdz hc0; have z1 := keep hdz hc1; have zc := keep hdz hc4; have hsz := hdz.size) | (go_at_call 39; refine (MeanOf_any s _ _ _ _ _ _ D g4 (w8.alloc (.cells #[.int .i64 0, .int .i64 0] 49)).drew (hi1.below (by (repeat (first | exact Below.refl _ _ | assumption | refine Below.alloc ?_ (by first | omega | (simp <;> omega)) _ | refine Below.setCell ?_ (by first | omega | (simp <;> omega)) _ | refine Below.drew ?_ | refine below_drewN ?_)))) (hi4.below (by (repeat (first | exact Below.refl _ _ | assumption | refine Below.alloc ?_ (by first | omega | (simp <;> omega)) _ | refine Below.setCell ?_ (by first | omega | (simp <;> omega)) _ | refine Below.drew ?_ | refine below_drewN ?_))))).mono ?_; rw [HY.out]; rintro e wz ⟨rfl, hbz⟩; have hdz : Below w8.heap.size w8 wz := Below.trans (by (repeat (first | exact Below.refl _ _ | assumption | refine Below.alloc ?_ (by first | omega | (simp <;> omega)) _ | refine Below.setCell ?_ (by first | omega | (simp <;> omega)) _ | refine Below.drew ?_ | refine below_drewN ?_))) (hbz.mono (by simp <;> omega)); have z0 := keep hdz hc0; have z1 := keep hdz hc1; have zc := keep hdz hc4; have hsz := hdz.size; have kb0 := keep hbz (a := ⟨w8.heap.size, 0, none⟩) (v := .int .i64 0) (by simp); have kb1 := keep hbz (a := ⟨w8.heap.size, 1, none⟩) (v := .int .i64 0) (by simp); have kf0 := keepF hbz (a := ⟨w8.heap.size, 0, none⟩) (v := .int .i64 0) (by simp) (by simp); have kf1 := keepF hbz (a := ⟨w8.heap.size, 1, none⟩) (v := .int .i64 0) (by simp) (by simp); have hlz : w8.heap.size < wz.heap.size := (by have h_z := hbz.size; simp at h_z; omega)))
                · exact ⟨wz.heap.size, by simp [Act.put], Bx.mk2 rfl, by (repeat (first | exact Below.refl _ _ | assumption | refine Below.alloc ?_ (by first | omega | (simp <;> omega)) _ | refine Below.setCell ?_ (by first | omega | (simp <;> omega)) _ | refine Below.drew ?_ | refine below_drewN ?_))⟩
                · exact ⟨w8.heap.size, by simp [Act.put], (show Bx wz w8.heap.size _ _ from ⟨kb0, kb1, kf0, kf1, hlz⟩).put2 _ _, by (repeat (first | exact Below.refl _ _ | assumption | refine Below.alloc ?_ (by first | omega | (simp <;> omega)) _ | refine Below.setCell ?_ (by first | omega | (simp <;> omega)) _ | refine Below.drew ?_ | refine below_drewN ?_))⟩
              rintro bYx w9 ⟨hbx, hb⟩
              have hd := hb
              replace mm0 := keep hd mm0
              replace mm1 := keep hd mm1
              replace fR0 := keep hd fR0
              replace fR1 := keep hd fR1
              replace fQ0 := keep hd fQ0
              replace fQ1 := keep hd fQ1
              replace hc3 := keep hd hc3
              replace hc4 := keep hd hc4
              replace hc0 := keep hd hc0
              replace hc1 := keep hd hc1
              replace fX0 := keep hd fX0
              replace fX1 := keep hd fX1
              replace him := him.below hd
              replace hiq := hiq.below hd
              replace hat := hat.below hd
              replace hi3 := hi3.below hd
              replace hi4 := hi4.below hd
              replace hi1 := hi1.below hd
              replace hB := chain hB hd
              have hs9 := hd.size
              clear hb hd
              have fY0 := hbx.c0
              have fY1 := hbx.c1
              clear hbx
              have v1 : fracOk fX.num fX.den = true := by rw [← HX.out]; exact V1.out
              have v2 : fracOk fY.num fY.den = true := by rw [← HY.out]; exact V2.out
              have v3 : fracOk (-fY.num) fY.den = true := by rw [fracOk_neg]; exact v2
              go_wp2_with fail
              refine (MinusFraction_any fY.num fY.den _ v2).mono ?_; rintro e w10 ⟨rfl, hb⟩
              have hd := hb
              replace mm0 := keep hd mm0
              replace mm1 := keep hd mm1
              replace fR0 := keep hd fR0
              replace fR1 := keep hd fR1
              replace fQ0 := keep hd fQ0
              replace fQ1 := keep hd fQ1
              replace hc3 := keep hd hc3
              replace hc4 := keep hd hc4
              replace hc0 := keep hd hc0
              replace hc1 := keep hd hc1
              replace fX0 := keep hd fX0
              replace fX1 := keep hd fX1
              replace fY0 := keep hd fY0
              replace fY1 := keep hd fY1
              replace him := him.below hd
              replace hiq := hiq.below hd
              replace hat := hat.below hd
              replace hi3 := hi3.below hd
              replace hi4 := hi4.below hd
              replace hi1 := hi1.below hd
              replace hB := chain hB hd
              have hs10 := hd.size
              clear hb hd
              obtain ⟨fS, HS⟩ : ∃ r, Hid (addF fX.num fX.den (-fY.num) fY.den = r) := ⟨_, rfl⟩
              go_wp2_with fail
              refine (AddFractions_any fX.num fX.den (-fY.num) fY.den _ v1 v3).mono ?_; rw [HS.out]; rintro e w11 ⟨rfl, hb⟩
              have fN0 := keep hb (a := ⟨w10.heap.size, 0, none⟩) (v := .int .i64 (-fY.num)) (by simp)
              have fN1 := keep hb (a := ⟨w10.heap.size, 1, none⟩) (v := .int .i64 fY.den) (by simp)
              have hN4 : w10.heap.size < w11.heap.size := by have := World.block_lt_of_cell? w11 _ fN0; simpa using this
              have hd : Below w10.heap.size w10 w11 := Below.trans (by (repeat (first | exact Below.refl _ _ | assumption | refine Below.alloc ?_ (by first | omega | (simp <;> omega)) _ | refine Below.setCell ?_ (by first | omega | (simp <;> omega)) _ | refine Below.drew ?_ | refine below_drewN ?_))) (hb.mono (by simp <;> omega))
              replace mm0 := keep hd mm0
              replace mm1 := keep hd mm1
              replace fR0 := keep hd fR0
              replace fR1 := keep hd fR1
              replace fQ0 := keep hd fQ0
              replace fQ1 := keep hd fQ1
              replace hc3 := keep hd hc3
              replace hc4 := keep hd hc4
              replace hc0 := keep hd hc0
              replace hc1 := keep hd hc1
              replace fX0 := keep hd fX0
              replace fX1 := keep hd fX1
              replace fY0 := keep hd fY0
              replace fY1 := keep hd fY1
              replace him := him.below hd
              replace hiq := hiq.below hd
              replace hat := hat.below hd
              replace hi3 := hi3.below hd
              replace hi4 := hi4.below hd
              replace hi1 := hi1.below hd
              replace hB := chain hB hd
              have hs11 := hd.size
              clear hb hd
              have hl : lostF s D g3 g4 = fS := by unfold lostF; rw [HX.out, HY.out, HS.out]
              cases hso : fS.ok
              · go_wp2
                go_roundw
                case rel => first | exact ⟨j + 1, by omega, by go_num, by (repeat (first | exact Below.refl _ _ | assumption | refine Below.alloc ?_ (by first | omega | (simp <;> omega)) _ | refine Below.setCell ?_ (by first | omega | (simp <;> omega)) _ | refine Below.drew ?_ | refine below_drewN ?_))⟩ | exact ⟨_, ⟨j + 1, by omega, by go_num, by (repeat (first | exact Below.refl _ _ | assumption | refine Below.alloc ?_ (by first | omega | (simp <;> omega)) _ | refine Below.setCell ?_ (by first | omega | (simp <;> omega)) _ | refine Below.drew ?_ | refine below_drewN ?_))⟩, rfl⟩ | exact ⟨_, _, ⟨j + 1, by omega, by go_num, by (repeat (first | exact Below.refl _ _ | assumption | refine Below.alloc ?_ (by first | omega | (simp <;> omega)) _ | refine Below.setCell ?_ (by first | omega | (simp <;> omega)) _ | refine Below.drew ?_ | refine below_drewN ?_))⟩, rfl, rfl⟩ | exact ⟨_, _, _, ⟨j + 1, by omega, by go_num, by (repeat (first | exact Below.refl _ _ | assumption | refine Below.alloc ?_ (by first | omega | (simp <;> omega)) _ | refine Below.setCell ?_ (by first | omega | (simp <;> omega)) _ | refine Below.drew ?_ | refine below_drewN ?_))⟩, rfl, rfl, rfl⟩ | exact ⟨_, _, _, _, ⟨j + 1, by omega, by go_num, by (repeat (first | exact Below.refl _ _ | assumption | refine Below.alloc ?_ (by first | omega | (simp <;> omega)) _ | refine Below.setCell ?_ (by first | omega | (simp <;> omega)) _ | refine Below.drew ?_ | refine below_drewN ?_))⟩, rfl, rfl, rfl, rfl⟩ | exact ⟨_, _, _, _, _, ⟨j + 1, by omega, by go_num, by (repeat (first | exact Below.refl _ _ | assumption | refine Below.alloc ?_ (by first | omega | (simp <;> omega)) _ | refine Below.setCell ?_ (by first | omega | (simp <;> omega)) _ | refine Below.drew ?_ | refine below_drewN ?_))⟩, rfl, rfl, rfl, rfl, rfl⟩
                case measure => simp [intOf]; omega
              · have l2 : lessF fR.num fR.den fS.num fS.den = false := by rw [← hl]; exact L1.out (by rw [hl]; exact hso)
                go_wp2_with fail
                refine (LessFraction_any fR.num fR.den fS.num fS.den _).mono ?_; rw [l2]; rintro e w12 ⟨rfl, hb⟩
                have fS0 := keep hb (a := ⟨w11.heap.size, 0, none⟩) (v := .int .i64 fS.num) (by simp)
                have fS1 := keep hb (a := ⟨w11.heap.size, 1, none⟩) (v := .int .i64 fS.den) (by simp)
                have hN5 : w11.heap.size < w12.heap.size := by have := World.block_lt_of_cell? w12 _ fS0; simpa using this
                have hd : Below w11.heap.size w11 w12 := Below.trans (by (repeat (first | exact Below.refl _ _ | assumption | refine Below.alloc ?_ (by first | omega | (simp <;> omega)) _ | refine Below.setCell ?_ (by first | omega | (simp <;> omega)) _ | refine Below.drew ?_ | refine below_drewN ?_))) (hb.mono (by simp <;> omega))
                replace mm0 := keep hd mm0
                replace mm1 := keep hd mm1
                replace fR0 := keep hd fR0
                replace fR1 := keep hd fR1
                replace fQ0 := keep hd fQ0
                replace fQ1 := keep hd fQ1
                replace hc3 := keep hd hc3
                replace hc4 := keep hd hc4
                replace hc0 := keep hd hc0
                replace hc1 := keep hd hc1
                replace fX0 := keep hd fX0
                replace fX1 := keep hd fX1
                replace fY0 := keep hd fY0
                replace fY1 := keep hd fY1
                replace fN0 := keep hd fN0
                replace fN1 := keep hd fN1
                replace him := him.below hd
                replace hiq := hiq.below hd
                replace hat := hat.below hd
                replace hi3 := hi3.below hd
                replace hi4 := hi4.below hd
                replace hi1 := hi1.below hd
                replace hB := chain hB hd
                have hs12 := hd.size
                clear hb hd
                go_wp2
                go_roundw
                case rel => first | exact ⟨j + 1, by omega, by go_num, hB⟩ | exact ⟨_, ⟨j + 1, by omega, by go_num, hB⟩, rfl⟩ | exact ⟨_, _, ⟨j + 1, by omega, by go_num, hB⟩, rfl, rfl⟩ | exact ⟨_, _, _, ⟨j + 1, by omega, by go_num, hB⟩, rfl, rfl, rfl⟩ | exact ⟨_, _, _, _, ⟨j + 1, by omega, by go_num, hB⟩, rfl, rfl, rfl, rfl⟩ | exact ⟨_, _, _, _, _, ⟨j + 1, by omega, by go_num, hB⟩, rfl, rfl, rfl, rfl, rfl⟩
                case measure => simp [intOf]; omega
            · obtain rfl : j = Q := by omega
              go_wp2
              go_roundw
              case rel => first | exact ⟨a + 1, by omega, by go_num, hB0j.trans (hB.mono hswj)⟩ | exact ⟨_, ⟨a + 1, by omega, by go_num, hB0j.trans (hB.mono hswj)⟩, rfl⟩ | exact ⟨_, _, ⟨a + 1, by omega, by go_num, hB0j.trans (hB.mono hswj)⟩, rfl, rfl⟩ | exact ⟨_, _, _, ⟨a + 1, by omega, by go_num, hB0j.trans (hB.mono hswj)⟩, rfl, rfl, rfl⟩ | exact ⟨_, _, _, _, ⟨a + 1, by omega, by go_num, hB0j.trans (hB.mono hswj)⟩, rfl, rfl, rfl, rfl⟩ | exact ⟨_, _, _, _, _, ⟨a + 1, by omega, by go_num, hB0j.trans (hB.mono hswj)⟩, rfl, rfl, rfl, rfl, rfl⟩
              case measure => simp [intOf]; omega
        · have hnz : (fR.num == 0) = false := beq_eq_false_iff_ne.2 (HNZ.out hbe)
          rw [hbe] at HC0
          have HC1 := hid HC0
          clear HC0
          go_wp2
          refine wp_region_ov (by kernel_rfl) (by kernel_rfl) ?_
          repeat (first | go_big_quiet_step ((go_at_call 43; (with_reducible exact ov_call (HC1.out _ (him.below (ov_below _ _)) (hi3.below (ov_below _ _)) (hi4.below (ov_below _ _)))))) | quiet_step ((go_at_call 43; (with_reducible exact ov_call (HC1.out _ (him.below (ov_below _ _)) (hi3.below (ov_below _ _)) (hi4.below (ov_below _ _)))))))
          refine wpQuiet_nil ?_
          intro _ hw_ov
          obtain ⟨x_ov, hw_ov2⟩ := hw_ov
          subst hw_ov2
          obtain ⟨wz, hw_ov3, hbz⟩ := ov_gen _ x_ov
          rw [hw_ov3]
          clear hw_ov3 x_ov
          obtain ⟨w6, rfl⟩ : ∃ q : World, q = wz := ⟨_, rfl⟩
          have hd := hbz
          replace mm0 := keep hd mm0
          replace mm1 := keep hd mm1
          replace fR0 := keep hd fR0
          replace fR1 := keep hd fR1
          replace fQ0 := keep hd fQ0
          replace fQ1 := keep hd fQ1
          replace hc3 := keep hd hc3
          replace hc4 := keep hd hc4
          replace him := him.below hd
          replace hiq := hiq.below hd
          replace hat := hat.below hd
          replace hi3 := hi3.below hd
          replace hi4 := hi4.below hd
          replace hB := chain hB hd
          have hs6 := hd.size
          clear hbz hd
          clear HC1 HNZ
          go_wp2
          go_loopw [12] (fun  i wr => ∃ j : Nat, j ≤ Q ∧ i = .int .i64 j ∧ Below w6.heap.size w6 wr) (fun  i _ => Q - (intOf i).toNat)
          case atStart => exact ⟨0, by omega, rfl, Below.refl _ _⟩
          case round =>
            obtain ⟨j, hj, rfl, hBr⟩ := hrel
            obtain ⟨w7, rfl⟩ : ∃ q : World, q = wr := ⟨_, rfl⟩
            replace mm0 := keep hBr mm0
            replace mm1 := keep hBr mm1
            replace fR0 := keep hBr fR0
            replace fR1 := keep hBr fR1
            replace fQ0 := keep hBr fQ0
            replace fQ1 := keep hBr fQ1
            replace hc3 := keep hBr hc3
            replace hc4 := keep hBr hc4
            replace him := him.below hBr
            replace hiq := hiq.below hBr
            replace hat := hat.below hBr
            replace hi3 := hi3.below hBr
            replace hi4 := hi4.below hBr
            have hB0j := hB
            have hswj := hB.size
            have hsr := hBr.size
            clear hB
            have hB := hBr
            clear hBr
            by_cases hlj : j < Q
            · have hj0 : (0 : Int) ≤ (j : Int) := by omega
              have hj1 : (j : Int) < (Q : Int) := by omega
              obtain ⟨b1, a1, n1, c1, e1, _, hbb, hc0, hc1, hi1⟩ := hat.at (Below.refl _ _) hlj
              subst e1
              obtain ⟨v1, v2, l1⟩ := HLJ.out j hlj
              obtain ⟨D, hD⟩ : ∃ D, nthL C j = D := ⟨_, rfl⟩
              rw [hD] at hi1 v1 v2 l1
              clear hD
              have V1 := hid v1
              have V2 := hid v2
              have L1 := hid l1
              clear v1 v2 l1
              obtain ⟨fX, HX⟩ : ∃ r, Hid (meanC s D g3 = r) := ⟨_, rfl⟩
              go_wp2
              refine wp_region_joinF (ι := Nat) (fun act bk => (Act.put (Act.put (Act.put (Act.put (Act.put (Act.put (Act.put (Act.put (Act.put (Act.put (Act.put (Act.put (Act.put (Act.put act (some 94) (.slice (some ⟨b1, 0, none⟩) Q cc)) (some 95) (.int .i64 j)) (some 96) (.pointer (some ⟨b1, j * 2, none⟩))) (some 97) (.agg #[.int .i64 s, .slice a1 n1 c1])) (some 98) (.slice (some ⟨b3, o3, none⟩) M cq)) (some 99) (.int .i64 a)) (some 100) (.pointer (some ⟨b3, o3 + a, none⟩))) (some 101) (.slice a3 n3 c3)) (some 102) (.tuple #[.agg #[.int .i64 fX.num, .int .i64 fX.den], .bool fX.ok])) (some 93) (.tuple #[.agg #[.int .i64 fX.num, .int .i64 fX.den], .bool fX.ok])) (some 103) (.agg #[.int .i64 fX.num, .int .i64 fX.den])) (some 104) (.bool fX.ok)) (some 13) (.pointer (some ⟨bk, 0, none⟩))) (some 14) (.bool fX.ok))) (fun b W => Bx W b (.int .i64 fX.num) (.int .i64 fX.den) ∧ Below w7.heap.size w7 W) ?_ ?_
              · go_region_held3 (fun w' => w'.cell? ⟨b1, j * 2, none⟩ = some (.int .i64 s) ∧ w'.cell? ⟨b1, j * 2 + 1, none⟩ = some (.slice a1 n1 c1) ∧ w'.cell? ⟨b3, o3 + a, none⟩ = some (.slice a3 n3 c3) ∧ Below w7.heap.size w7 w') (first | (refine keepS3 hc0 hc1 hc3 ?_; (repeat (first | exact Below.refl _ _ | assumption | refine Below.alloc ?_ (by first | omega | (simp <;> omega)) _ | refine Below.setCell ?_ (by first | omega | (simp <;> omega)) _ | refine Below.drew ?_ | refine below_drewN ?_)); done)) (first | (go_at_call 39; refine (MeanOf_any s _ _ _ _ _ _ D g3 w7.drew (hi1.below (by (repeat (first | exact Below.refl _ _ | assumption | refine Below.alloc ?_ (by first | omega | (simp <;> omega)) _ | refine Below.setCell ?_ (by first | omega | (simp <;> omega)) _ | refine Below.drew ?_ | refine below_drewN ?_)))) (hi3.below (by (repeat (first | exact Below.refl _ _ | assumption | refine Below.alloc ?_ (by first | omega | (simp <;> omega)) _ | refine Below.setCell ?_ (by first | omega | (simp <;> omega)) _ | refine Below.drew ?_ | refine below_drewN ?_))))).mono ?_; rw [HX.out]; rintro e wz ⟨rfl, hbz⟩; have hdz : Below w7.heap.size w7 wz := Below.trans (by (repeat (first | exact Below.refl _ _ | assumption | refine Below.alloc ?_ (by first | omega | (simp <;> omega)) _ | refine Below.setCell ?_ (by first | omega | (simp <;> omega)) _ | refine Below.drew ?_ | refine below_drewN ?_))) (hbz.mono (by simp <;> omega)); have z0 := keep hdz hc0; have z1 := keep hdz hc1; have zc := keep hdz hc3; have hsz := hdz.size) | (go_at_call 39; refine (MeanOf_any s _ _ _ _ _ _ D g3 (w7.alloc (.cells #[.int .i64 0, .int .i64 0] 49)).drew (hi1.below (by (repeat (first | exact Below.refl _ _ | assumption | refine Below.alloc ?_ (by first | omega | (simp <;> omega)) _ | refine Below.setCell ?_ (by first | omega | (simp <;> omega)) _ | refine Below.drew ?_ | refine below_drewN ?_)))) (hi3.below (by (repeat (first | exact Below.refl _ _ | assumption | refine Below.alloc ?_ (by first | omega | (simp <;> omega)) _ | refine Below.setCell ?_ (by first | omega | (simp <;> omega)) _ | refine Below.drew ?_ | refine below_drewN ?_))))).mono ?_; rw [HX.out]; rintro e wz ⟨rfl, hbz⟩; have hdz : Below w7.heap.size w7 wz := Below.trans (by (repeat (first | exact Below.refl _ _ | assumption | refine Below.alloc ?_ (by first | omega | (simp <;> omega)) _ | refine Below.setCell ?_ (by first | omega | (simp <;> omega)) _ | refine Below.drew ?_ | refine below_drewN ?_))) (hbz.mono (by simp <;> omega)); have z0 := keep hdz hc0; have z1 := keep hdz hc1; have zc := keep hdz hc3; have hsz := hdz.size; have kb0 := keep hbz (a := ⟨w7.heap.size, 0, none⟩) (v := .int .i64 0) (by simp); have kb1 := keep hbz (a := ⟨w7.heap.size, 1, none⟩) (v := .int .i64 0) (by simp); have kf0 := keepF hbz (a := ⟨w7.heap.size, 0, none⟩) (v := .int .i64 0) (by simp) (by simp); have kf1 := keepF hbz (a := ⟨w7.heap.size, 1, none⟩) (v := .int .i64 0) (by simp) (by simp); have hlz : w7.heap.size < wz.heap.size := (by have h_z := hbz.size; simp at h_z; omega)))
                · exact ⟨wz.heap.size, by simp [Act.put], Bx.mk2 rfl, by (repeat (first | exact Below.refl _ _ | assumption | refine Below.alloc ?_ (by first | omega | (simp <;> omega)) _ | refine Below.setCell ?_ (by first | omega | (simp <;> omega)) _ | refine Below.drew ?_ | refine below_drewN ?_))⟩
                · exact ⟨w7.heap.size, by simp [Act.put], (show Bx wz w7.heap.size _ _ from ⟨kb0, kb1, kf0, kf1, hlz⟩).put2 _ _, by (repeat (first | exact Below.refl _ _ | assumption | refine Below.alloc ?_ (by first | omega | (simp <;> omega)) _ | refine Below.setCell ?_ (by first | omega | (simp <;> omega)) _ | refine Below.drew ?_ | refine below_drewN ?_))⟩
              rintro bXx w8 ⟨hbx, hb⟩
              have hd := hb
              replace mm0 := keep hd mm0
              replace mm1 := keep hd mm1
              replace fR0 := keep hd fR0
              replace fR1 := keep hd fR1
              replace fQ0 := keep hd fQ0
              replace fQ1 := keep hd fQ1
              replace hc3 := keep hd hc3
              replace hc4 := keep hd hc4
              replace hc0 := keep hd hc0
              replace hc1 := keep hd hc1
              replace him := him.below hd
              replace hiq := hiq.below hd
              replace hat := hat.below hd
              replace hi3 := hi3.below hd
              replace hi4 := hi4.below hd
              replace hi1 := hi1.below hd
              replace hB := chain hB hd
              have hs8 := hd.size
              clear hb hd
              have fX0 := hbx.c0
              have fX1 := hbx.c1
              clear hbx
              obtain ⟨fY, HY⟩ : ∃ r, Hid (meanC s D g4 = r) := ⟨_, rfl⟩
              go_wp2
              refine wp_region_joinF (ι := Nat) (fun act bk => (Act.put (Act.put (Act.put (Act.put (Act.put (Act.put (Act.put (Act.put (Act.put (Act.put (Act.put (Act.put (Act.put (Act.put act (some 106) (.slice (some ⟨b1, 0, none⟩) Q cc)) (some 107) (.int .i64 j)) (some 108) (.pointer (some ⟨b1, j * 2, none⟩))) (some 109) (.agg #[.int .i64 s, .slice a1 n1 c1])) (some 110) (.slice (some ⟨b3, o3, none⟩) M cq)) (some 111) (.int .i64 k0)) (some 112) (.pointer (some ⟨b3, o3 + k0, none⟩))) (some 113) (.slice a4 n4 c4)) (some 114) (.tuple #[.agg #[.int .i64 fY.num, .int .i64 fY.den], .bool fY.ok])) (some 105) (.tuple #[.agg #[.int .i64 fY.num, .int .i64 fY.den], .bool fY.ok])) (some 115) (.agg #[.int .i64 fY.num, .int .i64 fY.den])) (some 116) (.bool fY.ok)) (some 15) (.pointer (some ⟨bk, 0, none⟩))) (some 16) (.bool fY.ok))) (fun b W => Bx W b (.int .i64 fY.num) (.int .i64 fY.den) ∧ Below w8.heap.size w8 W) ?_ ?_
              · go_region_held3 (fun w' => w'.cell? ⟨b1, j * 2, none⟩ = some (.int .i64 s) ∧ w'.cell? ⟨b1, j * 2 + 1, none⟩ = some (.slice a1 n1 c1) ∧ w'.cell? ⟨b3, o3 + k0, none⟩ = some (.slice a4 n4 c4) ∧ Below w8.heap.size w8 w') (first | (refine keepS3 hc0 hc1 hc4 ?_; (repeat (first | exact Below.refl _ _ | assumption | refine Below.alloc ?_ (by first | omega | (simp <;> omega)) _ | refine Below.setCell ?_ (by first | omega | (simp <;> omega)) _ | refine Below.drew ?_ | refine below_drewN ?_)); done)) (first | (go_at_call 39; refine (MeanOf_any s _ _ _ _ _ _ D g4 w8.drew (hi1.below (by (repeat (first | exact Below.refl _ _ | assumption | refine Below.alloc ?_ (by first | omega | (simp <;> omega)) _ | refine Below.setCell ?_ (by first | omega | (simp <;> omega)) _ | refine Below.drew ?_ | refine below_drewN ?_)))) (hi4.below (by (repeat (first | exact Below.refl _ _ | assumption | refine Below.alloc ?_ (by first | omega | (simp <;> omega)) _ | refine Below.setCell ?_ (by first | omega | (simp <;> omega)) _ | refine Below.drew ?_ | refine below_drewN ?_))))).mono ?_; rw [HY.out]; rintro e wz ⟨rfl, hbz⟩; have hdz : Below w8.heap.size w8 wz := Below.trans (by (repeat (first | exact Below.refl _ _ | assumption | refine Below.alloc ?_ (by first | omega | (simp <;> omega)) _ | refine Below.setCell ?_ (by first | omega | (simp <;> omega)) _ | refine Below.drew ?_ | refine below_drewN ?_))) (hbz.mono (by simp <;> omega)); have z0 := keep hdz hc0; have z1 := keep hdz hc1; have zc := keep hdz hc4; have hsz := hdz.size) | (go_at_call 39; refine (MeanOf_any s _ _ _ _ _ _ D g4 (w8.alloc (.cells #[.int .i64 0, .int .i64 0] 49)).drew (hi1.below (by (repeat (first | exact Below.refl _ _ | assumption | refine Below.alloc ?_ (by first | omega | (simp <;> omega)) _ | refine Below.setCell ?_ (by first | omega | (simp <;> omega)) _ | refine Below.drew ?_ | refine below_drewN ?_)))) (hi4.below (by (repeat (first | exact Below.refl _ _ | assumption | refine Below.alloc ?_ (by first | omega | (simp <;> omega)) _ | refine Below.setCell ?_ (by first | omega | (simp <;> omega)) _ | refine Below.drew ?_ | refine below_drewN ?_))))).mono ?_; rw [HY.out]; rintro e wz ⟨rfl, hbz⟩; have hdz : Below w8.heap.size w8 wz := Below.trans (by (repeat (first | exact Below.refl _ _ | assumption | refine Below.alloc ?_ (by first | omega | (simp <;> omega)) _ | refine Below.setCell ?_ (by first | omega | (simp <;> omega)) _ | refine Below.drew ?_ | refine below_drewN ?_))) (hbz.mono (by simp <;> omega)); have z0 := keep hdz hc0; have z1 := keep hdz hc1; have zc := keep hdz hc4; have hsz := hdz.size; have kb0 := keep hbz (a := ⟨w8.heap.size, 0, none⟩) (v := .int .i64 0) (by simp); have kb1 := keep hbz (a := ⟨w8.heap.size, 1, none⟩) (v := .int .i64 0) (by simp); have kf0 := keepF hbz (a := ⟨w8.heap.size, 0, none⟩) (v := .int .i64 0) (by simp) (by simp); have kf1 := keepF hbz (a := ⟨w8.heap.size, 1, none⟩) (v := .int .i64 0) (by simp) (by simp); have hlz : w8.heap.size < wz.heap.size := (by have h_z := hbz.size; simp at h_z; omega)))
                · exact ⟨wz.heap.size, by simp [Act.put], Bx.mk2 rfl, by (repeat (first | exact Below.refl _ _ | assumption | refine Below.alloc ?_ (by first | omega | (simp <;> omega)) _ | refine Below.setCell ?_ (by first | omega | (simp <;> omega)) _ | refine Below.drew ?_ | refine below_drewN ?_))⟩
                · exact ⟨w8.heap.size, by simp [Act.put], (show Bx wz w8.heap.size _ _ from ⟨kb0, kb1, kf0, kf1, hlz⟩).put2 _ _, by (repeat (first | exact Below.refl _ _ | assumption | refine Below.alloc ?_ (by first | omega | (simp <;> omega)) _ | refine Below.setCell ?_ (by first | omega | (simp <;> omega)) _ | refine Below.drew ?_ | refine below_drewN ?_))⟩
              rintro bYx w9 ⟨hbx, hb⟩
              have hd := hb
              replace mm0 := keep hd mm0
              replace mm1 := keep hd mm1
              replace fR0 := keep hd fR0
              replace fR1 := keep hd fR1
              replace fQ0 := keep hd fQ0
              replace fQ1 := keep hd fQ1
              replace hc3 := keep hd hc3
              replace hc4 := keep hd hc4
              replace hc0 := keep hd hc0
              replace hc1 := keep hd hc1
              replace fX0 := keep hd fX0
              replace fX1 := keep hd fX1
              replace him := him.below hd
              replace hiq := hiq.below hd
              replace hat := hat.below hd
              replace hi3 := hi3.below hd
              replace hi4 := hi4.below hd
              replace hi1 := hi1.below hd
              replace hB := chain hB hd
              have hs9 := hd.size
              clear hb hd
              have fY0 := hbx.c0
              have fY1 := hbx.c1
              clear hbx
              have v1 : fracOk fX.num fX.den = true := by rw [← HX.out]; exact V1.out
              have v2 : fracOk fY.num fY.den = true := by rw [← HY.out]; exact V2.out
              have v3 : fracOk (-fY.num) fY.den = true := by rw [fracOk_neg]; exact v2
              go_wp2_with fail
              refine (MinusFraction_any fY.num fY.den _ v2).mono ?_; rintro e w10 ⟨rfl, hb⟩
              have hd := hb
              replace mm0 := keep hd mm0
              replace mm1 := keep hd mm1
              replace fR0 := keep hd fR0
              replace fR1 := keep hd fR1
              replace fQ0 := keep hd fQ0
              replace fQ1 := keep hd fQ1
              replace hc3 := keep hd hc3
              replace hc4 := keep hd hc4
              replace hc0 := keep hd hc0
              replace hc1 := keep hd hc1
              replace fX0 := keep hd fX0
              replace fX1 := keep hd fX1
              replace fY0 := keep hd fY0
              replace fY1 := keep hd fY1
              replace him := him.below hd
              replace hiq := hiq.below hd
              replace hat := hat.below hd
              replace hi3 := hi3.below hd
              replace hi4 := hi4.below hd
              replace hi1 := hi1.below hd
              replace hB := chain hB hd
              have hs10 := hd.size
              clear hb hd
              obtain ⟨fS, HS⟩ : ∃ r, Hid (addF fX.num fX.den (-fY.num) fY.den = r) := ⟨_, rfl⟩
              go_wp2_with fail
              refine (AddFractions_any fX.num fX.den (-fY.num) fY.den _ v1 v3).mono ?_; rw [HS.out]; rintro e w11 ⟨rfl, hb⟩
              have fN0 := keep hb (a := ⟨w10.heap.size, 0, none⟩) (v := .int .i64 (-fY.num)) (by simp)
              have fN1 := keep hb (a := ⟨w10.heap.size, 1, none⟩) (v := .int .i64 fY.den) (by simp)
              have hN6 : w10.heap.size < w11.heap.size := by have := World.block_lt_of_cell? w11 _ fN0; simpa using this
              have hd : Below w10.heap.size w10 w11 := Below.trans (by (repeat (first | exact Below.refl _ _ | assumption | refine Below.alloc ?_ (by first | omega | (simp <;> omega)) _ | refine Below.setCell ?_ (by first | omega | (simp <;> omega)) _ | refine Below.drew ?_ | refine below_drewN ?_))) (hb.mono (by simp <;> omega))
              replace mm0 := keep hd mm0
              replace mm1 := keep hd mm1
              replace fR0 := keep hd fR0
              replace fR1 := keep hd fR1
              replace fQ0 := keep hd fQ0
              replace fQ1 := keep hd fQ1
              replace hc3 := keep hd hc3
              replace hc4 := keep hd hc4
              replace hc0 := keep hd hc0
              replace hc1 := keep hd hc1
              replace fX0 := keep hd fX0
              replace fX1 := keep hd fX1
              replace fY0 := keep hd fY0
              replace fY1 := keep hd fY1
              replace him := him.below hd
              replace hiq := hiq.below hd
              replace hat := hat.below hd
              replace hi3 := hi3.below hd
              replace hi4 := hi4.below hd
              replace hi1 := hi1.below hd
              replace hB := chain hB hd
              have hs11 := hd.size
              clear hb hd
              have hl : lostF s D g3 g4 = fS := by unfold lostF; rw [HX.out, HY.out, HS.out]
              cases hso : fS.ok
              · go_wp2
                go_roundw
                case rel => first | exact ⟨j + 1, by omega, by go_num, by (repeat (first | exact Below.refl _ _ | assumption | refine Below.alloc ?_ (by first | omega | (simp <;> omega)) _ | refine Below.setCell ?_ (by first | omega | (simp <;> omega)) _ | refine Below.drew ?_ | refine below_drewN ?_))⟩ | exact ⟨_, ⟨j + 1, by omega, by go_num, by (repeat (first | exact Below.refl _ _ | assumption | refine Below.alloc ?_ (by first | omega | (simp <;> omega)) _ | refine Below.setCell ?_ (by first | omega | (simp <;> omega)) _ | refine Below.drew ?_ | refine below_drewN ?_))⟩, rfl⟩ | exact ⟨_, _, ⟨j + 1, by omega, by go_num, by (repeat (first | exact Below.refl _ _ | assumption | refine Below.alloc ?_ (by first | omega | (simp <;> omega)) _ | refine Below.setCell ?_ (by first | omega | (simp <;> omega)) _ | refine Below.drew ?_ | refine below_drewN ?_))⟩, rfl, rfl⟩ | exact ⟨_, _, _, ⟨j + 1, by omega, by go_num, by (repeat (first | exact Below.refl _ _ | assumption | refine Below.alloc ?_ (by first | omega | (simp <;> omega)) _ | refine Below.setCell ?_ (by first | omega | (simp <;> omega)) _ | refine Below.drew ?_ | refine below_drewN ?_))⟩, rfl, rfl, rfl⟩ | exact ⟨_, _, _, _, ⟨j + 1, by omega, by go_num, by (repeat (first | exact Below.refl _ _ | assumption | refine Below.alloc ?_ (by first | omega | (simp <;> omega)) _ | refine Below.setCell ?_ (by first | omega | (simp <;> omega)) _ | refine Below.drew ?_ | refine below_drewN ?_))⟩, rfl, rfl, rfl, rfl⟩ | exact ⟨_, _, _, _, _, ⟨j + 1, by omega, by go_num, by (repeat (first | exact Below.refl _ _ | assumption | refine Below.alloc ?_ (by first | omega | (simp <;> omega)) _ | refine Below.setCell ?_ (by first | omega | (simp <;> omega)) _ | refine Below.drew ?_ | refine below_drewN ?_))⟩, rfl, rfl, rfl, rfl, rfl⟩
                case measure => simp [intOf]; omega
              · have l2 : lessF fR.num fR.den fS.num fS.den = false := by rw [← hl]; exact L1.out (by rw [hl]; exact hso)
                go_wp2_with fail
                refine (LessFraction_any fR.num fR.den fS.num fS.den _).mono ?_; rw [l2]; rintro e w12 ⟨rfl, hb⟩
                have fS0 := keep hb (a := ⟨w11.heap.size, 0, none⟩) (v := .int .i64 fS.num) (by simp)
                have fS1 := keep hb (a := ⟨w11.heap.size, 1, none⟩) (v := .int .i64 fS.den) (by simp)
                have hN7 : w11.heap.size < w12.heap.size := by have := World.block_lt_of_cell? w12 _ fS0; simpa using this
                have hd : Below w11.heap.size w11 w12 := Below.trans (by (repeat (first | exact Below.refl _ _ | assumption | refine Below.alloc ?_ (by first | omega | (simp <;> omega)) _ | refine Below.setCell ?_ (by first | omega | (simp <;> omega)) _ | refine Below.drew ?_ | refine below_drewN ?_))) (hb.mono (by simp <;> omega))
                replace mm0 := keep hd mm0
                replace mm1 := keep hd mm1
                replace fR0 := keep hd fR0
                replace fR1 := keep hd fR1
                replace fQ0 := keep hd fQ0
                replace fQ1 := keep hd fQ1
                replace hc3 := keep hd hc3
                replace hc4 := keep hd hc4
                replace hc0 := keep hd hc0
                replace hc1 := keep hd hc1
                replace fX0 := keep hd fX0
                replace fX1 := keep hd fX1
                replace fY0 := keep hd fY0
                replace fY1 := keep hd fY1
                replace fN0 := keep hd fN0
                replace fN1 := keep hd fN1
                replace him := him.below hd
                replace hiq := hiq.below hd
                replace hat := hat.below hd
                replace hi3 := hi3.below hd
                replace hi4 := hi4.below hd
                replace hi1 := hi1.below hd
                replace hB := chain hB hd
                have hs12 := hd.size
                clear hb hd
                go_wp2
                go_roundw
                case rel => first | exact ⟨j + 1, by omega, by go_num, hB⟩ | exact ⟨_, ⟨j + 1, by omega, by go_num, hB⟩, rfl⟩ | exact ⟨_, _, ⟨j + 1, by omega, by go_num, hB⟩, rfl, rfl⟩ | exact ⟨_, _, _, ⟨j + 1, by omega, by go_num, hB⟩, rfl, rfl, rfl⟩ | exact ⟨_, _, _, _, ⟨j + 1, by omega, by go_num, hB⟩, rfl, rfl, rfl, rfl⟩ | exact ⟨_, _, _, _, _, ⟨j + 1, by omega, by go_num, hB⟩, rfl, rfl, rfl, rfl, rfl⟩
                case measure => simp [intOf]; omega
            · obtain rfl : j = Q := by omega
              go_wp2
              go_roundw
              case rel => first | exact ⟨a + 1, by omega, by go_num, hB0j.trans (hB.mono hswj)⟩ | exact ⟨_, ⟨a + 1, by omega, by go_num, hB0j.trans (hB.mono hswj)⟩, rfl⟩ | exact ⟨_, _, ⟨a + 1, by omega, by go_num, hB0j.trans (hB.mono hswj)⟩, rfl, rfl⟩ | exact ⟨_, _, _, ⟨a + 1, by omega, by go_num, hB0j.trans (hB.mono hswj)⟩, rfl, rfl, rfl⟩ | exact ⟨_, _, _, _, ⟨a + 1, by omega, by go_num, hB0j.trans (hB.mono hswj)⟩, rfl, rfl, rfl, rfl⟩ | exact ⟨_, _, _, _, _, ⟨a + 1, by omega, by go_num, hB0j.trans (hB.mono hswj)⟩, rfl, rfl, rfl, rfl, rfl⟩
              case measure => simp [intOf]; omega
      · obtain rfl : a = M := by omega
        have h0 : 0 ≤ fR.num := HLAW.out.1
        by_cases hm1 : a = 1
        · have hz : fR.num = 0 := HLAW.out.2.1 hm1
          have hz2 : (fR.num == 0) = true := by rw [hz]; rfl
          have hm2 : ¬ 1 < (a : Int) := by omega
          clear hz
          clear hm1
          go_wp2
          go_ret
          exact ⟨rfl, hB0a.trans (hB.mono hswa)⟩
        · have hm2 : 1 < (a : Int) := by omega
          clear hm1
          go_wp2
          go_ret
          exact ⟨rfl, hB0a.trans (hB.mono hswa)⟩
end Go.Proofs.Ytchjnjmlambpjaa
