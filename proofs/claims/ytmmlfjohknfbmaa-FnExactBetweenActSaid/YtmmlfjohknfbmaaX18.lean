/- The law that the program's BetweenAct is the reference's: its walk (printed by lawgen.py). -/
import Derived.Test.YtmmlfjohknfbmaaX1
import Derived.Test.YtmmlfjohknfbmaaW18
import Derived.Test.YtmmlfjohknfbmaaL3
import Derived.Test.YtmmlfjohknfbmaaL6
set_option linter.unusedSimpArgs false
set_option linter.unusedVariables false
namespace Go.Proofs.Ytmmlfjohknfbmaa
open Go.RowKit
set_option maxHeartbeats 4000000 in
theorem FnExactBetweenAct_walk (sm : Int) (om : Option Addr) (nm cm : Nat) (xm : List Int) (oa : Option Addr) (na ca : Nat) (xa : List (List Int)) (fn fd : Int) (w : World) (hxm : IntsAt w om nm xm) (hxa : RowsAt w oa na xa) :
    Calls Try.prog 8 #[.agg #[.int .i64 sm, .slice om nm cm], .slice oa na ca, .agg #[.int .i64 fn, .int .i64 fd]] w fun e w' => e = .returned (.bool true) ∧ Below w.heap.size w w' := by
  have hcapm := hxm.cap
  obtain rfl := hxm.len
  have hcapa := hxa.cap
  obtain rfl := hxa.len
  by_cases hlem : 1048576 - (xm.length : Int) < 0
  · go_enter Try.func8, Try.ntmps8
    have hB := Below.refl w.heap.size w
    go_wp2_with fail
    refine (szMass_any sm om _ cm (1048576) _ (by omega) (by omega) hcapm).mono ?_; rw [show leaves (1048576) xm.length = -1 from by simp only [leaves]; rw [if_pos (by omega)]]; rintro e w1 ⟨rfl, hb⟩
    have hpm0 := keep hb (a := ⟨w.heap.size, 0, none⟩) (v := .int .i64 sm) (by simp)
    have hpm1 := keep hb (a := ⟨w.heap.size, 1, none⟩) (v := .slice om xm.length cm) (by simp)
    have hz1 : w.heap.size < w1.heap.size := by have := World.block_lt_of_cell? w1 _ hpm0; simpa using this
    have hpf0 := keep hb (a := ⟨w.heap.size + 1, 0, none⟩) (v := .int .i64 fn) (by simp)
    have hpf1 := keep hb (a := ⟨w.heap.size + 1, 1, none⟩) (v := .int .i64 fd) (by simp)
    have hz2 : w.heap.size + 1 < w1.heap.size := by have := World.block_lt_of_cell? w1 _ hpf0; simpa using this
    have hd : Below w.heap.size w w1 := Below.trans (by (repeat (first | exact Below.refl _ _ | assumption | refine Below.alloc ?_ (by simp <;> omega) _ | refine Below.setCell ?_ (by simp <;> omega) _ | refine Below.drew ?_ | refine below_drewN ?_))) (hb.mono (by simp <;> omega))
    replace hB := chain hB hd
    have hs1 := hd.size
    clear hb hd
    go_wp2
    go_ret
    exact ⟨rfl, hB⟩
  · have hLEm : 0 ≤ 1048576 - (xm.length : Int) := by omega
    by_cases hlea : 1048576 - (xm.length : Int) - ((xa.length + totTo xa xa.length : Nat) : Int) < 0
    · go_enter Try.func8, Try.ntmps8
      have hB := Below.refl w.heap.size w
      go_wp2_with fail
      refine (szMass_any sm om _ cm (1048576) _ (by omega) (by omega) hcapm).mono ?_; rw [show leaves (1048576) xm.length = 1048576 - (xm.length : Int) from by simp only [leaves]; rw [if_neg (by omega)]]; rintro e w1 ⟨rfl, hb⟩
      have hpm0 := keep hb (a := ⟨w.heap.size, 0, none⟩) (v := .int .i64 sm) (by simp)
      have hpm1 := keep hb (a := ⟨w.heap.size, 1, none⟩) (v := .slice om xm.length cm) (by simp)
      have hz1 : w.heap.size < w1.heap.size := by have := World.block_lt_of_cell? w1 _ hpm0; simpa using this
      have hpf0 := keep hb (a := ⟨w.heap.size + 1, 0, none⟩) (v := .int .i64 fn) (by simp)
      have hpf1 := keep hb (a := ⟨w.heap.size + 1, 1, none⟩) (v := .int .i64 fd) (by simp)
      have hz2 : w.heap.size + 1 < w1.heap.size := by have := World.block_lt_of_cell? w1 _ hpf0; simpa using this
      have hd : Below w.heap.size w w1 := Below.trans (by (repeat (first | exact Below.refl _ _ | assumption | refine Below.alloc ?_ (by simp <;> omega) _ | refine Below.setCell ?_ (by simp <;> omega) _ | refine Below.drew ?_ | refine below_drewN ?_))) (hb.mono (by simp <;> omega))
      replace hB := chain hB hd
      have hs1 := hd.size
      clear hb hd
      go_wp2_with fail
      refine (szIntSS_any oa _ ca (1048576 - (xm.length : Int)) xa _ (by omega) (by omega) (hxa.below hB)).mono ?_; rw [show leavesL (1048576 - (xm.length : Int)) xa = -1 from by simp only [leavesL]; rw [if_pos (by omega)]]; rintro e w2 ⟨rfl, hw⟩
      have hb : Below w1.heap.size w1 w2 := hw ▸ Below.refl _ _
      clear hw
      have hd := hb
      replace hpm0 := keep hd hpm0
      replace hpm1 := keep hd hpm1
      replace hpf0 := keep hd hpf0
      replace hpf1 := keep hd hpf1
      replace hB := chain hB hd
      have hs2 := hd.size
      clear hb hd
      go_wp2
      go_ret
      exact ⟨rfl, hB⟩
    · have hLEa : 0 ≤ 1048576 - (xm.length : Int) - ((xa.length + totTo xa xa.length : Nat) : Int) := by omega
      have hnm : xm.length ≤ 100000000 := by omega
      have hna : xa.length ≤ 100000000 := by omega
      have hka : ∀ k, k < xa.length → (nthL xa k).length ≤ 100000000 := fun k hk => by have := len_le_tot xa hk; omega
      clear hlem
      clear hlea
      go_enter Try.func8, Try.ntmps8
      have hB := Below.refl w.heap.size w
      have hXm := hxm
      have hXa := hxa
      go_wp2_with fail
      refine (szMass_any sm om _ cm (1048576) _ (by omega) (by omega) hcapm).mono ?_; rw [show leaves (1048576) xm.length = 1048576 - (xm.length : Int) from by simp only [leaves]; rw [if_neg (by omega)]]; rintro e w1 ⟨rfl, hb⟩
      have hpm0 := keep hb (a := ⟨w.heap.size, 0, none⟩) (v := .int .i64 sm) (by simp)
      have hpm1 := keep hb (a := ⟨w.heap.size, 1, none⟩) (v := .slice om xm.length cm) (by simp)
      have hz1 : w.heap.size < w1.heap.size := by have := World.block_lt_of_cell? w1 _ hpm0; simpa using this
      have hpf0 := keep hb (a := ⟨w.heap.size + 1, 0, none⟩) (v := .int .i64 fn) (by simp)
      have hpf1 := keep hb (a := ⟨w.heap.size + 1, 1, none⟩) (v := .int .i64 fd) (by simp)
      have hz2 : w.heap.size + 1 < w1.heap.size := by have := World.block_lt_of_cell? w1 _ hpf0; simpa using this
      have hd : Below w.heap.size w w1 := Below.trans (by (repeat (first | exact Below.refl _ _ | assumption | refine Below.alloc ?_ (by simp <;> omega) _ | refine Below.setCell ?_ (by simp <;> omega) _ | refine Below.drew ?_ | refine below_drewN ?_))) (hb.mono (by simp <;> omega))
      replace hB := chain hB hd
      replace hXm := hxm.below hB
      replace hXa := hxa.below hB
      have hs1 := hd.size
      clear hb hd
      go_wp2_with fail
      refine (szIntSS_any oa _ ca (1048576 - (xm.length : Int)) xa _ (by omega) (by omega) (hxa.below hB)).mono ?_; rw [show leavesL (1048576 - (xm.length : Int)) xa = 1048576 - (xm.length : Int) - ((xa.length + totTo xa xa.length : Nat) : Int) from by simp only [leavesL]; rw [if_neg (by omega)]]; rintro e w2 ⟨rfl, hw⟩
      have hb : Below w1.heap.size w1 w2 := hw ▸ Below.refl _ _
      clear hw
      have hd := hb
      replace hpm0 := keep hd hpm0
      replace hpm1 := keep hd hpm1
      replace hpf0 := keep hd hpf0
      replace hpf1 := keep hd hpf1
      replace hB := chain hB hd
      replace hXm := hxm.below hB
      replace hXa := hxa.below hB
      have hs2 := hd.size
      clear hb hd
      go_wp2_with fail
      refine wp_region_joinF (ι := Value × Value) (fun a i => ((((((((a.put (some 22) (.agg #[.int .i64 sm, .slice om xm.length cm])).put (some 23) i.1).put (some 24) (.slice oa xa.length ca)).put (some 25) i.2).put (some 26) (.agg #[.int .i64 fn, .int .i64 fd])).put (some 27) (.agg #[.int .i64 fn, .int .i64 fd])).put (some 28) (.int .i64 (bestM (betOk sm xm xa fn fd) (fun k => betS fn fd xm (nthL xa k)) xa.length))).put (some 8) (.int .i64 (bestM (betOk sm xm xa fn fd) (fun k => betS fn fd xm (nthL xa k)) xa.length)))) (fun i w' => Below w2.heap.size w2 w') ?_ ?_
      · go_region_held3 (fun w' => w'.cell? ⟨w.heap.size, 0, none⟩ = some (.int .i64 sm) ∧ w'.cell? ⟨w.heap.size, 1, none⟩ = some (.slice om xm.length cm) ∧ w'.cell? ⟨w.heap.size + 1, 0, none⟩ = some (.int .i64 fn) ∧ w'.cell? ⟨w.heap.size + 1, 1, none⟩ = some (.int .i64 fd)) (first | (refine ⟨by assumption, by assumption, by assumption, by assumption⟩; done) | (refine ⟨by simp [*], by simp [*], by simp [*], by simp [*]⟩; done) | go_keep) (first | (go_at_call 17; ((with_reducible refine (toMass_any sm om _ cm xm _ ?_ hnm).mono ?_)); exact hXm.below (by (repeat (first | exact Below.refl _ _ | assumption | refine Below.alloc ?_ (by first | omega | (simp <;> omega)) _ | refine Below.setCell ?_ (by first | omega | (simp <;> omega)) _ | refine Below.drew ?_ | refine below_drewN ?_))); rintro e wm ⟨vm, rfl, hrwm, hb⟩; obtain ⟨awm, mwm, dwm, rfl, hiwm⟩ := hrwm.ints; obtain rfl := hiwm.len; have hdwm : Below w2.heap.size w2 wm := Below.trans (by (repeat (first | exact Below.refl _ _ | assumption | refine Below.alloc ?_ (by first | omega | (simp <;> omega)) _ | refine Below.setCell ?_ (by first | omega | (simp <;> omega)) _ | refine Below.drew ?_ | refine below_drewN ?_))) (hb.mono (by first | omega | (simp <;> omega))); have hszwm := hdwm.size; (try (have hwawm : Below wa.heap.size wa wm := Below.trans (by (repeat (first | exact Below.refl _ _ | assumption | refine Below.alloc ?_ (by first | omega | (simp <;> omega)) _ | refine Below.setCell ?_ (by first | omega | (simp <;> omega)) _ | refine Below.drew ?_ | refine below_drewN ?_))) (hb.mono (by first | omega | (simp <;> omega))); have hswawm := hwawm.size)); (try (have hwfwm : Below wf.heap.size wf wm := Below.trans (by (repeat (first | exact Below.refl _ _ | assumption | refine Below.alloc ?_ (by first | omega | (simp <;> omega)) _ | refine Below.setCell ?_ (by first | omega | (simp <;> omega)) _ | refine Below.drew ?_ | refine below_drewN ?_))) (hb.mono (by first | omega | (simp <;> omega))); have hswfwm := hwfwm.size)); have k0 := keep hdwm hpm0; have k1 := keep hdwm hpm1; have k2 := keep hdwm hpf0; have k3 := keep hdwm hpf1) | (go_at_call 26; ((with_reducible refine (toIntSS_any oa _ ca xa _ ?_ hna hka).mono ?_)); exact hXa.below (by (repeat (first | exact Below.refl _ _ | assumption | refine Below.alloc ?_ (by first | omega | (simp <;> omega)) _ | refine Below.setCell ?_ (by first | omega | (simp <;> omega)) _ | refine Below.drew ?_ | refine below_drewN ?_))); rintro e wa ⟨Bwa, valswa, rfl, hLowa, hMwa, hb⟩; have hiwa := hMwa.rowsAt rfl (by omega); have hdwa : Below w2.heap.size w2 wa := Below.trans (by (repeat (first | exact Below.refl _ _ | assumption | refine Below.alloc ?_ (by first | omega | (simp <;> omega)) _ | refine Below.setCell ?_ (by first | omega | (simp <;> omega)) _ | refine Below.drew ?_ | refine below_drewN ?_))) (hb.mono (by first | omega | (simp <;> omega))); have hszwa := hdwa.size; (try (have hwmwa : Below wm.heap.size wm wa := Below.trans (by (repeat (first | exact Below.refl _ _ | assumption | refine Below.alloc ?_ (by first | omega | (simp <;> omega)) _ | refine Below.setCell ?_ (by first | omega | (simp <;> omega)) _ | refine Below.drew ?_ | refine below_drewN ?_))) (hb.mono (by first | omega | (simp <;> omega))); have hswmwa := hwmwa.size)); (try (have hwfwa : Below wf.heap.size wf wa := Below.trans (by (repeat (first | exact Below.refl _ _ | assumption | refine Below.alloc ?_ (by first | omega | (simp <;> omega)) _ | refine Below.setCell ?_ (by first | omega | (simp <;> omega)) _ | refine Below.drew ?_ | refine below_drewN ?_))) (hb.mono (by first | omega | (simp <;> omega))); have hswfwa := hwfwa.size)); have k0 := keep hdwa hpm0; have k1 := keep hdwa hpm1; have k2 := keep hdwa hpf0; have k3 := keep hdwa hpf1) | (go_at_call 37; ((with_reducible refine (toFraction_any fn fd _).mono ?_)); rintro e wf ⟨rfl, hb⟩; have hdwf : Below w2.heap.size w2 wf := Below.trans (by (repeat (first | exact Below.refl _ _ | assumption | refine Below.alloc ?_ (by first | omega | (simp <;> omega)) _ | refine Below.setCell ?_ (by first | omega | (simp <;> omega)) _ | refine Below.drew ?_ | refine below_drewN ?_))) (hb.mono (by first | omega | (simp <;> omega))); have hszwf := hdwf.size; (try (have hwmwf : Below wm.heap.size wm wf := Below.trans (by (repeat (first | exact Below.refl _ _ | assumption | refine Below.alloc ?_ (by first | omega | (simp <;> omega)) _ | refine Below.setCell ?_ (by first | omega | (simp <;> omega)) _ | refine Below.drew ?_ | refine below_drewN ?_))) (hb.mono (by first | omega | (simp <;> omega))); have hswmwf := hwmwf.size)); (try (have hwawf : Below wa.heap.size wa wf := Below.trans (by (repeat (first | exact Below.refl _ _ | assumption | refine Below.alloc ?_ (by first | omega | (simp <;> omega)) _ | refine Below.setCell ?_ (by first | omega | (simp <;> omega)) _ | refine Below.drew ?_ | refine below_drewN ?_))) (hb.mono (by first | omega | (simp <;> omega))); have hswawf := hwawf.size)); have k0 := keep hdwf hpm0; have k1 := keep hdwf hpm1; have k2 := keep hdwf hpf0; have k3 := keep hdwf hpf1) | (go_at_call 36; ((with_reducible refine (specBetweenAct_any sm fn fd _ _ _ _ _ _ xm xa _ ?_ ?_).mono ?_)); exact hiwm.below (by (repeat (first | exact Below.refl _ _ | assumption | refine Below.alloc ?_ (by first | omega | (simp <;> omega)) _ | refine Below.setCell ?_ (by first | omega | (simp <;> omega)) _ | refine Below.drew ?_ | refine below_drewN ?_))); exact hiwa.below (by (repeat (first | exact Below.refl _ _ | assumption | refine Below.alloc ?_ (by first | omega | (simp <;> omega)) _ | refine Below.setCell ?_ (by first | omega | (simp <;> omega)) _ | refine Below.drew ?_ | refine below_drewN ?_))); rintro e wz ⟨rfl, hb⟩; have hdwz : Below w2.heap.size w2 wz := Below.trans (by (repeat (first | exact Below.refl _ _ | assumption | refine Below.alloc ?_ (by first | omega | (simp <;> omega)) _ | refine Below.setCell ?_ (by first | omega | (simp <;> omega)) _ | refine Below.drew ?_ | refine below_drewN ?_))) (hb.mono (by first | omega | (simp <;> omega))); have hszwz := hdwz.size; have k0 := keep hdwz hpm0; have k1 := keep hdwz hpm1; have k2 := keep hdwz hpf0; have k3 := keep hdwz hpf1))
        all_goals exact ⟨⟨.agg #[.int .i64 sm, .slice awm xm.length dwm], .slice (some ⟨Bwa, 0, none⟩) xa.length xa.length⟩, by simp [Act.put], hdwz⟩
      rintro ⟨vA, vB⟩ w3 hb
      replace hb : Below w2.heap.size w2 w3 := hb
      have hd := hb
      replace hpm0 := keep hd hpm0
      replace hpm1 := keep hd hpm1
      replace hpf0 := keep hd hpf0
      replace hpf1 := keep hd hpf1
      replace hB := chain hB hd
      replace hXm := hxm.below hB
      replace hXa := hxa.below hB
      have hs3 := hd.size
      clear hb hd
      go_wp2_with fail
      refine (toMass_any sm om _ cm xm _ (hXm.below (by (repeat (first | exact Below.refl _ _ | assumption | refine Below.alloc ?_ (by simp <;> omega) _ | refine Below.setCell ?_ (by simp <;> omega) _ | refine Below.drew ?_ | refine below_drewN ?_)))) hnm).mono ?_; rintro e w4 ⟨v, rfl, hrXm, hb⟩
      obtain ⟨aXm, mXm, dXm, rfl, hiXm⟩ := hrXm.ints
      obtain rfl := hiXm.len
      have hvXm : ∀ b, (Value.slice aXm xm.length dXm).ownBlock = some b → w3.heap.size ≤ b ∧ b < w4.heap.size := fun b e => by have := hrXm.block b e; first | omega | (simp at this; omega)
      have hd := hb
      replace hpm0 := keep hd hpm0
      replace hpm1 := keep hd hpm1
      replace hpf0 := keep hd hpf0
      replace hpf1 := keep hd hpf1
      replace hB := chain hB hd
      replace hXm := hxm.below hB
      replace hXa := hxa.below hB
      have hs4 := hd.size
      clear hb hd
      go_wp2_with fail
      refine (toIntSS_any oa _ ca xa _ (hXa.below (by (repeat (first | exact Below.refl _ _ | assumption | refine Below.alloc ?_ (by simp <;> omega) _ | refine Below.setCell ?_ (by simp <;> omega) _ | refine Below.drew ?_ | refine below_drewN ?_)))) hna hka).mono ?_; rintro e w5 ⟨BXa, valsXa, rfl, hLoXa, hMXa, hb⟩
      have hiXa := hMXa.rowsAt rfl (by omega)
      have hxm0 := keep hb (a := ⟨w4.heap.size, 0, none⟩) (v := .int .i64 sm) (by simp)
      have hxm1 := keep hb (a := ⟨w4.heap.size, 1, none⟩) (v := .slice aXm xm.length dXm) (by simp)
      have hz3 : w4.heap.size < w5.heap.size := by have := World.block_lt_of_cell? w5 _ hxm0; simpa using this
      have hd : Below w4.heap.size w4 w5 := Below.trans (by (repeat (first | exact Below.refl _ _ | assumption | refine Below.alloc ?_ (by simp <;> omega) _ | refine Below.setCell ?_ (by simp <;> omega) _ | refine Below.drew ?_ | refine below_drewN ?_))) (hb.mono (by simp <;> omega))
      replace hpm0 := keep hd hpm0
      replace hpm1 := keep hd hpm1
      replace hpf0 := keep hd hpf0
      replace hpf1 := keep hd hpf1
      replace hrXm := hrXm.below hd
      replace hiXm := hiXm.below hd
      replace hB := chain hB hd
      replace hXm := hxm.below hB
      replace hXa := hxa.below hB
      have hs5 := hd.size
      clear hb hd
      go_wp2_with fail
      refine wp_region_ov (by kernel_rfl) (by kernel_rfl) ?_
      repeat (first | go_big_quiet_step ((first | (go_at_call 37; (exact ov_call (toFraction_any fn fd _))) | (go_at_call 38; (exact ov_call (BetweenAct_any sm fn fd _ _ _ _ _ _ xm xa _ (hiXm.below (ov_below _ _)) (hiXa.below (ov_below _ _))))))) | quiet_step ((first | (go_at_call 37; (exact ov_call (toFraction_any fn fd _))) | (go_at_call 38; (exact ov_call (BetweenAct_any sm fn fd _ _ _ _ _ _ xm xa _ (hiXm.below (ov_below _ _)) (hiXa.below (ov_below _ _))))))))
      refine wpQuiet_nil ?_
      intro _ hw_ov
      obtain ⟨x_ov, hw_ov2⟩ := hw_ov
      subst hw_ov2
      obtain ⟨w6, hw_ov3, hb⟩ := ov_gen _ x_ov
      rw [hw_ov3]
      clear hw_ov3 x_ov
      have hd := hb
      replace hpm0 := keep hd hpm0
      replace hpm1 := keep hd hpm1
      replace hpf0 := keep hd hpf0
      replace hpf1 := keep hd hpf1
      replace hxm0 := keep hd hxm0
      replace hxm1 := keep hd hxm1
      replace hrXm := hrXm.below hd
      replace hMXa := hMXa.below hd
      replace hiXm := hiXm.below hd
      replace hiXa := hiXa.below hd
      replace hB := chain hB hd
      replace hXm := hxm.below hB
      replace hXa := hxa.below hB
      have hs6 := hd.size
      clear hb hd
      go_wp2_with fail
      refine wp_region_join 41 42 43 44 45 (.agg #[.int .i64 sm, .slice aXm xm.length dXm]) (.agg #[.int .i64 sm, .slice om xm.length cm]) ?_ ?_
      · go_region_with (first | (go_at_call 17; refine (toMass_any sm om _ cm xm _ (hXm.below (drew_below _)) hnm).mono ?_; rintro e wa ⟨v, rfl, hrE, hba⟩; obtain ⟨aE, mE, dE, rfl, hiE⟩ := hrE.ints; obtain rfl := hiE.len; have hda := chain (drew_below _) hba; have hxm0 := keep hda hxm0; have hxm1 := keep hda hxm1) | (go_at_call 19; refine (eqMass_same _ _ _ _ _ _ _ _ (hiXm.below hda) hiE).mono ?_; rintro e wb ⟨rfl, hbb⟩))
        all_goals exact ⟨_, rfl, chain hda hbb⟩
      intro vE w7 hb
      have hd := hb
      replace hpm0 := keep hd hpm0
      replace hpm1 := keep hd hpm1
      replace hpf0 := keep hd hpf0
      replace hpf1 := keep hd hpf1
      replace hxm0 := keep hd hxm0
      replace hxm1 := keep hd hxm1
      replace hrXm := hrXm.below hd
      replace hMXa := hMXa.below hd
      replace hiXm := hiXm.below hd
      replace hiXa := hiXa.below hd
      replace hB := chain hB hd
      replace hXm := hxm.below hB
      replace hXa := hxa.below hB
      have hs7 := hd.size
      clear hb hd
      go_wp2_with fail
      refine (toIntSS_any oa _ ca xa _ (hXa.below (by (repeat (first | exact Below.refl _ _ | assumption | refine Below.alloc ?_ (by simp <;> omega) _ | refine Below.setCell ?_ (by simp <;> omega) _ | refine Below.drew ?_ | refine below_drewN ?_)))) hna hka).mono ?_; rintro e w8 ⟨BEa, valsEa, rfl, hLoEa, hMEa, hb⟩
      have hiEa := hMEa.rowsAt rfl (by omega)
      have hd := hb
      replace hpm0 := keep hd hpm0
      replace hpm1 := keep hd hpm1
      replace hpf0 := keep hd hpf0
      replace hpf1 := keep hd hpf1
      replace hxm0 := keep hd hxm0
      replace hxm1 := keep hd hxm1
      replace hrXm := hrXm.below hd
      replace hMXa := hMXa.below hd
      replace hiXm := hiXm.below hd
      replace hiXa := hiXa.below hd
      replace hB := chain hB hd
      replace hXm := hxm.below hB
      replace hXa := hxa.below hB
      have hs8 := hd.size
      clear hb hd
      go_wp2_with fail
      refine (eqIntSS_same _ _ _ _ _ _ _ (hiXa.below (by (repeat (first | exact Below.refl _ _ | assumption | refine Below.alloc ?_ (by simp <;> omega) _ | refine Below.setCell ?_ (by simp <;> omega) _ | refine Below.drew ?_ | refine below_drewN ?_)))) (hiEa.below (by (repeat (first | exact Below.refl _ _ | assumption | refine Below.alloc ?_ (by simp <;> omega) _ | refine Below.setCell ?_ (by simp <;> omega) _ | refine Below.drew ?_ | refine below_drewN ?_))))).mono ?_; rintro e w9 ⟨rfl, hb⟩
      have hd := hb
      replace hpm0 := keep hd hpm0
      replace hpm1 := keep hd hpm1
      replace hpf0 := keep hd hpf0
      replace hpf1 := keep hd hpf1
      replace hxm0 := keep hd hxm0
      replace hxm1 := keep hd hxm1
      replace hrXm := hrXm.below hd
      replace hMXa := hMXa.below hd
      replace hMEa := hMEa.below hd
      replace hiXm := hiXm.below hd
      replace hiXa := hiXa.below hd
      replace hiEa := hiEa.below hd
      replace hB := chain hB hd
      replace hXm := hxm.below hB
      replace hXa := hxa.below hB
      have hs9 := hd.size
      clear hb hd
      clear hiEa hMEa
      go_wp2
      go_ret
      exact ⟨rfl, hB⟩
end Go.Proofs.Ytmmlfjohknfbmaa
