/- The law that the program's RegretOf is the reference's: its walk (printed by lawgen.py). -/
import Derived.Test.YtmmlfjohknfbmaaX1
import Derived.Test.YtmmlfjohknfbmaaW20
import Derived.Test.YtmmlfjohknfbmaaL3
import Derived.Test.YtmmlfjohknfbmaaLK
import Derived.Test.YtmmlfjohknfbmaaL4
set_option linter.unusedSimpArgs false
set_option linter.unusedVariables false
namespace Go.Proofs.Ytmmlfjohknfbmaa
open Go.RowKit
set_option maxHeartbeats 4000000 in
theorem FnExactRegretOf_walk (sm : Int) (om : Option Addr) (nm cm : Nat) (xm : List Int) (oa : Option Addr) (na ca : Nat) (xa : List (List Int)) (k : Int) (w : World) (hxm : IntsAt w om nm xm) (hxa : RowsAt w oa na xa) :
    Calls Try.prog 11 #[.agg #[.int .i64 sm, .slice om nm cm], .slice oa na ca, .int .i64 k] w fun e w' => e = .returned (.bool true) ∧ Below w.heap.size w w' := by
  have hcapm := hxm.cap
  obtain rfl := hxm.len
  have hcapa := hxa.cap
  obtain rfl := hxa.len
  by_cases hlem : 1048576 - (xm.length : Int) < 0
  · go_enter Try.func11, Try.ntmps11
    have hB := Below.refl w.heap.size w
    go_wp2_with fail
    refine (szMass_any sm om _ cm (1048576) _ (by omega) (by omega) hcapm).mono ?_; rw [show leaves (1048576) xm.length = -1 from by simp only [leaves]; rw [if_pos (by omega)]]; rintro e w1 ⟨rfl, hb⟩
    have hpm0 := keep hb (a := ⟨w.heap.size, 0, none⟩) (v := .int .i64 sm) (by simp)
    have hpm1 := keep hb (a := ⟨w.heap.size, 1, none⟩) (v := .slice om xm.length cm) (by simp)
    have hz1 : w.heap.size < w1.heap.size := by have := World.block_lt_of_cell? w1 _ hpm0; simpa using this
    have hd : Below w.heap.size w w1 := Below.trans (by (repeat (first | exact Below.refl _ _ | assumption | refine Below.alloc ?_ (by simp <;> omega) _ | refine Below.setCell ?_ (by simp <;> omega) _ | refine Below.drew ?_ | refine below_drewN ?_))) (hb.mono (by simp <;> omega))
    replace hB := chain hB hd
    have hs1 := hd.size
    clear hb hd
    go_wp2
    go_ret
    exact ⟨rfl, hB⟩
  · have hLEm : 0 ≤ 1048576 - (xm.length : Int) := by omega
    by_cases hlea : 1048576 - (xm.length : Int) - ((xa.length + totTo xa xa.length : Nat) : Int) < 0
    · go_enter Try.func11, Try.ntmps11
      have hB := Below.refl w.heap.size w
      go_wp2_with fail
      refine (szMass_any sm om _ cm (1048576) _ (by omega) (by omega) hcapm).mono ?_; rw [show leaves (1048576) xm.length = 1048576 - (xm.length : Int) from by simp only [leaves]; rw [if_neg (by omega)]]; rintro e w1 ⟨rfl, hb⟩
      have hpm0 := keep hb (a := ⟨w.heap.size, 0, none⟩) (v := .int .i64 sm) (by simp)
      have hpm1 := keep hb (a := ⟨w.heap.size, 1, none⟩) (v := .slice om xm.length cm) (by simp)
      have hz1 : w.heap.size < w1.heap.size := by have := World.block_lt_of_cell? w1 _ hpm0; simpa using this
      have hd : Below w.heap.size w w1 := Below.trans (by (repeat (first | exact Below.refl _ _ | assumption | refine Below.alloc ?_ (by simp <;> omega) _ | refine Below.setCell ?_ (by simp <;> omega) _ | refine Below.drew ?_ | refine below_drewN ?_))) (hb.mono (by simp <;> omega))
      replace hB := chain hB hd
      have hs1 := hd.size
      clear hb hd
      go_wp2_with fail
      refine (szIntSS_any oa _ ca (1048576 - (xm.length : Int)) xa _ (by omega) (by omega) (hxa.below hB)).mono ?_; rw [show leavesL (1048576 - (xm.length : Int)) xa = -1 from by simp only [leavesL]; rw [if_pos (by omega)]]; rintro e w2 ⟨rfl, hw⟩
      have hb : Below w1.heap.size w1 w2 := hw ▸ Below.refl _ _
      clear hw
      have hd := hb
      replace hpm0 := keep hd hpm0
      replace hpm1 := keep hd hpm1
      replace hB := chain hB hd
      have hs2 := hd.size
      clear hb hd
      go_wp2
      go_ret
      exact ⟨rfl, hB⟩
    · have hLEa : 0 ≤ 1048576 - (xm.length : Int) - ((xa.length + totTo xa xa.length : Nat) : Int) := by omega
      have hnm : xm.length ≤ 100000000 := by omega
      have hna : xa.length ≤ 100000000 := by omega
      have hka : ∀ k, k < xa.length → (nthL xa k).length ≤ 100000000 := fun k hk => by have := len_le_tot xa hk; omega
      clear hlem
      clear hlea
      go_enter Try.func11, Try.ntmps11
      have hB := Below.refl w.heap.size w
      have hXm := hxm
      have hXa := hxa
      go_wp2_with fail
      refine (szMass_any sm om _ cm (1048576) _ (by omega) (by omega) hcapm).mono ?_; rw [show leaves (1048576) xm.length = 1048576 - (xm.length : Int) from by simp only [leaves]; rw [if_neg (by omega)]]; rintro e w1 ⟨rfl, hb⟩
      have hpm0 := keep hb (a := ⟨w.heap.size, 0, none⟩) (v := .int .i64 sm) (by simp)
      have hpm1 := keep hb (a := ⟨w.heap.size, 1, none⟩) (v := .slice om xm.length cm) (by simp)
      have hz1 : w.heap.size < w1.heap.size := by have := World.block_lt_of_cell? w1 _ hpm0; simpa using this
      have hd : Below w.heap.size w w1 := Below.trans (by (repeat (first | exact Below.refl _ _ | assumption | refine Below.alloc ?_ (by simp <;> omega) _ | refine Below.setCell ?_ (by simp <;> omega) _ | refine Below.drew ?_ | refine below_drewN ?_))) (hb.mono (by simp <;> omega))
      replace hB := chain hB hd
      replace hXm := hxm.below hB
      replace hXa := hxa.below hB
      have hs1 := hd.size
      clear hb hd
      go_wp2_with fail
      refine (szIntSS_any oa _ ca (1048576 - (xm.length : Int)) xa _ (by omega) (by omega) (hxa.below hB)).mono ?_; rw [show leavesL (1048576 - (xm.length : Int)) xa = 1048576 - (xm.length : Int) - ((xa.length + totTo xa xa.length : Nat) : Int) from by simp only [leavesL]; rw [if_neg (by omega)]]; rintro e w2 ⟨rfl, hw⟩
      have hb : Below w1.heap.size w1 w2 := hw ▸ Below.refl _ _
      clear hw
      have hd := hb
      replace hpm0 := keep hd hpm0
      replace hpm1 := keep hd hpm1
      replace hB := chain hB hd
      replace hXm := hxm.below hB
      replace hXa := hxa.below hB
      have hs2 := hd.size
      clear hb hd
      go_wp2_with fail
      refine (toMass_any sm om _ cm xm _ (hXm.below (by (repeat (first | exact Below.refl _ _ | assumption | refine Below.alloc ?_ (by simp <;> omega) _ | refine Below.setCell ?_ (by simp <;> omega) _ | refine Below.drew ?_ | refine below_drewN ?_)))) hnm).mono ?_; rintro e w3 ⟨v, rfl, hrSm, hb⟩
      obtain ⟨aSm, mSm, dSm, rfl, hiSm⟩ := hrSm.ints
      obtain rfl := hiSm.len
      have hvSm : ∀ b, (Value.slice aSm xm.length dSm).ownBlock = some b → w2.heap.size ≤ b ∧ b < w3.heap.size := fun b e => by have := hrSm.block b e; first | omega | (simp at this; omega)
      have hd := hb
      replace hpm0 := keep hd hpm0
      replace hpm1 := keep hd hpm1
      replace hB := chain hB hd
      replace hXm := hxm.below hB
      replace hXa := hxa.below hB
      have hs3 := hd.size
      clear hb hd
      go_wp2_with fail
      refine (toIntSS_any oa _ ca xa _ (hXa.below (by (repeat (first | exact Below.refl _ _ | assumption | refine Below.alloc ?_ (by simp <;> omega) _ | refine Below.setCell ?_ (by simp <;> omega) _ | refine Below.drew ?_ | refine below_drewN ?_)))) hna hka).mono ?_; rintro e w4 ⟨BSa, valsSa, rfl, hLoSa, hMSa, hb⟩
      have hiSa := hMSa.rowsAt rfl (by omega)
      have hd := hb
      replace hpm0 := keep hd hpm0
      replace hpm1 := keep hd hpm1
      replace hrSm := hrSm.below hd
      replace hiSm := hiSm.below hd
      replace hB := chain hB hd
      replace hXm := hxm.below hB
      replace hXa := hxa.below hB
      have hs4 := hd.size
      clear hb hd
      go_wp2_with fail
      refine (specRegretOf_any sm k _ _ _ _ _ _ xm xa _ (hiSm.below (by (repeat (first | exact Below.refl _ _ | assumption | refine Below.alloc ?_ (by simp <;> omega) _ | refine Below.setCell ?_ (by simp <;> omega) _ | refine Below.drew ?_ | refine below_drewN ?_)))) (hiSa.below (by (repeat (first | exact Below.refl _ _ | assumption | refine Below.alloc ?_ (by simp <;> omega) _ | refine Below.setCell ?_ (by simp <;> omega) _ | refine Below.drew ?_ | refine below_drewN ?_))))).mono ?_; rintro e w5 ⟨rfl, hb⟩
      have hd := hb
      replace hpm0 := keep hd hpm0
      replace hpm1 := keep hd hpm1
      replace hrSm := hrSm.below hd
      replace hMSa := hMSa.below hd
      replace hiSm := hiSm.below hd
      replace hiSa := hiSa.below hd
      replace hB := chain hB hd
      replace hXm := hxm.below hB
      replace hXa := hxa.below hB
      have hs5 := hd.size
      clear hb hd
      clear hiSm hrSm
      clear hvSm
      clear hiSa hMSa
      go_wp2_with fail
      refine (toMass_any sm om _ cm xm _ (hXm.below (by (repeat (first | exact Below.refl _ _ | assumption | refine Below.alloc ?_ (by simp <;> omega) _ | refine Below.setCell ?_ (by simp <;> omega) _ | refine Below.drew ?_ | refine below_drewN ?_)))) hnm).mono ?_; rintro e w6 ⟨v, rfl, hrXm, hb⟩
      obtain ⟨aXm, mXm, dXm, rfl, hiXm⟩ := hrXm.ints
      obtain rfl := hiXm.len
      have hvXm : ∀ b, (Value.slice aXm xm.length dXm).ownBlock = some b → w5.heap.size + 1 ≤ b ∧ b < w6.heap.size := fun b e => by have := hrXm.block b e; first | omega | (simp at this; omega)
      have hqW0 := keep hb (a := ⟨w5.heap.size, 0, none⟩) (v := .int .i64 (regretM sm xm xa k).num) (by simp)
      have hqW1 := keep hb (a := ⟨w5.heap.size, 1, none⟩) (v := .int .i64 (regretM sm xm xa k).den) (by simp)
      have hz2 : w5.heap.size < w6.heap.size := by have := World.block_lt_of_cell? w6 _ hqW0; simpa using this
      have hd : Below w5.heap.size w5 w6 := Below.trans (by (repeat (first | exact Below.refl _ _ | assumption | refine Below.alloc ?_ (by simp <;> omega) _ | refine Below.setCell ?_ (by simp <;> omega) _ | refine Below.drew ?_ | refine below_drewN ?_))) (hb.mono (by simp <;> omega))
      replace hpm0 := keep hd hpm0
      replace hpm1 := keep hd hpm1
      replace hB := chain hB hd
      replace hXm := hxm.below hB
      replace hXa := hxa.below hB
      have hs6 := hd.size
      clear hb hd
      go_wp2_with fail
      refine (toIntSS_any oa _ ca xa _ (hXa.below (by (repeat (first | exact Below.refl _ _ | assumption | refine Below.alloc ?_ (by simp <;> omega) _ | refine Below.setCell ?_ (by simp <;> omega) _ | refine Below.drew ?_ | refine below_drewN ?_)))) hna hka).mono ?_; rintro e w7 ⟨BXa, valsXa, rfl, hLoXa, hMXa, hb⟩
      have hiXa := hMXa.rowsAt rfl (by omega)
      have hxm0 := keep hb (a := ⟨w6.heap.size, 0, none⟩) (v := .int .i64 sm) (by simp)
      have hxm1 := keep hb (a := ⟨w6.heap.size, 1, none⟩) (v := .slice aXm xm.length dXm) (by simp)
      have hz3 : w6.heap.size < w7.heap.size := by have := World.block_lt_of_cell? w7 _ hxm0; simpa using this
      have hd : Below w6.heap.size w6 w7 := Below.trans (by (repeat (first | exact Below.refl _ _ | assumption | refine Below.alloc ?_ (by simp <;> omega) _ | refine Below.setCell ?_ (by simp <;> omega) _ | refine Below.drew ?_ | refine below_drewN ?_))) (hb.mono (by simp <;> omega))
      replace hpm0 := keep hd hpm0
      replace hpm1 := keep hd hpm1
      replace hqW0 := keep hd hqW0
      replace hqW1 := keep hd hqW1
      replace hrXm := hrXm.below hd
      replace hiXm := hiXm.below hd
      replace hB := chain hB hd
      replace hXm := hxm.below hB
      replace hXa := hxa.below hB
      have hs7 := hd.size
      clear hb hd
      go_wp2_with fail
      refine (RegretOf_any sm k _ _ _ _ _ _ xm xa _ (hiXm.below (by (repeat (first | exact Below.refl _ _ | assumption | refine Below.alloc ?_ (by simp <;> omega) _ | refine Below.setCell ?_ (by simp <;> omega) _ | refine Below.drew ?_ | refine below_drewN ?_)))) (hiXa.below (by (repeat (first | exact Below.refl _ _ | assumption | refine Below.alloc ?_ (by simp <;> omega) _ | refine Below.setCell ?_ (by simp <;> omega) _ | refine Below.drew ?_ | refine below_drewN ?_))))).mono ?_; rintro e w8 ⟨rfl, hb⟩
      have hd := hb
      replace hpm0 := keep hd hpm0
      replace hpm1 := keep hd hpm1
      replace hqW0 := keep hd hqW0
      replace hqW1 := keep hd hqW1
      replace hxm0 := keep hd hxm0
      replace hxm1 := keep hd hxm1
      replace hrXm := hrXm.below hd
      replace hMXa := hMXa.below hd
      replace hiXm := hiXm.below hd
      replace hiXa := hiXa.below hd
      replace hB := chain hB hd
      replace hXm := hxm.below hB
      replace hXa := hxa.below hB
      have hs8 := hd.size
      clear hb hd
      go_wp2_with fail
      refine (eqFraction_same _ _ _).mono ?_; rintro e w9 ⟨rfl, hb⟩
      have hqG0 := keep hb (a := ⟨w8.heap.size, 0, none⟩) (v := .int .i64 (regretM sm xm xa k).num) (by simp)
      have hqG1 := keep hb (a := ⟨w8.heap.size, 1, none⟩) (v := .int .i64 (regretM sm xm xa k).den) (by simp)
      have hz4 : w8.heap.size < w9.heap.size := by have := World.block_lt_of_cell? w9 _ hqG0; simpa using this
      have hd : Below w8.heap.size w8 w9 := Below.trans (by (repeat (first | exact Below.refl _ _ | assumption | refine Below.alloc ?_ (by simp <;> omega) _ | refine Below.setCell ?_ (by simp <;> omega) _ | refine Below.drew ?_ | refine below_drewN ?_))) (hb.mono (by simp <;> omega))
      replace hpm0 := keep hd hpm0
      replace hpm1 := keep hd hpm1
      replace hqW0 := keep hd hqW0
      replace hqW1 := keep hd hqW1
      replace hxm0 := keep hd hxm0
      replace hxm1 := keep hd hxm1
      replace hrXm := hrXm.below hd
      replace hMXa := hMXa.below hd
      replace hiXm := hiXm.below hd
      replace hiXa := hiXa.below hd
      replace hB := chain hB hd
      replace hXm := hxm.below hB
      replace hXa := hxa.below hB
      have hs9 := hd.size
      clear hb hd
      go_wp2_with fail
      refine wp_region_join 53 54 55 56 57 (.agg #[.int .i64 sm, .slice aXm xm.length dXm]) (.agg #[.int .i64 sm, .slice om xm.length cm]) ?_ ?_
      · go_region_with (first | (go_at_call 17; refine (toMass_any sm om _ cm xm _ (hXm.below (drew_below _)) hnm).mono ?_; rintro e wa ⟨v, rfl, hrE, hba⟩; obtain ⟨aE, mE, dE, rfl, hiE⟩ := hrE.ints; obtain rfl := hiE.len; have hda := chain (drew_below _) hba; have hxm0 := keep hda hxm0; have hxm1 := keep hda hxm1) | (go_at_call 19; refine (eqMass_same _ _ _ _ _ _ _ _ (hiXm.below hda) hiE).mono ?_; rintro e wb ⟨rfl, hbb⟩))
        all_goals exact ⟨_, rfl, chain hda hbb⟩
      intro vE w10 hb
      have hd := hb
      replace hpm0 := keep hd hpm0
      replace hpm1 := keep hd hpm1
      replace hqW0 := keep hd hqW0
      replace hqW1 := keep hd hqW1
      replace hxm0 := keep hd hxm0
      replace hxm1 := keep hd hxm1
      replace hqG0 := keep hd hqG0
      replace hqG1 := keep hd hqG1
      replace hrXm := hrXm.below hd
      replace hMXa := hMXa.below hd
      replace hiXm := hiXm.below hd
      replace hiXa := hiXa.below hd
      replace hB := chain hB hd
      replace hXm := hxm.below hB
      replace hXa := hxa.below hB
      have hs10 := hd.size
      clear hb hd
      go_wp2_with fail
      refine (toIntSS_any oa _ ca xa _ (hXa.below (by (repeat (first | exact Below.refl _ _ | assumption | refine Below.alloc ?_ (by simp <;> omega) _ | refine Below.setCell ?_ (by simp <;> omega) _ | refine Below.drew ?_ | refine below_drewN ?_)))) hna hka).mono ?_; rintro e w11 ⟨BEa, valsEa, rfl, hLoEa, hMEa, hb⟩
      have hiEa := hMEa.rowsAt rfl (by omega)
      have hd := hb
      replace hpm0 := keep hd hpm0
      replace hpm1 := keep hd hpm1
      replace hqW0 := keep hd hqW0
      replace hqW1 := keep hd hqW1
      replace hxm0 := keep hd hxm0
      replace hxm1 := keep hd hxm1
      replace hqG0 := keep hd hqG0
      replace hqG1 := keep hd hqG1
      replace hrXm := hrXm.below hd
      replace hMXa := hMXa.below hd
      replace hiXm := hiXm.below hd
      replace hiXa := hiXa.below hd
      replace hB := chain hB hd
      replace hXm := hxm.below hB
      replace hXa := hxa.below hB
      have hs11 := hd.size
      clear hb hd
      go_wp2_with fail
      refine (eqIntSS_same _ _ _ _ _ _ _ (hiXa.below (by (repeat (first | exact Below.refl _ _ | assumption | refine Below.alloc ?_ (by simp <;> omega) _ | refine Below.setCell ?_ (by simp <;> omega) _ | refine Below.drew ?_ | refine below_drewN ?_)))) (hiEa.below (by (repeat (first | exact Below.refl _ _ | assumption | refine Below.alloc ?_ (by simp <;> omega) _ | refine Below.setCell ?_ (by simp <;> omega) _ | refine Below.drew ?_ | refine below_drewN ?_))))).mono ?_; rintro e w12 ⟨rfl, hb⟩
      have hd := hb
      replace hpm0 := keep hd hpm0
      replace hpm1 := keep hd hpm1
      replace hqW0 := keep hd hqW0
      replace hqW1 := keep hd hqW1
      replace hxm0 := keep hd hxm0
      replace hxm1 := keep hd hxm1
      replace hqG0 := keep hd hqG0
      replace hqG1 := keep hd hqG1
      replace hrXm := hrXm.below hd
      replace hMXa := hMXa.below hd
      replace hMEa := hMEa.below hd
      replace hiXm := hiXm.below hd
      replace hiXa := hiXa.below hd
      replace hiEa := hiEa.below hd
      replace hB := chain hB hd
      replace hXm := hxm.below hB
      replace hXa := hxa.below hB
      have hs12 := hd.size
      clear hb hd
      clear hiEa hMEa
      go_wp2
      go_ret
      exact ⟨rfl, hB⟩
end Go.Proofs.Ytmmlfjohknfbmaa
