/- The law that the program's IsIndependent is the reference's: its walk (printed by lawgen.py). -/
import Derived.Test.YtmmlfjohknfbmaaX1
import Derived.Test.YtmmlfjohknfbmaaS10
import Derived.Test.YtmmlfjohknfbmaaLK
set_option linter.unusedSimpArgs false
set_option linter.unusedVariables false
namespace Go.Proofs.Ytmmlfjohknfbmaa
open Go.RowKit
set_option maxHeartbeats 4000000 in
theorem FnExactIsIndependent_walk (sm : Int) (om : Option Addr) (nm cm : Nat) (xm : List Int) (w : World) (hxm : IntsAt w om nm xm) :
    Calls Try.prog 14 #[.agg #[.int .i64 sm, .slice om nm cm]] w fun e w' => e = .returned (.bool true) ∧ Below w.heap.size w w' := by
  have hcapm := hxm.cap
  obtain rfl := hxm.len
  by_cases hlem : 1048576 - (xm.length : Int) < 0
  · go_enter Try.func14, Try.ntmps14
    have hB := Below.refl w.heap.size w
    go_wp2_with fail
    refine (szMass_any sm om _ cm (1048576) _ (by omega) (by omega) hcapm).mono ?_; rw [show leaves (1048576) xm.length = -1 from by simp only [leaves]; rw [if_pos (by omega)]]; rintro e w1 ⟨rfl, hb⟩
    have hpm0 := keep hb (a := ⟨w.heap.size, 0, none⟩) (v := .int .i64 sm) (by simp)
    have hpm1 := keep hb (a := ⟨w.heap.size, 1, none⟩) (v := .slice om xm.length cm) (by simp)
    have hz1 : w.heap.size < w1.heap.size := by have := World.block_lt_of_cell? w1 _ hpm0; simpa using this
    have hd : Below w.heap.size w w1 := Below.trans (by (repeat (first | exact Below.refl _ _ | assumption | refine Below.alloc ?_ (by simp <;> omega) _ | refine Below.setCell ?_ (by simp <;> omega) _ | refine Below.drew ?_ | refine below_drewN ?_))) (hb.mono (by simp <;> omega))
    replace hB := chain hB hd
    have hs1 := hd.size
    clear hb hd
    go_wp2
    go_ret
    exact ⟨rfl, hB⟩
  · have hLEm : 0 ≤ 1048576 - (xm.length : Int) := by omega
    have hnm : xm.length ≤ 100000000 := by omega
    clear hlem
    go_enter Try.func14, Try.ntmps14
    have hB := Below.refl w.heap.size w
    have hXm := hxm
    go_wp2_with fail
    refine (szMass_any sm om _ cm (1048576) _ (by omega) (by omega) hcapm).mono ?_; rw [show leaves (1048576) xm.length = 1048576 - (xm.length : Int) from by simp only [leaves]; rw [if_neg (by omega)]]; rintro e w1 ⟨rfl, hb⟩
    have hpm0 := keep hb (a := ⟨w.heap.size, 0, none⟩) (v := .int .i64 sm) (by simp)
    have hpm1 := keep hb (a := ⟨w.heap.size, 1, none⟩) (v := .slice om xm.length cm) (by simp)
    have hz1 : w.heap.size < w1.heap.size := by have := World.block_lt_of_cell? w1 _ hpm0; simpa using this
    have hd : Below w.heap.size w w1 := Below.trans (by (repeat (first | exact Below.refl _ _ | assumption | refine Below.alloc ?_ (by simp <;> omega) _ | refine Below.setCell ?_ (by simp <;> omega) _ | refine Below.drew ?_ | refine below_drewN ?_))) (hb.mono (by simp <;> omega))
    replace hB := chain hB hd
    replace hXm := hxm.below hB
    have hs1 := hd.size
    clear hb hd
    go_wp2_with fail
    refine (toMass_any sm om _ cm xm _ (hXm.below (by (repeat (first | exact Below.refl _ _ | assumption | refine Below.alloc ?_ (by simp <;> omega) _ | refine Below.setCell ?_ (by simp <;> omega) _ | refine Below.drew ?_ | refine below_drewN ?_)))) hnm).mono ?_; rintro e w2 ⟨v, rfl, hrSm, hb⟩
    obtain ⟨aSm, mSm, dSm, rfl, hiSm⟩ := hrSm.ints
    obtain rfl := hiSm.len
    have hvSm : ∀ b, (Value.slice aSm xm.length dSm).ownBlock = some b → w1.heap.size ≤ b ∧ b < w2.heap.size := fun b e => by have := hrSm.block b e; first | omega | (simp at this; omega)
    have hd := hb
    replace hpm0 := keep hd hpm0
    replace hpm1 := keep hd hpm1
    replace hB := chain hB hd
    replace hXm := hxm.below hB
    have hs2 := hd.size
    clear hb hd
    go_wp2_with fail
    refine (specIsIndependent_any sm _ _ _ xm _ (hiSm.below (by (repeat (first | exact Below.refl _ _ | assumption | refine Below.alloc ?_ (by simp <;> omega) _ | refine Below.setCell ?_ (by simp <;> omega) _ | refine Below.drew ?_ | refine below_drewN ?_))))).mono ?_; rintro e w3 ⟨rfl, hb⟩
    have hd := hb
    replace hpm0 := keep hd hpm0
    replace hpm1 := keep hd hpm1
    replace hrSm := hrSm.below hd
    replace hiSm := hiSm.below hd
    replace hB := chain hB hd
    replace hXm := hxm.below hB
    have hs3 := hd.size
    clear hb hd
    clear hiSm hrSm
    clear hvSm
    go_wp2_with fail
    refine (toMass_any sm om _ cm xm _ (hXm.below (by (repeat (first | exact Below.refl _ _ | assumption | refine Below.alloc ?_ (by simp <;> omega) _ | refine Below.setCell ?_ (by simp <;> omega) _ | refine Below.drew ?_ | refine below_drewN ?_)))) hnm).mono ?_; rintro e w4 ⟨v, rfl, hrXm, hb⟩
    obtain ⟨aXm, mXm, dXm, rfl, hiXm⟩ := hrXm.ints
    obtain rfl := hiXm.len
    have hvXm : ∀ b, (Value.slice aXm xm.length dXm).ownBlock = some b → w3.heap.size ≤ b ∧ b < w4.heap.size := fun b e => by have := hrXm.block b e; first | omega | (simp at this; omega)
    have hd := hb
    replace hpm0 := keep hd hpm0
    replace hpm1 := keep hd hpm1
    replace hB := chain hB hd
    replace hXm := hxm.below hB
    have hs4 := hd.size
    clear hb hd
    go_wp2_with fail
    refine (IsIndependent_any sm _ _ _ xm _ (hiXm.below (by (repeat (first | exact Below.refl _ _ | assumption | refine Below.alloc ?_ (by simp <;> omega) _ | refine Below.setCell ?_ (by simp <;> omega) _ | refine Below.drew ?_ | refine below_drewN ?_))))).mono ?_; rintro e w5 ⟨rfl, hb⟩
    have hxm0 := keep hb (a := ⟨w4.heap.size, 0, none⟩) (v := .int .i64 sm) (by simp)
    have hxm1 := keep hb (a := ⟨w4.heap.size, 1, none⟩) (v := .slice aXm xm.length dXm) (by simp)
    have hz2 : w4.heap.size < w5.heap.size := by have := World.block_lt_of_cell? w5 _ hxm0; simpa using this
    have hd : Below w4.heap.size w4 w5 := Below.trans (by (repeat (first | exact Below.refl _ _ | assumption | refine Below.alloc ?_ (by simp <;> omega) _ | refine Below.setCell ?_ (by simp <;> omega) _ | refine Below.drew ?_ | refine below_drewN ?_))) (hb.mono (by simp <;> omega))
    replace hpm0 := keep hd hpm0
    replace hpm1 := keep hd hpm1
    replace hrXm := hrXm.below hd
    replace hiXm := hiXm.below hd
    replace hB := chain hB hd
    replace hXm := hxm.below hB
    have hs5 := hd.size
    clear hb hd
    go_wp2_with fail
    refine wp_region_join 22 23 24 25 26 (.agg #[.int .i64 sm, .slice aXm xm.length dXm]) (.agg #[.int .i64 sm, .slice om xm.length cm]) ?_ ?_
    · go_region_with (first | (go_at_call 17; refine (toMass_any sm om _ cm xm _ (hXm.below (drew_below _)) hnm).mono ?_; rintro e wa ⟨v, rfl, hrE, hba⟩; obtain ⟨aE, mE, dE, rfl, hiE⟩ := hrE.ints; obtain rfl := hiE.len; have hda := chain (drew_below _) hba; have hxm0 := keep hda hxm0; have hxm1 := keep hda hxm1) | (go_at_call 19; refine (eqMass_same _ _ _ _ _ _ _ _ (hiXm.below hda) hiE).mono ?_; rintro e wb ⟨rfl, hbb⟩))
      all_goals exact ⟨_, rfl, chain hda hbb⟩
    intro vE w6 hb
    have hd := hb
    replace hpm0 := keep hd hpm0
    replace hpm1 := keep hd hpm1
    replace hxm0 := keep hd hxm0
    replace hxm1 := keep hd hxm1
    replace hrXm := hrXm.below hd
    replace hiXm := hiXm.below hd
    replace hB := chain hB hd
    replace hXm := hxm.below hB
    have hs6 := hd.size
    clear hb hd
    go_wp2
    go_ret
    exact ⟨rfl, hB⟩
end Go.Proofs.Ytmmlfjohknfbmaa
