/- The law that the program's MeanOf is the reference's: its walk (printed by lawgen.py). -/
import Derived.Test.YtmmlfjohknfbmaaX1
import Derived.Test.YtmmlfjohknfbmaaW14
import Derived.Test.YtmmlfjohknfbmaaLK
import Derived.Test.YtmmlfjohknfbmaaL4
set_option linter.unusedSimpArgs false
set_option linter.unusedVariables false
namespace Go.Proofs.Ytmmlfjohknfbmaa
open Go.RowKit
set_option maxHeartbeats 4000000 in
theorem FnExactMeanOf_walk (sm : Int) (om : Option Addr) (nm cm : Nat) (xm : List Int) (of : Option Addr) (nf cf : Nat) (xf : List Int) (w : World) (hxm : IntsAt w om nm xm) (hxf : IntsAt w of nf xf) :
    Calls Try.prog 7 #[.agg #[.int .i64 sm, .slice om nm cm], .slice of nf cf] w fun e w' => e = .returned (.bool true) ∧ Below w.heap.size w w' := by
  have hcapm := hxm.cap
  obtain rfl := hxm.len
  have hcapf := hxf.cap
  obtain rfl := hxf.len
  by_cases hlef : (1048576 : Int) < (xf.length : Int)
  · go_enter Try.func7, Try.ntmps7
    have hB := Below.refl w.heap.size w
    go_wp2
    go_ret
    exact ⟨rfl, by (repeat (first | exact Below.refl _ _ | assumption | refine Below.alloc ?_ (by simp <;> omega) _ | refine Below.setCell ?_ (by simp <;> omega) _ | refine Below.drew ?_ | refine below_drewN ?_))⟩
  · have hLEf : (xf.length : Int) ≤ 1048576 := by omega
    by_cases hlem : 1048576 - (xm.length : Int) < 0
    · go_enter Try.func7, Try.ntmps7
      have hB := Below.refl w.heap.size w
      go_wp2_with fail
      refine (szMass_any sm om _ cm (1048576) _ (by omega) (by omega) hcapm).mono ?_; rw [show leaves (1048576) xm.length = -1 from by simp only [leaves]; rw [if_pos (by omega)]]; rintro e w1 ⟨rfl, hb⟩
      have hpm0 := keep hb (a := ⟨w.heap.size, 0, none⟩) (v := .int .i64 sm) (by simp)
      have hpm1 := keep hb (a := ⟨w.heap.size, 1, none⟩) (v := .slice om xm.length cm) (by simp)
      have hz1 : w.heap.size < w1.heap.size := by have := World.block_lt_of_cell? w1 _ hpm0; simpa using this
      have hd : Below w.heap.size w w1 := Below.trans (by (repeat (first | exact Below.refl _ _ | assumption | refine Below.alloc ?_ (by simp <;> omega) _ | refine Below.setCell ?_ (by simp <;> omega) _ | refine Below.drew ?_ | refine below_drewN ?_))) (hb.mono (by simp <;> omega))
      replace hB := chain hB hd
      have hs1 := hd.size
      clear hb hd
      go_wp2
      go_ret
      exact ⟨rfl, hB⟩
    · have hLEm : 0 ≤ 1048576 - (xm.length : Int) := by omega
      have hnm : xm.length ≤ 100000000 := by omega
      have hnf : xf.length ≤ 100000000 := by omega
      clear hlem
      clear hlef
      go_enter Try.func7, Try.ntmps7
      have hB := Below.refl w.heap.size w
      have hXm := hxm
      have hXf := hxf
      go_wp2_with fail
      refine (szMass_any sm om _ cm (1048576) _ (by omega) (by omega) hcapm).mono ?_; rw [show leaves (1048576) xm.length = 1048576 - (xm.length : Int) from by simp only [leaves]; rw [if_neg (by omega)]]; rintro e w1 ⟨rfl, hb⟩
      have hpm0 := keep hb (a := ⟨w.heap.size, 0, none⟩) (v := .int .i64 sm) (by simp)
      have hpm1 := keep hb (a := ⟨w.heap.size, 1, none⟩) (v := .slice om xm.length cm) (by simp)
      have hz1 : w.heap.size < w1.heap.size := by have := World.block_lt_of_cell? w1 _ hpm0; simpa using this
      have hd : Below w.heap.size w w1 := Below.trans (by (repeat (first | exact Below.refl _ _ | assumption | refine Below.alloc ?_ (by simp <;> omega) _ | refine Below.setCell ?_ (by simp <;> omega) _ | refine Below.drew ?_ | refine below_drewN ?_))) (hb.mono (by simp <;> omega))
      replace hB := chain hB hd
      replace hXm := hxm.below hB
      replace hXf := hxf.below hB
      have hs1 := hd.size
      clear hb hd
      go_wp2_with fail
      refine (toMass_any sm om _ cm xm _ (hXm.below (by (repeat (first | exact Below.refl _ _ | assumption | refine Below.alloc ?_ (by simp <;> omega) _ | refine Below.setCell ?_ (by simp <;> omega) _ | refine Below.drew ?_ | refine below_drewN ?_)))) hnm).mono ?_; rintro e w2 ⟨v, rfl, hrSm, hb⟩
      obtain ⟨aSm, mSm, dSm, rfl, hiSm⟩ := hrSm.ints
      obtain rfl := hiSm.len
      have hvSm : ∀ b, (Value.slice aSm xm.length dSm).ownBlock = some b → w1.heap.size ≤ b ∧ b < w2.heap.size := fun b e => by have := hrSm.block b e; first | omega | (simp at this; omega)
      have hd := hb
      replace hpm0 := keep hd hpm0
      replace hpm1 := keep hd hpm1
      replace hB := chain hB hd
      replace hXm := hxm.below hB
      replace hXf := hxf.below hB
      have hs2 := hd.size
      clear hb hd
      go_wp2_with fail
      refine (toIntS_any of _ cf xf _ (hXf.below (by (repeat (first | exact Below.refl _ _ | assumption | refine Below.alloc ?_ (by simp <;> omega) _ | refine Below.setCell ?_ (by simp <;> omega) _ | refine Below.drew ?_ | refine below_drewN ?_)))) hnf).mono ?_; rintro e w3 ⟨v, rfl, hrSf, hb⟩
      obtain ⟨aSf, mSf, dSf, rfl, hiSf⟩ := hrSf.ints
      obtain rfl := hiSf.len
      have hvSf : ∀ b, (Value.slice aSf xf.length dSf).ownBlock = some b → w2.heap.size ≤ b ∧ b < w3.heap.size := fun b e => by have := hrSf.block b e; first | omega | (simp at this; omega)
      have hd := hb
      replace hpm0 := keep hd hpm0
      replace hpm1 := keep hd hpm1
      replace hrSm := hrSm.below hd
      replace hiSm := hiSm.below hd
      replace hB := chain hB hd
      replace hXm := hxm.below hB
      replace hXf := hxf.below hB
      have hs3 := hd.size
      clear hb hd
      go_wp2_with fail
      refine (specMeanOf_any sm _ _ _ _ _ _ xm xf _ (hiSm.below (by (repeat (first | exact Below.refl _ _ | assumption | refine Below.alloc ?_ (by simp <;> omega) _ | refine Below.setCell ?_ (by simp <;> omega) _ | refine Below.drew ?_ | refine below_drewN ?_)))) (hiSf.below (by (repeat (first | exact Below.refl _ _ | assumption | refine Below.alloc ?_ (by simp <;> omega) _ | refine Below.setCell ?_ (by simp <;> omega) _ | refine Below.drew ?_ | refine below_drewN ?_))))).mono ?_; rintro e w4 ⟨rfl, hb⟩
      have hd := hb
      replace hpm0 := keep hd hpm0
      replace hpm1 := keep hd hpm1
      replace hrSm := hrSm.below hd
      replace hrSf := hrSf.below hd
      replace hiSm := hiSm.below hd
      replace hiSf := hiSf.below hd
      replace hB := chain hB hd
      replace hXm := hxm.below hB
      replace hXf := hxf.below hB
      have hs4 := hd.size
      clear hb hd
      clear hiSm hrSm
      clear hvSm
      clear hiSf hrSf
      clear hvSf
      go_wp2_with fail
      refine (toMass_any sm om _ cm xm _ (hXm.below (by (repeat (first | exact Below.refl _ _ | assumption | refine Below.alloc ?_ (by simp <;> omega) _ | refine Below.setCell ?_ (by simp <;> omega) _ | refine Below.drew ?_ | refine below_drewN ?_)))) hnm).mono ?_; rintro e w5 ⟨v, rfl, hrXm, hb⟩
      obtain ⟨aXm, mXm, dXm, rfl, hiXm⟩ := hrXm.ints
      obtain rfl := hiXm.len
      have hvXm : ∀ b, (Value.slice aXm xm.length dXm).ownBlock = some b → w4.heap.size + 1 ≤ b ∧ b < w5.heap.size := fun b e => by have := hrXm.block b e; first | omega | (simp at this; omega)
      have hqW0 := keep hb (a := ⟨w4.heap.size, 0, none⟩) (v := .int .i64 (meanC sm xm xf).num) (by simp)
      have hqW1 := keep hb (a := ⟨w4.heap.size, 1, none⟩) (v := .int .i64 (meanC sm xm xf).den) (by simp)
      have hz2 : w4.heap.size < w5.heap.size := by have := World.block_lt_of_cell? w5 _ hqW0; simpa using this
      have hd : Below w4.heap.size w4 w5 := Below.trans (by (repeat (first | exact Below.refl _ _ | assumption | refine Below.alloc ?_ (by simp <;> omega) _ | refine Below.setCell ?_ (by simp <;> omega) _ | refine Below.drew ?_ | refine below_drewN ?_))) (hb.mono (by simp <;> omega))
      replace hpm0 := keep hd hpm0
      replace hpm1 := keep hd hpm1
      replace hB := chain hB hd
      replace hXm := hxm.below hB
      replace hXf := hxf.below hB
      have hs5 := hd.size
      clear hb hd
      go_wp2_with fail
      refine (toIntS_any of _ cf xf _ (hXf.below (by (repeat (first | exact Below.refl _ _ | assumption | refine Below.alloc ?_ (by simp <;> omega) _ | refine Below.setCell ?_ (by simp <;> omega) _ | refine Below.drew ?_ | refine below_drewN ?_)))) hnf).mono ?_; rintro e w6 ⟨v, rfl, hrXf, hb⟩
      obtain ⟨aXf, mXf, dXf, rfl, hiXf⟩ := hrXf.ints
      obtain rfl := hiXf.len
      have hvXf : ∀ b, (Value.slice aXf xf.length dXf).ownBlock = some b → w5.heap.size + 1 ≤ b ∧ b < w6.heap.size := fun b e => by have := hrXf.block b e; first | omega | (simp at this; omega)
      have hxm0 := keep hb (a := ⟨w5.heap.size, 0, none⟩) (v := .int .i64 sm) (by simp)
      have hxm1 := keep hb (a := ⟨w5.heap.size, 1, none⟩) (v := .slice aXm xm.length dXm) (by simp)
      have hz3 : w5.heap.size < w6.heap.size := by have := World.block_lt_of_cell? w6 _ hxm0; simpa using this
      have hd : Below w5.heap.size w5 w6 := Below.trans (by (repeat (first | exact Below.refl _ _ | assumption | refine Below.alloc ?_ (by simp <;> omega) _ | refine Below.setCell ?_ (by simp <;> omega) _ | refine Below.drew ?_ | refine below_drewN ?_))) (hb.mono (by simp <;> omega))
      replace hpm0 := keep hd hpm0
      replace hpm1 := keep hd hpm1
      replace hqW0 := keep hd hqW0
      replace hqW1 := keep hd hqW1
      replace hrXm := hrXm.below hd
      replace hiXm := hiXm.below hd
      replace hB := chain hB hd
      replace hXm := hxm.below hB
      replace hXf := hxf.below hB
      have hs6 := hd.size
      clear hb hd
      go_wp2_with fail
      refine (MeanOf_any sm _ _ _ _ _ _ xm xf _ (hiXm.below (by (repeat (first | exact Below.refl _ _ | assumption | refine Below.alloc ?_ (by simp <;> omega) _ | refine Below.setCell ?_ (by simp <;> omega) _ | refine Below.drew ?_ | refine below_drewN ?_)))) (hiXf.below (by (repeat (first | exact Below.refl _ _ | assumption | refine Below.alloc ?_ (by simp <;> omega) _ | refine Below.setCell ?_ (by simp <;> omega) _ | refine Below.drew ?_ | refine below_drewN ?_))))).mono ?_; rintro e w7 ⟨rfl, hb⟩
      have hd := hb
      replace hpm0 := keep hd hpm0
      replace hpm1 := keep hd hpm1
      replace hqW0 := keep hd hqW0
      replace hqW1 := keep hd hqW1
      replace hxm0 := keep hd hxm0
      replace hxm1 := keep hd hxm1
      replace hrXm := hrXm.below hd
      replace hrXf := hrXf.below hd
      replace hiXm := hiXm.below hd
      replace hiXf := hiXf.below hd
      replace hB := chain hB hd
      replace hXm := hxm.below hB
      replace hXf := hxf.below hB
      have hs7 := hd.size
      clear hb hd
      go_wp2_with fail
      refine (eqFraction_same _ _ _).mono ?_; rintro e w8 ⟨rfl, hb⟩
      have hqG0 := keep hb (a := ⟨w7.heap.size, 0, none⟩) (v := .int .i64 (meanC sm xm xf).num) (by simp)
      have hqG1 := keep hb (a := ⟨w7.heap.size, 1, none⟩) (v := .int .i64 (meanC sm xm xf).den) (by simp)
      have hz4 : w7.heap.size < w8.heap.size := by have := World.block_lt_of_cell? w8 _ hqG0; simpa using this
      have hd : Below w7.heap.size w7 w8 := Below.trans (by (repeat (first | exact Below.refl _ _ | assumption | refine Below.alloc ?_ (by simp <;> omega) _ | refine Below.setCell ?_ (by simp <;> omega) _ | refine Below.drew ?_ | refine below_drewN ?_))) (hb.mono (by simp <;> omega))
      replace hpm0 := keep hd hpm0
      replace hpm1 := keep hd hpm1
      replace hqW0 := keep hd hqW0
      replace hqW1 := keep hd hqW1
      replace hxm0 := keep hd hxm0
      replace hxm1 := keep hd hxm1
      replace hrXm := hrXm.below hd
      replace hrXf := hrXf.below hd
      replace hiXm := hiXm.below hd
      replace hiXf := hiXf.below hd
      replace hB := chain hB hd
      replace hXm := hxm.below hB
      replace hXf := hxf.below hB
      have hs8 := hd.size
      clear hb hd
      go_wp2_with fail
      refine wp_region_join 47 48 49 50 51 (.agg #[.int .i64 sm, .slice aXm xm.length dXm]) (.agg #[.int .i64 sm, .slice om xm.length cm]) ?_ ?_
      · go_region_with (first | (go_at_call 17; refine (toMass_any sm om _ cm xm _ (hXm.below (drew_below _)) hnm).mono ?_; rintro e wa ⟨v, rfl, hrE, hba⟩; obtain ⟨aE, mE, dE, rfl, hiE⟩ := hrE.ints; obtain rfl := hiE.len; have hda := chain (drew_below _) hba; have hxm0 := keep hda hxm0; have hxm1 := keep hda hxm1) | (go_at_call 19; refine (eqMass_same _ _ _ _ _ _ _ _ (hiXm.below hda) hiE).mono ?_; rintro e wb ⟨rfl, hbb⟩))
        all_goals exact ⟨_, rfl, chain hda hbb⟩
      intro vE w9 hb
      have hd := hb
      replace hpm0 := keep hd hpm0
      replace hpm1 := keep hd hpm1
      replace hqW0 := keep hd hqW0
      replace hqW1 := keep hd hqW1
      replace hxm0 := keep hd hxm0
      replace hxm1 := keep hd hxm1
      replace hqG0 := keep hd hqG0
      replace hqG1 := keep hd hqG1
      replace hrXm := hrXm.below hd
      replace hrXf := hrXf.below hd
      replace hiXm := hiXm.below hd
      replace hiXf := hiXf.below hd
      replace hB := chain hB hd
      replace hXm := hxm.below hB
      replace hXf := hxf.below hB
      have hs9 := hd.size
      clear hb hd
      go_wp2_with fail
      refine (toIntS_any of _ cf xf _ (hXf.below (by (repeat (first | exact Below.refl _ _ | assumption | refine Below.alloc ?_ (by simp <;> omega) _ | refine Below.setCell ?_ (by simp <;> omega) _ | refine Below.drew ?_ | refine below_drewN ?_)))) hnf).mono ?_; rintro e w10 ⟨v, rfl, hrEf, hb⟩
      obtain ⟨aEf, mEf, dEf, rfl, hiEf⟩ := hrEf.ints
      obtain rfl := hiEf.len
      have hvEf : ∀ b, (Value.slice aEf xf.length dEf).ownBlock = some b → w9.heap.size ≤ b ∧ b < w10.heap.size := fun b e => by have := hrEf.block b e; first | omega | (simp at this; omega)
      have hd := hb
      replace hpm0 := keep hd hpm0
      replace hpm1 := keep hd hpm1
      replace hqW0 := keep hd hqW0
      replace hqW1 := keep hd hqW1
      replace hxm0 := keep hd hxm0
      replace hxm1 := keep hd hxm1
      replace hqG0 := keep hd hqG0
      replace hqG1 := keep hd hqG1
      replace hrXm := hrXm.below hd
      replace hrXf := hrXf.below hd
      replace hiXm := hiXm.below hd
      replace hiXf := hiXf.below hd
      replace hB := chain hB hd
      replace hXm := hxm.below hB
      replace hXf := hxf.below hB
      have hs10 := hd.size
      clear hb hd
      go_wp2_with fail
      refine (eqIntS_same _ _ _ _ _ _ _ (hiXf.below (by (repeat (first | exact Below.refl _ _ | assumption | refine Below.alloc ?_ (by simp <;> omega) _ | refine Below.setCell ?_ (by simp <;> omega) _ | refine Below.drew ?_ | refine below_drewN ?_)))) (hiEf.below (by (repeat (first | exact Below.refl _ _ | assumption | refine Below.alloc ?_ (by simp <;> omega) _ | refine Below.setCell ?_ (by simp <;> omega) _ | refine Below.drew ?_ | refine below_drewN ?_))))).mono ?_; rintro e w11 ⟨rfl, hb⟩
      have hd := hb
      replace hpm0 := keep hd hpm0
      replace hpm1 := keep hd hpm1
      replace hqW0 := keep hd hqW0
      replace hqW1 := keep hd hqW1
      replace hxm0 := keep hd hxm0
      replace hxm1 := keep hd hxm1
      replace hqG0 := keep hd hqG0
      replace hqG1 := keep hd hqG1
      replace hrXm := hrXm.below hd
      replace hrXf := hrXf.below hd
      replace hrEf := hrEf.below hd
      replace hiXm := hiXm.below hd
      replace hiXf := hiXf.below hd
      replace hiEf := hiEf.below hd
      replace hB := chain hB hd
      replace hXm := hxm.below hB
      replace hXf := hxf.below hB
      have hs11 := hd.size
      clear hb hd
      clear hiEf hrEf
      clear hvEf
      go_wp2
      go_ret
      exact ⟨rfl, hB⟩
end Go.Proofs.Ytmmlfjohknfbmaa
