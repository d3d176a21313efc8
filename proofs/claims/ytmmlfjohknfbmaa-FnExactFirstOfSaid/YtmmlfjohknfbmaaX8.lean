/- The laws that the program's FirstOf and SecondOf are the reference's: their walks (printed by lawgen.py). -/
import Derived.Test.YtmmlfjohknfbmaaX1
import Derived.Test.YtmmlfjohknfbmaaS8
import Derived.Test.YtmmlfjohknfbmaaLK
set_option linter.unusedSimpArgs false
set_option linter.unusedVariables false
namespace Go.Proofs.Ytmmlfjohknfbmaa
open Go.RowKit
set_option maxHeartbeats 4000000 in
theorem FnExactFirstOf_walk (sm : Int) (om : Option Addr) (nm cm : Nat) (xm : List Int) (w : World) (hxm : IntsAt w om nm xm) :
    Calls Try.prog 3 #[.agg #[.int .i64 sm, .slice om nm cm]] w fun e w' => e = .returned (.bool true) ∧ Below w.heap.size w w' := by
  have hcapm := hxm.cap
  obtain rfl := hxm.len
  by_cases hlem : 1048576 - (xm.length : Int) < 0
  · go_enter Try.func3, Try.ntmps3
    have hB := Below.refl w.heap.size w
    go_wp2_with fail
    refine (szMass_any sm om _ cm (1048576) _ (by omega) (by omega) hcapm).mono ?_; rw [show leaves (1048576) xm.length = -1 from by simp only [leaves]; rw [if_pos (by omega)]]; rintro e w1 ⟨rfl, hb⟩
    have hpm0 := keep hb (a := ⟨w.heap.size, 0, none⟩) (v := .int .i64 sm) (by simp)
    have hpm1 := keep hb (a := ⟨w.heap.size, 1, none⟩) (v := .slice om xm.length cm) (by simp)
    have hz1 : w.heap.size < w1.heap.size := by have := World.block_lt_of_cell? w1 _ hpm0; simpa using this
    have hd : Below w.heap.size w w1 := Below.trans (by (repeat (first | exact Below.refl _ _ | assumption | refine Below.alloc ?_ (by simp <;> omega) _ | refine Below.setCell ?_ (by simp <;> omega) _ | refine Below.drew ?_ | refine below_drewN ?_))) (hb.mono (by simp <;> omega))
    replace hB := chain hB hd
    have hs1 := hd.size
    clear hb hd
    go_wp2
    go_ret
    exact ⟨rfl, hB⟩
  · have hLEm : 0 ≤ 1048576 - (xm.length : Int) := by omega
    have hnm : xm.length ≤ 100000000 := by omega
    have hlen : (sideM false sm xm).parts.length ≤ 100000000 := sideM_len _ _ _
    clear hlem
    go_enter Try.func3, Try.ntmps3
    have hB := Below.refl w.heap.size w
    have hXm := hxm
    go_wp2_with fail
    refine (szMass_any sm om _ cm (1048576) _ (by omega) (by omega) hcapm).mono ?_; rw [show leaves (1048576) xm.length = 1048576 - (xm.length : Int) from by simp only [leaves]; rw [if_neg (by omega)]]; rintro e w1 ⟨rfl, hb⟩
    have hpm0 := keep hb (a := ⟨w.heap.size, 0, none⟩) (v := .int .i64 sm) (by simp)
    have hpm1 := keep hb (a := ⟨w.heap.size, 1, none⟩) (v := .slice om xm.length cm) (by simp)
    have hz1 : w.heap.size < w1.heap.size := by have := World.block_lt_of_cell? w1 _ hpm0; simpa using this
    have hd : Below w.heap.size w w1 := Below.trans (by (repeat (first | exact Below.refl _ _ | assumption | refine Below.alloc ?_ (by simp <;> omega) _ | refine Below.setCell ?_ (by simp <;> omega) _ | refine Below.drew ?_ | refine below_drewN ?_))) (hb.mono (by simp <;> omega))
    replace hB := chain hB hd
    replace hXm := hxm.below hB
    have hs1 := hd.size
    clear hb hd
    go_wp2_with fail
    refine (toMass_any sm om _ cm xm _ (hXm.below (by (repeat (first | exact Below.refl _ _ | assumption | refine Below.alloc ?_ (by simp <;> omega) _ | refine Below.setCell ?_ (by simp <;> omega) _ | refine Below.drew ?_ | refine below_drewN ?_)))) hnm).mono ?_; rintro e w2 ⟨v, rfl, hrSm, hb⟩
    obtain ⟨aSm, mSm, dSm, rfl, hiSm⟩ := hrSm.ints
    obtain rfl := hiSm.len
    have hvSm : ∀ b, (Value.slice aSm xm.length dSm).ownBlock = some b → w1.heap.size ≤ b ∧ b < w2.heap.size := fun b e => by have := hrSm.block b e; first | omega | (simp at this; omega)
    have hd := hb
    replace hpm0 := keep hd hpm0
    replace hpm1 := keep hd hpm1
    replace hB := chain hB hd
    replace hXm := hxm.below hB
    have hs2 := hd.size
    clear hb hd
    go_wp2_with fail
    refine (specFirstOf_any sm _ _ _ xm _ (hiSm.below (by (repeat (first | exact Below.refl _ _ | assumption | refine Below.alloc ?_ (by simp <;> omega) _ | refine Below.setCell ?_ (by simp <;> omega) _ | refine Below.drew ?_ | refine below_drewN ?_))))).mono ?_; rintro e w3 ⟨⟨v, rfl, hrW⟩, hb⟩
    obtain ⟨aW, mW, dW, rfl, hiW⟩ := hrW.ints
    obtain rfl := hiW.len
    have hvW : ∀ b, (Value.slice aW (sideM false sm xm).parts.length dW).ownBlock = some b → w2.heap.size ≤ b ∧ b < w3.heap.size := fun b e => by have := hrW.block b e; first | omega | (simp at this; omega)
    have hd := hb
    replace hpm0 := keep hd hpm0
    replace hpm1 := keep hd hpm1
    replace hrSm := hrSm.below hd
    replace hiSm := hiSm.below hd
    replace hB := chain hB hd
    replace hXm := hxm.below hB
    have hs3 := hd.size
    clear hb hd
    have hi0W := hiW
    have hC := Below.refl w3.heap.size w3
    clear hrW hvW
    clear hiSm hrSm
    clear hvSm
    go_wp2_with fail
    refine (toMass_any sm om _ cm xm _ (hXm.below (by (repeat (first | exact Below.refl _ _ | assumption | refine Below.alloc ?_ (by simp <;> omega) _ | refine Below.setCell ?_ (by simp <;> omega) _ | refine Below.drew ?_ | refine below_drewN ?_)))) hnm).mono ?_; rintro e w4 ⟨v, rfl, hrXm, hb⟩
    obtain ⟨aXm, mXm, dXm, rfl, hiXm⟩ := hrXm.ints
    obtain rfl := hiXm.len
    have hvXm : ∀ b, (Value.slice aXm xm.length dXm).ownBlock = some b → w3.heap.size + 1 ≤ b ∧ b < w4.heap.size := fun b e => by have := hrXm.block b e; first | omega | (simp at this; omega)
    have hqW0 := keep hb (a := ⟨w3.heap.size, 0, none⟩) (v := .int .i64 (sideM false sm xm).size) (by simp)
    have hqW1 := keep hb (a := ⟨w3.heap.size, 1, none⟩) (v := .slice aW (sideM false sm xm).parts.length dW) (by simp)
    have hz2 : w3.heap.size < w4.heap.size := by have := World.block_lt_of_cell? w4 _ hqW0; simpa using this
    have hd : Below w3.heap.size w3 w4 := Below.trans (by (repeat (first | exact Below.refl _ _ | assumption | refine Below.alloc ?_ (by simp <;> omega) _ | refine Below.setCell ?_ (by simp <;> omega) _ | refine Below.drew ?_ | refine below_drewN ?_))) (hb.mono (by simp <;> omega))
    replace hpm0 := keep hd hpm0
    replace hpm1 := keep hd hpm1
    replace hB := chain hB hd
    replace hXm := hxm.below hB
    replace hC := chain hC hd
    replace hiW := hi0W.below hC
    have hs4 := hd.size
    clear hb hd
    go_wp2_with fail
    refine (FirstOf_any sm _ _ _ xm _ (hiXm.below (by (repeat (first | exact Below.refl _ _ | assumption | refine Below.alloc ?_ (by simp <;> omega) _ | refine Below.setCell ?_ (by simp <;> omega) _ | refine Below.drew ?_ | refine below_drewN ?_))))).mono ?_; rintro e w5 ⟨⟨v, rfl, hrG⟩, hb⟩
    obtain ⟨aG, mG, dG, rfl, hiG⟩ := hrG.ints
    obtain rfl := hiG.len
    have hvG : ∀ b, (Value.slice aG (sideM false sm xm).parts.length dG).ownBlock = some b → w4.heap.size + 1 ≤ b ∧ b < w5.heap.size := fun b e => by have := hrG.block b e; first | omega | (simp at this; omega)
    have hxm0 := keep hb (a := ⟨w4.heap.size, 0, none⟩) (v := .int .i64 sm) (by simp)
    have hxm1 := keep hb (a := ⟨w4.heap.size, 1, none⟩) (v := .slice aXm xm.length dXm) (by simp)
    have hz3 : w4.heap.size < w5.heap.size := by have := World.block_lt_of_cell? w5 _ hxm0; simpa using this
    have hd : Below w4.heap.size w4 w5 := Below.trans (by (repeat (first | exact Below.refl _ _ | assumption | refine Below.alloc ?_ (by simp <;> omega) _ | refine Below.setCell ?_ (by simp <;> omega) _ | refine Below.drew ?_ | refine below_drewN ?_))) (hb.mono (by simp <;> omega))
    replace hpm0 := keep hd hpm0
    replace hpm1 := keep hd hpm1
    replace hqW0 := keep hd hqW0
    replace hqW1 := keep hd hqW1
    replace hrXm := hrXm.below hd
    replace hiXm := hiXm.below hd
    replace hB := chain hB hd
    replace hXm := hxm.below hB
    replace hC := chain hC hd
    replace hiW := hi0W.below hC
    have hs5 := hd.size
    clear hb hd
    go_wp2_with fail
    refine (eqMass_same _ _ _ _ _ _ _ _ (hiG.below (by (repeat (first | exact Below.refl _ _ | assumption | refine Below.alloc ?_ (by simp <;> omega) _ | refine Below.setCell ?_ (by simp <;> omega) _ | refine Below.drew ?_ | refine below_drewN ?_)))) (hiW.below (by (repeat (first | exact Below.refl _ _ | assumption | refine Below.alloc ?_ (by simp <;> omega) _ | refine Below.setCell ?_ (by simp <;> omega) _ | refine Below.drew ?_ | refine below_drewN ?_))))).mono ?_; rintro e w6 ⟨rfl, hb⟩
    have hqG0 := keep hb (a := ⟨w5.heap.size, 0, none⟩) (v := .int .i64 (sideM false sm xm).size) (by simp)
    have hqG1 := keep hb (a := ⟨w5.heap.size, 1, none⟩) (v := .slice aG (sideM false sm xm).parts.length dG) (by simp)
    have hz4 : w5.heap.size < w6.heap.size := by have := World.block_lt_of_cell? w6 _ hqG0; simpa using this
    have hd : Below w5.heap.size w5 w6 := Below.trans (by (repeat (first | exact Below.refl _ _ | assumption | refine Below.alloc ?_ (by simp <;> omega) _ | refine Below.setCell ?_ (by simp <;> omega) _ | refine Below.drew ?_ | refine below_drewN ?_))) (hb.mono (by simp <;> omega))
    replace hpm0 := keep hd hpm0
    replace hpm1 := keep hd hpm1
    replace hqW0 := keep hd hqW0
    replace hqW1 := keep hd hqW1
    replace hxm0 := keep hd hxm0
    replace hxm1 := keep hd hxm1
    replace hrXm := hrXm.below hd
    replace hrG := hrG.below hd
    replace hiXm := hiXm.below hd
    replace hiG := hiG.below hd
    replace hB := chain hB hd
    replace hXm := hxm.below hB
    replace hC := chain hC hd
    replace hiW := hi0W.below hC
    have hs6 := hd.size
    clear hb hd
    go_wp2_with fail
    refine wp_region_join 41 42 43 44 45 (.agg #[.int .i64 sm, .slice aXm xm.length dXm]) (.agg #[.int .i64 sm, .slice om xm.length cm]) ?_ ?_
    · go_region_with (first | (go_at_call 17; refine (toMass_any sm om _ cm xm _ (hXm.below (drew_below _)) hnm).mono ?_; rintro e wa ⟨v, rfl, hrE, hba⟩; obtain ⟨aE, mE, dE, rfl, hiE⟩ := hrE.ints; obtain rfl := hiE.len; have hda := chain (drew_below _) hba; have hxm0 := keep hda hxm0; have hxm1 := keep hda hxm1) | (go_at_call 19; refine (eqMass_same _ _ _ _ _ _ _ _ (hiXm.below hda) hiE).mono ?_; rintro e wb ⟨rfl, hbb⟩))
      all_goals exact ⟨_, rfl, chain hda hbb⟩
    intro vE w7 hb
    have hd := hb
    replace hpm0 := keep hd hpm0
    replace hpm1 := keep hd hpm1
    replace hqW0 := keep hd hqW0
    replace hqW1 := keep hd hqW1
    replace hxm0 := keep hd hxm0
    replace hxm1 := keep hd hxm1
    replace hqG0 := keep hd hqG0
    replace hqG1 := keep hd hqG1
    replace hrXm := hrXm.below hd
    replace hrG := hrG.below hd
    replace hiXm := hiXm.below hd
    replace hiG := hiG.below hd
    replace hB := chain hB hd
    replace hXm := hxm.below hB
    replace hC := chain hC hd
    replace hiW := hi0W.below hC
    have hs7 := hd.size
    clear hb hd
    clear hiXm
    go_wp2_with fail
    refine (markMass_any _ _ _ _ (1) _ _ (hrXm) rfl hnm (by omega) (by omega)).mono ?_; rintro e w8 ⟨rfl, hm, hg⟩
    clear hm
    clear hiG
    replace hpm0 := keepO hg hpm0 (fun e => by have := hvXm _ e.symm; omega)
    replace hpm1 := keepO hg hpm1 (fun e => by have := hvXm _ e.symm; omega)
    replace hqW0 := keepO hg hqW0 (fun e => by have := hvXm _ e.symm; omega)
    replace hqW1 := keepO hg hqW1 (fun e => by have := hvXm _ e.symm; omega)
    replace hxm0 := keepO hg hxm0 (fun e => by have := hvXm _ e.symm; omega)
    replace hxm1 := keepO hg hxm1 (fun e => by have := hvXm _ e.symm; omega)
    replace hqG0 := keepO hg hqG0 (fun e => by have := hvXm _ e.symm; omega)
    replace hqG1 := keepO hg hqG1 (fun e => by have := hvXm _ e.symm; omega)
    replace hrG := Row.apart hrG hg (fun b e b2 e2 => by have := hvG b e; have := hvXm b2 e2; omega)
    replace hB := below_grownBy hB hB.size hg (fun k e => by have := hvXm k e; omega)
    replace hXm := hxm.below hB
    replace hC := below_grownBy hC hC.size hg (fun k e => by have := hvXm k e; omega)
    replace hiW := hi0W.below hC
    have hs8 := hg.size
    clear hg
    clear hrXm hvXm
    have hnnm : (0 : Int) ≤ (xm.length : Int) := by omega
    obtain ⟨aH, nH, cH, eH, hiG⟩ := hrG.ints
    injection eH with e1 e2 e3
    subst e1 e2 e3
    go_wp2_with fail
    refine (eqMass_same _ _ _ _ _ _ _ _ (hiG.below (by (repeat (first | exact Below.refl _ _ | assumption | refine Below.alloc ?_ (by simp <;> omega) _ | refine Below.setCell ?_ (by simp <;> omega) _ | refine Below.drew ?_ | refine below_drewN ?_)))) (hiW.below (by (repeat (first | exact Below.refl _ _ | assumption | refine Below.alloc ?_ (by simp <;> omega) _ | refine Below.setCell ?_ (by simp <;> omega) _ | refine Below.drew ?_ | refine below_drewN ?_))))).mono ?_; rintro e w9 ⟨rfl, hb⟩
    have hd := hb
    replace hpm0 := keep hd hpm0
    replace hpm1 := keep hd hpm1
    replace hqW0 := keep hd hqW0
    replace hqW1 := keep hd hqW1
    replace hxm0 := keep hd hxm0
    replace hxm1 := keep hd hxm1
    replace hqG0 := keep hd hqG0
    replace hqG1 := keep hd hqG1
    replace hrG := hrG.below hd
    replace hiG := hiG.below hd
    replace hB := chain hB hd
    replace hXm := hxm.below hB
    replace hC := chain hC hd
    replace hiW := hi0W.below hC
    have hs9 := hd.size
    clear hb hd
    clear hiG
    go_wp2_with fail
    refine (markMass_any _ _ _ _ 1 _ _ hrG rfl hlen (by omega) (by omega)).mono ?_; rintro e w10 ⟨rfl, hm, hg⟩
    replace hpm0 := keepO hg hpm0 (fun e => by have := hvG _ e.symm; omega)
    replace hpm1 := keepO hg hpm1 (fun e => by have := hvG _ e.symm; omega)
    replace hqW0 := keepO hg hqW0 (fun e => by have := hvG _ e.symm; omega)
    replace hqW1 := keepO hg hqW1 (fun e => by have := hvG _ e.symm; omega)
    replace hxm0 := keepO hg hxm0 (fun e => by have := hvG _ e.symm; omega)
    replace hxm1 := keepO hg hxm1 (fun e => by have := hvG _ e.symm; omega)
    replace hqG0 := keepO hg hqG0 (fun e => by have := hvG _ e.symm; omega)
    replace hqG1 := keepO hg hqG1 (fun e => by have := hvG _ e.symm; omega)
    replace hB := below_grownBy hB hB.size hg (fun k e => by have := hvG k e; omega)
    replace hXm := hxm.below hB
    replace hC := below_grownBy hC hC.size hg (fun k e => by have := hvG k e; omega)
    replace hiW := hi0W.below hC
    have hs10 := hg.size
    clear hg
    clear hrG hvG
    obtain ⟨aH, nH, cH, eH, hk⟩ := hm.ints
    injection eH with e1 e2 e3
    subst e1 e2 e3
    clear hm
    have hn0 : (0 : Int) ≤ ((sideM false sm xm).parts.length : Int) := by omega
    go_wp2_with fail
    refine (heldMass_any _ _ _ _ 1 _ (hk.below (by (repeat (first | exact Below.refl _ _ | assumption | refine Below.alloc ?_ (by simp <;> omega) _ | refine Below.setCell ?_ (by simp <;> omega) _ | refine Below.drew ?_ | refine below_drewN ?_)))) hlen (by omega) (by omega)).mono ?_; rintro e w11 ⟨rfl, hb⟩
    have hd := hb
    replace hpm0 := keep hd hpm0
    replace hpm1 := keep hd hpm1
    replace hqW0 := keep hd hqW0
    replace hqW1 := keep hd hqW1
    replace hxm0 := keep hd hxm0
    replace hxm1 := keep hd hxm1
    replace hqG0 := keep hd hqG0
    replace hqG1 := keep hd hqG1
    replace hk := hk.below hd
    replace hB := chain hB hd
    replace hXm := hxm.below hB
    replace hC := chain hC hd
    replace hiW := hi0W.below hC
    have hs11 := hd.size
    clear hb hd
    go_wp2_with fail
    refine (toMass_any sm om _ cm xm _ (hXm.below (by (repeat (first | exact Below.refl _ _ | assumption | refine Below.alloc ?_ (by simp <;> omega) _ | refine Below.setCell ?_ (by simp <;> omega) _ | refine Below.drew ?_ | refine below_drewN ?_)))) hnm).mono ?_; rintro e w12 ⟨v, rfl, hrYm, hb⟩
    obtain ⟨aYm, mYm, dYm, rfl, hiYm⟩ := hrYm.ints
    obtain rfl := hiYm.len
    have hvYm : ∀ b, (Value.slice aYm xm.length dYm).ownBlock = some b → w11.heap.size ≤ b ∧ b < w12.heap.size := fun b e => by have := hrYm.block b e; first | omega | (simp at this; omega)
    have hd := hb
    replace hpm0 := keep hd hpm0
    replace hpm1 := keep hd hpm1
    replace hqW0 := keep hd hqW0
    replace hqW1 := keep hd hqW1
    replace hxm0 := keep hd hxm0
    replace hxm1 := keep hd hxm1
    replace hqG0 := keep hd hqG0
    replace hqG1 := keep hd hqG1
    replace hk := hk.below hd
    replace hB := chain hB hd
    replace hXm := hxm.below hB
    replace hC := chain hC hd
    replace hiW := hi0W.below hC
    have hs12 := hd.size
    clear hb hd
    go_wp2_with fail
    refine (FirstOf_any sm _ _ _ xm _ (hiYm.below (by (repeat (first | exact Below.refl _ _ | assumption | refine Below.alloc ?_ (by simp <;> omega) _ | refine Below.setCell ?_ (by simp <;> omega) _ | refine Below.drew ?_ | refine below_drewN ?_))))).mono ?_; rintro e w13 ⟨⟨v, rfl, hrZ⟩, hb⟩
    obtain ⟨aZ, mZ, dZ, rfl, hiZ⟩ := hrZ.ints
    obtain rfl := hiZ.len
    have hvZ : ∀ b, (Value.slice aZ (sideM false sm xm).parts.length dZ).ownBlock = some b → w12.heap.size ≤ b ∧ b < w13.heap.size := fun b e => by have := hrZ.block b e; first | omega | (simp at this; omega)
    have hd := hb
    replace hpm0 := keep hd hpm0
    replace hpm1 := keep hd hpm1
    replace hqW0 := keep hd hqW0
    replace hqW1 := keep hd hqW1
    replace hxm0 := keep hd hxm0
    replace hxm1 := keep hd hxm1
    replace hqG0 := keep hd hqG0
    replace hqG1 := keep hd hqG1
    replace hrYm := hrYm.below hd
    replace hk := hk.below hd
    replace hiYm := hiYm.below hd
    replace hB := chain hB hd
    replace hXm := hxm.below hB
    replace hC := chain hC hd
    replace hiW := hi0W.below hC
    have hs13 := hd.size
    clear hb hd
    go_wp2_with fail
    refine (eqMass_same _ _ _ _ _ _ _ _ (hiZ.below (by (repeat (first | exact Below.refl _ _ | assumption | refine Below.alloc ?_ (by simp <;> omega) _ | refine Below.setCell ?_ (by simp <;> omega) _ | refine Below.drew ?_ | refine below_drewN ?_)))) (hiW.below (by (repeat (first | exact Below.refl _ _ | assumption | refine Below.alloc ?_ (by simp <;> omega) _ | refine Below.setCell ?_ (by simp <;> omega) _ | refine Below.drew ?_ | refine below_drewN ?_))))).mono ?_; rintro e w14 ⟨rfl, hb⟩
    have hqZ0 := keep hb (a := ⟨w13.heap.size, 0, none⟩) (v := .int .i64 (sideM false sm xm).size) (by simp)
    have hqZ1 := keep hb (a := ⟨w13.heap.size, 1, none⟩) (v := .slice aZ (sideM false sm xm).parts.length dZ) (by simp)
    have hz5 : w13.heap.size < w14.heap.size := by have := World.block_lt_of_cell? w14 _ hqZ0; simpa using this
    have hd : Below w13.heap.size w13 w14 := Below.trans (by (repeat (first | exact Below.refl _ _ | assumption | refine Below.alloc ?_ (by simp <;> omega) _ | refine Below.setCell ?_ (by simp <;> omega) _ | refine Below.drew ?_ | refine below_drewN ?_))) (hb.mono (by simp <;> omega))
    replace hpm0 := keep hd hpm0
    replace hpm1 := keep hd hpm1
    replace hqW0 := keep hd hqW0
    replace hqW1 := keep hd hqW1
    replace hxm0 := keep hd hxm0
    replace hxm1 := keep hd hxm1
    replace hqG0 := keep hd hqG0
    replace hqG1 := keep hd hqG1
    replace hrYm := hrYm.below hd
    replace hrZ := hrZ.below hd
    replace hk := hk.below hd
    replace hiYm := hiYm.below hd
    replace hiZ := hiZ.below hd
    replace hB := chain hB hd
    replace hXm := hxm.below hB
    replace hC := chain hC hd
    replace hiW := hi0W.below hC
    have hs14 := hd.size
    clear hb hd
    go_wp2_with fail
    refine (heldMass_any _ _ _ _ 1 _ (hk.below (by (repeat (first | exact Below.refl _ _ | assumption | refine Below.alloc ?_ (by simp <;> omega) _ | refine Below.setCell ?_ (by simp <;> omega) _ | refine Below.drew ?_ | refine below_drewN ?_)))) hlen (by omega) (by omega)).mono ?_; rintro e w15 ⟨rfl, hb⟩
    have hd := hb
    replace hpm0 := keep hd hpm0
    replace hpm1 := keep hd hpm1
    replace hqW0 := keep hd hqW0
    replace hqW1 := keep hd hqW1
    replace hxm0 := keep hd hxm0
    replace hxm1 := keep hd hxm1
    replace hqG0 := keep hd hqG0
    replace hqG1 := keep hd hqG1
    replace hqZ0 := keep hd hqZ0
    replace hqZ1 := keep hd hqZ1
    replace hrYm := hrYm.below hd
    replace hrZ := hrZ.below hd
    replace hk := hk.below hd
    replace hiYm := hiYm.below hd
    replace hiZ := hiZ.below hd
    replace hB := chain hB hd
    replace hXm := hxm.below hB
    replace hC := chain hC hd
    replace hiW := hi0W.below hC
    have hs15 := hd.size
    clear hb hd
    go_wp2
    go_ret
    exact ⟨rfl, hB⟩
set_option maxHeartbeats 4000000 in
theorem FnExactSecondOf_walk (sm : Int) (om : Option Addr) (nm cm : Nat) (xm : List Int) (w : World) (hxm : IntsAt w om nm xm) :
    Calls Try.prog 4 #[.agg #[.int .i64 sm, .slice om nm cm]] w fun e w' => e = .returned (.bool true) ∧ Below w.heap.size w w' := by
  have hcapm := hxm.cap
  obtain rfl := hxm.len
  by_cases hlem : 1048576 - (xm.length : Int) < 0
  · go_enter Try.func4, Try.ntmps4
    have hB := Below.refl w.heap.size w
    go_wp2_with fail
    refine (szMass_any sm om _ cm (1048576) _ (by omega) (by omega) hcapm).mono ?_; rw [show leaves (1048576) xm.length = -1 from by simp only [leaves]; rw [if_pos (by omega)]]; rintro e w1 ⟨rfl, hb⟩
    have hpm0 := keep hb (a := ⟨w.heap.size, 0, none⟩) (v := .int .i64 sm) (by simp)
    have hpm1 := keep hb (a := ⟨w.heap.size, 1, none⟩) (v := .slice om xm.length cm) (by simp)
    have hz1 : w.heap.size < w1.heap.size := by have := World.block_lt_of_cell? w1 _ hpm0; simpa using this
    have hd : Below w.heap.size w w1 := Below.trans (by (repeat (first | exact Below.refl _ _ | assumption | refine Below.alloc ?_ (by simp <;> omega) _ | refine Below.setCell ?_ (by simp <;> omega) _ | refine Below.drew ?_ | refine below_drewN ?_))) (hb.mono (by simp <;> omega))
    replace hB := chain hB hd
    have hs1 := hd.size
    clear hb hd
    go_wp2
    go_ret
    exact ⟨rfl, hB⟩
  · have hLEm : 0 ≤ 1048576 - (xm.length : Int) := by omega
    have hnm : xm.length ≤ 100000000 := by omega
    have hlen : (sideM true sm xm).parts.length ≤ 100000000 := sideM_len _ _ _
    clear hlem
    go_enter Try.func4, Try.ntmps4
    have hB := Below.refl w.heap.size w
    have hXm := hxm
    go_wp2_with fail
    refine (szMass_any sm om _ cm (1048576) _ (by omega) (by omega) hcapm).mono ?_; rw [show leaves (1048576) xm.length = 1048576 - (xm.length : Int) from by simp only [leaves]; rw [if_neg (by omega)]]; rintro e w1 ⟨rfl, hb⟩
    have hpm0 := keep hb (a := ⟨w.heap.size, 0, none⟩) (v := .int .i64 sm) (by simp)
    have hpm1 := keep hb (a := ⟨w.heap.size, 1, none⟩) (v := .slice om xm.length cm) (by simp)
    have hz1 : w.heap.size < w1.heap.size := by have := World.block_lt_of_cell? w1 _ hpm0; simpa using this
    have hd : Below w.heap.size w w1 := Below.trans (by (repeat (first | exact Below.refl _ _ | assumption | refine Below.alloc ?_ (by simp <;> omega) _ | refine Below.setCell ?_ (by simp <;> omega) _ | refine Below.drew ?_ | refine below_drewN ?_))) (hb.mono (by simp <;> omega))
    replace hB := chain hB hd
    replace hXm := hxm.below hB
    have hs1 := hd.size
    clear hb hd
    go_wp2_with fail
    refine (toMass_any sm om _ cm xm _ (hXm.below (by (repeat (first | exact Below.refl _ _ | assumption | refine Below.alloc ?_ (by simp <;> omega) _ | refine Below.setCell ?_ (by simp <;> omega) _ | refine Below.drew ?_ | refine below_drewN ?_)))) hnm).mono ?_; rintro e w2 ⟨v, rfl, hrSm, hb⟩
    obtain ⟨aSm, mSm, dSm, rfl, hiSm⟩ := hrSm.ints
    obtain rfl := hiSm.len
    have hvSm : ∀ b, (Value.slice aSm xm.length dSm).ownBlock = some b → w1.heap.size ≤ b ∧ b < w2.heap.size := fun b e => by have := hrSm.block b e; first | omega | (simp at this; omega)
    have hd := hb
    replace hpm0 := keep hd hpm0
    replace hpm1 := keep hd hpm1
    replace hB := chain hB hd
    replace hXm := hxm.below hB
    have hs2 := hd.size
    clear hb hd
    go_wp2_with fail
    refine (specSecondOf_any sm _ _ _ xm _ (hiSm.below (by (repeat (first | exact Below.refl _ _ | assumption | refine Below.alloc ?_ (by simp <;> omega) _ | refine Below.setCell ?_ (by simp <;> omega) _ | refine Below.drew ?_ | refine below_drewN ?_))))).mono ?_; rintro e w3 ⟨⟨v, rfl, hrW⟩, hb⟩
    obtain ⟨aW, mW, dW, rfl, hiW⟩ := hrW.ints
    obtain rfl := hiW.len
    have hvW : ∀ b, (Value.slice aW (sideM true sm xm).parts.length dW).ownBlock = some b → w2.heap.size ≤ b ∧ b < w3.heap.size := fun b e => by have := hrW.block b e; first | omega | (simp at this; omega)
    have hd := hb
    replace hpm0 := keep hd hpm0
    replace hpm1 := keep hd hpm1
    replace hrSm := hrSm.below hd
    replace hiSm := hiSm.below hd
    replace hB := chain hB hd
    replace hXm := hxm.below hB
    have hs3 := hd.size
    clear hb hd
    have hi0W := hiW
    have hC := Below.refl w3.heap.size w3
    clear hrW hvW
    clear hiSm hrSm
    clear hvSm
    go_wp2_with fail
    refine (toMass_any sm om _ cm xm _ (hXm.below (by (repeat (first | exact Below.refl _ _ | assumption | refine Below.alloc ?_ (by simp <;> omega) _ | refine Below.setCell ?_ (by simp <;> omega) _ | refine Below.drew ?_ | refine below_drewN ?_)))) hnm).mono ?_; rintro e w4 ⟨v, rfl, hrXm, hb⟩
    obtain ⟨aXm, mXm, dXm, rfl, hiXm⟩ := hrXm.ints
    obtain rfl := hiXm.len
    have hvXm : ∀ b, (Value.slice aXm xm.length dXm).ownBlock = some b → w3.heap.size + 1 ≤ b ∧ b < w4.heap.size := fun b e => by have := hrXm.block b e; first | omega | (simp at this; omega)
    have hqW0 := keep hb (a := ⟨w3.heap.size, 0, none⟩) (v := .int .i64 (sideM true sm xm).size) (by simp)
    have hqW1 := keep hb (a := ⟨w3.heap.size, 1, none⟩) (v := .slice aW (sideM true sm xm).parts.length dW) (by simp)
    have hz2 : w3.heap.size < w4.heap.size := by have := World.block_lt_of_cell? w4 _ hqW0; simpa using this
    have hd : Below w3.heap.size w3 w4 := Below.trans (by (repeat (first | exact Below.refl _ _ | assumption | refine Below.alloc ?_ (by simp <;> omega) _ | refine Below.setCell ?_ (by simp <;> omega) _ | refine Below.drew ?_ | refine below_drewN ?_))) (hb.mono (by simp <;> omega))
    replace hpm0 := keep hd hpm0
    replace hpm1 := keep hd hpm1
    replace hB := chain hB hd
    replace hXm := hxm.below hB
    replace hC := chain hC hd
    replace hiW := hi0W.below hC
    have hs4 := hd.size
    clear hb hd
    go_wp2_with fail
    refine (SecondOf_any sm _ _ _ xm _ (hiXm.below (by (repeat (first | exact Below.refl _ _ | assumption | refine Below.alloc ?_ (by simp <;> omega) _ | refine Below.setCell ?_ (by simp <;> omega) _ | refine Below.drew ?_ | refine below_drewN ?_))))).mono ?_; rintro e w5 ⟨⟨v, rfl, hrG⟩, hb⟩
    obtain ⟨aG, mG, dG, rfl, hiG⟩ := hrG.ints
    obtain rfl := hiG.len
    have hvG : ∀ b, (Value.slice aG (sideM true sm xm).parts.length dG).ownBlock = some b → w4.heap.size + 1 ≤ b ∧ b < w5.heap.size := fun b e => by have := hrG.block b e; first | omega | (simp at this; omega)
    have hxm0 := keep hb (a := ⟨w4.heap.size, 0, none⟩) (v := .int .i64 sm) (by simp)
    have hxm1 := keep hb (a := ⟨w4.heap.size, 1, none⟩) (v := .slice aXm xm.length dXm) (by simp)
    have hz3 : w4.heap.size < w5.heap.size := by have := World.block_lt_of_cell? w5 _ hxm0; simpa using this
    have hd : Below w4.heap.size w4 w5 := Below.trans (by (repeat (first | exact Below.refl _ _ | assumption | refine Below.alloc ?_ (by simp <;> omega) _ | refine Below.setCell ?_ (by simp <;> omega) _ | refine Below.drew ?_ | refine below_drewN ?_))) (hb.mono (by simp <;> omega))
    replace hpm0 := keep hd hpm0
    replace hpm1 := keep hd hpm1
    replace hqW0 := keep hd hqW0
    replace hqW1 := keep hd hqW1
    replace hrXm := hrXm.below hd
    replace hiXm := hiXm.below hd
    replace hB := chain hB hd
    replace hXm := hxm.below hB
    replace hC := chain hC hd
    replace hiW := hi0W.below hC
    have hs5 := hd.size
    clear hb hd
    go_wp2_with fail
    refine (eqMass_same _ _ _ _ _ _ _ _ (hiG.below (by (repeat (first | exact Below.refl _ _ | assumption | refine Below.alloc ?_ (by simp <;> omega) _ | refine Below.setCell ?_ (by simp <;> omega) _ | refine Below.drew ?_ | refine below_drewN ?_)))) (hiW.below (by (repeat (first | exact Below.refl _ _ | assumption | refine Below.alloc ?_ (by simp <;> omega) _ | refine Below.setCell ?_ (by simp <;> omega) _ | refine Below.drew ?_ | refine below_drewN ?_))))).mono ?_; rintro e w6 ⟨rfl, hb⟩
    have hqG0 := keep hb (a := ⟨w5.heap.size, 0, none⟩) (v := .int .i64 (sideM true sm xm).size) (by simp)
    have hqG1 := keep hb (a := ⟨w5.heap.size, 1, none⟩) (v := .slice aG (sideM true sm xm).parts.length dG) (by simp)
    have hz4 : w5.heap.size < w6.heap.size := by have := World.block_lt_of_cell? w6 _ hqG0; simpa using this
    have hd : Below w5.heap.size w5 w6 := Below.trans (by (repeat (first | exact Below.refl _ _ | assumption | refine Below.alloc ?_ (by simp <;> omega) _ | refine Below.setCell ?_ (by simp <;> omega) _ | refine Below.drew ?_ | refine below_drewN ?_))) (hb.mono (by simp <;> omega))
    replace hpm0 := keep hd hpm0
    replace hpm1 := keep hd hpm1
    replace hqW0 := keep hd hqW0
    replace hqW1 := keep hd hqW1
    replace hxm0 := keep hd hxm0
    replace hxm1 := keep hd hxm1
    replace hrXm := hrXm.below hd
    replace hrG := hrG.below hd
    replace hiXm := hiXm.below hd
    replace hiG := hiG.below hd
    replace hB := chain hB hd
    replace hXm := hxm.below hB
    replace hC := chain hC hd
    replace hiW := hi0W.below hC
    have hs6 := hd.size
    clear hb hd
    go_wp2_with fail
    refine wp_region_join 41 42 43 44 45 (.agg #[.int .i64 sm, .slice aXm xm.length dXm]) (.agg #[.int .i64 sm, .slice om xm.length cm]) ?_ ?_
    · go_region_with (first | (go_at_call 17; refine (toMass_any sm om _ cm xm _ (hXm.below (drew_below _)) hnm).mono ?_; rintro e wa ⟨v, rfl, hrE, hba⟩; obtain ⟨aE, mE, dE, rfl, hiE⟩ := hrE.ints; obtain rfl := hiE.len; have hda := chain (drew_below _) hba; have hxm0 := keep hda hxm0; have hxm1 := keep hda hxm1) | (go_at_call 19; refine (eqMass_same _ _ _ _ _ _ _ _ (hiXm.below hda) hiE).mono ?_; rintro e wb ⟨rfl, hbb⟩))
      all_goals exact ⟨_, rfl, chain hda hbb⟩
    intro vE w7 hb
    have hd := hb
    replace hpm0 := keep hd hpm0
    replace hpm1 := keep hd hpm1
    replace hqW0 := keep hd hqW0
    replace hqW1 := keep hd hqW1
    replace hxm0 := keep hd hxm0
    replace hxm1 := keep hd hxm1
    replace hqG0 := keep hd hqG0
    replace hqG1 := keep hd hqG1
    replace hrXm := hrXm.below hd
    replace hrG := hrG.below hd
    replace hiXm := hiXm.below hd
    replace hiG := hiG.below hd
    replace hB := chain hB hd
    replace hXm := hxm.below hB
    replace hC := chain hC hd
    replace hiW := hi0W.below hC
    have hs7 := hd.size
    clear hb hd
    clear hiXm
    go_wp2_with fail
    refine (markMass_any _ _ _ _ (1) _ _ (hrXm) rfl hnm (by omega) (by omega)).mono ?_; rintro e w8 ⟨rfl, hm, hg⟩
    clear hm
    clear hiG
    replace hpm0 := keepO hg hpm0 (fun e => by have := hvXm _ e.symm; omega)
    replace hpm1 := keepO hg hpm1 (fun e => by have := hvXm _ e.symm; omega)
    replace hqW0 := keepO hg hqW0 (fun e => by have := hvXm _ e.symm; omega)
    replace hqW1 := keepO hg hqW1 (fun e => by have := hvXm _ e.symm; omega)
    replace hxm0 := keepO hg hxm0 (fun e => by have := hvXm _ e.symm; omega)
    replace hxm1 := keepO hg hxm1 (fun e => by have := hvXm _ e.symm; omega)
    replace hqG0 := keepO hg hqG0 (fun e => by have := hvXm _ e.symm; omega)
    replace hqG1 := keepO hg hqG1 (fun e => by have := hvXm _ e.symm; omega)
    replace hrG := Row.apart hrG hg (fun b e b2 e2 => by have := hvG b e; have := hvXm b2 e2; omega)
    replace hB := below_grownBy hB hB.size hg (fun k e => by have := hvXm k e; omega)
    replace hXm := hxm.below hB
    replace hC := below_grownBy hC hC.size hg (fun k e => by have := hvXm k e; omega)
    replace hiW := hi0W.below hC
    have hs8 := hg.size
    clear hg
    clear hrXm hvXm
    have hnnm : (0 : Int) ≤ (xm.length : Int) := by omega
    obtain ⟨aH, nH, cH, eH, hiG⟩ := hrG.ints
    injection eH with e1 e2 e3
    subst e1 e2 e3
    go_wp2_with fail
    refine (eqMass_same _ _ _ _ _ _ _ _ (hiG.below (by (repeat (first | exact Below.refl _ _ | assumption | refine Below.alloc ?_ (by simp <;> omega) _ | refine Below.setCell ?_ (by simp <;> omega) _ | refine Below.drew ?_ | refine below_drewN ?_)))) (hiW.below (by (repeat (first | exact Below.refl _ _ | assumption | refine Below.alloc ?_ (by simp <;> omega) _ | refine Below.setCell ?_ (by simp <;> omega) _ | refine Below.drew ?_ | refine below_drewN ?_))))).mono ?_; rintro e w9 ⟨rfl, hb⟩
    have hd := hb
    replace hpm0 := keep hd hpm0
    replace hpm1 := keep hd hpm1
    replace hqW0 := keep hd hqW0
    replace hqW1 := keep hd hqW1
    replace hxm0 := keep hd hxm0
    replace hxm1 := keep hd hxm1
    replace hqG0 := keep hd hqG0
    replace hqG1 := keep hd hqG1
    replace hrG := hrG.below hd
    replace hiG := hiG.below hd
    replace hB := chain hB hd
    replace hXm := hxm.below hB
    replace hC := chain hC hd
    replace hiW := hi0W.below hC
    have hs9 := hd.size
    clear hb hd
    clear hiG
    go_wp2_with fail
    refine (markMass_any _ _ _ _ 1 _ _ hrG rfl hlen (by omega) (by omega)).mono ?_; rintro e w10 ⟨rfl, hm, hg⟩
    replace hpm0 := keepO hg hpm0 (fun e => by have := hvG _ e.symm; omega)
    replace hpm1 := keepO hg hpm1 (fun e => by have := hvG _ e.symm; omega)
    replace hqW0 := keepO hg hqW0 (fun e => by have := hvG _ e.symm; omega)
    replace hqW1 := keepO hg hqW1 (fun e => by have := hvG _ e.symm; omega)
    replace hxm0 := keepO hg hxm0 (fun e => by have := hvG _ e.symm; omega)
    replace hxm1 := keepO hg hxm1 (fun e => by have := hvG _ e.symm; omega)
    replace hqG0 := keepO hg hqG0 (fun e => by have := hvG _ e.symm; omega)
    replace hqG1 := keepO hg hqG1 (fun e => by have := hvG _ e.symm; omega)
    replace hB := below_grownBy hB hB.size hg (fun k e => by have := hvG k e; omega)
    replace hXm := hxm.below hB
    replace hC := below_grownBy hC hC.size hg (fun k e => by have := hvG k e; omega)
    replace hiW := hi0W.below hC
    have hs10 := hg.size
    clear hg
    clear hrG hvG
    obtain ⟨aH, nH, cH, eH, hk⟩ := hm.ints
    injection eH with e1 e2 e3
    subst e1 e2 e3
    clear hm
    have hn0 : (0 : Int) ≤ ((sideM true sm xm).parts.length : Int) := by omega
    go_wp2_with fail
    refine (heldMass_any _ _ _ _ 1 _ (hk.below (by (repeat (first | exact Below.refl _ _ | assumption | refine Below.alloc ?_ (by simp <;> omega) _ | refine Below.setCell ?_ (by simp <;> omega) _ | refine Below.drew ?_ | refine below_drewN ?_)))) hlen (by omega) (by omega)).mono ?_; rintro e w11 ⟨rfl, hb⟩
    have hd := hb
    replace hpm0 := keep hd hpm0
    replace hpm1 := keep hd hpm1
    replace hqW0 := keep hd hqW0
    replace hqW1 := keep hd hqW1
    replace hxm0 := keep hd hxm0
    replace hxm1 := keep hd hxm1
    replace hqG0 := keep hd hqG0
    replace hqG1 := keep hd hqG1
    replace hk := hk.below hd
    replace hB := chain hB hd
    replace hXm := hxm.below hB
    replace hC := chain hC hd
    replace hiW := hi0W.below hC
    have hs11 := hd.size
    clear hb hd
    go_wp2_with fail
    refine (toMass_any sm om _ cm xm _ (hXm.below (by (repeat (first | exact Below.refl _ _ | assumption | refine Below.alloc ?_ (by simp <;> omega) _ | refine Below.setCell ?_ (by simp <;> omega) _ | refine Below.drew ?_ | refine below_drewN ?_)))) hnm).mono ?_; rintro e w12 ⟨v, rfl, hrYm, hb⟩
    obtain ⟨aYm, mYm, dYm, rfl, hiYm⟩ := hrYm.ints
    obtain rfl := hiYm.len
    have hvYm : ∀ b, (Value.slice aYm xm.length dYm).ownBlock = some b → w11.heap.size ≤ b ∧ b < w12.heap.size := fun b e => by have := hrYm.block b e; first | omega | (simp at this; omega)
    have hd := hb
    replace hpm0 := keep hd hpm0
    replace hpm1 := keep hd hpm1
    replace hqW0 := keep hd hqW0
    replace hqW1 := keep hd hqW1
    replace hxm0 := keep hd hxm0
    replace hxm1 := keep hd hxm1
    replace hqG0 := keep hd hqG0
    replace hqG1 := keep hd hqG1
    replace hk := hk.below hd
    replace hB := chain hB hd
    replace hXm := hxm.below hB
    replace hC := chain hC hd
    replace hiW := hi0W.below hC
    have hs12 := hd.size
    clear hb hd
    go_wp2_with fail
    refine (SecondOf_any sm _ _ _ xm _ (hiYm.below (by (repeat (first | exact Below.refl _ _ | assumption | refine Below.alloc ?_ (by simp <;> omega) _ | refine Below.setCell ?_ (by simp <;> omega) _ | refine Below.drew ?_ | refine below_drewN ?_))))).mono ?_; rintro e w13 ⟨⟨v, rfl, hrZ⟩, hb⟩
    obtain ⟨aZ, mZ, dZ, rfl, hiZ⟩ := hrZ.ints
    obtain rfl := hiZ.len
    have hvZ : ∀ b, (Value.slice aZ (sideM true sm xm).parts.length dZ).ownBlock = some b → w12.heap.size ≤ b ∧ b < w13.heap.size := fun b e => by have := hrZ.block b e; first | omega | (simp at this; omega)
    have hd := hb
    replace hpm0 := keep hd hpm0
    replace hpm1 := keep hd hpm1
    replace hqW0 := keep hd hqW0
    replace hqW1 := keep hd hqW1
    replace hxm0 := keep hd hxm0
    replace hxm1 := keep hd hxm1
    replace hqG0 := keep hd hqG0
    replace hqG1 := keep hd hqG1
    replace hrYm := hrYm.below hd
    replace hk := hk.below hd
    replace hiYm := hiYm.below hd
    replace hB := chain hB hd
    replace hXm := hxm.below hB
    replace hC := chain hC hd
    replace hiW := hi0W.below hC
    have hs13 := hd.size
    clear hb hd
    go_wp2_with fail
    refine (eqMass_same _ _ _ _ _ _ _ _ (hiZ.below (by (repeat (first | exact Below.refl _ _ | assumption | refine Below.alloc ?_ (by simp <;> omega) _ | refine Below.setCell ?_ (by simp <;> omega) _ | refine Below.drew ?_ | refine below_drewN ?_)))) (hiW.below (by (repeat (first | exact Below.refl _ _ | assumption | refine Below.alloc ?_ (by simp <;> omega) _ | refine Below.setCell ?_ (by simp <;> omega) _ | refine Below.drew ?_ | refine below_drewN ?_))))).mono ?_; rintro e w14 ⟨rfl, hb⟩
    have hqZ0 := keep hb (a := ⟨w13.heap.size, 0, none⟩) (v := .int .i64 (sideM true sm xm).size) (by simp)
    have hqZ1 := keep hb (a := ⟨w13.heap.size, 1, none⟩) (v := .slice aZ (sideM true sm xm).parts.length dZ) (by simp)
    have hz5 : w13.heap.size < w14.heap.size := by have := World.block_lt_of_cell? w14 _ hqZ0; simpa using this
    have hd : Below w13.heap.size w13 w14 := Below.trans (by (repeat (first | exact Below.refl _ _ | assumption | refine Below.alloc ?_ (by simp <;> omega) _ | refine Below.setCell ?_ (by simp <;> omega) _ | refine Below.drew ?_ | refine below_drewN ?_))) (hb.mono (by simp <;> omega))
    replace hpm0 := keep hd hpm0
    replace hpm1 := keep hd hpm1
    replace hqW0 := keep hd hqW0
    replace hqW1 := keep hd hqW1
    replace hxm0 := keep hd hxm0
    replace hxm1 := keep hd hxm1
    replace hqG0 := keep hd hqG0
    replace hqG1 := keep hd hqG1
    replace hrYm := hrYm.below hd
    replace hrZ := hrZ.below hd
    replace hk := hk.below hd
    replace hiYm := hiYm.below hd
    replace hiZ := hiZ.below hd
    replace hB := chain hB hd
    replace hXm := hxm.below hB
    replace hC := chain hC hd
    replace hiW := hi0W.below hC
    have hs14 := hd.size
    clear hb hd
    go_wp2_with fail
    refine (heldMass_any _ _ _ _ 1 _ (hk.below (by (repeat (first | exact Below.refl _ _ | assumption | refine Below.alloc ?_ (by simp <;> omega) _ | refine Below.setCell ?_ (by simp <;> omega) _ | refine Below.drew ?_ | refine below_drewN ?_)))) hlen (by omega) (by omega)).mono ?_; rintro e w15 ⟨rfl, hb⟩
    have hd := hb
    replace hpm0 := keep hd hpm0
    replace hpm1 := keep hd hpm1
    replace hqW0 := keep hd hqW0
    replace hqW1 := keep hd hqW1
    replace hxm0 := keep hd hxm0
    replace hxm1 := keep hd hxm1
    replace hqG0 := keep hd hqG0
    replace hqG1 := keep hd hqG1
    replace hqZ0 := keep hd hqZ0
    replace hqZ1 := keep hd hqZ1
    replace hrYm := hrYm.below hd
    replace hrZ := hrZ.below hd
    replace hk := hk.below hd
    replace hiYm := hiYm.below hd
    replace hiZ := hiZ.below hd
    replace hB := chain hB hd
    replace hXm := hxm.below hB
    replace hC := chain hC hd
    replace hiW := hi0W.below hC
    have hs15 := hd.size
    clear hb hd
    go_wp2
    go_ret
    exact ⟨rfl, hB⟩
end Go.Proofs.Ytmmlfjohknfbmaa
