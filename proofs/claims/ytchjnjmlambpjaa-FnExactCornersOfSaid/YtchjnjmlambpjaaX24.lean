/- The law that the program's CornersOf is the reference's: its walk (printed by lawgen.py). -/
import Derived.Test.YtchjnjmlambpjaaX1
import Derived.Test.YtchjnjmlambpjaaC6
import Derived.Test.YtchjnjmlambpjaaL7
import Derived.Test.YtchjnjmlambpjaaLK
set_option linter.unusedSimpArgs false
set_option linter.unusedVariables false
namespace Go.Proofs.Ytchjnjmlambpjaa
open Go.RowKit
set_option maxHeartbeats 4000000 in
theorem FnExactCornersOf_walk (sm : Int) (om : Option Addr) (nm cm : Nat) (xm : List Int) (w : World) (hxm : IntsAt w om nm xm) :
    Calls Try.prog 3 #[.agg #[.int .i64 sm, .slice om nm cm]] w fun e w' => e = .returned (.bool true) ∧ Below w.heap.size w w' := by
  have hcapm := hxm.cap
  obtain rfl := hxm.len
  by_cases hlem : 1048576 - (xm.length : Int) < 0
  · go_enter Try.func3, Try.ntmps3
    have hB := Below.refl w.heap.size w
    go_wp2_with fail
    refine (szMass_any sm om _ cm (1048576) _ (by omega) (by omega) hcapm).mono ?_; rw [show leaves (1048576) xm.length = -1 from by simp only [leaves]; rw [if_pos (by omega)]]; rintro e w1 ⟨rfl, hb⟩
    have hpm0 := keep hb (a := ⟨w.heap.size, 0, none⟩) (v := .int .i64 sm) (by simp)
    have hpm1 := keep hb (a := ⟨w.heap.size, 1, none⟩) (v := .slice om xm.length cm) (by simp)
    have hz1 : w.heap.size < w1.heap.size := by have := World.block_lt_of_cell? w1 _ hpm0; simpa using this
    have hd : Below w.heap.size w w1 := Below.trans (by (repeat (first | exact Below.refl _ _ | assumption | refine Below.alloc ?_ (by simp <;> omega) _ | refine Below.setCell ?_ (by simp <;> omega) _ | refine Below.drew ?_ | refine below_drewN ?_))) (hb.mono (by simp <;> omega))
    replace hB := chain hB hd
    have hs1 := hd.size
    clear hb hd
    go_wp2
    go_ret
    exact ⟨rfl, hB⟩
  · have hLEm : 0 ≤ 1048576 - (xm.length : Int) := by omega
    have hnm : xm.length ≤ 100000000 := by omega
    have hlen : (cornersL sm xm).length ≤ 1000 := Nat.le_trans (corners_len _ _) (by decide)
    have hlenP : ∀ k, k < (cornersL sm xm).length → (nthL (cornersL sm xm) k).length ≤ 1000 := corners_parts_len _ _
    clear hlem
    go_enter Try.func3, Try.ntmps3
    have hB := Below.refl w.heap.size w
    have hXm := hxm
    go_wp2_with fail
    refine (szMass_any sm om _ cm (1048576) _ (by omega) (by omega) hcapm).mono ?_; rw [show leaves (1048576) xm.length = 1048576 - (xm.length : Int) from by simp only [leaves]; rw [if_neg (by omega)]]; rintro e w1 ⟨rfl, hb⟩
    have hpm0 := keep hb (a := ⟨w.heap.size, 0, none⟩) (v := .int .i64 sm) (by simp)
    have hpm1 := keep hb (a := ⟨w.heap.size, 1, none⟩) (v := .slice om xm.length cm) (by simp)
    have hz1 : w.heap.size < w1.heap.size := by have := World.block_lt_of_cell? w1 _ hpm0; simpa using this
    have hd : Below w.heap.size w w1 := Below.trans (by (repeat (first | exact Below.refl _ _ | assumption | refine Below.alloc ?_ (by simp <;> omega) _ | refine Below.setCell ?_ (by simp <;> omega) _ | refine Below.drew ?_ | refine below_drewN ?_))) (hb.mono (by simp <;> omega))
    replace hB := chain hB hd
    replace hXm := hxm.below hB
    have hs1 := hd.size
    clear hb hd
    go_wp2_with fail
    refine (toMass_any sm om _ cm xm _ (hXm.below (by (repeat (first | exact Below.refl _ _ | assumption | refine Below.alloc ?_ (by simp <;> omega) _ | refine Below.setCell ?_ (by simp <;> omega) _ | refine Below.drew ?_ | refine below_drewN ?_)))) hnm).mono ?_; rintro e w2 ⟨v, rfl, hrSm, hb⟩
    obtain ⟨aSm, mSm, dSm, rfl, hiSm⟩ := hrSm.ints
    obtain rfl := hiSm.len
    have hvSm : ∀ b, (Value.slice aSm xm.length dSm).ownBlock = some b → w1.heap.size ≤ b ∧ b < w2.heap.size := fun b e => by have := hrSm.block b e; first | omega | (simp at this; omega)
    have hd := hb
    replace hpm0 := keep hd hpm0
    replace hpm1 := keep hd hpm1
    replace hB := chain hB hd
    replace hXm := hxm.below hB
    have hs2 := hd.size
    clear hb hd
    go_wp2_with fail
    refine (CornersOf_any sm _ _ _ xm _ (hiSm.below (by (repeat (first | exact Below.refl _ _ | assumption | refine Below.alloc ?_ (by simp <;> omega) _ | refine Below.setCell ?_ (by simp <;> omega) _ | refine Below.drew ?_ | refine below_drewN ?_))))).mono ?_; rintro e w3 ⟨⟨v, rfl, hrW⟩, hb⟩
    obtain ⟨aW, dW, he, hiW⟩ := hrW.form
    subst he
    replace hrW := MassesO.mono (base' := w2.heap.size) hrW (by first | exact Nat.le_refl _ | (simp; done))
    have hvW : ∀ b, (Value.slice aW (cornersL sm xm).length dW).ownBlock = some b → w2.heap.size ≤ b ∧ b < w3.heap.size := fun b e => by have := hrW.block b e; first | omega | (simp at this; omega)
    have hd := hb
    replace hpm0 := keep hd hpm0
    replace hpm1 := keep hd hpm1
    replace hrSm := hrSm.below hd
    replace hiSm := hiSm.below hd
    replace hB := chain hB hd
    replace hXm := hxm.below hB
    have hs3 := hd.size
    clear hb hd
    have hi0W := hiW
    have hC := Below.refl w3.heap.size w3
    clear hrW hvW
    clear hiSm hrSm
    clear hvSm
    go_wp2_with fail
    refine (toMass_any sm om _ cm xm _ (hXm.below (by (repeat (first | exact Below.refl _ _ | assumption | refine Below.alloc ?_ (by simp <;> omega) _ | refine Below.setCell ?_ (by simp <;> omega) _ | refine Below.drew ?_ | refine below_drewN ?_)))) hnm).mono ?_; rintro e w4 ⟨v, rfl, hrXm, hb⟩
    obtain ⟨aXm, mXm, dXm, rfl, hiXm⟩ := hrXm.ints
    obtain rfl := hiXm.len
    have hvXm : ∀ b, (Value.slice aXm xm.length dXm).ownBlock = some b → w3.heap.size ≤ b ∧ b < w4.heap.size := fun b e => by have := hrXm.block b e; first | omega | (simp at this; omega)
    have hd := hb
    replace hpm0 := keep hd hpm0
    replace hpm1 := keep hd hpm1
    replace hB := chain hB hd
    replace hXm := hxm.below hB
    replace hC := chain hC hd
    replace hiW := hi0W.below hC
    have hs4 := hd.size
    clear hb hd
    go_wp2_with fail
    refine (iCornersOf_any sm _ _ _ xm _ (hiXm.below (by (repeat (first | exact Below.refl _ _ | assumption | refine Below.alloc ?_ (by simp <;> omega) _ | refine Below.setCell ?_ (by simp <;> omega) _ | refine Below.drew ?_ | refine below_drewN ?_))))).mono ?_; rintro e w5 ⟨⟨v, rfl, hrG⟩, hb⟩
    obtain ⟨aG, dG, he, hiG⟩ := hrG.form
    subst he
    replace hrG := MassesO.mono (base' := w4.heap.size + 1) hrG (by first | exact Nat.le_refl _ | (simp; done))
    have hvG : ∀ b, (Value.slice aG (cornersL sm xm).length dG).ownBlock = some b → w4.heap.size + 1 ≤ b ∧ b < w5.heap.size := fun b e => by have := hrG.block b e; first | omega | (simp at this; omega)
    have hxm0 := keep hb (a := ⟨w4.heap.size, 0, none⟩) (v := .int .i64 sm) (by simp)
    have hxm1 := keep hb (a := ⟨w4.heap.size, 1, none⟩) (v := .slice aXm xm.length dXm) (by simp)
    have hz2 : w4.heap.size < w5.heap.size := by have := World.block_lt_of_cell? w5 _ hxm0; simpa using this
    have hd : Below w4.heap.size w4 w5 := Below.trans (by (repeat (first | exact Below.refl _ _ | assumption | refine Below.alloc ?_ (by simp <;> omega) _ | refine Below.setCell ?_ (by simp <;> omega) _ | refine Below.drew ?_ | refine below_drewN ?_))) (hb.mono (by simp <;> omega))
    replace hpm0 := keep hd hpm0
    replace hpm1 := keep hd hpm1
    replace hrXm := hrXm.below hd
    replace hiXm := hiXm.below hd
    replace hB := chain hB hd
    replace hXm := hxm.below hB
    replace hC := chain hC hd
    replace hiW := hi0W.below hC
    have hs5 := hd.size
    clear hb hd
    go_wp2_with fail
    refine (eqMassS_same _ _ _ _ _ _ _ _ (hiG.below (by (repeat (first | exact Below.refl _ _ | assumption | refine Below.alloc ?_ (by simp <;> omega) _ | refine Below.setCell ?_ (by simp <;> omega) _ | refine Below.drew ?_ | refine below_drewN ?_)))) (hiW.below (by (repeat (first | exact Below.refl _ _ | assumption | refine Below.alloc ?_ (by simp <;> omega) _ | refine Below.setCell ?_ (by simp <;> omega) _ | refine Below.drew ?_ | refine below_drewN ?_))))).mono ?_; rintro e w6 ⟨rfl, hb⟩
    have hd := hb
    replace hpm0 := keep hd hpm0
    replace hpm1 := keep hd hpm1
    replace hxm0 := keep hd hxm0
    replace hxm1 := keep hd hxm1
    replace hrXm := hrXm.below hd
    replace hrG := hrG.below hd
    replace hiXm := hiXm.below hd
    replace hiG := hiG.below hd
    replace hB := chain hB hd
    replace hXm := hxm.below hB
    replace hC := chain hC hd
    replace hiW := hi0W.below hC
    have hs6 := hd.size
    clear hb hd
    go_wp2_with fail
    refine wp_region_join 27 28 29 30 31 (.agg #[.int .i64 sm, .slice aXm xm.length dXm]) (.agg #[.int .i64 sm, .slice om xm.length cm]) ?_ ?_
    · go_region_with (first | (go_at_call 14; refine (toMass_any sm om _ cm xm _ (hXm.below (drew_below _)) hnm).mono ?_; rintro e wa ⟨v, rfl, hrE, hba⟩; obtain ⟨aE, mE, dE, rfl, hiE⟩ := hrE.ints; obtain rfl := hiE.len; have hda := chain (drew_below _) hba; have hxm0 := keep hda hxm0; have hxm1 := keep hda hxm1) | (go_at_call 17; refine (eqMass_same _ _ _ _ _ _ _ _ (hiXm.below hda) hiE).mono ?_; rintro e wb ⟨rfl, hbb⟩))
      all_goals exact ⟨_, rfl, chain hda hbb⟩
    intro vE w7 hb
    have hd := hb
    replace hpm0 := keep hd hpm0
    replace hpm1 := keep hd hpm1
    replace hxm0 := keep hd hxm0
    replace hxm1 := keep hd hxm1
    replace hrXm := hrXm.below hd
    replace hrG := hrG.below hd
    replace hiXm := hiXm.below hd
    replace hiG := hiG.below hd
    replace hB := chain hB hd
    replace hXm := hxm.below hB
    replace hC := chain hC hd
    replace hiW := hi0W.below hC
    have hs7 := hd.size
    clear hb hd
    clear hiG
    clear hiXm
    go_wp2_with fail
    refine (markMass_any _ _ _ _ (1) _ _ (hrXm) rfl hnm (by omega) (by omega)).mono ?_; rintro e w8 ⟨rfl, hm, hg⟩
    clear hm
    replace hpm0 := keepO hg hpm0 (fun e => by have := hvXm _ e.symm; omega)
    replace hpm1 := keepO hg hpm1 (fun e => by have := hvXm _ e.symm; omega)
    replace hxm0 := keepO hg hxm0 (fun e => by have := hvXm _ e.symm; omega)
    replace hxm1 := keepO hg hxm1 (fun e => by have := hvXm _ e.symm; omega)
    replace hrG := MassesO.grown hrG hg (fun b e => by have := hvXm b e; omega)
    replace hB := below_grownBy hB hB.size hg (fun k e => by have := hvXm k e; omega)
    replace hXm := hxm.below hB
    replace hC := below_grownBy hC hC.size hg (fun k e => by have := hvXm k e; omega)
    replace hiW := hi0W.below hC
    have hs8 := hg.size
    clear hg
    clear hrXm hvXm
    have hnnm : (0 : Int) ≤ (xm.length : Int) := by omega
    obtain ⟨aH, cH, eH, hiG⟩ := hrG.form
    injection eH with e1 e2 e3
    subst e1 e3
    clear e2
    go_wp2_with fail
    refine (eqMassS_same _ _ _ _ _ _ _ _ (hiG.below (by (repeat (first | exact Below.refl _ _ | assumption | refine Below.alloc ?_ (by simp <;> omega) _ | refine Below.setCell ?_ (by simp <;> omega) _ | refine Below.drew ?_ | refine below_drewN ?_)))) (hiW.below (by (repeat (first | exact Below.refl _ _ | assumption | refine Below.alloc ?_ (by simp <;> omega) _ | refine Below.setCell ?_ (by simp <;> omega) _ | refine Below.drew ?_ | refine below_drewN ?_))))).mono ?_; rintro e w9 ⟨rfl, hb⟩
    have hd := hb
    replace hpm0 := keep hd hpm0
    replace hpm1 := keep hd hpm1
    replace hxm0 := keep hd hxm0
    replace hxm1 := keep hd hxm1
    replace hrG := hrG.below hd
    replace hiG := hiG.below hd
    replace hB := chain hB hd
    replace hXm := hxm.below hB
    replace hC := chain hC hd
    replace hiW := hi0W.below hC
    have hs9 := hd.size
    clear hb hd
    clear hiG
    go_wp2_with fail
    refine (markMassS_any _ _ _ 1 _ _ _ hrG hlen hlenP (by omega) (by omega)).mono ?_; rintro e w10 ⟨rfl, hm, hs⟩
    replace hpm0 := Span.keep hs hpm0 (by omega)
    replace hpm1 := Span.keep hs hpm1 (by omega)
    replace hxm0 := Span.keep hs hxm0 (by omega)
    replace hxm1 := Span.keep hs hxm1 (by omega)
    replace hB := Span.below hB hB.size hs (by omega)
    replace hXm := hxm.below hB
    replace hC := Span.below hC hC.size hs (by omega)
    replace hiW := hi0W.below hC
    have hs10 := hs.size
    clear hs
    clear hrG hvG
    obtain ⟨aH, cH, eH, hk⟩ := hm.form
    injection eH with e1 e2 e3
    subst e1 e3
    clear e2
    clear hm
    have hn0 : (1 : Int) ≤ mq 1 (nthL (cornersL sm xm)) (cornersL sm xm).length := (mq_bd 1 _ _ hlenP _ (Nat.le_refl _)).1
    go_wp2_with fail
    refine (heldMassS_any _ _ _ 1 _ _ (hk.below (by (repeat (first | exact Below.refl _ _ | assumption | refine Below.alloc ?_ (by simp <;> omega) _ | refine Below.setCell ?_ (by simp <;> omega) _ | refine Below.drew ?_ | refine below_drewN ?_)))) hlen hlenP (by omega) (by omega)).mono ?_; rintro e w11 ⟨rfl, hw⟩
    have hb : Below w10.heap.size w10 w11 := hw ▸ Below.refl _ _
    clear hw
    have hd := hb
    replace hpm0 := keep hd hpm0
    replace hpm1 := keep hd hpm1
    replace hxm0 := keep hd hxm0
    replace hxm1 := keep hd hxm1
    replace hk := hk.below hd
    replace hB := chain hB hd
    replace hXm := hxm.below hB
    replace hC := chain hC hd
    replace hiW := hi0W.below hC
    have hs11 := hd.size
    clear hb hd
    go_wp2_with fail
    refine (toMass_any sm om _ cm xm _ (hXm.below (by (repeat (first | exact Below.refl _ _ | assumption | refine Below.alloc ?_ (by simp <;> omega) _ | refine Below.setCell ?_ (by simp <;> omega) _ | refine Below.drew ?_ | refine below_drewN ?_)))) hnm).mono ?_; rintro e w12 ⟨v, rfl, hrYm, hb⟩
    obtain ⟨aYm, mYm, dYm, rfl, hiYm⟩ := hrYm.ints
    obtain rfl := hiYm.len
    have hvYm : ∀ b, (Value.slice aYm xm.length dYm).ownBlock = some b → w11.heap.size ≤ b ∧ b < w12.heap.size := fun b e => by have := hrYm.block b e; first | omega | (simp at this; omega)
    have hd := hb
    replace hpm0 := keep hd hpm0
    replace hpm1 := keep hd hpm1
    replace hxm0 := keep hd hxm0
    replace hxm1 := keep hd hxm1
    replace hk := hk.below hd
    replace hB := chain hB hd
    replace hXm := hxm.below hB
    replace hC := chain hC hd
    replace hiW := hi0W.below hC
    have hs12 := hd.size
    clear hb hd
    go_wp2_with fail
    refine (iCornersOf_any sm _ _ _ xm _ (hiYm.below (by (repeat (first | exact Below.refl _ _ | assumption | refine Below.alloc ?_ (by simp <;> omega) _ | refine Below.setCell ?_ (by simp <;> omega) _ | refine Below.drew ?_ | refine below_drewN ?_))))).mono ?_; rintro e w13 ⟨⟨v, rfl, hrZ⟩, hb⟩
    obtain ⟨aZ, dZ, he, hiZ⟩ := hrZ.form
    subst he
    replace hrZ := MassesO.mono (base' := w12.heap.size) hrZ (by first | exact Nat.le_refl _ | (simp; done))
    have hvZ : ∀ b, (Value.slice aZ (cornersL sm xm).length dZ).ownBlock = some b → w12.heap.size ≤ b ∧ b < w13.heap.size := fun b e => by have := hrZ.block b e; first | omega | (simp at this; omega)
    have hd := hb
    replace hpm0 := keep hd hpm0
    replace hpm1 := keep hd hpm1
    replace hxm0 := keep hd hxm0
    replace hxm1 := keep hd hxm1
    replace hrYm := hrYm.below hd
    replace hk := hk.below hd
    replace hiYm := hiYm.below hd
    replace hB := chain hB hd
    replace hXm := hxm.below hB
    replace hC := chain hC hd
    replace hiW := hi0W.below hC
    have hs13 := hd.size
    clear hb hd
    go_wp2_with fail
    refine (eqMassS_same _ _ _ _ _ _ _ _ (hiZ.below (by (repeat (first | exact Below.refl _ _ | assumption | refine Below.alloc ?_ (by simp <;> omega) _ | refine Below.setCell ?_ (by simp <;> omega) _ | refine Below.drew ?_ | refine below_drewN ?_)))) (hiW.below (by (repeat (first | exact Below.refl _ _ | assumption | refine Below.alloc ?_ (by simp <;> omega) _ | refine Below.setCell ?_ (by simp <;> omega) _ | refine Below.drew ?_ | refine below_drewN ?_))))).mono ?_; rintro e w14 ⟨rfl, hb⟩
    have hd := hb
    replace hpm0 := keep hd hpm0
    replace hpm1 := keep hd hpm1
    replace hxm0 := keep hd hxm0
    replace hxm1 := keep hd hxm1
    replace hrYm := hrYm.below hd
    replace hrZ := hrZ.below hd
    replace hk := hk.below hd
    replace hiYm := hiYm.below hd
    replace hiZ := hiZ.below hd
    replace hB := chain hB hd
    replace hXm := hxm.below hB
    replace hC := chain hC hd
    replace hiW := hi0W.below hC
    have hs14 := hd.size
    clear hb hd
    go_wp2_with fail
    refine (heldMassS_any _ _ _ 1 _ _ (hk.below (by (repeat (first | exact Below.refl _ _ | assumption | refine Below.alloc ?_ (by simp <;> omega) _ | refine Below.setCell ?_ (by simp <;> omega) _ | refine Below.drew ?_ | refine below_drewN ?_)))) hlen hlenP (by omega) (by omega)).mono ?_; rintro e w15 ⟨rfl, hw⟩
    have hb : Below w14.heap.size w14 w15 := hw ▸ Below.refl _ _
    clear hw
    have hd := hb
    replace hpm0 := keep hd hpm0
    replace hpm1 := keep hd hpm1
    replace hxm0 := keep hd hxm0
    replace hxm1 := keep hd hxm1
    replace hrYm := hrYm.below hd
    replace hrZ := hrZ.below hd
    replace hk := hk.below hd
    replace hiYm := hiYm.below hd
    replace hiZ := hiZ.below hd
    replace hB := chain hB hd
    replace hXm := hxm.below hB
    replace hC := chain hC hd
    replace hiW := hi0W.below hC
    have hs15 := hd.size
    clear hb hd
    go_wp2
    go_ret
    exact ⟨rfl, hB⟩
end Go.Proofs.Ytchjnjmlambpjaa
