/- The law that the program's WorstChance is the reference's: its walk (printed by lawgen.py). -/
import Derived.Test.YtchjnjmlambpjaaX1
import Derived.Test.YtchjnjmlambpjaaW29
import Derived.Test.YtchjnjmlambpjaaL2
set_option linter.unusedSimpArgs false
set_option linter.unusedVariables false
namespace Go.Proofs.Ytchjnjmlambpjaa
open Go.RowKit
set_option maxHeartbeats 4000000 in
theorem FnExactWorstChance_walk (sm : Int) (om : Option Addr) (nm cm : Nat) (xm : List Int) (og : Option Addr) (ng cg : Nat) (xg : List Int) (w : World) (hxm : IntsAt w om nm xm) (hxg : IntsAt w og ng xg) :
    Calls Try.prog 4 #[.agg #[.int .i64 sm, .slice om nm cm], .slice og ng cg] w fun e w' => e = .returned (.bool true) ∧ Below w.heap.size w w' := by
  have hcapm := hxm.cap
  obtain rfl := hxm.len
  have hcapg := hxg.cap
  obtain rfl := hxg.len
  by_cases hleg : (1048576 : Int) < (xg.length : Int)
  · go_enter Try.func4, Try.ntmps4
    have hB := Below.refl w.heap.size w
    go_wp2
    go_ret
    exact ⟨rfl, by (repeat (first | exact Below.refl _ _ | assumption | refine Below.alloc ?_ (by simp <;> omega) _ | refine Below.setCell ?_ (by simp <;> omega) _ | refine Below.drew ?_ | refine below_drewN ?_))⟩
  · have hLEg : (xg.length : Int) ≤ 1048576 := by omega
    by_cases hlem : 1048576 - (xm.length : Int) < 0
    · go_enter Try.func4, Try.ntmps4
      have hB := Below.refl w.heap.size w
      go_wp2_with fail
      refine (szMass_any sm om _ cm (1048576) _ (by omega) (by omega) hcapm).mono ?_; rw [show leaves (1048576) xm.length = -1 from by simp only [leaves]; rw [if_pos (by omega)]]; rintro e w1 ⟨rfl, hb⟩
      have hpm0 := keep hb (a := ⟨w.heap.size, 0, none⟩) (v := .int .i64 sm) (by simp)
      have hpm1 := keep hb (a := ⟨w.heap.size, 1, none⟩) (v := .slice om xm.length cm) (by simp)
      have hz1 : w.heap.size < w1.heap.size := by have := World.block_lt_of_cell? w1 _ hpm0; simpa using this
      have hd : Below w.heap.size w w1 := Below.trans (by (repeat (first | exact Below.refl _ _ | assumption | refine Below.alloc ?_ (by simp <;> omega) _ | refine Below.setCell ?_ (by simp <;> omega) _ | refine Below.drew ?_ | refine below_drewN ?_))) (hb.mono (by simp <;> omega))
      replace hB := chain hB hd
      have hs1 := hd.size
      clear hb hd
      go_wp2
      go_ret
      exact ⟨rfl, hB⟩
    · have hLEm : 0 ≤ 1048576 - (xm.length : Int) := by omega
      have hnm : xm.length ≤ 100000000 := by omega
      have hng : xg.length ≤ 100000000 := by omega
      have hlen : (worstM sm xm xg).parts.length ≤ 100000000 := worst_len _ _ _
      clear hlem
      clear hleg
      go_enter Try.func4, Try.ntmps4
      have hB := Below.refl w.heap.size w
      have hXm := hxm
      have hXg := hxg
      go_wp2_with fail
      refine (szMass_any sm om _ cm (1048576) _ (by omega) (by omega) hcapm).mono ?_; rw [show leaves (1048576) xm.length = 1048576 - (xm.length : Int) from by simp only [leaves]; rw [if_neg (by omega)]]; rintro e w1 ⟨rfl, hb⟩
      have hpm0 := keep hb (a := ⟨w.heap.size, 0, none⟩) (v := .int .i64 sm) (by simp)
      have hpm1 := keep hb (a := ⟨w.heap.size, 1, none⟩) (v := .slice om xm.length cm) (by simp)
      have hz1 : w.heap.size < w1.heap.size := by have := World.block_lt_of_cell? w1 _ hpm0; simpa using this
      have hd : Below w.heap.size w w1 := Below.trans (by (repeat (first | exact Below.refl _ _ | assumption | refine Below.alloc ?_ (by simp <;> omega) _ | refine Below.setCell ?_ (by simp <;> omega) _ | refine Below.drew ?_ | refine below_drewN ?_))) (hb.mono (by simp <;> omega))
      replace hB := chain hB hd
      replace hXm := hxm.below hB
      replace hXg := hxg.below hB
      have hs1 := hd.size
      clear hb hd
      go_wp2_with fail
      refine (toMass_any sm om _ cm xm _ (hXm.below (by (repeat (first | exact Below.refl _ _ | assumption | refine Below.alloc ?_ (by simp <;> omega) _ | refine Below.setCell ?_ (by simp <;> omega) _ | refine Below.drew ?_ | refine below_drewN ?_)))) hnm).mono ?_; rintro e w2 ⟨v, rfl, hrSm, hb⟩
      obtain ⟨aSm, mSm, dSm, rfl, hiSm⟩ := hrSm.ints
      obtain rfl := hiSm.len
      have hvSm : ∀ b, (Value.slice aSm xm.length dSm).ownBlock = some b → w1.heap.size ≤ b ∧ b < w2.heap.size := fun b e => by have := hrSm.block b e; first | omega | (simp at this; omega)
      have hd := hb
      replace hpm0 := keep hd hpm0
      replace hpm1 := keep hd hpm1
      replace hB := chain hB hd
      replace hXm := hxm.below hB
      replace hXg := hxg.below hB
      have hs2 := hd.size
      clear hb hd
      go_wp2_with fail
      refine (toIntS_any og _ cg xg _ (hXg.below (by (repeat (first | exact Below.refl _ _ | assumption | refine Below.alloc ?_ (by simp <;> omega) _ | refine Below.setCell ?_ (by simp <;> omega) _ | refine Below.drew ?_ | refine below_drewN ?_)))) hng).mono ?_; rintro e w3 ⟨v, rfl, hrSg, hb⟩
      obtain ⟨aSg, mSg, dSg, rfl, hiSg⟩ := hrSg.ints
      obtain rfl := hiSg.len
      have hvSg : ∀ b, (Value.slice aSg xg.length dSg).ownBlock = some b → w2.heap.size ≤ b ∧ b < w3.heap.size := fun b e => by have := hrSg.block b e; first | omega | (simp at this; omega)
      have hd := hb
      replace hpm0 := keep hd hpm0
      replace hpm1 := keep hd hpm1
      replace hrSm := hrSm.below hd
      replace hiSm := hiSm.below hd
      replace hB := chain hB hd
      replace hXm := hxm.below hB
      replace hXg := hxg.below hB
      have hs3 := hd.size
      clear hb hd
      go_wp2_with fail
      refine (specWorstChance_any sm _ _ _ _ _ _ xm xg _ (hiSm.below (by (repeat (first | exact Below.refl _ _ | assumption | refine Below.alloc ?_ (by simp <;> omega) _ | refine Below.setCell ?_ (by simp <;> omega) _ | refine Below.drew ?_ | refine below_drewN ?_)))) (hiSg.below (by (repeat (first | exact Below.refl _ _ | assumption | refine Below.alloc ?_ (by simp <;> omega) _ | refine Below.setCell ?_ (by simp <;> omega) _ | refine Below.drew ?_ | refine below_drewN ?_))))).mono ?_; rintro e w4 ⟨⟨v, rfl, hrW⟩, hb⟩
      obtain ⟨aW, mW, dW, rfl, hiW⟩ := hrW.ints
      obtain rfl := hiW.len
      have hvW : ∀ b, (Value.slice aW (worstM sm xm xg).parts.length dW).ownBlock = some b → w3.heap.size ≤ b ∧ b < w4.heap.size := fun b e => by have := hrW.block b e; first | omega | (simp at this; omega)
      have hd := hb
      replace hpm0 := keep hd hpm0
      replace hpm1 := keep hd hpm1
      replace hrSm := hrSm.below hd
      replace hrSg := hrSg.below hd
      replace hiSm := hiSm.below hd
      replace hiSg := hiSg.below hd
      replace hB := chain hB hd
      replace hXm := hxm.below hB
      replace hXg := hxg.below hB
      have hs4 := hd.size
      clear hb hd
      have hi0W := hiW
      have hC := Below.refl w4.heap.size w4
      clear hrW hvW
      clear hiSm hrSm
      clear hvSm
      clear hiSg hrSg
      clear hvSg
      go_wp2_with fail
      refine (toMass_any sm om _ cm xm _ (hXm.below (by (repeat (first | exact Below.refl _ _ | assumption | refine Below.alloc ?_ (by simp <;> omega) _ | refine Below.setCell ?_ (by simp <;> omega) _ | refine Below.drew ?_ | refine below_drewN ?_)))) hnm).mono ?_; rintro e w5 ⟨v, rfl, hrXm, hb⟩
      obtain ⟨aXm, mXm, dXm, rfl, hiXm⟩ := hrXm.ints
      obtain rfl := hiXm.len
      have hvXm : ∀ b, (Value.slice aXm xm.length dXm).ownBlock = some b → w4.heap.size + 1 ≤ b ∧ b < w5.heap.size := fun b e => by have := hrXm.block b e; first | omega | (simp at this; omega)
      have hqW0 := keep hb (a := ⟨w4.heap.size, 0, none⟩) (v := .int .i64 (worstM sm xm xg).size) (by simp)
      have hqW1 := keep hb (a := ⟨w4.heap.size, 1, none⟩) (v := .slice aW (worstM sm xm xg).parts.length dW) (by simp)
      have hz2 : w4.heap.size < w5.heap.size := by have := World.block_lt_of_cell? w5 _ hqW0; simpa using this
      have hd : Below w4.heap.size w4 w5 := Below.trans (by (repeat (first | exact Below.refl _ _ | assumption | refine Below.alloc ?_ (by simp <;> omega) _ | refine Below.setCell ?_ (by simp <;> omega) _ | refine Below.drew ?_ | refine below_drewN ?_))) (hb.mono (by simp <;> omega))
      replace hpm0 := keep hd hpm0
      replace hpm1 := keep hd hpm1
      replace hB := chain hB hd
      replace hXm := hxm.below hB
      replace hXg := hxg.below hB
      replace hC := chain hC hd
      replace hiW := hi0W.below hC
      have hs5 := hd.size
      clear hb hd
      go_wp2_with fail
      refine (toIntS_any og _ cg xg _ (hXg.below (by (repeat (first | exact Below.refl _ _ | assumption | refine Below.alloc ?_ (by simp <;> omega) _ | refine Below.setCell ?_ (by simp <;> omega) _ | refine Below.drew ?_ | refine below_drewN ?_)))) hng).mono ?_; rintro e w6 ⟨v, rfl, hrXg, hb⟩
      obtain ⟨aXg, mXg, dXg, rfl, hiXg⟩ := hrXg.ints
      obtain rfl := hiXg.len
      have hvXg : ∀ b, (Value.slice aXg xg.length dXg).ownBlock = some b → w5.heap.size + 1 ≤ b ∧ b < w6.heap.size := fun b e => by have := hrXg.block b e; first | omega | (simp at this; omega)
      have hxm0 := keep hb (a := ⟨w5.heap.size, 0, none⟩) (v := .int .i64 sm) (by simp)
      have hxm1 := keep hb (a := ⟨w5.heap.size, 1, none⟩) (v := .slice aXm xm.length dXm) (by simp)
      have hz3 : w5.heap.size < w6.heap.size := by have := World.block_lt_of_cell? w6 _ hxm0; simpa using this
      have hd : Below w5.heap.size w5 w6 := Below.trans (by (repeat (first | exact Below.refl _ _ | assumption | refine Below.alloc ?_ (by simp <;> omega) _ | refine Below.setCell ?_ (by simp <;> omega) _ | refine Below.drew ?_ | refine below_drewN ?_))) (hb.mono (by simp <;> omega))
      replace hpm0 := keep hd hpm0
      replace hpm1 := keep hd hpm1
      replace hqW0 := keep hd hqW0
      replace hqW1 := keep hd hqW1
      replace hrXm := hrXm.below hd
      replace hiXm := hiXm.below hd
      replace hB := chain hB hd
      replace hXm := hxm.below hB
      replace hXg := hxg.below hB
      replace hC := chain hC hd
      replace hiW := hi0W.below hC
      have hs6 := hd.size
      clear hb hd
      go_wp2_with fail
      refine (WorstChance_any sm _ _ _ _ _ _ xm xg _ (hiXm.below (by (repeat (first | exact Below.refl _ _ | assumption | refine Below.alloc ?_ (by simp <;> omega) _ | refine Below.setCell ?_ (by simp <;> omega) _ | refine Below.drew ?_ | refine below_drewN ?_)))) (hiXg.below (by (repeat (first | exact Below.refl _ _ | assumption | refine Below.alloc ?_ (by simp <;> omega) _ | refine Below.setCell ?_ (by simp <;> omega) _ | refine Below.drew ?_ | refine below_drewN ?_))))).mono ?_; rintro e w7 ⟨⟨v, rfl, hrG⟩, hb⟩
      obtain ⟨aG, mG, dG, rfl, hiG⟩ := hrG.ints
      obtain rfl := hiG.len
      have hvG : ∀ b, (Value.slice aG (worstM sm xm xg).parts.length dG).ownBlock = some b → w6.heap.size ≤ b ∧ b < w7.heap.size := fun b e => by have := hrG.block b e; first | omega | (simp at this; omega)
      have hd := hb
      replace hpm0 := keep hd hpm0
      replace hpm1 := keep hd hpm1
      replace hqW0 := keep hd hqW0
      replace hqW1 := keep hd hqW1
      replace hxm0 := keep hd hxm0
      replace hxm1 := keep hd hxm1
      replace hrXm := hrXm.below hd
      replace hrXg := hrXg.below hd
      replace hiXm := hiXm.below hd
      replace hiXg := hiXg.below hd
      replace hB := chain hB hd
      replace hXm := hxm.below hB
      replace hXg := hxg.below hB
      replace hC := chain hC hd
      replace hiW := hi0W.below hC
      have hs7 := hd.size
      clear hb hd
      go_wp2_with fail
      refine (eqMass_same _ _ _ _ _ _ _ _ (hiG.below (by (repeat (first | exact Below.refl _ _ | assumption | refine Below.alloc ?_ (by simp <;> omega) _ | refine Below.setCell ?_ (by simp <;> omega) _ | refine Below.drew ?_ | refine below_drewN ?_)))) (hiW.below (by (repeat (first | exact Below.refl _ _ | assumption | refine Below.alloc ?_ (by simp <;> omega) _ | refine Below.setCell ?_ (by simp <;> omega) _ | refine Below.drew ?_ | refine below_drewN ?_))))).mono ?_; rintro e w8 ⟨rfl, hb⟩
      have hqG0 := keep hb (a := ⟨w7.heap.size, 0, none⟩) (v := .int .i64 (worstM sm xm xg).size) (by simp)
      have hqG1 := keep hb (a := ⟨w7.heap.size, 1, none⟩) (v := .slice aG (worstM sm xm xg).parts.length dG) (by simp)
      have hz4 : w7.heap.size < w8.heap.size := by have := World.block_lt_of_cell? w8 _ hqG0; simpa using this
      have hd : Below w7.heap.size w7 w8 := Below.trans (by (repeat (first | exact Below.refl _ _ | assumption | refine Below.alloc ?_ (by simp <;> omega) _ | refine Below.setCell ?_ (by simp <;> omega) _ | refine Below.drew ?_ | refine below_drewN ?_))) (hb.mono (by simp <;> omega))
      replace hpm0 := keep hd hpm0
      replace hpm1 := keep hd hpm1
      replace hqW0 := keep hd hqW0
      replace hqW1 := keep hd hqW1
      replace hxm0 := keep hd hxm0
      replace hxm1 := keep hd hxm1
      replace hrXm := hrXm.below hd
      replace hrXg := hrXg.below hd
      replace hrG := hrG.below hd
      replace hiXm := hiXm.below hd
      replace hiXg := hiXg.below hd
      replace hiG := hiG.below hd
      replace hB := chain hB hd
      replace hXm := hxm.below hB
      replace hXg := hxg.below hB
      replace hC := chain hC hd
      replace hiW := hi0W.below hC
      have hs8 := hd.size
      clear hb hd
      go_wp2_with fail
      refine wp_region_join 52 53 54 55 56 (.agg #[.int .i64 sm, .slice aXm xm.length dXm]) (.agg #[.int .i64 sm, .slice om xm.length cm]) ?_ ?_
      · go_region_with (first | (go_at_call 14; refine (toMass_any sm om _ cm xm _ (hXm.below (drew_below _)) hnm).mono ?_; rintro e wa ⟨v, rfl, hrE, hba⟩; obtain ⟨aE, mE, dE, rfl, hiE⟩ := hrE.ints; obtain rfl := hiE.len; have hda := chain (drew_below _) hba; have hxm0 := keep hda hxm0; have hxm1 := keep hda hxm1) | (go_at_call 17; refine (eqMass_same _ _ _ _ _ _ _ _ (hiXm.below hda) hiE).mono ?_; rintro e wb ⟨rfl, hbb⟩))
        all_goals exact ⟨_, rfl, chain hda hbb⟩
      intro vE w9 hb
      have hd := hb
      replace hpm0 := keep hd hpm0
      replace hpm1 := keep hd hpm1
      replace hqW0 := keep hd hqW0
      replace hqW1 := keep hd hqW1
      replace hxm0 := keep hd hxm0
      replace hxm1 := keep hd hxm1
      replace hqG0 := keep hd hqG0
      replace hqG1 := keep hd hqG1
      replace hrXm := hrXm.below hd
      replace hrXg := hrXg.below hd
      replace hrG := hrG.below hd
      replace hiXm := hiXm.below hd
      replace hiXg := hiXg.below hd
      replace hiG := hiG.below hd
      replace hB := chain hB hd
      replace hXm := hxm.below hB
      replace hXg := hxg.below hB
      replace hC := chain hC hd
      replace hiW := hi0W.below hC
      have hs9 := hd.size
      clear hb hd
      go_wp2_with fail
      refine (toIntS_any og _ cg xg _ (hXg.below (by (repeat (first | exact Below.refl _ _ | assumption | refine Below.alloc ?_ (by simp <;> omega) _ | refine Below.setCell ?_ (by simp <;> omega) _ | refine Below.drew ?_ | refine below_drewN ?_)))) hng).mono ?_; rintro e w10 ⟨v, rfl, hrEg, hb⟩
      obtain ⟨aEg, mEg, dEg, rfl, hiEg⟩ := hrEg.ints
      obtain rfl := hiEg.len
      have hvEg : ∀ b, (Value.slice aEg xg.length dEg).ownBlock = some b → w9.heap.size ≤ b ∧ b < w10.heap.size := fun b e => by have := hrEg.block b e; first | omega | (simp at this; omega)
      have hd := hb
      replace hpm0 := keep hd hpm0
      replace hpm1 := keep hd hpm1
      replace hqW0 := keep hd hqW0
      replace hqW1 := keep hd hqW1
      replace hxm0 := keep hd hxm0
      replace hxm1 := keep hd hxm1
      replace hqG0 := keep hd hqG0
      replace hqG1 := keep hd hqG1
      replace hrXm := hrXm.below hd
      replace hrXg := hrXg.below hd
      replace hrG := hrG.below hd
      replace hiXm := hiXm.below hd
      replace hiXg := hiXg.below hd
      replace hiG := hiG.below hd
      replace hB := chain hB hd
      replace hXm := hxm.below hB
      replace hXg := hxg.below hB
      replace hC := chain hC hd
      replace hiW := hi0W.below hC
      have hs10 := hd.size
      clear hb hd
      go_wp2_with fail
      refine (eqIntS_same _ _ _ _ _ _ _ (hiXg.below (by (repeat (first | exact Below.refl _ _ | assumption | refine Below.alloc ?_ (by simp <;> omega) _ | refine Below.setCell ?_ (by simp <;> omega) _ | refine Below.drew ?_ | refine below_drewN ?_)))) (hiEg.below (by (repeat (first | exact Below.refl _ _ | assumption | refine Below.alloc ?_ (by simp <;> omega) _ | refine Below.setCell ?_ (by simp <;> omega) _ | refine Below.drew ?_ | refine below_drewN ?_))))).mono ?_; rintro e w11 ⟨rfl, hb⟩
      have hd := hb
      replace hpm0 := keep hd hpm0
      replace hpm1 := keep hd hpm1
      replace hqW0 := keep hd hqW0
      replace hqW1 := keep hd hqW1
      replace hxm0 := keep hd hxm0
      replace hxm1 := keep hd hxm1
      replace hqG0 := keep hd hqG0
      replace hqG1 := keep hd hqG1
      replace hrXm := hrXm.below hd
      replace hrXg := hrXg.below hd
      replace hrG := hrG.below hd
      replace hrEg := hrEg.below hd
      replace hiXm := hiXm.below hd
      replace hiXg := hiXg.below hd
      replace hiG := hiG.below hd
      replace hiEg := hiEg.below hd
      replace hB := chain hB hd
      replace hXm := hxm.below hB
      replace hXg := hxg.below hB
      replace hC := chain hC hd
      replace hiW := hi0W.below hC
      have hs11 := hd.size
      clear hb hd
      clear hiEg hrEg
      clear hvEg
      clear hiG
      clear hiXm
      clear hiXg
      go_wp2_with fail
      refine (markMass_any _ _ _ _ (1) _ _ (hrXm) rfl hnm (by omega) (by omega)).mono ?_; rintro e w12 ⟨rfl, hm, hg⟩
      clear hm
      replace hpm0 := keepO hg hpm0 (fun e => by have := hvXm _ e.symm; omega)
      replace hpm1 := keepO hg hpm1 (fun e => by have := hvXm _ e.symm; omega)
      replace hqW0 := keepO hg hqW0 (fun e => by have := hvXm _ e.symm; omega)
      replace hqW1 := keepO hg hqW1 (fun e => by have := hvXm _ e.symm; omega)
      replace hxm0 := keepO hg hxm0 (fun e => by have := hvXm _ e.symm; omega)
      replace hxm1 := keepO hg hxm1 (fun e => by have := hvXm _ e.symm; omega)
      replace hqG0 := keepO hg hqG0 (fun e => by have := hvXm _ e.symm; omega)
      replace hqG1 := keepO hg hqG1 (fun e => by have := hvXm _ e.symm; omega)
      replace hrXg := Row.apart hrXg hg (fun b e b2 e2 => by have := hvXg b e; have := hvXm b2 e2; omega)
      replace hrG := Row.apart hrG hg (fun b e b2 e2 => by have := hvG b e; have := hvXm b2 e2; omega)
      replace hB := below_grownBy hB hB.size hg (fun k e => by have := hvXm k e; omega)
      replace hXm := hxm.below hB
      replace hXg := hxg.below hB
      replace hC := below_grownBy hC hC.size hg (fun k e => by have := hvXm k e; omega)
      replace hiW := hi0W.below hC
      have hs12 := hg.size
      clear hg
      clear hrXm hvXm
      have hnnm : (0 : Int) ≤ (xm.length : Int) := by omega
      go_wp2_with fail
      refine (markIntS_any _ _ _ (1 + (xm.length : Int)) _ _ (hrXg) rfl hng (by omega) (by omega)).mono ?_; rintro e w13 ⟨rfl, hm, hg⟩
      clear hm
      replace hpm0 := keepO hg hpm0 (fun e => by have := hvXg _ e.symm; omega)
      replace hpm1 := keepO hg hpm1 (fun e => by have := hvXg _ e.symm; omega)
      replace hqW0 := keepO hg hqW0 (fun e => by have := hvXg _ e.symm; omega)
      replace hqW1 := keepO hg hqW1 (fun e => by have := hvXg _ e.symm; omega)
      replace hxm0 := keepO hg hxm0 (fun e => by have := hvXg _ e.symm; omega)
      replace hxm1 := keepO hg hxm1 (fun e => by have := hvXg _ e.symm; omega)
      replace hqG0 := keepO hg hqG0 (fun e => by have := hvXg _ e.symm; omega)
      replace hqG1 := keepO hg hqG1 (fun e => by have := hvXg _ e.symm; omega)
      replace hrG := Row.apart hrG hg (fun b e b2 e2 => by have := hvG b e; have := hvXg b2 e2; omega)
      replace hB := below_grownBy hB hB.size hg (fun k e => by have := hvXg k e; omega)
      replace hXm := hxm.below hB
      replace hXg := hxg.below hB
      replace hC := below_grownBy hC hC.size hg (fun k e => by have := hvXg k e; omega)
      replace hiW := hi0W.below hC
      have hs13 := hg.size
      clear hg
      clear hrXg hvXg
      have hnng : (0 : Int) ≤ (xg.length : Int) := by omega
      obtain ⟨aH, nH, cH, eH, hiG⟩ := hrG.ints
      injection eH with e1 e2 e3
      subst e1 e2 e3
      go_wp2_with fail
      refine (eqMass_same _ _ _ _ _ _ _ _ (hiG.below (by (repeat (first | exact Below.refl _ _ | assumption | refine Below.alloc ?_ (by simp <;> omega) _ | refine Below.setCell ?_ (by simp <;> omega) _ | refine Below.drew ?_ | refine below_drewN ?_)))) (hiW.below (by (repeat (first | exact Below.refl _ _ | assumption | refine Below.alloc ?_ (by simp <;> omega) _ | refine Below.setCell ?_ (by simp <;> omega) _ | refine Below.drew ?_ | refine below_drewN ?_))))).mono ?_; rintro e w14 ⟨rfl, hb⟩
      have hd := hb
      replace hpm0 := keep hd hpm0
      replace hpm1 := keep hd hpm1
      replace hqW0 := keep hd hqW0
      replace hqW1 := keep hd hqW1
      replace hxm0 := keep hd hxm0
      replace hxm1 := keep hd hxm1
      replace hqG0 := keep hd hqG0
      replace hqG1 := keep hd hqG1
      replace hrG := hrG.below hd
      replace hiG := hiG.below hd
      replace hB := chain hB hd
      replace hXm := hxm.below hB
      replace hXg := hxg.below hB
      replace hC := chain hC hd
      replace hiW := hi0W.below hC
      have hs14 := hd.size
      clear hb hd
      clear hiG
      go_wp2_with fail
      refine (markMass_any _ _ _ _ 1 _ _ hrG rfl hlen (by omega) (by omega)).mono ?_; rintro e w15 ⟨rfl, hm, hg⟩
      replace hpm0 := keepO hg hpm0 (fun e => by have := hvG _ e.symm; omega)
      replace hpm1 := keepO hg hpm1 (fun e => by have := hvG _ e.symm; omega)
      replace hqW0 := keepO hg hqW0 (fun e => by have := hvG _ e.symm; omega)
      replace hqW1 := keepO hg hqW1 (fun e => by have := hvG _ e.symm; omega)
      replace hxm0 := keepO hg hxm0 (fun e => by have := hvG _ e.symm; omega)
      replace hxm1 := keepO hg hxm1 (fun e => by have := hvG _ e.symm; omega)
      replace hqG0 := keepO hg hqG0 (fun e => by have := hvG _ e.symm; omega)
      replace hqG1 := keepO hg hqG1 (fun e => by have := hvG _ e.symm; omega)
      replace hB := below_grownBy hB hB.size hg (fun k e => by have := hvG k e; omega)
      replace hXm := hxm.below hB
      replace hXg := hxg.below hB
      replace hC := below_grownBy hC hC.size hg (fun k e => by have := hvG k e; omega)
      replace hiW := hi0W.below hC
      have hs15 := hg.size
      clear hg
      clear hrG hvG
      obtain ⟨aH, nH, cH, eH, hk⟩ := hm.ints
      injection eH with e1 e2 e3
      subst e1 e2 e3
      clear hm
      have hn0 : (0 : Int) ≤ ((worstM sm xm xg).parts.length : Int) := by omega
      go_wp2_with fail
      refine (heldMass_any _ _ _ _ 1 _ (hk.below (by (repeat (first | exact Below.refl _ _ | assumption | refine Below.alloc ?_ (by simp <;> omega) _ | refine Below.setCell ?_ (by simp <;> omega) _ | refine Below.drew ?_ | refine below_drewN ?_)))) hlen (by omega) (by omega)).mono ?_; rintro e w16 ⟨rfl, hb⟩
      have hd := hb
      replace hpm0 := keep hd hpm0
      replace hpm1 := keep hd hpm1
      replace hqW0 := keep hd hqW0
      replace hqW1 := keep hd hqW1
      replace hxm0 := keep hd hxm0
      replace hxm1 := keep hd hxm1
      replace hqG0 := keep hd hqG0
      replace hqG1 := keep hd hqG1
      replace hk := hk.below hd
      replace hB := chain hB hd
      replace hXm := hxm.below hB
      replace hXg := hxg.below hB
      replace hC := chain hC hd
      replace hiW := hi0W.below hC
      have hs16 := hd.size
      clear hb hd
      go_wp2_with fail
      refine (toMass_any sm om _ cm xm _ (hXm.below (by (repeat (first | exact Below.refl _ _ | assumption | refine Below.alloc ?_ (by simp <;> omega) _ | refine Below.setCell ?_ (by simp <;> omega) _ | refine Below.drew ?_ | refine below_drewN ?_)))) hnm).mono ?_; rintro e w17 ⟨v, rfl, hrYm, hb⟩
      obtain ⟨aYm, mYm, dYm, rfl, hiYm⟩ := hrYm.ints
      obtain rfl := hiYm.len
      have hvYm : ∀ b, (Value.slice aYm xm.length dYm).ownBlock = some b → w16.heap.size ≤ b ∧ b < w17.heap.size := fun b e => by have := hrYm.block b e; first | omega | (simp at this; omega)
      have hd := hb
      replace hpm0 := keep hd hpm0
      replace hpm1 := keep hd hpm1
      replace hqW0 := keep hd hqW0
      replace hqW1 := keep hd hqW1
      replace hxm0 := keep hd hxm0
      replace hxm1 := keep hd hxm1
      replace hqG0 := keep hd hqG0
      replace hqG1 := keep hd hqG1
      replace hk := hk.below hd
      replace hB := chain hB hd
      replace hXm := hxm.below hB
      replace hXg := hxg.below hB
      replace hC := chain hC hd
      replace hiW := hi0W.below hC
      have hs17 := hd.size
      clear hb hd
      go_wp2_with fail
      refine (toIntS_any og _ cg xg _ (hXg.below (by (repeat (first | exact Below.refl _ _ | assumption | refine Below.alloc ?_ (by simp <;> omega) _ | refine Below.setCell ?_ (by simp <;> omega) _ | refine Below.drew ?_ | refine below_drewN ?_)))) hng).mono ?_; rintro e w18 ⟨v, rfl, hrYg, hb⟩
      obtain ⟨aYg, mYg, dYg, rfl, hiYg⟩ := hrYg.ints
      obtain rfl := hiYg.len
      have hvYg : ∀ b, (Value.slice aYg xg.length dYg).ownBlock = some b → w17.heap.size ≤ b ∧ b < w18.heap.size := fun b e => by have := hrYg.block b e; first | omega | (simp at this; omega)
      have hd := hb
      replace hpm0 := keep hd hpm0
      replace hpm1 := keep hd hpm1
      replace hqW0 := keep hd hqW0
      replace hqW1 := keep hd hqW1
      replace hxm0 := keep hd hxm0
      replace hxm1 := keep hd hxm1
      replace hqG0 := keep hd hqG0
      replace hqG1 := keep hd hqG1
      replace hrYm := hrYm.below hd
      replace hk := hk.below hd
      replace hiYm := hiYm.below hd
      replace hB := chain hB hd
      replace hXm := hxm.below hB
      replace hXg := hxg.below hB
      replace hC := chain hC hd
      replace hiW := hi0W.below hC
      have hs18 := hd.size
      clear hb hd
      go_wp2_with fail
      refine (WorstChance_any sm _ _ _ _ _ _ xm xg _ (hiYm.below (by (repeat (first | exact Below.refl _ _ | assumption | refine Below.alloc ?_ (by simp <;> omega) _ | refine Below.setCell ?_ (by simp <;> omega) _ | refine Below.drew ?_ | refine below_drewN ?_)))) (hiYg.below (by (repeat (first | exact Below.refl _ _ | assumption | refine Below.alloc ?_ (by simp <;> omega) _ | refine Below.setCell ?_ (by simp <;> omega) _ | refine Below.drew ?_ | refine below_drewN ?_))))).mono ?_; rintro e w19 ⟨⟨v, rfl, hrZ⟩, hb⟩
      obtain ⟨aZ, mZ, dZ, rfl, hiZ⟩ := hrZ.ints
      obtain rfl := hiZ.len
      have hvZ : ∀ b, (Value.slice aZ (worstM sm xm xg).parts.length dZ).ownBlock = some b → w18.heap.size ≤ b ∧ b < w19.heap.size := fun b e => by have := hrZ.block b e; first | omega | (simp at this; omega)
      have hd := hb
      replace hpm0 := keep hd hpm0
      replace hpm1 := keep hd hpm1
      replace hqW0 := keep hd hqW0
      replace hqW1 := keep hd hqW1
      replace hxm0 := keep hd hxm0
      replace hxm1 := keep hd hxm1
      replace hqG0 := keep hd hqG0
      replace hqG1 := keep hd hqG1
      replace hrYm := hrYm.below hd
      replace hrYg := hrYg.below hd
      replace hk := hk.below hd
      replace hiYm := hiYm.below hd
      replace hiYg := hiYg.below hd
      replace hB := chain hB hd
      replace hXm := hxm.below hB
      replace hXg := hxg.below hB
      replace hC := chain hC hd
      replace hiW := hi0W.below hC
      have hs19 := hd.size
      clear hb hd
      go_wp2_with fail
      refine (eqMass_same _ _ _ _ _ _ _ _ (hiZ.below (by (repeat (first | exact Below.refl _ _ | assumption | refine Below.alloc ?_ (by simp <;> omega) _ | refine Below.setCell ?_ (by simp <;> omega) _ | refine Below.drew ?_ | refine below_drewN ?_)))) (hiW.below (by (repeat (first | exact Below.refl _ _ | assumption | refine Below.alloc ?_ (by simp <;> omega) _ | refine Below.setCell ?_ (by simp <;> omega) _ | refine Below.drew ?_ | refine below_drewN ?_))))).mono ?_; rintro e w20 ⟨rfl, hb⟩
      have hqZ0 := keep hb (a := ⟨w19.heap.size, 0, none⟩) (v := .int .i64 (worstM sm xm xg).size) (by simp)
      have hqZ1 := keep hb (a := ⟨w19.heap.size, 1, none⟩) (v := .slice aZ (worstM sm xm xg).parts.length dZ) (by simp)
      have hz5 : w19.heap.size < w20.heap.size := by have := World.block_lt_of_cell? w20 _ hqZ0; simpa using this
      have hd : Below w19.heap.size w19 w20 := Below.trans (by (repeat (first | exact Below.refl _ _ | assumption | refine Below.alloc ?_ (by simp <;> omega) _ | refine Below.setCell ?_ (by simp <;> omega) _ | refine Below.drew ?_ | refine below_drewN ?_))) (hb.mono (by simp <;> omega))
      replace hpm0 := keep hd hpm0
      replace hpm1 := keep hd hpm1
      replace hqW0 := keep hd hqW0
      replace hqW1 := keep hd hqW1
      replace hxm0 := keep hd hxm0
      replace hxm1 := keep hd hxm1
      replace hqG0 := keep hd hqG0
      replace hqG1 := keep hd hqG1
      replace hrYm := hrYm.below hd
      replace hrYg := hrYg.below hd
      replace hrZ := hrZ.below hd
      replace hk := hk.below hd
      replace hiYm := hiYm.below hd
      replace hiYg := hiYg.below hd
      replace hiZ := hiZ.below hd
      replace hB := chain hB hd
      replace hXm := hxm.below hB
      replace hXg := hxg.below hB
      replace hC := chain hC hd
      replace hiW := hi0W.below hC
      have hs20 := hd.size
      clear hb hd
      go_wp2_with fail
      refine (heldMass_any _ _ _ _ 1 _ (hk.below (by (repeat (first | exact Below.refl _ _ | assumption | refine Below.alloc ?_ (by simp <;> omega) _ | refine Below.setCell ?_ (by simp <;> omega) _ | refine Below.drew ?_ | refine below_drewN ?_)))) hlen (by omega) (by omega)).mono ?_; rintro e w21 ⟨rfl, hb⟩
      have hd := hb
      replace hpm0 := keep hd hpm0
      replace hpm1 := keep hd hpm1
      replace hqW0 := keep hd hqW0
      replace hqW1 := keep hd hqW1
      replace hxm0 := keep hd hxm0
      replace hxm1 := keep hd hxm1
      replace hqG0 := keep hd hqG0
      replace hqG1 := keep hd hqG1
      replace hqZ0 := keep hd hqZ0
      replace hqZ1 := keep hd hqZ1
      replace hrYm := hrYm.below hd
      replace hrYg := hrYg.below hd
      replace hrZ := hrZ.below hd
      replace hk := hk.below hd
      replace hiYm := hiYm.below hd
      replace hiYg := hiYg.below hd
      replace hiZ := hiZ.below hd
      replace hB := chain hB hd
      replace hXm := hxm.below hB
      replace hXg := hxg.below hB
      replace hC := chain hC hd
      replace hiW := hi0W.below hC
      have hs21 := hd.size
      clear hb hd
      go_wp2
      go_ret
      exact ⟨rfl, hB⟩
end Go.Proofs.Ytchjnjmlambpjaa
