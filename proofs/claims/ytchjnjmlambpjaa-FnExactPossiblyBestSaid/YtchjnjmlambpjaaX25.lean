/- The law that the program's PossiblyBest is the reference's: its walk (printed by lawgen.py). -/
import Derived.Test.YtchjnjmlambpjaaX1
import Derived.Test.YtchjnjmlambpjaaW25
import Derived.Test.YtchjnjmlambpjaaL5
set_option linter.unusedSimpArgs false
set_option linter.unusedVariables false
namespace Go.Proofs.Ytchjnjmlambpjaa
open Go.RowKit
set_option maxHeartbeats 4000000 in
theorem FnExactPossiblyBest_walk (sm : Int) (om : Option Addr) (nm cm : Nat) (xm : List Int) (oa : Option Addr) (na ca : Nat) (xa : List (List Int)) (w : World) (hxm : IntsAt w om nm xm) (hxa : RowsAt w oa na xa) :
    Calls Try.prog 10 #[.agg #[.int .i64 sm, .slice om nm cm], .slice oa na ca] w fun e w' => e = .returned (.bool true) ∧ Below w.heap.size w w' := by
  have hcapm := hxm.cap
  obtain rfl := hxm.len
  have hcapa := hxa.cap
  obtain rfl := hxa.len
  by_cases hlem : 1048576 - (xm.length : Int) < 0
  · go_enter Try.func10, Try.ntmps10
    have hB := Below.refl w.heap.size w
    go_wp2_with fail
    refine (szMass_any sm om _ cm (1048576) _ (by omega) (by omega) hcapm).mono ?_; rw [show leaves (1048576) xm.length = -1 from by simp only [leaves]; rw [if_pos (by omega)]]; rintro e w1 ⟨rfl, hb⟩
    have hpm0 := keep hb (a := ⟨w.heap.size, 0, none⟩) (v := .int .i64 sm) (by simp)
    have hpm1 := keep hb (a := ⟨w.heap.size, 1, none⟩) (v := .slice om xm.length cm) (by simp)
    have hz1 : w.heap.size < w1.heap.size := by have := World.block_lt_of_cell? w1 _ hpm0; simpa using this
    have hd : Below w.heap.size w w1 := Below.trans (by (repeat (first | exact Below.refl _ _ | assumption | refine Below.alloc ?_ (by simp <;> omega) _ | refine Below.setCell ?_ (by simp <;> omega) _ | refine Below.drew ?_ | refine below_drewN ?_))) (hb.mono (by simp <;> omega))
    replace hB := chain hB hd
    have hs1 := hd.size
    clear hb hd
    go_wp2
    go_ret
    exact ⟨rfl, hB⟩
  · have hLEm : 0 ≤ 1048576 - (xm.length : Int) := by omega
    by_cases hlea : 1048576 - (xm.length : Int) - ((xa.length + totTo xa xa.length : Nat) : Int) < 0
    · go_enter Try.func10, Try.ntmps10
      have hB := Below.refl w.heap.size w
      go_wp2_with fail
      refine (szMass_any sm om _ cm (1048576) _ (by omega) (by omega) hcapm).mono ?_; rw [show leaves (1048576) xm.length = 1048576 - (xm.length : Int) from by simp only [leaves]; rw [if_neg (by omega)]]; rintro e w1 ⟨rfl, hb⟩
      have hpm0 := keep hb (a := ⟨w.heap.size, 0, none⟩) (v := .int .i64 sm) (by simp)
      have hpm1 := keep hb (a := ⟨w.heap.size, 1, none⟩) (v := .slice om xm.length cm) (by simp)
      have hz1 : w.heap.size < w1.heap.size := by have := World.block_lt_of_cell? w1 _ hpm0; simpa using this
      have hd : Below w.heap.size w w1 := Below.trans (by (repeat (first | exact Below.refl _ _ | assumption | refine Below.alloc ?_ (by simp <;> omega) _ | refine Below.setCell ?_ (by simp <;> omega) _ | refine Below.drew ?_ | refine below_drewN ?_))) (hb.mono (by simp <;> omega))
      replace hB := chain hB hd
      have hs1 := hd.size
      clear hb hd
      go_wp2_with fail
      refine (szIntSS_any oa _ ca (1048576 - (xm.length : Int)) xa _ (by omega) (by omega) (hxa.below hB)).mono ?_; rw [show leavesL (1048576 - (xm.length : Int)) xa = -1 from by simp only [leavesL]; rw [if_pos (by omega)]]; rintro e w2 ⟨rfl, hw⟩
      have hb : Below w1.heap.size w1 w2 := hw ▸ Below.refl _ _
      clear hw
      have hd := hb
      replace hpm0 := keep hd hpm0
      replace hpm1 := keep hd hpm1
      replace hB := chain hB hd
      have hs2 := hd.size
      clear hb hd
      go_wp2
      go_ret
      exact ⟨rfl, hB⟩
    · have hLEa : 0 ≤ 1048576 - (xm.length : Int) - ((xa.length + totTo xa xa.length : Nat) : Int) := by omega
      have hnm : xm.length ≤ 100000000 := by omega
      have hna : xa.length ≤ 100000000 := by omega
      have hka : ∀ k, k < xa.length → (nthL xa k).length ≤ 100000000 := fun k hk => by have := len_le_tot xa hk; omega
      have hlen : (possL sm xm xa).length ≤ 100000000 := possL_len _ _ _
      clear hlem
      clear hlea
      go_enter Try.func10, Try.ntmps10
      have hB := Below.refl w.heap.size w
      have hXm := hxm
      have hXa := hxa
      go_wp2_with fail
      refine (szMass_any sm om _ cm (1048576) _ (by omega) (by omega) hcapm).mono ?_; rw [show leaves (1048576) xm.length = 1048576 - (xm.length : Int) from by simp only [leaves]; rw [if_neg (by omega)]]; rintro e w1 ⟨rfl, hb⟩
      have hpm0 := keep hb (a := ⟨w.heap.size, 0, none⟩) (v := .int .i64 sm) (by simp)
      have hpm1 := keep hb (a := ⟨w.heap.size, 1, none⟩) (v := .slice om xm.length cm) (by simp)
      have hz1 : w.heap.size < w1.heap.size := by have := World.block_lt_of_cell? w1 _ hpm0; simpa using this
      have hd : Below w.heap.size w w1 := Below.trans (by (repeat (first | exact Below.refl _ _ | assumption | refine Below.alloc ?_ (by simp <;> omega) _ | refine Below.setCell ?_ (by simp <;> omega) _ | refine Below.drew ?_ | refine below_drewN ?_))) (hb.mono (by simp <;> omega))
      replace hB := chain hB hd
      replace hXm := hxm.below hB
      replace hXa := hxa.below hB
      have hs1 := hd.size
      clear hb hd
      go_wp2_with fail
      refine (szIntSS_any oa _ ca (1048576 - (xm.length : Int)) xa _ (by omega) (by omega) (hxa.below hB)).mono ?_; rw [show leavesL (1048576 - (xm.length : Int)) xa = 1048576 - (xm.length : Int) - ((xa.length + totTo xa xa.length : Nat) : Int) from by simp only [leavesL]; rw [if_neg (by omega)]]; rintro e w2 ⟨rfl, hw⟩
      have hb : Below w1.heap.size w1 w2 := hw ▸ Below.refl _ _
      clear hw
      have hd := hb
      replace hpm0 := keep hd hpm0
      replace hpm1 := keep hd hpm1
      replace hB := chain hB hd
      replace hXm := hxm.below hB
      replace hXa := hxa.below hB
      have hs2 := hd.size
      clear hb hd
      go_wp2_with fail
      refine (toMass_any sm om _ cm xm _ (hXm.below (by (repeat (first | exact Below.refl _ _ | assumption | refine Below.alloc ?_ (by simp <;> omega) _ | refine Below.setCell ?_ (by simp <;> omega) _ | refine Below.drew ?_ | refine below_drewN ?_)))) hnm).mono ?_; rintro e w3 ⟨v, rfl, hrSm, hb⟩
      obtain ⟨aSm, mSm, dSm, rfl, hiSm⟩ := hrSm.ints
      obtain rfl := hiSm.len
      have hvSm : ∀ b, (Value.slice aSm xm.length dSm).ownBlock = some b → w2.heap.size ≤ b ∧ b < w3.heap.size := fun b e => by have := hrSm.block b e; first | omega | (simp at this; omega)
      have hd := hb
      replace hpm0 := keep hd hpm0
      replace hpm1 := keep hd hpm1
      replace hB := chain hB hd
      replace hXm := hxm.below hB
      replace hXa := hxa.below hB
      have hs3 := hd.size
      clear hb hd
      go_wp2_with fail
      refine (toIntSS_any oa _ ca xa _ (hXa.below (by (repeat (first | exact Below.refl _ _ | assumption | refine Below.alloc ?_ (by simp <;> omega) _ | refine Below.setCell ?_ (by simp <;> omega) _ | refine Below.drew ?_ | refine below_drewN ?_)))) hna hka).mono ?_; rintro e w4 ⟨BSa, valsSa, rfl, hLoSa, hMSa, hb⟩
      have hiSa := hMSa.rowsAt rfl (by omega)
      have hd := hb
      replace hpm0 := keep hd hpm0
      replace hpm1 := keep hd hpm1
      replace hrSm := hrSm.below hd
      replace hiSm := hiSm.below hd
      replace hB := chain hB hd
      replace hXm := hxm.below hB
      replace hXa := hxa.below hB
      have hs4 := hd.size
      clear hb hd
      go_wp2_with fail
      refine (specPossiblyBest_any sm _ _ _ _ _ _ xm xa _ (hiSm.below (by (repeat (first | exact Below.refl _ _ | assumption | refine Below.alloc ?_ (by simp <;> omega) _ | refine Below.setCell ?_ (by simp <;> omega) _ | refine Below.drew ?_ | refine below_drewN ?_)))) (hiSa.below (by (repeat (first | exact Below.refl _ _ | assumption | refine Below.alloc ?_ (by simp <;> omega) _ | refine Below.setCell ?_ (by simp <;> omega) _ | refine Below.drew ?_ | refine below_drewN ?_))))).mono ?_; rintro e w5 ⟨⟨v, rfl, hrW⟩, hb⟩
      obtain ⟨aW, mW, dW, rfl, hiW⟩ := hrW.ints
      obtain rfl := hiW.len
      have hvW : ∀ b, (Value.slice aW (possL sm xm xa).length dW).ownBlock = some b → w4.heap.size ≤ b ∧ b < w5.heap.size := fun b e => by have := hrW.block b e; first | omega | (simp at this; omega)
      have hd := hb
      replace hpm0 := keep hd hpm0
      replace hpm1 := keep hd hpm1
      replace hrSm := hrSm.below hd
      replace hMSa := hMSa.below hd
      replace hiSm := hiSm.below hd
      replace hiSa := hiSa.below hd
      replace hB := chain hB hd
      replace hXm := hxm.below hB
      replace hXa := hxa.below hB
      have hs5 := hd.size
      clear hb hd
      have hi0W := hiW
      have hC := Below.refl w5.heap.size w5
      clear hrW hvW
      clear hiSm hrSm
      clear hvSm
      clear hiSa hMSa
      go_wp2_with fail
      refine (toMass_any sm om _ cm xm _ (hXm.below (by (repeat (first | exact Below.refl _ _ | assumption | refine Below.alloc ?_ (by simp <;> omega) _ | refine Below.setCell ?_ (by simp <;> omega) _ | refine Below.drew ?_ | refine below_drewN ?_)))) hnm).mono ?_; rintro e w6 ⟨v, rfl, hrXm, hb⟩
      obtain ⟨aXm, mXm, dXm, rfl, hiXm⟩ := hrXm.ints
      obtain rfl := hiXm.len
      have hvXm : ∀ b, (Value.slice aXm xm.length dXm).ownBlock = some b → w5.heap.size ≤ b ∧ b < w6.heap.size := fun b e => by have := hrXm.block b e; first | omega | (simp at this; omega)
      have hd := hb
      replace hpm0 := keep hd hpm0
      replace hpm1 := keep hd hpm1
      replace hB := chain hB hd
      replace hXm := hxm.below hB
      replace hXa := hxa.below hB
      replace hC := chain hC hd
      replace hiW := hi0W.below hC
      have hs6 := hd.size
      clear hb hd
      go_wp2_with fail
      refine (toIntSS_any oa _ ca xa _ (hXa.below (by (repeat (first | exact Below.refl _ _ | assumption | refine Below.alloc ?_ (by simp <;> omega) _ | refine Below.setCell ?_ (by simp <;> omega) _ | refine Below.drew ?_ | refine below_drewN ?_)))) hna hka).mono ?_; rintro e w7 ⟨BXa, valsXa, rfl, hLoXa, hMXa, hb⟩
      have hiXa := hMXa.rowsAt rfl (by omega)
      replace hLoXa : w6.heap.size ≤ BXa := by first | exact hLoXa | (simp at hLoXa; omega)
      have hvXa := hMXa.hi
      have hBXa := hMXa.row.lt
      have hxm0 := keep hb (a := ⟨w6.heap.size, 0, none⟩) (v := .int .i64 sm) (by simp)
      have hxm1 := keep hb (a := ⟨w6.heap.size, 1, none⟩) (v := .slice aXm xm.length dXm) (by simp)
      have hz2 : w6.heap.size < w7.heap.size := by have := World.block_lt_of_cell? w7 _ hxm0; simpa using this
      have hd : Below w6.heap.size w6 w7 := Below.trans (by (repeat (first | exact Below.refl _ _ | assumption | refine Below.alloc ?_ (by simp <;> omega) _ | refine Below.setCell ?_ (by simp <;> omega) _ | refine Below.drew ?_ | refine below_drewN ?_))) (hb.mono (by simp <;> omega))
      replace hpm0 := keep hd hpm0
      replace hpm1 := keep hd hpm1
      replace hrXm := hrXm.below hd
      replace hiXm := hiXm.below hd
      replace hB := chain hB hd
      replace hXm := hxm.below hB
      replace hXa := hxa.below hB
      replace hC := chain hC hd
      replace hiW := hi0W.below hC
      have hs7 := hd.size
      clear hb hd
      go_wp2_with fail
      refine (PossiblyBest_any sm _ _ _ _ _ _ xm xa _ (hiXm.below (by (repeat (first | exact Below.refl _ _ | assumption | refine Below.alloc ?_ (by simp <;> omega) _ | refine Below.setCell ?_ (by simp <;> omega) _ | refine Below.drew ?_ | refine below_drewN ?_)))) (hiXa.below (by (repeat (first | exact Below.refl _ _ | assumption | refine Below.alloc ?_ (by simp <;> omega) _ | refine Below.setCell ?_ (by simp <;> omega) _ | refine Below.drew ?_ | refine below_drewN ?_))))).mono ?_; rintro e w8 ⟨⟨v, rfl, hrG⟩, hb⟩
      obtain ⟨aG, mG, dG, rfl, hiG⟩ := hrG.ints
      obtain rfl := hiG.len
      have hvG : ∀ b, (Value.slice aG (possL sm xm xa).length dG).ownBlock = some b → w7.heap.size ≤ b ∧ b < w8.heap.size := fun b e => by have := hrG.block b e; first | omega | (simp at this; omega)
      have hd := hb
      replace hpm0 := keep hd hpm0
      replace hpm1 := keep hd hpm1
      replace hxm0 := keep hd hxm0
      replace hxm1 := keep hd hxm1
      replace hrXm := hrXm.below hd
      replace hMXa := hMXa.below hd
      replace hiXm := hiXm.below hd
      replace hiXa := hiXa.below hd
      replace hB := chain hB hd
      replace hXm := hxm.below hB
      replace hXa := hxa.below hB
      replace hC := chain hC hd
      replace hiW := hi0W.below hC
      have hs8 := hd.size
      clear hb hd
      go_wp2_with fail
      refine (eqIntS_same _ _ _ _ _ _ _ (hiG.below (by (repeat (first | exact Below.refl _ _ | assumption | refine Below.alloc ?_ (by simp <;> omega) _ | refine Below.setCell ?_ (by simp <;> omega) _ | refine Below.drew ?_ | refine below_drewN ?_)))) (hiW.below (by (repeat (first | exact Below.refl _ _ | assumption | refine Below.alloc ?_ (by simp <;> omega) _ | refine Below.setCell ?_ (by simp <;> omega) _ | refine Below.drew ?_ | refine below_drewN ?_))))).mono ?_; rintro e w9 ⟨rfl, hb⟩
      have hd := hb
      replace hpm0 := keep hd hpm0
      replace hpm1 := keep hd hpm1
      replace hxm0 := keep hd hxm0
      replace hxm1 := keep hd hxm1
      replace hrXm := hrXm.below hd
      replace hMXa := hMXa.below hd
      replace hrG := hrG.below hd
      replace hiXm := hiXm.below hd
      replace hiXa := hiXa.below hd
      replace hiG := hiG.below hd
      replace hB := chain hB hd
      replace hXm := hxm.below hB
      replace hXa := hxa.below hB
      replace hC := chain hC hd
      replace hiW := hi0W.below hC
      have hs9 := hd.size
      clear hb hd
      go_wp2_with fail
      refine wp_region_join 40 41 42 43 44 (.agg #[.int .i64 sm, .slice aXm xm.length dXm]) (.agg #[.int .i64 sm, .slice om xm.length cm]) ?_ ?_
      · go_region_with (first | (go_at_call 14; refine (toMass_any sm om _ cm xm _ (hXm.below (drew_below _)) hnm).mono ?_; rintro e wa ⟨v, rfl, hrE, hba⟩; obtain ⟨aE, mE, dE, rfl, hiE⟩ := hrE.ints; obtain rfl := hiE.len; have hda := chain (drew_below _) hba; have hxm0 := keep hda hxm0; have hxm1 := keep hda hxm1) | (go_at_call 17; refine (eqMass_same _ _ _ _ _ _ _ _ (hiXm.below hda) hiE).mono ?_; rintro e wb ⟨rfl, hbb⟩))
        all_goals exact ⟨_, rfl, chain hda hbb⟩
      intro vE w10 hb
      have hd := hb
      replace hpm0 := keep hd hpm0
      replace hpm1 := keep hd hpm1
      replace hxm0 := keep hd hxm0
      replace hxm1 := keep hd hxm1
      replace hrXm := hrXm.below hd
      replace hMXa := hMXa.below hd
      replace hrG := hrG.below hd
      replace hiXm := hiXm.below hd
      replace hiXa := hiXa.below hd
      replace hiG := hiG.below hd
      replace hB := chain hB hd
      replace hXm := hxm.below hB
      replace hXa := hxa.below hB
      replace hC := chain hC hd
      replace hiW := hi0W.below hC
      have hs10 := hd.size
      clear hb hd
      go_wp2_with fail
      refine (toIntSS_any oa _ ca xa _ (hXa.below (by (repeat (first | exact Below.refl _ _ | assumption | refine Below.alloc ?_ (by simp <;> omega) _ | refine Below.setCell ?_ (by simp <;> omega) _ | refine Below.drew ?_ | refine below_drewN ?_)))) hna hka).mono ?_; rintro e w11 ⟨BEa, valsEa, rfl, hLoEa, hMEa, hb⟩
      have hiEa := hMEa.rowsAt rfl (by omega)
      have hd := hb
      replace hpm0 := keep hd hpm0
      replace hpm1 := keep hd hpm1
      replace hxm0 := keep hd hxm0
      replace hxm1 := keep hd hxm1
      replace hrXm := hrXm.below hd
      replace hMXa := hMXa.below hd
      replace hrG := hrG.below hd
      replace hiXm := hiXm.below hd
      replace hiXa := hiXa.below hd
      replace hiG := hiG.below hd
      replace hB := chain hB hd
      replace hXm := hxm.below hB
      replace hXa := hxa.below hB
      replace hC := chain hC hd
      replace hiW := hi0W.below hC
      have hs11 := hd.size
      clear hb hd
      go_wp2_with fail
      refine (eqIntSS_same _ _ _ _ _ _ _ (hiXa.below (by (repeat (first | exact Below.refl _ _ | assumption | refine Below.alloc ?_ (by simp <;> omega) _ | refine Below.setCell ?_ (by simp <;> omega) _ | refine Below.drew ?_ | refine below_drewN ?_)))) (hiEa.below (by (repeat (first | exact Below.refl _ _ | assumption | refine Below.alloc ?_ (by simp <;> omega) _ | refine Below.setCell ?_ (by simp <;> omega) _ | refine Below.drew ?_ | refine below_drewN ?_))))).mono ?_; rintro e w12 ⟨rfl, hb⟩
      have hd := hb
      replace hpm0 := keep hd hpm0
      replace hpm1 := keep hd hpm1
      replace hxm0 := keep hd hxm0
      replace hxm1 := keep hd hxm1
      replace hrXm := hrXm.below hd
      replace hMXa := hMXa.below hd
      replace hrG := hrG.below hd
      replace hMEa := hMEa.below hd
      replace hiXm := hiXm.below hd
      replace hiXa := hiXa.below hd
      replace hiG := hiG.below hd
      replace hiEa := hiEa.below hd
      replace hB := chain hB hd
      replace hXm := hxm.below hB
      replace hXa := hxa.below hB
      replace hC := chain hC hd
      replace hiW := hi0W.below hC
      have hs12 := hd.size
      clear hb hd
      clear hiEa hMEa
      clear hiG
      clear hiXm
      clear hiXa
      go_wp2_with fail
      refine (markMass_any _ _ _ _ (1) _ _ (hrXm) rfl hnm (by omega) (by omega)).mono ?_; rintro e w13 ⟨rfl, hm, hg⟩
      clear hm
      replace hMXa := Mat.grown hMXa hg (fun b e => by have := hvXm b e; omega)
      replace hpm0 := keepO hg hpm0 (fun e => by have := hvXm _ e.symm; omega)
      replace hpm1 := keepO hg hpm1 (fun e => by have := hvXm _ e.symm; omega)
      replace hxm0 := keepO hg hxm0 (fun e => by have := hvXm _ e.symm; omega)
      replace hxm1 := keepO hg hxm1 (fun e => by have := hvXm _ e.symm; omega)
      replace hrG := Row.apart hrG hg (fun b e b2 e2 => by have := hvG b e; have := hvXm b2 e2; omega)
      replace hB := below_grownBy hB hB.size hg (fun k e => by have := hvXm k e; omega)
      replace hXm := hxm.below hB
      replace hXa := hxa.below hB
      replace hC := below_grownBy hC hC.size hg (fun k e => by have := hvXm k e; omega)
      replace hiW := hi0W.below hC
      have hs13 := hg.size
      clear hg
      clear hrXm hvXm
      have hnnm : (0 : Int) ≤ (xm.length : Int) := by omega
      go_wp2_with fail
      refine (markIntSS_any BXa _ _ _ valsXa xa (1 + (xm.length : Int)) _ hMXa rfl hvXa hna hka (by omega) (by omega)).mono ?_; rintro e w14 ⟨rfl, hs⟩
      clear hMXa
      replace hpm0 := Span.keep hs hpm0 (by omega)
      replace hpm1 := Span.keep hs hpm1 (by omega)
      replace hxm0 := Span.keep hs hxm0 (by omega)
      replace hxm1 := Span.keep hs hxm1 (by omega)
      replace hrG := Span.row hs hrG (fun b e => by have := hvG b e; omega)
      replace hB := Span.below hB hB.size hs (by omega)
      replace hXm := hxm.below hB
      replace hXa := hxa.below hB
      replace hC := Span.below hC hC.size hs (by omega)
      replace hiW := hi0W.below hC
      have hs14 := hs.size
      clear hs
      have hnna : (0 : Int) ≤ (totTo xa xa.length : Int) := by omega
      obtain ⟨aH, nH, cH, eH, hiG⟩ := hrG.ints
      injection eH with e1 e2 e3
      subst e1 e2 e3
      go_wp2_with fail
      refine (eqIntS_same _ _ _ _ _ _ _ (hiG.below (by (repeat (first | exact Below.refl _ _ | assumption | refine Below.alloc ?_ (by simp <;> omega) _ | refine Below.setCell ?_ (by simp <;> omega) _ | refine Below.drew ?_ | refine below_drewN ?_)))) (hiW.below (by (repeat (first | exact Below.refl _ _ | assumption | refine Below.alloc ?_ (by simp <;> omega) _ | refine Below.setCell ?_ (by simp <;> omega) _ | refine Below.drew ?_ | refine below_drewN ?_))))).mono ?_; rintro e w15 ⟨rfl, hb⟩
      have hd := hb
      replace hpm0 := keep hd hpm0
      replace hpm1 := keep hd hpm1
      replace hxm0 := keep hd hxm0
      replace hxm1 := keep hd hxm1
      replace hrG := hrG.below hd
      replace hiG := hiG.below hd
      replace hB := chain hB hd
      replace hXm := hxm.below hB
      replace hXa := hxa.below hB
      replace hC := chain hC hd
      replace hiW := hi0W.below hC
      have hs15 := hd.size
      clear hb hd
      clear hiG
      go_wp2_with fail
      refine (markIntS_any _ _ _ 1 _ _ hrG rfl hlen (by omega) (by omega)).mono ?_; rintro e w16 ⟨rfl, hm, hg⟩
      replace hpm0 := keepO hg hpm0 (fun e => by have := hvG _ e.symm; omega)
      replace hpm1 := keepO hg hpm1 (fun e => by have := hvG _ e.symm; omega)
      replace hxm0 := keepO hg hxm0 (fun e => by have := hvG _ e.symm; omega)
      replace hxm1 := keepO hg hxm1 (fun e => by have := hvG _ e.symm; omega)
      replace hB := below_grownBy hB hB.size hg (fun k e => by have := hvG k e; omega)
      replace hXm := hxm.below hB
      replace hXa := hxa.below hB
      replace hC := below_grownBy hC hC.size hg (fun k e => by have := hvG k e; omega)
      replace hiW := hi0W.below hC
      have hs16 := hg.size
      clear hg
      clear hrG hvG
      obtain ⟨aH, nH, cH, eH, hk⟩ := hm.ints
      injection eH with e1 e2 e3
      subst e1 e2 e3
      clear hm
      have hn0 : (0 : Int) ≤ ((possL sm xm xa).length : Int) := by omega
      go_wp2_with fail
      refine (heldIntS_any _ _ _ 1 _ (hk.below (by (repeat (first | exact Below.refl _ _ | assumption | refine Below.alloc ?_ (by simp <;> omega) _ | refine Below.setCell ?_ (by simp <;> omega) _ | refine Below.drew ?_ | refine below_drewN ?_)))) hlen (by omega) (by omega)).mono ?_; rintro e w17 ⟨rfl, hw⟩
      have hb : Below w16.heap.size w16 w17 := hw ▸ Below.refl _ _
      clear hw
      have hd := hb
      replace hpm0 := keep hd hpm0
      replace hpm1 := keep hd hpm1
      replace hxm0 := keep hd hxm0
      replace hxm1 := keep hd hxm1
      replace hk := hk.below hd
      replace hB := chain hB hd
      replace hXm := hxm.below hB
      replace hXa := hxa.below hB
      replace hC := chain hC hd
      replace hiW := hi0W.below hC
      have hs17 := hd.size
      clear hb hd
      go_wp2_with fail
      refine (toMass_any sm om _ cm xm _ (hXm.below (by (repeat (first | exact Below.refl _ _ | assumption | refine Below.alloc ?_ (by simp <;> omega) _ | refine Below.setCell ?_ (by simp <;> omega) _ | refine Below.drew ?_ | refine below_drewN ?_)))) hnm).mono ?_; rintro e w18 ⟨v, rfl, hrYm, hb⟩
      obtain ⟨aYm, mYm, dYm, rfl, hiYm⟩ := hrYm.ints
      obtain rfl := hiYm.len
      have hvYm : ∀ b, (Value.slice aYm xm.length dYm).ownBlock = some b → w17.heap.size ≤ b ∧ b < w18.heap.size := fun b e => by have := hrYm.block b e; first | omega | (simp at this; omega)
      have hd := hb
      replace hpm0 := keep hd hpm0
      replace hpm1 := keep hd hpm1
      replace hxm0 := keep hd hxm0
      replace hxm1 := keep hd hxm1
      replace hk := hk.below hd
      replace hB := chain hB hd
      replace hXm := hxm.below hB
      replace hXa := hxa.below hB
      replace hC := chain hC hd
      replace hiW := hi0W.below hC
      have hs18 := hd.size
      clear hb hd
      go_wp2_with fail
      refine (toIntSS_any oa _ ca xa _ (hXa.below (by (repeat (first | exact Below.refl _ _ | assumption | refine Below.alloc ?_ (by simp <;> omega) _ | refine Below.setCell ?_ (by simp <;> omega) _ | refine Below.drew ?_ | refine below_drewN ?_)))) hna hka).mono ?_; rintro e w19 ⟨BYa, valsYa, rfl, hLoYa, hMYa, hb⟩
      have hiYa := hMYa.rowsAt rfl (by omega)
      have hd := hb
      replace hpm0 := keep hd hpm0
      replace hpm1 := keep hd hpm1
      replace hxm0 := keep hd hxm0
      replace hxm1 := keep hd hxm1
      replace hrYm := hrYm.below hd
      replace hk := hk.below hd
      replace hiYm := hiYm.below hd
      replace hB := chain hB hd
      replace hXm := hxm.below hB
      replace hXa := hxa.below hB
      replace hC := chain hC hd
      replace hiW := hi0W.below hC
      have hs19 := hd.size
      clear hb hd
      go_wp2_with fail
      refine (PossiblyBest_any sm _ _ _ _ _ _ xm xa _ (hiYm.below (by (repeat (first | exact Below.refl _ _ | assumption | refine Below.alloc ?_ (by simp <;> omega) _ | refine Below.setCell ?_ (by simp <;> omega) _ | refine Below.drew ?_ | refine below_drewN ?_)))) (hiYa.below (by (repeat (first | exact Below.refl _ _ | assumption | refine Below.alloc ?_ (by simp <;> omega) _ | refine Below.setCell ?_ (by simp <;> omega) _ | refine Below.drew ?_ | refine below_drewN ?_))))).mono ?_; rintro e w20 ⟨⟨v, rfl, hrZ⟩, hb⟩
      obtain ⟨aZ, mZ, dZ, rfl, hiZ⟩ := hrZ.ints
      obtain rfl := hiZ.len
      have hvZ : ∀ b, (Value.slice aZ (possL sm xm xa).length dZ).ownBlock = some b → w19.heap.size ≤ b ∧ b < w20.heap.size := fun b e => by have := hrZ.block b e; first | omega | (simp at this; omega)
      have hd := hb
      replace hpm0 := keep hd hpm0
      replace hpm1 := keep hd hpm1
      replace hxm0 := keep hd hxm0
      replace hxm1 := keep hd hxm1
      replace hrYm := hrYm.below hd
      replace hMYa := hMYa.below hd
      replace hk := hk.below hd
      replace hiYm := hiYm.below hd
      replace hiYa := hiYa.below hd
      replace hB := chain hB hd
      replace hXm := hxm.below hB
      replace hXa := hxa.below hB
      replace hC := chain hC hd
      replace hiW := hi0W.below hC
      have hs20 := hd.size
      clear hb hd
      go_wp2_with fail
      refine (eqIntS_same _ _ _ _ _ _ _ (hiZ.below (by (repeat (first | exact Below.refl _ _ | assumption | refine Below.alloc ?_ (by simp <;> omega) _ | refine Below.setCell ?_ (by simp <;> omega) _ | refine Below.drew ?_ | refine below_drewN ?_)))) (hiW.below (by (repeat (first | exact Below.refl _ _ | assumption | refine Below.alloc ?_ (by simp <;> omega) _ | refine Below.setCell ?_ (by simp <;> omega) _ | refine Below.drew ?_ | refine below_drewN ?_))))).mono ?_; rintro e w21 ⟨rfl, hb⟩
      have hd := hb
      replace hpm0 := keep hd hpm0
      replace hpm1 := keep hd hpm1
      replace hxm0 := keep hd hxm0
      replace hxm1 := keep hd hxm1
      replace hrYm := hrYm.below hd
      replace hMYa := hMYa.below hd
      replace hrZ := hrZ.below hd
      replace hk := hk.below hd
      replace hiYm := hiYm.below hd
      replace hiYa := hiYa.below hd
      replace hiZ := hiZ.below hd
      replace hB := chain hB hd
      replace hXm := hxm.below hB
      replace hXa := hxa.below hB
      replace hC := chain hC hd
      replace hiW := hi0W.below hC
      have hs21 := hd.size
      clear hb hd
      go_wp2_with fail
      refine (heldIntS_any _ _ _ 1 _ (hk.below (by (repeat (first | exact Below.refl _ _ | assumption | refine Below.alloc ?_ (by simp <;> omega) _ | refine Below.setCell ?_ (by simp <;> omega) _ | refine Below.drew ?_ | refine below_drewN ?_)))) hlen (by omega) (by omega)).mono ?_; rintro e w22 ⟨rfl, hw⟩
      have hb : Below w21.heap.size w21 w22 := hw ▸ Below.refl _ _
      clear hw
      have hd := hb
      replace hpm0 := keep hd hpm0
      replace hpm1 := keep hd hpm1
      replace hxm0 := keep hd hxm0
      replace hxm1 := keep hd hxm1
      replace hrYm := hrYm.below hd
      replace hMYa := hMYa.below hd
      replace hrZ := hrZ.below hd
      replace hk := hk.below hd
      replace hiYm := hiYm.below hd
      replace hiYa := hiYa.below hd
      replace hiZ := hiZ.below hd
      replace hB := chain hB hd
      replace hXm := hxm.below hB
      replace hXa := hxa.below hB
      replace hC := chain hC hd
      replace hiW := hi0W.below hC
      have hs22 := hd.size
      clear hb hd
      go_wp2
      go_ret
      exact ⟨rfl, hB⟩
end Go.Proofs.Ytchjnjmlambpjaa
