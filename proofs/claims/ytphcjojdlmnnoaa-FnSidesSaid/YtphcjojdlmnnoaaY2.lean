/- The law FnSides: its walk (printed by fngen.py). -/
import Derived.Test.YtphcjojdlmnnoaaD8
import Derived.Test.YtphcjojdlmnnoaaE2
import Derived.Test.YtphcjojdlmnnoaaN2
import Derived.Test.YtphcjojdlmnnoaaS8
import Derived.Test.YtphcjojdlmnnoaaS6
import Derived.Test.YtphcjojdlmnnoaaL6
set_option linter.unusedSimpArgs false
set_option linter.unusedVariables false
namespace Go.Proofs.Ytphcjojdlmnnoaa
open Go.RowKit
theorem keep3 {w w' : World} {a b c : Addr} {u v x : Value} (ha : w.cell? a = some u) (hb : w.cell? b = some v) (hc : w.cell? c = some x) (h : Below w.heap.size w w') : w'.cell? a = some u ∧ w'.cell? b = some v ∧ w'.cell? c = some x ∧ Below w.heap.size w w' := ⟨keep h ha, keep h hb, keep h hc, h⟩
set_option maxRecDepth 100000 in
set_option maxHeartbeats 4000000 in
theorem FnSides_walk (ao : Option Addr) (n c : Nat) (w : World) (hx : n ≤ 1048576 → BytesIn w w.heap.size ao n) (hnc : n ≤ c) (hcap : n ≤ 9223372036854775807) :
    Calls Try.prog 4 #[.slice ao n c] w fun e w' => e = .returned (.bool true) ∧ Below w.heap.size w w' := by
  by_cases hn : 1048576 < n
  · go_enter Try.func4, Try.ntmps4
    go_wp2
    go_ret
    exact ⟨rfl, Below.refl _ _⟩
  have HX := hid (hx (by omega))
  clear hx
  go_enter Try.func4, Try.ntmps4
  have hB := Below.refl w.heap.size w
  go_wp2_with fail
  refine (DrawExtendFirst_any ao n c _ HX.out hnc).mono ?_; rintro e w1 ⟨⟨s, p, xs, rfl, hr, hlx⟩, hb⟩
  have hd := hb
  replace hB := chain hB hd
  have hs1 := hd.size
  clear hb hd
  obtain ⟨am, nm, cm, rfl, him⟩ := hr.ints
  clear hr
  obtain ⟨rK, HK⟩ : ∃ r, Hid (extendM false s xs = r) := ⟨_, rfl⟩
  go_wp2_with fail
  refine (ExtendFirst_any s _ _ _ xs _ (him.below (by (repeat (first | exact Below.refl _ _ | assumption | refine Below.alloc ?_ (by first | omega | (simp <;> omega)) _ | refine Below.setCell ?_ (by first | omega | (simp <;> omega)) _ | refine Below.drew ?_ | refine below_drewN ?_))))).mono ?_; rw [HK.out]; rintro e w2 ⟨⟨vK, rfl, hrK⟩, hb⟩
  obtain ⟨aK, nK, cK, rfl, hiK⟩ := hrK.ints
  clear hrK
  have mm0 := keep hb (a := ⟨w1.heap.size, 0, none⟩) (v := .int .i64 s) (by simp)
  have mm1 := keep hb (a := ⟨w1.heap.size, 1, none⟩) (v := .slice am nm cm) (by simp)
  have hN1 : w1.heap.size < w2.heap.size := by have := World.block_lt_of_cell? w2 _ mm0; simpa using this
  have hd : Below w1.heap.size w1 w2 := Below.trans (by (repeat (first | exact Below.refl _ _ | assumption | refine Below.alloc ?_ (by first | omega | (simp <;> omega)) _ | refine Below.setCell ?_ (by first | omega | (simp <;> omega)) _ | refine Below.drew ?_ | refine below_drewN ?_))) (hb.mono (by simp <;> omega))
  replace him := him.below hd
  replace hB := chain hB hd
  have hs2 := hd.size
  clear hb hd
  obtain ⟨rQ, HQ⟩ : ∃ r, Hid (extendM false s xs = r) := ⟨_, rfl⟩
  go_wp2_with fail
  refine (specExtendFirst_any s _ _ _ xs _ (him.below (by (repeat (first | exact Below.refl _ _ | assumption | refine Below.alloc ?_ (by first | omega | (simp <;> omega)) _ | refine Below.setCell ?_ (by first | omega | (simp <;> omega)) _ | refine Below.drew ?_ | refine below_drewN ?_))))).mono ?_; rw [HQ.out]; rintro e w3 ⟨⟨vQ, rfl, hrQ⟩, hb⟩
  obtain ⟨aQ, nQ, cQ, rfl, hiQ⟩ := hrQ.ints
  clear hrQ
  have mK0 := keep hb (a := ⟨w2.heap.size, 0, none⟩) (v := .int .i64 rK.size) (by simp)
  have mK1 := keep hb (a := ⟨w2.heap.size, 1, none⟩) (v := .slice aK nK cK) (by simp)
  have hN2 : w2.heap.size < w3.heap.size := by have := World.block_lt_of_cell? w3 _ mK0; simpa using this
  have hd : Below w2.heap.size w2 w3 := Below.trans (by (repeat (first | exact Below.refl _ _ | assumption | refine Below.alloc ?_ (by first | omega | (simp <;> omega)) _ | refine Below.setCell ?_ (by first | omega | (simp <;> omega)) _ | refine Below.drew ?_ | refine below_drewN ?_))) (hb.mono (by simp <;> omega))
  replace mm0 := keep hd mm0
  replace mm1 := keep hd mm1
  replace him := him.below hd
  replace hiK := hiK.below hd
  replace hB := chain hB hd
  have hs3 := hd.size
  clear hb hd
  obtain ⟨rL, HL⟩ : ∃ r, Hid (extendM true s xs = r) := ⟨_, rfl⟩
  go_wp2_with fail
  refine (ExtendSecond_any s _ _ _ xs _ (him.below (by (repeat (first | exact Below.refl _ _ | assumption | refine Below.alloc ?_ (by first | omega | (simp <;> omega)) _ | refine Below.setCell ?_ (by first | omega | (simp <;> omega)) _ | refine Below.drew ?_ | refine below_drewN ?_))))).mono ?_; rw [HL.out]; rintro e w4 ⟨⟨vL, rfl, hrL⟩, hb⟩
  obtain ⟨aL, nL, cL, rfl, hiL⟩ := hrL.ints
  clear hrL
  have mQ0 := keep hb (a := ⟨w3.heap.size, 0, none⟩) (v := .int .i64 rQ.size) (by simp)
  have mQ1 := keep hb (a := ⟨w3.heap.size, 1, none⟩) (v := .slice aQ nQ cQ) (by simp)
  have hN3 : w3.heap.size < w4.heap.size := by have := World.block_lt_of_cell? w4 _ mQ0; simpa using this
  have hd : Below w3.heap.size w3 w4 := Below.trans (by (repeat (first | exact Below.refl _ _ | assumption | refine Below.alloc ?_ (by first | omega | (simp <;> omega)) _ | refine Below.setCell ?_ (by first | omega | (simp <;> omega)) _ | refine Below.drew ?_ | refine below_drewN ?_))) (hb.mono (by simp <;> omega))
  replace mm0 := keep hd mm0
  replace mm1 := keep hd mm1
  replace mK0 := keep hd mK0
  replace mK1 := keep hd mK1
  replace him := him.below hd
  replace hiK := hiK.below hd
  replace hiQ := hiQ.below hd
  replace hB := chain hB hd
  have hs4 := hd.size
  clear hb hd
  obtain ⟨rR, HR⟩ : ∃ r, Hid (extendM true s xs = r) := ⟨_, rfl⟩
  go_wp2_with fail
  refine (specExtendSecond_any s _ _ _ xs _ (him.below (by (repeat (first | exact Below.refl _ _ | assumption | refine Below.alloc ?_ (by first | omega | (simp <;> omega)) _ | refine Below.setCell ?_ (by first | omega | (simp <;> omega)) _ | refine Below.drew ?_ | refine below_drewN ?_))))).mono ?_; rw [HR.out]; rintro e w5 ⟨⟨vR, rfl, hrR⟩, hb⟩
  obtain ⟨aR, nR, cR, rfl, hiR⟩ := hrR.ints
  clear hrR
  have mL0 := keep hb (a := ⟨w4.heap.size, 0, none⟩) (v := .int .i64 rL.size) (by simp)
  have mL1 := keep hb (a := ⟨w4.heap.size, 1, none⟩) (v := .slice aL nL cL) (by simp)
  have hN4 : w4.heap.size < w5.heap.size := by have := World.block_lt_of_cell? w5 _ mL0; simpa using this
  have hd : Below w4.heap.size w4 w5 := Below.trans (by (repeat (first | exact Below.refl _ _ | assumption | refine Below.alloc ?_ (by first | omega | (simp <;> omega)) _ | refine Below.setCell ?_ (by first | omega | (simp <;> omega)) _ | refine Below.drew ?_ | refine below_drewN ?_))) (hb.mono (by simp <;> omega))
  replace mm0 := keep hd mm0
  replace mm1 := keep hd mm1
  replace mK0 := keep hd mK0
  replace mK1 := keep hd mK1
  replace mQ0 := keep hd mQ0
  replace mQ1 := keep hd mQ1
  replace him := him.below hd
  replace hiK := hiK.below hd
  replace hiQ := hiQ.below hd
  replace hiL := hiL.below hd
  replace hB := chain hB hd
  have hs5 := hd.size
  clear hb hd
  have HE : Hid (rQ = rK) := HQ.out.symm.trans HK.out
  have HF : Hid (rR = rL) := HR.out.symm.trans HL.out
  have hoo : rL.ok = rK.ok := by rw [← HL.out, ← HK.out, extend_okb, extend_okb]
  cases ho : rK.ok
  · rw [ho] at hoo
    have ho2 : rQ.ok = false := by rw [HE.out]; exact ho
    have ho3 : rR.ok = false := by rw [HF.out]; exact hoo
    go_wp2_with fail
    refine (weEqual_eq _ _ _ _ _ _ _ _ _ _ _ (hiK.below (by (repeat (first | exact Below.refl _ _ | assumption | refine Below.alloc ?_ (by first | omega | (simp <;> omega)) _ | refine Below.setCell ?_ (by first | omega | (simp <;> omega)) _ | refine Below.drew ?_ | refine below_drewN ?_)))) (hiQ.below (by (repeat (first | exact Below.refl _ _ | assumption | refine Below.alloc ?_ (by first | omega | (simp <;> omega)) _ | refine Below.setCell ?_ (by first | omega | (simp <;> omega)) _ | refine Below.drew ?_ | refine below_drewN ?_)))) (by rw [HE.out]) (by rw [HE.out])).mono ?_; rintro e w6 ⟨rfl, hb⟩
    have mR0 := keep hb (a := ⟨w5.heap.size, 0, none⟩) (v := .int .i64 rR.size) (by simp)
    have mR1 := keep hb (a := ⟨w5.heap.size, 1, none⟩) (v := .slice aR nR cR) (by simp)
    have hN5 : w5.heap.size < w6.heap.size := by have := World.block_lt_of_cell? w6 _ mR0; simpa using this
    have hd : Below w5.heap.size w5 w6 := Below.trans (by (repeat (first | exact Below.refl _ _ | assumption | refine Below.alloc ?_ (by first | omega | (simp <;> omega)) _ | refine Below.setCell ?_ (by first | omega | (simp <;> omega)) _ | refine Below.drew ?_ | refine below_drewN ?_))) (hb.mono (by simp <;> omega))
    replace mm0 := keep hd mm0
    replace mm1 := keep hd mm1
    replace mK0 := keep hd mK0
    replace mK1 := keep hd mK1
    replace mQ0 := keep hd mQ0
    replace mQ1 := keep hd mQ1
    replace mL0 := keep hd mL0
    replace mL1 := keep hd mL1
    replace him := him.below hd
    replace hiK := hiK.below hd
    replace hiQ := hiQ.below hd
    replace hiL := hiL.below hd
    replace hiR := hiR.below hd
    replace hB := chain hB hd
    have hs6 := hd.size
    clear hb hd
    go_wp2_with fail
    refine (weEqual_eq _ _ _ _ _ _ _ _ _ _ _ hiL hiR (by rw [HF.out]) (by rw [HF.out])).mono ?_; rintro e w7 ⟨rfl, hb⟩
    have hd := hb
    replace mm0 := keep hd mm0
    replace mm1 := keep hd mm1
    replace mK0 := keep hd mK0
    replace mK1 := keep hd mK1
    replace mQ0 := keep hd mQ0
    replace mQ1 := keep hd mQ1
    replace mL0 := keep hd mL0
    replace mL1 := keep hd mL1
    replace mR0 := keep hd mR0
    replace mR1 := keep hd mR1
    replace him := him.below hd
    replace hiK := hiK.below hd
    replace hiQ := hiQ.below hd
    replace hiL := hiL.below hd
    replace hiR := hiR.below hd
    replace hB := chain hB hd
    have hs7 := hd.size
    clear hb hd
    go_wp2_with fail
    refine (weEqual_eq _ _ _ _ _ _ _ _ _ _ _ hiK hiQ (by rw [HE.out]) (by rw [HE.out])).mono ?_; rintro e w8 ⟨rfl, hb⟩
    have hd := hb
    replace mm0 := keep hd mm0
    replace mm1 := keep hd mm1
    replace mK0 := keep hd mK0
    replace mK1 := keep hd mK1
    replace mQ0 := keep hd mQ0
    replace mQ1 := keep hd mQ1
    replace mL0 := keep hd mL0
    replace mL1 := keep hd mL1
    replace mR0 := keep hd mR0
    replace mR1 := keep hd mR1
    replace him := him.below hd
    replace hiK := hiK.below hd
    replace hiQ := hiQ.below hd
    replace hiL := hiL.below hd
    replace hiR := hiR.below hd
    replace hB := chain hB hd
    have hs8 := hd.size
    clear hb hd
    go_wp2_with fail
    refine (weEqual_eq _ _ _ _ _ _ _ _ _ _ _ hiL hiR (by rw [HF.out]) (by rw [HF.out])).mono ?_; rintro e w9 ⟨rfl, hb⟩
    have hd := hb
    replace mm0 := keep hd mm0
    replace mm1 := keep hd mm1
    replace mK0 := keep hd mK0
    replace mK1 := keep hd mK1
    replace mQ0 := keep hd mQ0
    replace mQ1 := keep hd mQ1
    replace mL0 := keep hd mL0
    replace mL1 := keep hd mL1
    replace mR0 := keep hd mR0
    replace mR1 := keep hd mR1
    replace him := him.below hd
    replace hiK := hiK.below hd
    replace hiQ := hiQ.below hd
    replace hiL := hiL.below hd
    replace hiR := hiR.below hd
    replace hB := chain hB hd
    have hs9 := hd.size
    clear hb hd
    go_wp2
    go_ret
    exact ⟨rfl, hB⟩
  · rw [ho] at hoo
    have ho2 : rQ.ok = true := by rw [HE.out]; exact ho
    have ho3 : rR.ok = true := by rw [HF.out]; exact hoo
    go_wp2_with fail
    refine (weEqual_eq _ _ _ _ _ _ _ _ _ _ _ (hiK.below (by (repeat (first | exact Below.refl _ _ | assumption | refine Below.alloc ?_ (by first | omega | (simp <;> omega)) _ | refine Below.setCell ?_ (by first | omega | (simp <;> omega)) _ | refine Below.drew ?_ | refine below_drewN ?_)))) (hiQ.below (by (repeat (first | exact Below.refl _ _ | assumption | refine Below.alloc ?_ (by first | omega | (simp <;> omega)) _ | refine Below.setCell ?_ (by first | omega | (simp <;> omega)) _ | refine Below.drew ?_ | refine below_drewN ?_)))) (by rw [HE.out]) (by rw [HE.out])).mono ?_; rintro e w6 ⟨rfl, hb⟩
    have mR0 := keep hb (a := ⟨w5.heap.size, 0, none⟩) (v := .int .i64 rR.size) (by simp)
    have mR1 := keep hb (a := ⟨w5.heap.size, 1, none⟩) (v := .slice aR nR cR) (by simp)
    have hN6 : w5.heap.size < w6.heap.size := by have := World.block_lt_of_cell? w6 _ mR0; simpa using this
    have hd : Below w5.heap.size w5 w6 := Below.trans (by (repeat (first | exact Below.refl _ _ | assumption | refine Below.alloc ?_ (by first | omega | (simp <;> omega)) _ | refine Below.setCell ?_ (by first | omega | (simp <;> omega)) _ | refine Below.drew ?_ | refine below_drewN ?_))) (hb.mono (by simp <;> omega))
    replace mm0 := keep hd mm0
    replace mm1 := keep hd mm1
    replace mK0 := keep hd mK0
    replace mK1 := keep hd mK1
    replace mQ0 := keep hd mQ0
    replace mQ1 := keep hd mQ1
    replace mL0 := keep hd mL0
    replace mL1 := keep hd mL1
    replace him := him.below hd
    replace hiK := hiK.below hd
    replace hiQ := hiQ.below hd
    replace hiL := hiL.below hd
    replace hiR := hiR.below hd
    replace hB := chain hB hd
    have hs6 := hd.size
    clear hb hd
    go_wp2_with fail
    refine (weEqual_eq _ _ _ _ _ _ _ _ _ _ _ hiL hiR (by rw [HF.out]) (by rw [HF.out])).mono ?_; rintro e w7 ⟨rfl, hb⟩
    have hd := hb
    replace mm0 := keep hd mm0
    replace mm1 := keep hd mm1
    replace mK0 := keep hd mK0
    replace mK1 := keep hd mK1
    replace mQ0 := keep hd mQ0
    replace mQ1 := keep hd mQ1
    replace mL0 := keep hd mL0
    replace mL1 := keep hd mL1
    replace mR0 := keep hd mR0
    replace mR1 := keep hd mR1
    replace him := him.below hd
    replace hiK := hiK.below hd
    replace hiQ := hiQ.below hd
    replace hiL := hiL.below hd
    replace hiR := hiR.below hd
    replace hB := chain hB hd
    have hs7 := hd.size
    clear hb hd
    have hms : massOk s xs = true ∧ s = 2 := by
      have h1 := extend_okb false s xs
      rw [HK.out, ho] at h1
      have h2 := h1.symm
      rw [Bool.and_eq_true, beq_iff_eq] at h2; exact h2
    obtain ⟨hm, rfl⟩ := hms
    obtain ⟨rA, HA⟩ : ∃ r, Hid (sideM false rK.size rK.parts = r) := ⟨_, rfl⟩
    go_wp2_with fail
    refine (FirstOf_any _ _ _ _ rK.parts _ hiK).mono ?_; rw [HA.out]; rintro e w8 ⟨⟨vA, rfl, hrA⟩, hb⟩
    obtain ⟨aA, nA, cA, rfl, hiA⟩ := hrA.ints
    clear hrA
    have hd := hb
    replace mm0 := keep hd mm0
    replace mm1 := keep hd mm1
    replace mK0 := keep hd mK0
    replace mK1 := keep hd mK1
    replace mQ0 := keep hd mQ0
    replace mQ1 := keep hd mQ1
    replace mL0 := keep hd mL0
    replace mL1 := keep hd mL1
    replace mR0 := keep hd mR0
    replace mR1 := keep hd mR1
    replace him := him.below hd
    replace hiK := hiK.below hd
    replace hiQ := hiQ.below hd
    replace hiL := hiL.below hd
    replace hiR := hiR.below hd
    replace hB := chain hB hd
    have hs8 := hd.size
    clear hb hd
    obtain ⟨rB, HB⟩ : ∃ r, Hid (sideM true rL.size rL.parts = r) := ⟨_, rfl⟩
    go_wp2_with fail
    refine (SecondOf_any _ _ _ _ rL.parts _ (hiL.below (by (repeat (first | exact Below.refl _ _ | assumption | refine Below.alloc ?_ (by first | omega | (simp <;> omega)) _ | refine Below.setCell ?_ (by first | omega | (simp <;> omega)) _ | refine Below.drew ?_ | refine below_drewN ?_))))).mono ?_; rw [HB.out]; rintro e w9 ⟨⟨vB, rfl, hrB⟩, hb⟩
    obtain ⟨aB, nB, cB, rfl, hiB⟩ := hrB.ints
    clear hrB
    have mA0 := keep hb (a := ⟨w8.heap.size, 0, none⟩) (v := .int .i64 rA.size) (by simp)
    have mA1 := keep hb (a := ⟨w8.heap.size, 1, none⟩) (v := .slice aA nA cA) (by simp)
    have hN7 : w8.heap.size < w9.heap.size := by have := World.block_lt_of_cell? w9 _ mA0; simpa using this
    have hd : Below w8.heap.size w8 w9 := Below.trans (by (repeat (first | exact Below.refl _ _ | assumption | refine Below.alloc ?_ (by first | omega | (simp <;> omega)) _ | refine Below.setCell ?_ (by first | omega | (simp <;> omega)) _ | refine Below.drew ?_ | refine below_drewN ?_))) (hb.mono (by simp <;> omega))
    replace mm0 := keep hd mm0
    replace mm1 := keep hd mm1
    replace mK0 := keep hd mK0
    replace mK1 := keep hd mK1
    replace mQ0 := keep hd mQ0
    replace mQ1 := keep hd mQ1
    replace mL0 := keep hd mL0
    replace mL1 := keep hd mL1
    replace mR0 := keep hd mR0
    replace mR1 := keep hd mR1
    replace him := him.below hd
    replace hiK := hiK.below hd
    replace hiQ := hiQ.below hd
    replace hiL := hiL.below hd
    replace hiR := hiR.below hd
    replace hiA := hiA.below hd
    replace hB := chain hB hd
    have hs9 := hd.size
    clear hb hd
    obtain ⟨rS, HS⟩ : ∃ r, Hid (swapM rK.size rK.parts = r) := ⟨_, rfl⟩
    go_wp2_with fail
    refine (SwapPairs_any _ _ _ _ rK.parts _ (hiK.below (by (repeat (first | exact Below.refl _ _ | assumption | refine Below.alloc ?_ (by first | omega | (simp <;> omega)) _ | refine Below.setCell ?_ (by first | omega | (simp <;> omega)) _ | refine Below.drew ?_ | refine below_drewN ?_))))).mono ?_; rw [HS.out]; rintro e w10 ⟨⟨vS, rfl, hrS⟩, hb⟩
    obtain ⟨aS, nS, cS, rfl, hiS⟩ := hrS.ints
    clear hrS
    have mB0 := keep hb (a := ⟨w9.heap.size, 0, none⟩) (v := .int .i64 rB.size) (by simp)
    have mB1 := keep hb (a := ⟨w9.heap.size, 1, none⟩) (v := .slice aB nB cB) (by simp)
    have hN8 : w9.heap.size < w10.heap.size := by have := World.block_lt_of_cell? w10 _ mB0; simpa using this
    have hd : Below w9.heap.size w9 w10 := Below.trans (by (repeat (first | exact Below.refl _ _ | assumption | refine Below.alloc ?_ (by first | omega | (simp <;> omega)) _ | refine Below.setCell ?_ (by first | omega | (simp <;> omega)) _ | refine Below.drew ?_ | refine below_drewN ?_))) (hb.mono (by simp <;> omega))
    replace mm0 := keep hd mm0
    replace mm1 := keep hd mm1
    replace mK0 := keep hd mK0
    replace mK1 := keep hd mK1
    replace mQ0 := keep hd mQ0
    replace mQ1 := keep hd mQ1
    replace mL0 := keep hd mL0
    replace mL1 := keep hd mL1
    replace mR0 := keep hd mR0
    replace mR1 := keep hd mR1
    replace mA0 := keep hd mA0
    replace mA1 := keep hd mA1
    replace him := him.below hd
    replace hiK := hiK.below hd
    replace hiQ := hiQ.below hd
    replace hiL := hiL.below hd
    replace hiR := hiR.below hd
    replace hiA := hiA.below hd
    replace hiB := hiB.below hd
    replace hB := chain hB hd
    have hs10 := hd.size
    clear hb hd
    obtain ⟨rO, HO⟩ : ∃ r, Hid (sideM true rK.size rK.parts = r) := ⟨_, rfl⟩
    go_wp2_with fail
    refine (SecondOf_any _ _ _ _ rK.parts _ (hiK.below (by (repeat (first | exact Below.refl _ _ | assumption | refine Below.alloc ?_ (by first | omega | (simp <;> omega)) _ | refine Below.setCell ?_ (by first | omega | (simp <;> omega)) _ | refine Below.drew ?_ | refine below_drewN ?_))))).mono ?_; rw [HO.out]; rintro e w11 ⟨⟨vO, rfl, hrO⟩, hb⟩
    obtain ⟨aO, nO, cO, rfl, hiO⟩ := hrO.ints
    clear hrO
    have mS0 := keep hb (a := ⟨w10.heap.size, 0, none⟩) (v := .int .i64 rS.size) (by simp)
    have mS1 := keep hb (a := ⟨w10.heap.size, 1, none⟩) (v := .slice aS nS cS) (by simp)
    have hN9 : w10.heap.size < w11.heap.size := by have := World.block_lt_of_cell? w11 _ mS0; simpa using this
    have hd : Below w10.heap.size w10 w11 := Below.trans (by (repeat (first | exact Below.refl _ _ | assumption | refine Below.alloc ?_ (by first | omega | (simp <;> omega)) _ | refine Below.setCell ?_ (by first | omega | (simp <;> omega)) _ | refine Below.drew ?_ | refine below_drewN ?_))) (hb.mono (by simp <;> omega))
    replace mm0 := keep hd mm0
    replace mm1 := keep hd mm1
    replace mK0 := keep hd mK0
    replace mK1 := keep hd mK1
    replace mQ0 := keep hd mQ0
    replace mQ1 := keep hd mQ1
    replace mL0 := keep hd mL0
    replace mL1 := keep hd mL1
    replace mR0 := keep hd mR0
    replace mR1 := keep hd mR1
    replace mA0 := keep hd mA0
    replace mA1 := keep hd mA1
    replace mB0 := keep hd mB0
    replace mB1 := keep hd mB1
    replace him := him.below hd
    replace hiK := hiK.below hd
    replace hiQ := hiQ.below hd
    replace hiL := hiL.below hd
    replace hiR := hiR.below hd
    replace hiA := hiA.below hd
    replace hiB := hiB.below hd
    replace hiS := hiS.below hd
    replace hB := chain hB hd
    have hs11 := hd.size
    clear hb hd
    have E1 : Hid (rA = ⟨2, xs, true⟩) := by rw [← HA.out, ← HK.out]; exact side_extend false hm
    have E2 : Hid (rB = ⟨2, xs, true⟩) := by rw [← HB.out, ← HL.out]; exact side_extend true hm
    have E3 : Hid (rS = rL) := by rw [← HS.out, ← HL.out, ← HK.out]; exact swap_extend hm
    have E4 := hid (other_extend hm)
    rw [HK.out, HO.out] at E4
    have hwh : wholeM 2 xs = isum xs := by unfold wholeM; rw [hm]; rfl
    obtain ⟨hss1, hss2, hss3, hss4⟩ : 1 ≤ isum xs ∧ isum xs ≤ 1000000 ∧ 0 ≤ nth xs 0 ∧ nth xs 0 ≤ 1000000 := by obtain ⟨_, q1, _, q2, q3, q4, _⟩ := massOk_facts hm; have q5 := q2 0 (by rw [q1, ns2]; omega); omega
    have hnm : nm = 4 := by have q1 := (massOk_facts hm).2.1; rw [ns2] at q1; rw [← him.len]; exact q1
    subst hnm
    have hwr : IntKind.i64.wrap (isum xs - nth xs 0) = isum xs - nth xs 0 := IntWalk.i64_in _ (by omega)
    go_wp2
    obtain ⟨w12, hww12⟩ : ∃ W, (w11.alloc (.cells #[.int .i64 rO.size, .slice aO nO cO] 29)) = W := ⟨_, rfl⟩
    rw [hww12]
    have hd : Below w11.heap.size w11 w12 := by rw [← hww12]; (repeat (first | exact Below.refl _ _ | assumption | refine Below.alloc ?_ (by first | omega | (simp <;> omega)) _ | refine Below.setCell ?_ (by first | omega | (simp <;> omega)) _ | refine Below.drew ?_ | refine below_drewN ?_))
    have mO0 : w12.cell? ⟨w11.heap.size, 0, none⟩ = some (.int .i64 rO.size) := by rw [← hww12]; simp
    have mO1 : w12.cell? ⟨w11.heap.size, 1, none⟩ = some (.slice aO nO cO) := by rw [← hww12]; simp
    have hN10 : w11.heap.size < w12.heap.size := by rw [← hww12]; simp
    replace mm0 := keep hd mm0
    replace mm1 := keep hd mm1
    replace mK0 := keep hd mK0
    replace mK1 := keep hd mK1
    replace mQ0 := keep hd mQ0
    replace mQ1 := keep hd mQ1
    replace mL0 := keep hd mL0
    replace mL1 := keep hd mL1
    replace mR0 := keep hd mR0
    replace mR1 := keep hd mR1
    replace mA0 := keep hd mA0
    replace mA1 := keep hd mA1
    replace mB0 := keep hd mB0
    replace mB1 := keep hd mB1
    replace mS0 := keep hd mS0
    replace mS1 := keep hd mS1
    replace him := him.below hd
    replace hiK := hiK.below hd
    replace hiQ := hiQ.below hd
    replace hiL := hiL.below hd
    replace hiR := hiR.below hd
    replace hiA := hiA.below hd
    replace hiB := hiB.below hd
    replace hiS := hiS.below hd
    replace hiO := hiO.below hd
    replace hB := chain hB hd
    have hs12 := hd.size
    clear hd hww12
    obtain ⟨bm, om, rfl, hbm1, hbm2, hcm⟩ := him.at (Below.refl _ _) (show 0 < 4 by omega)
    rw [Nat.add_zero] at hcm
    refine wp_region_joinF (ι := Nat × Nat) (fun a p => (Act.put (Act.put (Act.put (Act.put (Act.put (Act.put (Act.put (Act.put (Act.put (Act.put (Act.put (Act.put (Act.put (Act.put a (some 119) (.pointer (some ⟨w1.heap.size, 1, none⟩))) (some 120) (.slice (some ⟨bm, om, none⟩) 4 cm)) (some 121) (.pointer (some ⟨bm, om, none⟩))) (some 122) (.int .i64 (nth xs 0))) (some 123) (.agg #[.int .i64 2, .slice (some ⟨bm, om, none⟩) 4 cm])) (some 124) (.int .i64 (isum xs))) (some 125) (.pointer (some ⟨w1.heap.size, 1, none⟩))) (some 126) (.slice (some ⟨bm, om, none⟩) 4 cm)) (some 127) (.pointer (some ⟨bm, om, none⟩))) (some 128) (.int .i64 (nth xs 0))) (some 129) (.int .i64 (isum xs - nth xs 0))) (some 130) (.slice (some ⟨p.2, 0, none⟩) 4 4)) (some 131) (.agg #[.int .i64 2, .slice (some ⟨p.2, 0, none⟩) 4 4])) (some 20) (.pointer (some ⟨p.1, 0, none⟩)))) (fun p W => Bx W p.1 (.int .i64 2) (.slice (some ⟨p.2, 0, none⟩) 4 4) ∧ IntsAt W (some ⟨p.2, 0, none⟩) 4 [nth xs 0, 0, 0, isum xs - nth xs 0] ∧ Below w12.heap.size w12 W) ?_ ?_
    · clear hB mK0 mK1 mQ0 mQ1 mL0 mL1 mR0 mR1 mA0 mA1 mB0 mB1 mS0 mS1 mO0 mO1 hiK hiQ hiL hiR hiA hiB hiS hiO  HX HE HF E1 E2 E3 E4 ho ho2 ho3 hoo hs1 hs2 hs3 hs4 hs5 hs6 hs7 hs8 hs9 hs10 hs11 hs12
      (try clear hN1); (try clear hN2); (try clear hN3); (try clear hN4); (try clear hN5); (try clear hN6); (try clear hN7); (try clear hN8); (try clear hN9); (try clear hN10)
      go_region_held3 (fun w' => w'.cell? ⟨w1.heap.size, 0, none⟩ = some (.int .i64 2) ∧ w'.cell? ⟨w1.heap.size, 1, none⟩ = some (.slice (some ⟨bm, om, none⟩) 4 cm) ∧ w'.cell? ⟨bm, om, none⟩ = some (.int .i64 (nth xs 0)) ∧ Below w12.heap.size w12 w') (first | (refine keep3 mm0 mm1 hcm ?_; (repeat (first | exact Below.refl _ _ | assumption | refine Below.alloc ?_ (by first | omega | (simp <;> omega)) _ | refine Below.setCell ?_ (by first | omega | (simp <;> omega)) _ | refine Below.drew ?_ | refine below_drewN ?_)); done)) (first | (go_at_call 24; refine (WholeOf_any _ _ _ _ xs w12.drew (him.below (by (repeat (first | exact Below.refl _ _ | assumption | refine Below.alloc ?_ (by first | omega | (simp <;> omega)) _ | refine Below.setCell ?_ (by first | omega | (simp <;> omega)) _ | refine Below.drew ?_ | refine below_drewN ?_))))).mono ?_; rw [hwh]; rintro e wz ⟨rfl, hbz⟩; have hdz : Below w12.heap.size w12 wz := Below.trans (by (repeat (first | exact Below.refl _ _ | assumption | refine Below.alloc ?_ (by first | omega | (simp <;> omega)) _ | refine Below.setCell ?_ (by first | omega | (simp <;> omega)) _ | refine Below.drew ?_ | refine below_drewN ?_))) (hbz.mono (by simp <;> omega)); have mz0 := keep hdz mm0; have mz1 := keep hdz mm1; have hcz := keep hdz hcm; have hsz := hdz.size) | (go_at_call 24; refine (WholeOf_any _ _ _ _ xs (w12.alloc (.cells #[.int .i64 0, .slice none 0 0] 29)).drew (him.below (by (repeat (first | exact Below.refl _ _ | assumption | refine Below.alloc ?_ (by first | omega | (simp <;> omega)) _ | refine Below.setCell ?_ (by first | omega | (simp <;> omega)) _ | refine Below.drew ?_ | refine below_drewN ?_))))).mono ?_; rw [hwh]; rintro e wz ⟨rfl, hbz⟩; have hdz : Below w12.heap.size w12 wz := Below.trans (by (repeat (first | exact Below.refl _ _ | assumption | refine Below.alloc ?_ (by first | omega | (simp <;> omega)) _ | refine Below.setCell ?_ (by first | omega | (simp <;> omega)) _ | refine Below.drew ?_ | refine below_drewN ?_))) (hbz.mono (by simp <;> omega)); have mz0 := keep hdz mm0; have mz1 := keep hdz mm1; have hcz := keep hdz hcm; have hsz := hdz.size; have kb0 := keep hbz (a := ⟨w12.heap.size, 0, none⟩) (v := .int .i64 0) (by simp); have kb1 := keep hbz (a := ⟨w12.heap.size, 1, none⟩) (v := .slice none 0 0) (by simp); have kf0 := keepF hbz (a := ⟨w12.heap.size, 0, none⟩) (v := .int .i64 0) (by simp) (by simp); have kf1 := keepF hbz (a := ⟨w12.heap.size, 1, none⟩) (v := .slice none 0 0) (by simp) (by simp); have hlz : w12.heap.size < wz.heap.size := (by have h_z := hbz.size; simp at h_z; omega)))
      · refine ⟨(wz.heap.size + 1, wz.heap.size), by simp [Act.put, hwr], ⟨by simp, by simp, by simp, by simp, by simp <;> omega⟩, (ints_lit wz #[.int .i64 (nth xs 0), .int .i64 0, .int .i64 0, .int .i64 (isum xs - nth xs 0)] 3 [nth xs 0, 0, 0, isum xs - nth xs 0] wz.heap.size 4 rfl (by simp) rfl (by omega)).below (by (repeat (first | exact Below.refl _ _ | assumption | refine Below.alloc ?_ (by first | omega | (simp <;> omega)) _ | refine Below.setCell ?_ (by first | omega | (simp <;> omega)) _ | refine Below.drew ?_ | refine below_drewN ?_))), by (repeat (first | exact Below.refl _ _ | assumption | refine Below.alloc ?_ (by first | omega | (simp <;> omega)) _ | refine Below.setCell ?_ (by first | omega | (simp <;> omega)) _ | refine Below.drew ?_ | refine below_drewN ?_))⟩
      · refine ⟨(wz.heap.size, wz.heap.size + 1), by simp [Act.put, hwr], ⟨by simp, by simp, by simp, by simp, by simp <;> omega⟩, ints_lit _ _ _ [nth xs 0, 0, 0, isum xs - nth xs 0] _ 4 (by simp) (by simp [hwr]) rfl (by omega), by (repeat (first | exact Below.refl _ _ | assumption | refine Below.alloc ?_ (by first | omega | (simp <;> omega)) _ | refine Below.setCell ?_ (by first | omega | (simp <;> omega)) _ | refine Below.drew ?_ | refine below_drewN ?_))⟩
      · refine ⟨(w12.heap.size, wz.heap.size), by simp [Act.put, hwr], Bx.below (w := (wz.setCell ⟨w12.heap.size, 0, none⟩ (.int .i64 2)).setCell ⟨w12.heap.size, 1, none⟩ (.slice (some ⟨wz.heap.size, 0, none⟩) 4 4)) ⟨(World.cell?_setCell_other _ ⟨w12.heap.size, 1, none⟩ ⟨w12.heap.size, 0, none⟩ _ (by simp)).trans (World.cell?_setCell_same _ _ _ kb0), World.cell?_setCell_same _ _ _ ((World.cell?_setCell_other _ ⟨w12.heap.size, 0, none⟩ ⟨w12.heap.size, 1, none⟩ _ (by simp)).trans kb1), by simp [kb0, kb1, kf0, kf1], by simp [kb0, kb1, kf0, kf1], by simp <;> omega⟩ (below_alloc _ _), ints_lit _ _ _ [nth xs 0, 0, 0, isum xs - nth xs 0] _ 4 (by simp) (by simp [hwr]) rfl (by omega), by (repeat (first | exact Below.refl _ _ | assumption | refine Below.alloc ?_ (by first | omega | (simp <;> omega)) _ | refine Below.setCell ?_ (by first | omega | (simp <;> omega)) _ | refine Below.drew ?_ | refine below_drewN ?_))⟩
    · intro p w13 ⟨hbx, hilit, hb⟩
      have hd := hb
      replace mm0 := keep hd mm0
      replace mm1 := keep hd mm1
      replace mK0 := keep hd mK0
      replace mK1 := keep hd mK1
      replace mQ0 := keep hd mQ0
      replace mQ1 := keep hd mQ1
      replace mL0 := keep hd mL0
      replace mL1 := keep hd mL1
      replace mR0 := keep hd mR0
      replace mR1 := keep hd mR1
      replace mA0 := keep hd mA0
      replace mA1 := keep hd mA1
      replace mB0 := keep hd mB0
      replace mB1 := keep hd mB1
      replace mS0 := keep hd mS0
      replace mS1 := keep hd mS1
      replace mO0 := keep hd mO0
      replace mO1 := keep hd mO1
      replace him := him.below hd
      replace hiK := hiK.below hd
      replace hiQ := hiQ.below hd
      replace hiL := hiL.below hd
      replace hiR := hiR.below hd
      replace hiA := hiA.below hd
      replace hiB := hiB.below hd
      replace hiS := hiS.below hd
      replace hiO := hiO.below hd
      replace hB := chain hB hd
      have hs13 := hd.size
      clear hb hd
      have hn0 := hbx.c0
      have hn1 := hbx.c1
      clear hbx
      obtain ⟨rZ, HZ⟩ : ∃ r, Hid (mkMass 2 [nth xs 0, 0, 0, isum xs - nth xs 0] = r) := ⟨_, rfl⟩
      go_wp2_with fail
      refine (MakeMass_good 2 _ _ _ [nth xs 0, 0, 0, isum xs - nth xs 0] _ hilit okS2 ns2.symm E4.out.2.2).mono ?_; rw [HZ.out]; rintro e w14 ⟨⟨vZ, rfl, hrZ⟩, hb⟩
      obtain ⟨aZ, nZ, cZ, rfl, hiZ⟩ := hrZ.ints
      clear hrZ
      have hd := hb
      replace mm0 := keep hd mm0
      replace mm1 := keep hd mm1
      replace mK0 := keep hd mK0
      replace mK1 := keep hd mK1
      replace mQ0 := keep hd mQ0
      replace mQ1 := keep hd mQ1
      replace mL0 := keep hd mL0
      replace mL1 := keep hd mL1
      replace mR0 := keep hd mR0
      replace mR1 := keep hd mR1
      replace mA0 := keep hd mA0
      replace mA1 := keep hd mA1
      replace mB0 := keep hd mB0
      replace mB1 := keep hd mB1
      replace mS0 := keep hd mS0
      replace mS1 := keep hd mS1
      replace mO0 := keep hd mO0
      replace mO1 := keep hd mO1
      replace hn0 := keep hd hn0
      replace hn1 := keep hd hn1
      replace him := him.below hd
      replace hiK := hiK.below hd
      replace hiQ := hiQ.below hd
      replace hiL := hiL.below hd
      replace hiR := hiR.below hd
      replace hiA := hiA.below hd
      replace hiB := hiB.below hd
      replace hiS := hiS.below hd
      replace hiO := hiO.below hd
      replace hilit := hilit.below hd
      replace hB := chain hB hd
      have hs14 := hd.size
      clear hb hd
      have E5 : Hid (rO = rZ) := by rw [← HZ.out]; exact E4.out.1
      have g1 : rZ.ok = true := by rw [← HZ.out]; exact E4.out.2.1
      clear E4
      go_wp2_with fail
      refine (weEqual_eq _ _ _ _ _ _ _ _ _ _ _ (hiA.below (by (repeat (first | exact Below.refl _ _ | assumption | refine Below.alloc ?_ (by first | omega | (simp <;> omega)) _ | refine Below.setCell ?_ (by first | omega | (simp <;> omega)) _ | refine Below.drew ?_ | refine below_drewN ?_)))) (him.below (by (repeat (first | exact Below.refl _ _ | assumption | refine Below.alloc ?_ (by first | omega | (simp <;> omega)) _ | refine Below.setCell ?_ (by first | omega | (simp <;> omega)) _ | refine Below.drew ?_ | refine below_drewN ?_)))) (by rw [E1.out]) (by rw [E1.out])).mono ?_; rintro e w15 ⟨rfl, hb⟩
      have mZ0 := keep hb (a := ⟨w14.heap.size, 0, none⟩) (v := .int .i64 rZ.size) (by simp)
      have mZ1 := keep hb (a := ⟨w14.heap.size, 1, none⟩) (v := .slice aZ nZ cZ) (by simp)
      have hN11 : w14.heap.size < w15.heap.size := by have := World.block_lt_of_cell? w15 _ mZ0; simpa using this
      have hd : Below w14.heap.size w14 w15 := Below.trans (by (repeat (first | exact Below.refl _ _ | assumption | refine Below.alloc ?_ (by first | omega | (simp <;> omega)) _ | refine Below.setCell ?_ (by first | omega | (simp <;> omega)) _ | refine Below.drew ?_ | refine below_drewN ?_))) (hb.mono (by simp <;> omega))
      replace mm0 := keep hd mm0
      replace mm1 := keep hd mm1
      replace mK0 := keep hd mK0
      replace mK1 := keep hd mK1
      replace mQ0 := keep hd mQ0
      replace mQ1 := keep hd mQ1
      replace mL0 := keep hd mL0
      replace mL1 := keep hd mL1
      replace mR0 := keep hd mR0
      replace mR1 := keep hd mR1
      replace mA0 := keep hd mA0
      replace mA1 := keep hd mA1
      replace mB0 := keep hd mB0
      replace mB1 := keep hd mB1
      replace mS0 := keep hd mS0
      replace mS1 := keep hd mS1
      replace mO0 := keep hd mO0
      replace mO1 := keep hd mO1
      replace hn0 := keep hd hn0
      replace hn1 := keep hd hn1
      replace him := him.below hd
      replace hiK := hiK.below hd
      replace hiQ := hiQ.below hd
      replace hiL := hiL.below hd
      replace hiR := hiR.below hd
      replace hiA := hiA.below hd
      replace hiB := hiB.below hd
      replace hiS := hiS.below hd
      replace hiO := hiO.below hd
      replace hilit := hilit.below hd
      replace hiZ := hiZ.below hd
      replace hB := chain hB hd
      have hs15 := hd.size
      clear hb hd
      go_wp2_with fail
      refine (weEqual_eq _ _ _ _ _ _ _ _ _ _ _ hiB him (by rw [E2.out]) (by rw [E2.out])).mono ?_; rintro e w16 ⟨rfl, hb⟩
      have hd := hb
      replace mm0 := keep hd mm0
      replace mm1 := keep hd mm1
      replace mK0 := keep hd mK0
      replace mK1 := keep hd mK1
      replace mQ0 := keep hd mQ0
      replace mQ1 := keep hd mQ1
      replace mL0 := keep hd mL0
      replace mL1 := keep hd mL1
      replace mR0 := keep hd mR0
      replace mR1 := keep hd mR1
      replace mA0 := keep hd mA0
      replace mA1 := keep hd mA1
      replace mB0 := keep hd mB0
      replace mB1 := keep hd mB1
      replace mS0 := keep hd mS0
      replace mS1 := keep hd mS1
      replace mO0 := keep hd mO0
      replace mO1 := keep hd mO1
      replace hn0 := keep hd hn0
      replace hn1 := keep hd hn1
      replace mZ0 := keep hd mZ0
      replace mZ1 := keep hd mZ1
      replace him := him.below hd
      replace hiK := hiK.below hd
      replace hiQ := hiQ.below hd
      replace hiL := hiL.below hd
      replace hiR := hiR.below hd
      replace hiA := hiA.below hd
      replace hiB := hiB.below hd
      replace hiS := hiS.below hd
      replace hiO := hiO.below hd
      replace hilit := hilit.below hd
      replace hiZ := hiZ.below hd
      replace hB := chain hB hd
      have hs16 := hd.size
      clear hb hd
      go_wp2_with fail
      refine (weEqual_eq _ _ _ _ _ _ _ _ _ _ _ hiS hiL (by rw [E3.out]) (by rw [E3.out])).mono ?_; rintro e w17 ⟨rfl, hb⟩
      have hd := hb
      replace mm0 := keep hd mm0
      replace mm1 := keep hd mm1
      replace mK0 := keep hd mK0
      replace mK1 := keep hd mK1
      replace mQ0 := keep hd mQ0
      replace mQ1 := keep hd mQ1
      replace mL0 := keep hd mL0
      replace mL1 := keep hd mL1
      replace mR0 := keep hd mR0
      replace mR1 := keep hd mR1
      replace mA0 := keep hd mA0
      replace mA1 := keep hd mA1
      replace mB0 := keep hd mB0
      replace mB1 := keep hd mB1
      replace mS0 := keep hd mS0
      replace mS1 := keep hd mS1
      replace mO0 := keep hd mO0
      replace mO1 := keep hd mO1
      replace hn0 := keep hd hn0
      replace hn1 := keep hd hn1
      replace mZ0 := keep hd mZ0
      replace mZ1 := keep hd mZ1
      replace him := him.below hd
      replace hiK := hiK.below hd
      replace hiQ := hiQ.below hd
      replace hiL := hiL.below hd
      replace hiR := hiR.below hd
      replace hiA := hiA.below hd
      replace hiB := hiB.below hd
      replace hiS := hiS.below hd
      replace hiO := hiO.below hd
      replace hilit := hilit.below hd
      replace hiZ := hiZ.below hd
      replace hB := chain hB hd
      have hs17 := hd.size
      clear hb hd
      go_wp2_with fail
      refine (weEqual_eq _ _ _ _ _ _ _ _ _ _ _ hiO hiZ (by rw [E5.out]) (by rw [E5.out])).mono ?_; rintro e w18 ⟨rfl, hb⟩
      have hd := hb
      replace mm0 := keep hd mm0
      replace mm1 := keep hd mm1
      replace mK0 := keep hd mK0
      replace mK1 := keep hd mK1
      replace mQ0 := keep hd mQ0
      replace mQ1 := keep hd mQ1
      replace mL0 := keep hd mL0
      replace mL1 := keep hd mL1
      replace mR0 := keep hd mR0
      replace mR1 := keep hd mR1
      replace mA0 := keep hd mA0
      replace mA1 := keep hd mA1
      replace mB0 := keep hd mB0
      replace mB1 := keep hd mB1
      replace mS0 := keep hd mS0
      replace mS1 := keep hd mS1
      replace mO0 := keep hd mO0
      replace mO1 := keep hd mO1
      replace hn0 := keep hd hn0
      replace hn1 := keep hd hn1
      replace mZ0 := keep hd mZ0
      replace mZ1 := keep hd mZ1
      replace him := him.below hd
      replace hiK := hiK.below hd
      replace hiQ := hiQ.below hd
      replace hiL := hiL.below hd
      replace hiR := hiR.below hd
      replace hiA := hiA.below hd
      replace hiB := hiB.below hd
      replace hiS := hiS.below hd
      replace hiO := hiO.below hd
      replace hilit := hilit.below hd
      replace hiZ := hiZ.below hd
      replace hB := chain hB hd
      have hs18 := hd.size
      clear hb hd
      go_wp2
      go_ret
      exact ⟨rfl, hB⟩
end Go.Proofs.Ytphcjojdlmnnoaa
