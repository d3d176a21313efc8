/- The law FnRuleMass: its walk (printed by fngen.py). -/
import Derived.Test.YtphcjojdlmnnoaaD7
import Derived.Test.YtphcjojdlmnnoaaE1
import Derived.Test.YtphcjojdlmnnoaaN1
import Derived.Test.YtphcjojdlmnnoaaS10
import Derived.Test.YtphcjojdlmnnoaaS6
set_option linter.unusedSimpArgs false
set_option linter.unusedVariables false
namespace Go.Proofs.Ytphcjojdlmnnoaa
open Go.RowKit
theorem NoEvidence2 (w : World) : Calls Try.prog 15 #[.int .i64 2] w fun e w' => RetM (sureM 2 3) w.heap.size e w' ∧ Below w.heap.size w w' := by
  have h := NoEvidence_any 2 w
  have e : ((nsets 2 : Int) - 1) = 3 := by decide
  rwa [e] at h
theorem rule_at {x y nu de : Int} {A : Nat} (h : inB 0 1 x = true) (h2 : inB 0 1 y = true) (e : (15 : Int) - 2 ^ (2 * x + 1 - y).toNat = (A : Int)) : ruleM x y nu de = simpleM 4 A nu de := by
  unfold ruleM; rw [h, h2, e]; rfl
theorem rule_law {x y nu de sx so ty x1 y1 : Int} (hc : (x = 0 ∧ y = 0 ∧ sx = 1 ∧ so = 2 ∧ ty = 1 ∧ x1 = 1 ∧ y1 = 1) ∨ (x = 0 ∧ y = 1 ∧ sx = 1 ∧ so = 2 ∧ ty = 2 ∧ x1 = 0 ∧ y1 = 1) ∨ (x = 1 ∧ y = 0 ∧ sx = 2 ∧ so = 1 ∧ ty = 1 ∧ x1 = 1 ∧ y1 = 0) ∨ (x = 1 ∧ y = 1 ∧ sx = 2 ∧ so = 1 ∧ ty = 2 ∧ x1 = 0 ∧ y1 = 0)) (h : (ruleM x y nu de).ok = true) :
    (passM (sureM 2 sx).size (sureM 2 sx).parts (ruleM x y nu de).size (ruleM x y nu de).parts = simpleM 2 ty nu de ∧ (passM (sureM 2 sx).size (sureM 2 sx).parts (ruleM x y nu de).size (ruleM x y nu de).parts).ok = true) ∧
    (passM (sureM 2 so).size (sureM 2 so).parts (ruleM x y nu de).size (ruleM x y nu de).parts = sureM 2 3 ∧ (passM (sureM 2 so).size (sureM 2 so).parts (ruleM x y nu de).size (ruleM x y nu de).parts).ok = true) ∧
    (swapM (ruleM x y nu de).size (ruleM x y nu de).parts = ruleM x1 y1 nu de ∧ (ruleM x1 y1 nu de).ok = true) := by
  rcases hc with ⟨rfl, rfl, rfl, rfl, rfl, rfl, rfl⟩ | ⟨rfl, rfl, rfl, rfl, rfl, rfl, rfl⟩ | ⟨rfl, rfl, rfl, rfl, rfl, rfl, rfl⟩ | ⟨rfl, rfl, rfl, rfl, rfl, rfl, rfl⟩
  · rw [rule_at (x := 0) (y := 0) (A := 13) (by decide) (by decide) (by decide)] at h ⊢
    rw [rule_at (x := 1) (y := 1) (A := 11) (by decide) (by decide) (by decide), show sureM 2 1 = _ from sure2 1 (by omega), show sureM 2 2 = _ from sure2 2 (by omega)]
    exact rule_gen (t := 1) (by omega) (by omega) (by omega) (by omega) (by omega) (by decide) (by decide) (by decide) (by decide) (by decide) (by decide) h
  · rw [rule_at (x := 0) (y := 1) (A := 14) (by decide) (by decide) (by decide)] at h ⊢
    rw [show sureM 2 1 = _ from sure2 1 (by omega), show sureM 2 2 = _ from sure2 2 (by omega)]
    exact rule_gen (t := 2) (by omega) (by omega) (by omega) (by omega) (by omega) (by decide) (by decide) (by decide) (by decide) (by decide) (by decide) h
  · rw [rule_at (x := 1) (y := 0) (A := 7) (by decide) (by decide) (by decide)] at h ⊢
    rw [show sureM 2 1 = _ from sure2 1 (by omega), show sureM 2 2 = _ from sure2 2 (by omega)]
    exact rule_gen (t := 1) (by omega) (by omega) (by omega) (by omega) (by omega) (by decide) (by decide) (by decide) (by decide) (by decide) (by decide) h
  · rw [rule_at (x := 1) (y := 1) (A := 11) (by decide) (by decide) (by decide)] at h ⊢
    rw [rule_at (x := 0) (y := 0) (A := 13) (by decide) (by decide) (by decide), show sureM 2 1 = _ from sure2 1 (by omega), show sureM 2 2 = _ from sure2 2 (by omega)]
    exact rule_gen (t := 2) (by omega) (by omega) (by omega) (by omega) (by omega) (by decide) (by decide) (by decide) (by decide) (by decide) (by decide) h
set_option maxRecDepth 100000 in
set_option maxHeartbeats 4000000 in
theorem FnRuleMass_walk (ao : Option Addr) (n c : Nat) (w : World) (hx : n ≤ 1048576 → BytesIn w w.heap.size ao n) (hnc : n ≤ c) (hcap : n ≤ 9223372036854775807) :
    Calls Try.prog 3 #[.slice ao n c] w fun e w' => e = .returned (.bool true) ∧ Below w.heap.size w w' := by
  by_cases hn : 1048576 < n
  · go_enter Try.func3, Try.ntmps3
    go_wp2
    go_ret
    exact ⟨rfl, Below.refl _ _⟩
  have HX := hid (hx (by omega))
  clear hx
  go_enter Try.func3, Try.ntmps3
  have hB := Below.refl w.heap.size w
  go_wp2_with fail
  refine (DrawRuleMass_any ao n c _ HX.out hnc).mono ?_; rintro e w1 ⟨⟨x, y, nu, de, rfl⟩, hb⟩
  have hd := hb
  replace hB := chain hB hd
  have hs1 := hd.size
  clear hb hd
  obtain ⟨rK, HK⟩ : ∃ r, Hid (ruleM x y nu de = r) := ⟨_, rfl⟩
  go_wp2_with fail
  refine (RuleMass_any x y nu de _).mono ?_; rw [HK.out]; rintro e w2 ⟨⟨vK, rfl, hrK⟩, hb⟩
  obtain ⟨aK, nK, cK, rfl, hiK⟩ := hrK.ints
  clear hrK
  have f0 := keep hb (a := ⟨w1.heap.size, 0, none⟩) (v := .int .i64 nu) (by simp)
  have f1 := keep hb (a := ⟨w1.heap.size, 1, none⟩) (v := .int .i64 de) (by simp)
  have hN1 : w1.heap.size < w2.heap.size := by have := World.block_lt_of_cell? w2 _ f0; simpa using this
  have hd : Below w1.heap.size w1 w2 := Below.trans (by (repeat (first | exact Below.refl _ _ | assumption | refine Below.alloc ?_ (by first | omega | (simp <;> omega)) _ | refine Below.setCell ?_ (by first | omega | (simp <;> omega)) _ | refine Below.drew ?_ | refine below_drewN ?_))) (hb.mono (by simp <;> omega))
  replace hB := chain hB hd
  have hs2 := hd.size
  clear hb hd
  obtain ⟨rQ, HQ⟩ : ∃ r, Hid (ruleM x y nu de = r) := ⟨_, rfl⟩
  go_wp2_with fail
  refine (specRuleMass_any x y nu de _).mono ?_; rw [HQ.out]; rintro e w3 ⟨⟨vQ, rfl, hrQ⟩, hb⟩
  obtain ⟨aQ, nQ, cQ, rfl, hiQ⟩ := hrQ.ints
  clear hrQ
  have mK0 := keep hb (a := ⟨w2.heap.size, 0, none⟩) (v := .int .i64 rK.size) (by simp)
  have mK1 := keep hb (a := ⟨w2.heap.size, 1, none⟩) (v := .slice aK nK cK) (by simp)
  have hN2 : w2.heap.size < w3.heap.size := by have := World.block_lt_of_cell? w3 _ mK0; simpa using this
  have hd : Below w2.heap.size w2 w3 := Below.trans (by (repeat (first | exact Below.refl _ _ | assumption | refine Below.alloc ?_ (by first | omega | (simp <;> omega)) _ | refine Below.setCell ?_ (by first | omega | (simp <;> omega)) _ | refine Below.drew ?_ | refine below_drewN ?_))) (hb.mono (by simp <;> omega))
  replace f0 := keep hd f0
  replace f1 := keep hd f1
  replace hiK := hiK.below hd
  replace hB := chain hB hd
  have hs3 := hd.size
  clear hb hd
  have HE : Hid (rQ = rK) := HQ.out.symm.trans HK.out
  cases ho : rK.ok
  · have ho2 : rQ.ok = false := by rw [HE.out]; exact ho
    go_wp2_with fail
    refine (weEqual_eq _ _ _ _ _ _ _ _ _ _ _ (hiK.below (by (repeat (first | exact Below.refl _ _ | assumption | refine Below.alloc ?_ (by first | omega | (simp <;> omega)) _ | refine Below.setCell ?_ (by first | omega | (simp <;> omega)) _ | refine Below.drew ?_ | refine below_drewN ?_)))) (hiQ.below (by (repeat (first | exact Below.refl _ _ | assumption | refine Below.alloc ?_ (by first | omega | (simp <;> omega)) _ | refine Below.setCell ?_ (by first | omega | (simp <;> omega)) _ | refine Below.drew ?_ | refine below_drewN ?_)))) (by rw [HE.out]) (by rw [HE.out])).mono ?_; rintro e w4 ⟨rfl, hb⟩
    have mQ0 := keep hb (a := ⟨w3.heap.size, 0, none⟩) (v := .int .i64 rQ.size) (by simp)
    have mQ1 := keep hb (a := ⟨w3.heap.size, 1, none⟩) (v := .slice aQ nQ cQ) (by simp)
    have hN3 : w3.heap.size < w4.heap.size := by have := World.block_lt_of_cell? w4 _ mQ0; simpa using this
    have hd : Below w3.heap.size w3 w4 := Below.trans (by (repeat (first | exact Below.refl _ _ | assumption | refine Below.alloc ?_ (by first | omega | (simp <;> omega)) _ | refine Below.setCell ?_ (by first | omega | (simp <;> omega)) _ | refine Below.drew ?_ | refine below_drewN ?_))) (hb.mono (by simp <;> omega))
    replace f0 := keep hd f0
    replace f1 := keep hd f1
    replace mK0 := keep hd mK0
    replace mK1 := keep hd mK1
    replace hiK := hiK.below hd
    replace hiQ := hiQ.below hd
    replace hB := chain hB hd
    have hs4 := hd.size
    clear hb hd
    go_wp2_with fail
    refine (weEqual_eq _ _ _ _ _ _ _ _ _ _ _ hiK hiQ (by rw [HE.out]) (by rw [HE.out])).mono ?_; rintro e w5 ⟨rfl, hb⟩
    have hd := hb
    replace f0 := keep hd f0
    replace f1 := keep hd f1
    replace mK0 := keep hd mK0
    replace mK1 := keep hd mK1
    replace mQ0 := keep hd mQ0
    replace mQ1 := keep hd mQ1
    replace hiK := hiK.below hd
    replace hiQ := hiQ.below hd
    replace hB := chain hB hd
    have hs5 := hd.size
    clear hb hd
    go_wp2
    go_ret
    exact ⟨rfl, hB⟩
  · have ho2 : rQ.ok = true := by rw [HE.out]; exact ho
    go_wp2_with fail
    refine (weEqual_eq _ _ _ _ _ _ _ _ _ _ _ (hiK.below (by (repeat (first | exact Below.refl _ _ | assumption | refine Below.alloc ?_ (by first | omega | (simp <;> omega)) _ | refine Below.setCell ?_ (by first | omega | (simp <;> omega)) _ | refine Below.drew ?_ | refine below_drewN ?_)))) (hiQ.below (by (repeat (first | exact Below.refl _ _ | assumption | refine Below.alloc ?_ (by first | omega | (simp <;> omega)) _ | refine Below.setCell ?_ (by first | omega | (simp <;> omega)) _ | refine Below.drew ?_ | refine below_drewN ?_)))) (by rw [HE.out]) (by rw [HE.out])).mono ?_; rintro e w4 ⟨rfl, hb⟩
    have mQ0 := keep hb (a := ⟨w3.heap.size, 0, none⟩) (v := .int .i64 rQ.size) (by simp)
    have mQ1 := keep hb (a := ⟨w3.heap.size, 1, none⟩) (v := .slice aQ nQ cQ) (by simp)
    have hN4 : w3.heap.size < w4.heap.size := by have := World.block_lt_of_cell? w4 _ mQ0; simpa using this
    have hd : Below w3.heap.size w3 w4 := Below.trans (by (repeat (first | exact Below.refl _ _ | assumption | refine Below.alloc ?_ (by first | omega | (simp <;> omega)) _ | refine Below.setCell ?_ (by first | omega | (simp <;> omega)) _ | refine Below.drew ?_ | refine below_drewN ?_))) (hb.mono (by simp <;> omega))
    replace f0 := keep hd f0
    replace f1 := keep hd f1
    replace mK0 := keep hd mK0
    replace mK1 := keep hd mK1
    replace hiK := hiK.below hd
    replace hiQ := hiQ.below hd
    replace hB := chain hB hd
    have hs4 := hd.size
    clear hb hd
    clear HE
    obtain ⟨hx, hy⟩ := rule_xy (show (ruleM x y nu de).ok = true by rw [HK.out]; exact ho)
    rcases hx with rfl | rfl
    · rcases hy with rfl | rfl
      · obtain ⟨L1, L2, L3⟩ := rule_law (x := 0) (y := 0) (nu := nu) (de := de) (sx := 1) (so := 2) (ty := 1) (x1 := 1) (y1 := 1) (by decide) (by rw [HK.out]; exact ho)
        rw [HK.out] at L1 L2 L3
        obtain ⟨rS, HS⟩ : ∃ r, Hid (sureM 2 1 = r) := ⟨_, rfl⟩
        go_wp2_with fail
        refine (SureMass_any 2 _ _).mono ?_; rw [HS.out]; rintro e w5 ⟨⟨vS, rfl, hrS⟩, hb⟩
        obtain ⟨aS, nS, cS, rfl, hiS⟩ := hrS.ints
        clear hrS
        have hd := hb
        replace f0 := keep hd f0
        replace f1 := keep hd f1
        replace mK0 := keep hd mK0
        replace mK1 := keep hd mK1
        replace mQ0 := keep hd mQ0
        replace mQ1 := keep hd mQ1
        replace hiK := hiK.below hd
        replace hiQ := hiQ.below hd
        replace hB := chain hB hd
        have hs5 := hd.size
        clear hb hd
        obtain ⟨rO, HO⟩ : ∃ r, Hid (sureM 2 2 = r) := ⟨_, rfl⟩
        go_wp2_with fail
        refine (SureMass_any 2 _ _).mono ?_; rw [HO.out]; rintro e w6 ⟨⟨vO, rfl, hrO⟩, hb⟩
        obtain ⟨aO, nO, cO, rfl, hiO⟩ := hrO.ints
        clear hrO
        have mS0 := keep hb (a := ⟨w5.heap.size, 0, none⟩) (v := .int .i64 rS.size) (by simp)
        have mS1 := keep hb (a := ⟨w5.heap.size, 1, none⟩) (v := .slice aS nS cS) (by simp)
        have hN5 : w5.heap.size < w6.heap.size := by have := World.block_lt_of_cell? w6 _ mS0; simpa using this
        have hd : Below w5.heap.size w5 w6 := Below.trans (by (repeat (first | exact Below.refl _ _ | assumption | refine Below.alloc ?_ (by first | omega | (simp <;> omega)) _ | refine Below.setCell ?_ (by first | omega | (simp <;> omega)) _ | refine Below.drew ?_ | refine below_drewN ?_))) (hb.mono (by simp <;> omega))
        replace f0 := keep hd f0
        replace f1 := keep hd f1
        replace mK0 := keep hd mK0
        replace mK1 := keep hd mK1
        replace mQ0 := keep hd mQ0
        replace mQ1 := keep hd mQ1
        replace hiK := hiK.below hd
        replace hiQ := hiQ.below hd
        replace hiS := hiS.below hd
        replace hB := chain hB hd
        have hs6 := hd.size
        clear hb hd
        obtain ⟨rA, HA⟩ : ∃ r, Hid (passM rS.size rS.parts rK.size rK.parts = r) := ⟨_, rfl⟩
        go_wp2_with fail
        refine (PassOn_any _ _ _ _ _ _ _ _ rS.parts rK.parts _ (hiS.below (by (repeat (first | exact Below.refl _ _ | assumption | refine Below.alloc ?_ (by first | omega | (simp <;> omega)) _ | refine Below.setCell ?_ (by first | omega | (simp <;> omega)) _ | refine Below.drew ?_ | refine below_drewN ?_)))) (hiK.below (by (repeat (first | exact Below.refl _ _ | assumption | refine Below.alloc ?_ (by first | omega | (simp <;> omega)) _ | refine Below.setCell ?_ (by first | omega | (simp <;> omega)) _ | refine Below.drew ?_ | refine below_drewN ?_))))).mono ?_; rw [HA.out]; rintro e w7 ⟨⟨vA, rfl, hrA⟩, hb⟩
        obtain ⟨aA, nA, cA, rfl, hiA⟩ := hrA.ints
        clear hrA
        have mO0 := keep hb (a := ⟨w6.heap.size, 0, none⟩) (v := .int .i64 rO.size) (by simp)
        have mO1 := keep hb (a := ⟨w6.heap.size, 1, none⟩) (v := .slice aO nO cO) (by simp)
        have hN6 : w6.heap.size < w7.heap.size := by have := World.block_lt_of_cell? w7 _ mO0; simpa using this
        have hd : Below w6.heap.size w6 w7 := Below.trans (by (repeat (first | exact Below.refl _ _ | assumption | refine Below.alloc ?_ (by first | omega | (simp <;> omega)) _ | refine Below.setCell ?_ (by first | omega | (simp <;> omega)) _ | refine Below.drew ?_ | refine below_drewN ?_))) (hb.mono (by simp <;> omega))
        replace f0 := keep hd f0
        replace f1 := keep hd f1
        replace mK0 := keep hd mK0
        replace mK1 := keep hd mK1
        replace mQ0 := keep hd mQ0
        replace mQ1 := keep hd mQ1
        replace mS0 := keep hd mS0
        replace mS1 := keep hd mS1
        replace hiK := hiK.below hd
        replace hiQ := hiQ.below hd
        replace hiS := hiS.below hd
        replace hiO := hiO.below hd
        replace hB := chain hB hd
        have hs7 := hd.size
        clear hb hd
        obtain ⟨rB, HB⟩ : ∃ r, Hid (passM rO.size rO.parts rK.size rK.parts = r) := ⟨_, rfl⟩
        go_wp2_with fail
        refine (PassOn_any _ _ _ _ _ _ _ _ rO.parts rK.parts _ (hiO.below (by (repeat (first | exact Below.refl _ _ | assumption | refine Below.alloc ?_ (by first | omega | (simp <;> omega)) _ | refine Below.setCell ?_ (by first | omega | (simp <;> omega)) _ | refine Below.drew ?_ | refine below_drewN ?_)))) (hiK.below (by (repeat (first | exact Below.refl _ _ | assumption | refine Below.alloc ?_ (by first | omega | (simp <;> omega)) _ | refine Below.setCell ?_ (by first | omega | (simp <;> omega)) _ | refine Below.drew ?_ | refine below_drewN ?_))))).mono ?_; rw [HB.out]; rintro e w8 ⟨⟨vB, rfl, hrB⟩, hb⟩
        obtain ⟨aB, nB, cB, rfl, hiB⟩ := hrB.ints
        clear hrB
        have mA0 := keep hb (a := ⟨w7.heap.size, 0, none⟩) (v := .int .i64 rA.size) (by simp)
        have mA1 := keep hb (a := ⟨w7.heap.size, 1, none⟩) (v := .slice aA nA cA) (by simp)
        have hN7 : w7.heap.size < w8.heap.size := by have := World.block_lt_of_cell? w8 _ mA0; simpa using this
        have hd : Below w7.heap.size w7 w8 := Below.trans (by (repeat (first | exact Below.refl _ _ | assumption | refine Below.alloc ?_ (by first | omega | (simp <;> omega)) _ | refine Below.setCell ?_ (by first | omega | (simp <;> omega)) _ | refine Below.drew ?_ | refine below_drewN ?_))) (hb.mono (by simp <;> omega))
        replace f0 := keep hd f0
        replace f1 := keep hd f1
        replace mK0 := keep hd mK0
        replace mK1 := keep hd mK1
        replace mQ0 := keep hd mQ0
        replace mQ1 := keep hd mQ1
        replace mS0 := keep hd mS0
        replace mS1 := keep hd mS1
        replace mO0 := keep hd mO0
        replace mO1 := keep hd mO1
        replace hiK := hiK.below hd
        replace hiQ := hiQ.below hd
        replace hiS := hiS.below hd
        replace hiO := hiO.below hd
        replace hiA := hiA.below hd
        replace hB := chain hB hd
        have hs8 := hd.size
        clear hb hd
        obtain ⟨rT, HT⟩ : ∃ r, Hid (simpleM 2 1 nu de = r) := ⟨_, rfl⟩
        go_wp2_with fail
        refine (SimpleMass_any 2 _ nu de _).mono ?_; rw [HT.out]; rintro e w9 ⟨⟨vT, rfl, hrT⟩, hb⟩
        obtain ⟨aT, nT, cT, rfl, hiT⟩ := hrT.ints
        clear hrT
        have mB0 := keep hb (a := ⟨w8.heap.size, 0, none⟩) (v := .int .i64 rB.size) (by simp)
        have mB1 := keep hb (a := ⟨w8.heap.size, 1, none⟩) (v := .slice aB nB cB) (by simp)
        have hN8 : w8.heap.size < w9.heap.size := by have := World.block_lt_of_cell? w9 _ mB0; simpa using this
        have hd : Below w8.heap.size w8 w9 := Below.trans (by (repeat (first | exact Below.refl _ _ | assumption | refine Below.alloc ?_ (by first | omega | (simp <;> omega)) _ | refine Below.setCell ?_ (by first | omega | (simp <;> omega)) _ | refine Below.drew ?_ | refine below_drewN ?_))) (hb.mono (by simp <;> omega))
        replace f0 := keep hd f0
        replace f1 := keep hd f1
        replace mK0 := keep hd mK0
        replace mK1 := keep hd mK1
        replace mQ0 := keep hd mQ0
        replace mQ1 := keep hd mQ1
        replace mS0 := keep hd mS0
        replace mS1 := keep hd mS1
        replace mO0 := keep hd mO0
        replace mO1 := keep hd mO1
        replace mA0 := keep hd mA0
        replace mA1 := keep hd mA1
        replace hiK := hiK.below hd
        replace hiQ := hiQ.below hd
        replace hiS := hiS.below hd
        replace hiO := hiO.below hd
        replace hiA := hiA.below hd
        replace hiB := hiB.below hd
        replace hB := chain hB hd
        have hs9 := hd.size
        clear hb hd
        obtain ⟨rG, HG⟩ : ∃ r, Hid (sureM 2 3 = r) := ⟨_, rfl⟩
        go_wp2_with fail
        refine (NoEvidence2 _).mono ?_; rw [HG.out]; rintro e w10 ⟨⟨vG, rfl, hrG⟩, hb⟩
        obtain ⟨aG, nG, cG, rfl, hiG⟩ := hrG.ints
        clear hrG
        have mT0 := keep hb (a := ⟨w9.heap.size, 0, none⟩) (v := .int .i64 rT.size) (by simp)
        have mT1 := keep hb (a := ⟨w9.heap.size, 1, none⟩) (v := .slice aT nT cT) (by simp)
        have hN9 : w9.heap.size < w10.heap.size := by have := World.block_lt_of_cell? w10 _ mT0; simpa using this
        have hd : Below w9.heap.size w9 w10 := Below.trans (by (repeat (first | exact Below.refl _ _ | assumption | refine Below.alloc ?_ (by first | omega | (simp <;> omega)) _ | refine Below.setCell ?_ (by first | omega | (simp <;> omega)) _ | refine Below.drew ?_ | refine below_drewN ?_))) (hb.mono (by simp <;> omega))
        replace f0 := keep hd f0
        replace f1 := keep hd f1
        replace mK0 := keep hd mK0
        replace mK1 := keep hd mK1
        replace mQ0 := keep hd mQ0
        replace mQ1 := keep hd mQ1
        replace mS0 := keep hd mS0
        replace mS1 := keep hd mS1
        replace mO0 := keep hd mO0
        replace mO1 := keep hd mO1
        replace mA0 := keep hd mA0
        replace mA1 := keep hd mA1
        replace mB0 := keep hd mB0
        replace mB1 := keep hd mB1
        replace hiK := hiK.below hd
        replace hiQ := hiQ.below hd
        replace hiS := hiS.below hd
        replace hiO := hiO.below hd
        replace hiA := hiA.below hd
        replace hiB := hiB.below hd
        replace hiT := hiT.below hd
        replace hB := chain hB hd
        have hs10 := hd.size
        clear hb hd
        obtain ⟨rU, HU⟩ : ∃ r, Hid (swapM rK.size rK.parts = r) := ⟨_, rfl⟩
        go_wp2_with fail
        refine (SwapPairs_any _ _ _ _ rK.parts _ (hiK.below (by (repeat (first | exact Below.refl _ _ | assumption | refine Below.alloc ?_ (by first | omega | (simp <;> omega)) _ | refine Below.setCell ?_ (by first | omega | (simp <;> omega)) _ | refine Below.drew ?_ | refine below_drewN ?_))))).mono ?_; rw [HU.out]; rintro e w11 ⟨⟨vU, rfl, hrU⟩, hb⟩
        obtain ⟨aU, nU, cU, rfl, hiU⟩ := hrU.ints
        clear hrU
        have mG0 := keep hb (a := ⟨w10.heap.size, 0, none⟩) (v := .int .i64 rG.size) (by simp)
        have mG1 := keep hb (a := ⟨w10.heap.size, 1, none⟩) (v := .slice aG nG cG) (by simp)
        have hN10 : w10.heap.size < w11.heap.size := by have := World.block_lt_of_cell? w11 _ mG0; simpa using this
        have hd : Below w10.heap.size w10 w11 := Below.trans (by (repeat (first | exact Below.refl _ _ | assumption | refine Below.alloc ?_ (by first | omega | (simp <;> omega)) _ | refine Below.setCell ?_ (by first | omega | (simp <;> omega)) _ | refine Below.drew ?_ | refine below_drewN ?_))) (hb.mono (by simp <;> omega))
        replace f0 := keep hd f0
        replace f1 := keep hd f1
        replace mK0 := keep hd mK0
        replace mK1 := keep hd mK1
        replace mQ0 := keep hd mQ0
        replace mQ1 := keep hd mQ1
        replace mS0 := keep hd mS0
        replace mS1 := keep hd mS1
        replace mO0 := keep hd mO0
        replace mO1 := keep hd mO1
        replace mA0 := keep hd mA0
        replace mA1 := keep hd mA1
        replace mB0 := keep hd mB0
        replace mB1 := keep hd mB1
        replace mT0 := keep hd mT0
        replace mT1 := keep hd mT1
        replace hiK := hiK.below hd
        replace hiQ := hiQ.below hd
        replace hiS := hiS.below hd
        replace hiO := hiO.below hd
        replace hiA := hiA.below hd
        replace hiB := hiB.below hd
        replace hiT := hiT.below hd
        replace hiG := hiG.below hd
        replace hB := chain hB hd
        have hs11 := hd.size
        clear hb hd
        obtain ⟨rZ, HZ⟩ : ∃ r, Hid (ruleM 1 1 nu de = r) := ⟨_, rfl⟩
        go_wp2_with fail
        refine (RuleMass_any _ _ nu de _).mono ?_; rw [HZ.out]; rintro e w12 ⟨⟨vZ, rfl, hrZ⟩, hb⟩
        obtain ⟨aZ, nZ, cZ, rfl, hiZ⟩ := hrZ.ints
        clear hrZ
        have mU0 := keep hb (a := ⟨w11.heap.size, 0, none⟩) (v := .int .i64 rU.size) (by simp)
        have mU1 := keep hb (a := ⟨w11.heap.size, 1, none⟩) (v := .slice aU nU cU) (by simp)
        have hN11 : w11.heap.size < w12.heap.size := by have := World.block_lt_of_cell? w12 _ mU0; simpa using this
        have hd : Below w11.heap.size w11 w12 := Below.trans (by (repeat (first | exact Below.refl _ _ | assumption | refine Below.alloc ?_ (by first | omega | (simp <;> omega)) _ | refine Below.setCell ?_ (by first | omega | (simp <;> omega)) _ | refine Below.drew ?_ | refine below_drewN ?_))) (hb.mono (by simp <;> omega))
        replace f0 := keep hd f0
        replace f1 := keep hd f1
        replace mK0 := keep hd mK0
        replace mK1 := keep hd mK1
        replace mQ0 := keep hd mQ0
        replace mQ1 := keep hd mQ1
        replace mS0 := keep hd mS0
        replace mS1 := keep hd mS1
        replace mO0 := keep hd mO0
        replace mO1 := keep hd mO1
        replace mA0 := keep hd mA0
        replace mA1 := keep hd mA1
        replace mB0 := keep hd mB0
        replace mB1 := keep hd mB1
        replace mT0 := keep hd mT0
        replace mT1 := keep hd mT1
        replace mG0 := keep hd mG0
        replace mG1 := keep hd mG1
        replace hiK := hiK.below hd
        replace hiQ := hiQ.below hd
        replace hiS := hiS.below hd
        replace hiO := hiO.below hd
        replace hiA := hiA.below hd
        replace hiB := hiB.below hd
        replace hiT := hiT.below hd
        replace hiG := hiG.below hd
        replace hiU := hiU.below hd
        replace hB := chain hB hd
        have hs12 := hd.size
        clear hb hd
        have E1 : rA = rT ∧ rA.ok = true := by rw [← HA.out, ← HT.out, ← HS.out]; exact L1
        have E2 : rB = rG ∧ rB.ok = true := by rw [← HB.out, ← HG.out, ← HO.out]; exact L2
        have E3 : rU = rZ ∧ rZ.ok = true := by rw [← HU.out, ← HZ.out]; first | exact L3 | (rw [HK.out]; exact L3)
        have g1 := E1.2
        have g2 := E2.2
        have g3 := E3.2
        have E1h := hid E1.1
        have E2h := hid E2.1
        have E3h := hid E3.1
        clear E1 E2 E3 L1 L2 L3
        go_wp2_with fail
        refine (weEqual_eq _ _ _ _ _ _ _ _ _ _ _ (hiA.below (by (repeat (first | exact Below.refl _ _ | assumption | refine Below.alloc ?_ (by first | omega | (simp <;> omega)) _ | refine Below.setCell ?_ (by first | omega | (simp <;> omega)) _ | refine Below.drew ?_ | refine below_drewN ?_)))) (hiT.below (by (repeat (first | exact Below.refl _ _ | assumption | refine Below.alloc ?_ (by first | omega | (simp <;> omega)) _ | refine Below.setCell ?_ (by first | omega | (simp <;> omega)) _ | refine Below.drew ?_ | refine below_drewN ?_)))) (by rw [E1h.out]) (by rw [E1h.out])).mono ?_; rintro e w13 ⟨rfl, hb⟩
        have mZ0 := keep hb (a := ⟨w12.heap.size, 0, none⟩) (v := .int .i64 rZ.size) (by simp)
        have mZ1 := keep hb (a := ⟨w12.heap.size, 1, none⟩) (v := .slice aZ nZ cZ) (by simp)
        have hN12 : w12.heap.size < w13.heap.size := by have := World.block_lt_of_cell? w13 _ mZ0; simpa using this
        have hd : Below w12.heap.size w12 w13 := Below.trans (by (repeat (first | exact Below.refl _ _ | assumption | refine Below.alloc ?_ (by first | omega | (simp <;> omega)) _ | refine Below.setCell ?_ (by first | omega | (simp <;> omega)) _ | refine Below.drew ?_ | refine below_drewN ?_))) (hb.mono (by simp <;> omega))
        replace f0 := keep hd f0
        replace f1 := keep hd f1
        replace mK0 := keep hd mK0
        replace mK1 := keep hd mK1
        replace mQ0 := keep hd mQ0
        replace mQ1 := keep hd mQ1
        replace mS0 := keep hd mS0
        replace mS1 := keep hd mS1
        replace mO0 := keep hd mO0
        replace mO1 := keep hd mO1
        replace mA0 := keep hd mA0
        replace mA1 := keep hd mA1
        replace mB0 := keep hd mB0
        replace mB1 := keep hd mB1
        replace mT0 := keep hd mT0
        replace mT1 := keep hd mT1
        replace mG0 := keep hd mG0
        replace mG1 := keep hd mG1
        replace mU0 := keep hd mU0
        replace mU1 := keep hd mU1
        replace hiK := hiK.below hd
        replace hiQ := hiQ.below hd
        replace hiS := hiS.below hd
        replace hiO := hiO.below hd
        replace hiA := hiA.below hd
        replace hiB := hiB.below hd
        replace hiT := hiT.below hd
        replace hiG := hiG.below hd
        replace hiU := hiU.below hd
        replace hiZ := hiZ.below hd
        replace hB := chain hB hd
        have hs13 := hd.size
        clear hb hd
        go_wp2_with fail
        refine (weEqual_eq _ _ _ _ _ _ _ _ _ _ _ hiB hiG (by rw [E2h.out]) (by rw [E2h.out])).mono ?_; rintro e w14 ⟨rfl, hb⟩
        have hd := hb
        replace f0 := keep hd f0
        replace f1 := keep hd f1
        replace mK0 := keep hd mK0
        replace mK1 := keep hd mK1
        replace mQ0 := keep hd mQ0
        replace mQ1 := keep hd mQ1
        replace mS0 := keep hd mS0
        replace mS1 := keep hd mS1
        replace mO0 := keep hd mO0
        replace mO1 := keep hd mO1
        replace mA0 := keep hd mA0
        replace mA1 := keep hd mA1
        replace mB0 := keep hd mB0
        replace mB1 := keep hd mB1
        replace mT0 := keep hd mT0
        replace mT1 := keep hd mT1
        replace mG0 := keep hd mG0
        replace mG1 := keep hd mG1
        replace mU0 := keep hd mU0
        replace mU1 := keep hd mU1
        replace mZ0 := keep hd mZ0
        replace mZ1 := keep hd mZ1
        replace hiK := hiK.below hd
        replace hiQ := hiQ.below hd
        replace hiS := hiS.below hd
        replace hiO := hiO.below hd
        replace hiA := hiA.below hd
        replace hiB := hiB.below hd
        replace hiT := hiT.below hd
        replace hiG := hiG.below hd
        replace hiU := hiU.below hd
        replace hiZ := hiZ.below hd
        replace hB := chain hB hd
        have hs14 := hd.size
        clear hb hd
        go_wp2_with fail
        refine (weEqual_eq _ _ _ _ _ _ _ _ _ _ _ hiU hiZ (by rw [E3h.out]) (by rw [E3h.out])).mono ?_; rintro e w15 ⟨rfl, hb⟩
        have hd := hb
        replace f0 := keep hd f0
        replace f1 := keep hd f1
        replace mK0 := keep hd mK0
        replace mK1 := keep hd mK1
        replace mQ0 := keep hd mQ0
        replace mQ1 := keep hd mQ1
        replace mS0 := keep hd mS0
        replace mS1 := keep hd mS1
        replace mO0 := keep hd mO0
        replace mO1 := keep hd mO1
        replace mA0 := keep hd mA0
        replace mA1 := keep hd mA1
        replace mB0 := keep hd mB0
        replace mB1 := keep hd mB1
        replace mT0 := keep hd mT0
        replace mT1 := keep hd mT1
        replace mG0 := keep hd mG0
        replace mG1 := keep hd mG1
        replace mU0 := keep hd mU0
        replace mU1 := keep hd mU1
        replace mZ0 := keep hd mZ0
        replace mZ1 := keep hd mZ1
        replace hiK := hiK.below hd
        replace hiQ := hiQ.below hd
        replace hiS := hiS.below hd
        replace hiO := hiO.below hd
        replace hiA := hiA.below hd
        replace hiB := hiB.below hd
        replace hiT := hiT.below hd
        replace hiG := hiG.below hd
        replace hiU := hiU.below hd
        replace hiZ := hiZ.below hd
        replace hB := chain hB hd
        have hs15 := hd.size
        clear hb hd
        go_wp2
        go_ret
        exact ⟨rfl, hB⟩
      · obtain ⟨L1, L2, L3⟩ := rule_law (x := 0) (y := 1) (nu := nu) (de := de) (sx := 1) (so := 2) (ty := 2) (x1 := 0) (y1 := 1) (by decide) (by rw [HK.out]; exact ho)
        rw [HK.out] at L1 L2 L3
        obtain ⟨rS, HS⟩ : ∃ r, Hid (sureM 2 1 = r) := ⟨_, rfl⟩
        go_wp2_with fail
        refine (SureMass_any 2 _ _).mono ?_; rw [HS.out]; rintro e w5 ⟨⟨vS, rfl, hrS⟩, hb⟩
        obtain ⟨aS, nS, cS, rfl, hiS⟩ := hrS.ints
        clear hrS
        have hd := hb
        replace f0 := keep hd f0
        replace f1 := keep hd f1
        replace mK0 := keep hd mK0
        replace mK1 := keep hd mK1
        replace mQ0 := keep hd mQ0
        replace mQ1 := keep hd mQ1
        replace hiK := hiK.below hd
        replace hiQ := hiQ.below hd
        replace hB := chain hB hd
        have hs5 := hd.size
        clear hb hd
        obtain ⟨rO, HO⟩ : ∃ r, Hid (sureM 2 2 = r) := ⟨_, rfl⟩
        go_wp2_with fail
        refine (SureMass_any 2 _ _).mono ?_; rw [HO.out]; rintro e w6 ⟨⟨vO, rfl, hrO⟩, hb⟩
        obtain ⟨aO, nO, cO, rfl, hiO⟩ := hrO.ints
        clear hrO
        have mS0 := keep hb (a := ⟨w5.heap.size, 0, none⟩) (v := .int .i64 rS.size) (by simp)
        have mS1 := keep hb (a := ⟨w5.heap.size, 1, none⟩) (v := .slice aS nS cS) (by simp)
        have hN13 : w5.heap.size < w6.heap.size := by have := World.block_lt_of_cell? w6 _ mS0; simpa using this
        have hd : Below w5.heap.size w5 w6 := Below.trans (by (repeat (first | exact Below.refl _ _ | assumption | refine Below.alloc ?_ (by first | omega | (simp <;> omega)) _ | refine Below.setCell ?_ (by first | omega | (simp <;> omega)) _ | refine Below.drew ?_ | refine below_drewN ?_))) (hb.mono (by simp <;> omega))
        replace f0 := keep hd f0
        replace f1 := keep hd f1
        replace mK0 := keep hd mK0
        replace mK1 := keep hd mK1
        replace mQ0 := keep hd mQ0
        replace mQ1 := keep hd mQ1
        replace hiK := hiK.below hd
        replace hiQ := hiQ.below hd
        replace hiS := hiS.below hd
        replace hB := chain hB hd
        have hs6 := hd.size
        clear hb hd
        obtain ⟨rA, HA⟩ : ∃ r, Hid (passM rS.size rS.parts rK.size rK.parts = r) := ⟨_, rfl⟩
        go_wp2_with fail
        refine (PassOn_any _ _ _ _ _ _ _ _ rS.parts rK.parts _ (hiS.below (by (repeat (first | exact Below.refl _ _ | assumption | refine Below.alloc ?_ (by first | omega | (simp <;> omega)) _ | refine Below.setCell ?_ (by first | omega | (simp <;> omega)) _ | refine Below.drew ?_ | refine below_drewN ?_)))) (hiK.below (by (repeat (first | exact Below.refl _ _ | assumption | refine Below.alloc ?_ (by first | omega | (simp <;> omega)) _ | refine Below.setCell ?_ (by first | omega | (simp <;> omega)) _ | refine Below.drew ?_ | refine below_drewN ?_))))).mono ?_; rw [HA.out]; rintro e w7 ⟨⟨vA, rfl, hrA⟩, hb⟩
        obtain ⟨aA, nA, cA, rfl, hiA⟩ := hrA.ints
        clear hrA
        have mO0 := keep hb (a := ⟨w6.heap.size, 0, none⟩) (v := .int .i64 rO.size) (by simp)
        have mO1 := keep hb (a := ⟨w6.heap.size, 1, none⟩) (v := .slice aO nO cO) (by simp)
        have hN14 : w6.heap.size < w7.heap.size := by have := World.block_lt_of_cell? w7 _ mO0; simpa using this
        have hd : Below w6.heap.size w6 w7 := Below.trans (by (repeat (first | exact Below.refl _ _ | assumption | refine Below.alloc ?_ (by first | omega | (simp <;> omega)) _ | refine Below.setCell ?_ (by first | omega | (simp <;> omega)) _ | refine Below.drew ?_ | refine below_drewN ?_))) (hb.mono (by simp <;> omega))
        replace f0 := keep hd f0
        replace f1 := keep hd f1
        replace mK0 := keep hd mK0
        replace mK1 := keep hd mK1
        replace mQ0 := keep hd mQ0
        replace mQ1 := keep hd mQ1
        replace mS0 := keep hd mS0
        replace mS1 := keep hd mS1
        replace hiK := hiK.below hd
        replace hiQ := hiQ.below hd
        replace hiS := hiS.below hd
        replace hiO := hiO.below hd
        replace hB := chain hB hd
        have hs7 := hd.size
        clear hb hd
        obtain ⟨rB, HB⟩ : ∃ r, Hid (passM rO.size rO.parts rK.size rK.parts = r) := ⟨_, rfl⟩
        go_wp2_with fail
        refine (PassOn_any _ _ _ _ _ _ _ _ rO.parts rK.parts _ (hiO.below (by (repeat (first | exact Below.refl _ _ | assumption | refine Below.alloc ?_ (by first | omega | (simp <;> omega)) _ | refine Below.setCell ?_ (by first | omega | (simp <;> omega)) _ | refine Below.drew ?_ | refine below_drewN ?_)))) (hiK.below (by (repeat (first | exact Below.refl _ _ | assumption | refine Below.alloc ?_ (by first | omega | (simp <;> omega)) _ | refine Below.setCell ?_ (by first | omega | (simp <;> omega)) _ | refine Below.drew ?_ | refine below_drewN ?_))))).mono ?_; rw [HB.out]; rintro e w8 ⟨⟨vB, rfl, hrB⟩, hb⟩
        obtain ⟨aB, nB, cB, rfl, hiB⟩ := hrB.ints
        clear hrB
        have mA0 := keep hb (a := ⟨w7.heap.size, 0, none⟩) (v := .int .i64 rA.size) (by simp)
        have mA1 := keep hb (a := ⟨w7.heap.size, 1, none⟩) (v := .slice aA nA cA) (by simp)
        have hN15 : w7.heap.size < w8.heap.size := by have := World.block_lt_of_cell? w8 _ mA0; simpa using this
        have hd : Below w7.heap.size w7 w8 := Below.trans (by (repeat (first | exact Below.refl _ _ | assumption | refine Below.alloc ?_ (by first | omega | (simp <;> omega)) _ | refine Below.setCell ?_ (by first | omega | (simp <;> omega)) _ | refine Below.drew ?_ | refine below_drewN ?_))) (hb.mono (by simp <;> omega))
        replace f0 := keep hd f0
        replace f1 := keep hd f1
        replace mK0 := keep hd mK0
        replace mK1 := keep hd mK1
        replace mQ0 := keep hd mQ0
        replace mQ1 := keep hd mQ1
        replace mS0 := keep hd mS0
        replace mS1 := keep hd mS1
        replace mO0 := keep hd mO0
        replace mO1 := keep hd mO1
        replace hiK := hiK.below hd
        replace hiQ := hiQ.below hd
        replace hiS := hiS.below hd
        replace hiO := hiO.below hd
        replace hiA := hiA.below hd
        replace hB := chain hB hd
        have hs8 := hd.size
        clear hb hd
        obtain ⟨rT, HT⟩ : ∃ r, Hid (simpleM 2 2 nu de = r) := ⟨_, rfl⟩
        go_wp2_with fail
        refine (SimpleMass_any 2 _ nu de _).mono ?_; rw [HT.out]; rintro e w9 ⟨⟨vT, rfl, hrT⟩, hb⟩
        obtain ⟨aT, nT, cT, rfl, hiT⟩ := hrT.ints
        clear hrT
        have mB0 := keep hb (a := ⟨w8.heap.size, 0, none⟩) (v := .int .i64 rB.size) (by simp)
        have mB1 := keep hb (a := ⟨w8.heap.size, 1, none⟩) (v := .slice aB nB cB) (by simp)
        have hN16 : w8.heap.size < w9.heap.size := by have := World.block_lt_of_cell? w9 _ mB0; simpa using this
        have hd : Below w8.heap.size w8 w9 := Below.trans (by (repeat (first | exact Below.refl _ _ | assumption | refine Below.alloc ?_ (by first | omega | (simp <;> omega)) _ | refine Below.setCell ?_ (by first | omega | (simp <;> omega)) _ | refine Below.drew ?_ | refine below_drewN ?_))) (hb.mono (by simp <;> omega))
        replace f0 := keep hd f0
        replace f1 := keep hd f1
        replace mK0 := keep hd mK0
        replace mK1 := keep hd mK1
        replace mQ0 := keep hd mQ0
        replace mQ1 := keep hd mQ1
        replace mS0 := keep hd mS0
        replace mS1 := keep hd mS1
        replace mO0 := keep hd mO0
        replace mO1 := keep hd mO1
        replace mA0 := keep hd mA0
        replace mA1 := keep hd mA1
        replace hiK := hiK.below hd
        replace hiQ := hiQ.below hd
        replace hiS := hiS.below hd
        replace hiO := hiO.below hd
        replace hiA := hiA.below hd
        replace hiB := hiB.below hd
        replace hB := chain hB hd
        have hs9 := hd.size
        clear hb hd
        obtain ⟨rG, HG⟩ : ∃ r, Hid (sureM 2 3 = r) := ⟨_, rfl⟩
        go_wp2_with fail
        refine (NoEvidence2 _).mono ?_; rw [HG.out]; rintro e w10 ⟨⟨vG, rfl, hrG⟩, hb⟩
        obtain ⟨aG, nG, cG, rfl, hiG⟩ := hrG.ints
        clear hrG
        have mT0 := keep hb (a := ⟨w9.heap.size, 0, none⟩) (v := .int .i64 rT.size) (by simp)
        have mT1 := keep hb (a := ⟨w9.heap.size, 1, none⟩) (v := .slice aT nT cT) (by simp)
        have hN17 : w9.heap.size < w10.heap.size := by have := World.block_lt_of_cell? w10 _ mT0; simpa using this
        have hd : Below w9.heap.size w9 w10 := Below.trans (by (repeat (first | exact Below.refl _ _ | assumption | refine Below.alloc ?_ (by first | omega | (simp <;> omega)) _ | refine Below.setCell ?_ (by first | omega | (simp <;> omega)) _ | refine Below.drew ?_ | refine below_drewN ?_))) (hb.mono (by simp <;> omega))
        replace f0 := keep hd f0
        replace f1 := keep hd f1
        replace mK0 := keep hd mK0
        replace mK1 := keep hd mK1
        replace mQ0 := keep hd mQ0
        replace mQ1 := keep hd mQ1
        replace mS0 := keep hd mS0
        replace mS1 := keep hd mS1
        replace mO0 := keep hd mO0
        replace mO1 := keep hd mO1
        replace mA0 := keep hd mA0
        replace mA1 := keep hd mA1
        replace mB0 := keep hd mB0
        replace mB1 := keep hd mB1
        replace hiK := hiK.below hd
        replace hiQ := hiQ.below hd
        replace hiS := hiS.below hd
        replace hiO := hiO.below hd
        replace hiA := hiA.below hd
        replace hiB := hiB.below hd
        replace hiT := hiT.below hd
        replace hB := chain hB hd
        have hs10 := hd.size
        clear hb hd
        obtain ⟨rU, HU⟩ : ∃ r, Hid (swapM rK.size rK.parts = r) := ⟨_, rfl⟩
        go_wp2_with fail
        refine (SwapPairs_any _ _ _ _ rK.parts _ (hiK.below (by (repeat (first | exact Below.refl _ _ | assumption | refine Below.alloc ?_ (by first | omega | (simp <;> omega)) _ | refine Below.setCell ?_ (by first | omega | (simp <;> omega)) _ | refine Below.drew ?_ | refine below_drewN ?_))))).mono ?_; rw [HU.out]; rintro e w11 ⟨⟨vU, rfl, hrU⟩, hb⟩
        obtain ⟨aU, nU, cU, rfl, hiU⟩ := hrU.ints
        clear hrU
        have mG0 := keep hb (a := ⟨w10.heap.size, 0, none⟩) (v := .int .i64 rG.size) (by simp)
        have mG1 := keep hb (a := ⟨w10.heap.size, 1, none⟩) (v := .slice aG nG cG) (by simp)
        have hN18 : w10.heap.size < w11.heap.size := by have := World.block_lt_of_cell? w11 _ mG0; simpa using this
        have hd : Below w10.heap.size w10 w11 := Below.trans (by (repeat (first | exact Below.refl _ _ | assumption | refine Below.alloc ?_ (by first | omega | (simp <;> omega)) _ | refine Below.setCell ?_ (by first | omega | (simp <;> omega)) _ | refine Below.drew ?_ | refine below_drewN ?_))) (hb.mono (by simp <;> omega))
        replace f0 := keep hd f0
        replace f1 := keep hd f1
        replace mK0 := keep hd mK0
        replace mK1 := keep hd mK1
        replace mQ0 := keep hd mQ0
        replace mQ1 := keep hd mQ1
        replace mS0 := keep hd mS0
        replace mS1 := keep hd mS1
        replace mO0 := keep hd mO0
        replace mO1 := keep hd mO1
        replace mA0 := keep hd mA0
        replace mA1 := keep hd mA1
        replace mB0 := keep hd mB0
        replace mB1 := keep hd mB1
        replace mT0 := keep hd mT0
        replace mT1 := keep hd mT1
        replace hiK := hiK.below hd
        replace hiQ := hiQ.below hd
        replace hiS := hiS.below hd
        replace hiO := hiO.below hd
        replace hiA := hiA.below hd
        replace hiB := hiB.below hd
        replace hiT := hiT.below hd
        replace hiG := hiG.below hd
        replace hB := chain hB hd
        have hs11 := hd.size
        clear hb hd
        obtain ⟨rZ, HZ⟩ : ∃ r, Hid (ruleM 0 1 nu de = r) := ⟨_, rfl⟩
        go_wp2_with fail
        refine (RuleMass_any _ _ nu de _).mono ?_; rw [HZ.out]; rintro e w12 ⟨⟨vZ, rfl, hrZ⟩, hb⟩
        obtain ⟨aZ, nZ, cZ, rfl, hiZ⟩ := hrZ.ints
        clear hrZ
        have mU0 := keep hb (a := ⟨w11.heap.size, 0, none⟩) (v := .int .i64 rU.size) (by simp)
        have mU1 := keep hb (a := ⟨w11.heap.size, 1, none⟩) (v := .slice aU nU cU) (by simp)
        have hN19 : w11.heap.size < w12.heap.size := by have := World.block_lt_of_cell? w12 _ mU0; simpa using this
        have hd : Below w11.heap.size w11 w12 := Below.trans (by (repeat (first | exact Below.refl _ _ | assumption | refine Below.alloc ?_ (by first | omega | (simp <;> omega)) _ | refine Below.setCell ?_ (by first | omega | (simp <;> omega)) _ | refine Below.drew ?_ | refine below_drewN ?_))) (hb.mono (by simp <;> omega))
        replace f0 := keep hd f0
        replace f1 := keep hd f1
        replace mK0 := keep hd mK0
        replace mK1 := keep hd mK1
        replace mQ0 := keep hd mQ0
        replace mQ1 := keep hd mQ1
        replace mS0 := keep hd mS0
        replace mS1 := keep hd mS1
        replace mO0 := keep hd mO0
        replace mO1 := keep hd mO1
        replace mA0 := keep hd mA0
        replace mA1 := keep hd mA1
        replace mB0 := keep hd mB0
        replace mB1 := keep hd mB1
        replace mT0 := keep hd mT0
        replace mT1 := keep hd mT1
        replace mG0 := keep hd mG0
        replace mG1 := keep hd mG1
        replace hiK := hiK.below hd
        replace hiQ := hiQ.below hd
        replace hiS := hiS.below hd
        replace hiO := hiO.below hd
        replace hiA := hiA.below hd
        replace hiB := hiB.below hd
        replace hiT := hiT.below hd
        replace hiG := hiG.below hd
        replace hiU := hiU.below hd
        replace hB := chain hB hd
        have hs12 := hd.size
        clear hb hd
        have E1 : rA = rT ∧ rA.ok = true := by rw [← HA.out, ← HT.out, ← HS.out]; exact L1
        have E2 : rB = rG ∧ rB.ok = true := by rw [← HB.out, ← HG.out, ← HO.out]; exact L2
        have E3 : rU = rZ ∧ rZ.ok = true := by rw [← HU.out, ← HZ.out]; first | exact L3 | (rw [HK.out]; exact L3)
        have g1 := E1.2
        have g2 := E2.2
        have g3 := E3.2
        have E1h := hid E1.1
        have E2h := hid E2.1
        have E3h := hid E3.1
        clear E1 E2 E3 L1 L2 L3
        go_wp2_with fail
        refine (weEqual_eq _ _ _ _ _ _ _ _ _ _ _ (hiA.below (by (repeat (first | exact Below.refl _ _ | assumption | refine Below.alloc ?_ (by first | omega | (simp <;> omega)) _ | refine Below.setCell ?_ (by first | omega | (simp <;> omega)) _ | refine Below.drew ?_ | refine below_drewN ?_)))) (hiT.below (by (repeat (first | exact Below.refl _ _ | assumption | refine Below.alloc ?_ (by first | omega | (simp <;> omega)) _ | refine Below.setCell ?_ (by first | omega | (simp <;> omega)) _ | refine Below.drew ?_ | refine below_drewN ?_)))) (by rw [E1h.out]) (by rw [E1h.out])).mono ?_; rintro e w13 ⟨rfl, hb⟩
        have mZ0 := keep hb (a := ⟨w12.heap.size, 0, none⟩) (v := .int .i64 rZ.size) (by simp)
        have mZ1 := keep hb (a := ⟨w12.heap.size, 1, none⟩) (v := .slice aZ nZ cZ) (by simp)
        have hN20 : w12.heap.size < w13.heap.size := by have := World.block_lt_of_cell? w13 _ mZ0; simpa using this
        have hd : Below w12.heap.size w12 w13 := Below.trans (by (repeat (first | exact Below.refl _ _ | assumption | refine Below.alloc ?_ (by first | omega | (simp <;> omega)) _ | refine Below.setCell ?_ (by first | omega | (simp <;> omega)) _ | refine Below.drew ?_ | refine below_drewN ?_))) (hb.mono (by simp <;> omega))
        replace f0 := keep hd f0
        replace f1 := keep hd f1
        replace mK0 := keep hd mK0
        replace mK1 := keep hd mK1
        replace mQ0 := keep hd mQ0
        replace mQ1 := keep hd mQ1
        replace mS0 := keep hd mS0
        replace mS1 := keep hd mS1
        replace mO0 := keep hd mO0
        replace mO1 := keep hd mO1
        replace mA0 := keep hd mA0
        replace mA1 := keep hd mA1
        replace mB0 := keep hd mB0
        replace mB1 := keep hd mB1
        replace mT0 := keep hd mT0
        replace mT1 := keep hd mT1
        replace mG0 := keep hd mG0
        replace mG1 := keep hd mG1
        replace mU0 := keep hd mU0
        replace mU1 := keep hd mU1
        replace hiK := hiK.below hd
        replace hiQ := hiQ.below hd
        replace hiS := hiS.below hd
        replace hiO := hiO.below hd
        replace hiA := hiA.below hd
        replace hiB := hiB.below hd
        replace hiT := hiT.below hd
        replace hiG := hiG.below hd
        replace hiU := hiU.below hd
        replace hiZ := hiZ.below hd
        replace hB := chain hB hd
        have hs13 := hd.size
        clear hb hd
        go_wp2_with fail
        refine (weEqual_eq _ _ _ _ _ _ _ _ _ _ _ hiB hiG (by rw [E2h.out]) (by rw [E2h.out])).mono ?_; rintro e w14 ⟨rfl, hb⟩
        have hd := hb
        replace f0 := keep hd f0
        replace f1 := keep hd f1
        replace mK0 := keep hd mK0
        replace mK1 := keep hd mK1
        replace mQ0 := keep hd mQ0
        replace mQ1 := keep hd mQ1
        replace mS0 := keep hd mS0
        replace mS1 := keep hd mS1
        replace mO0 := keep hd mO0
        replace mO1 := keep hd mO1
        replace mA0 := keep hd mA0
        replace mA1 := keep hd mA1
        replace mB0 := keep hd mB0
        replace mB1 := keep hd mB1
        replace mT0 := keep hd mT0
        replace mT1 := keep hd mT1
        replace mG0 := keep hd mG0
        replace mG1 := keep hd mG1
        replace mU0 := keep hd mU0
        replace mU1 := keep hd mU1
        replace mZ0 := keep hd mZ0
        replace mZ1 := keep hd mZ1
        replace hiK := hiK.below hd
        replace hiQ := hiQ.below hd
        replace hiS := hiS.below hd
        replace hiO := hiO.below hd
        replace hiA := hiA.below hd
        replace hiB := hiB.below hd
        replace hiT := hiT.below hd
        replace hiG := hiG.below hd
        replace hiU := hiU.below hd
        replace hiZ := hiZ.below hd
        replace hB := chain hB hd
        have hs14 := hd.size
        clear hb hd
        go_wp2_with fail
        refine (weEqual_eq _ _ _ _ _ _ _ _ _ _ _ hiU hiZ (by rw [E3h.out]) (by rw [E3h.out])).mono ?_; rintro e w15 ⟨rfl, hb⟩
        have hd := hb
        replace f0 := keep hd f0
        replace f1 := keep hd f1
        replace mK0 := keep hd mK0
        replace mK1 := keep hd mK1
        replace mQ0 := keep hd mQ0
        replace mQ1 := keep hd mQ1
        replace mS0 := keep hd mS0
        replace mS1 := keep hd mS1
        replace mO0 := keep hd mO0
        replace mO1 := keep hd mO1
        replace mA0 := keep hd mA0
        replace mA1 := keep hd mA1
        replace mB0 := keep hd mB0
        replace mB1 := keep hd mB1
        replace mT0 := keep hd mT0
        replace mT1 := keep hd mT1
        replace mG0 := keep hd mG0
        replace mG1 := keep hd mG1
        replace mU0 := keep hd mU0
        replace mU1 := keep hd mU1
        replace mZ0 := keep hd mZ0
        replace mZ1 := keep hd mZ1
        replace hiK := hiK.below hd
        replace hiQ := hiQ.below hd
        replace hiS := hiS.below hd
        replace hiO := hiO.below hd
        replace hiA := hiA.below hd
        replace hiB := hiB.below hd
        replace hiT := hiT.below hd
        replace hiG := hiG.below hd
        replace hiU := hiU.below hd
        replace hiZ := hiZ.below hd
        replace hB := chain hB hd
        have hs15 := hd.size
        clear hb hd
        go_wp2
        go_ret
        exact ⟨rfl, hB⟩
    · rcases hy with rfl | rfl
      · obtain ⟨L1, L2, L3⟩ := rule_law (x := 1) (y := 0) (nu := nu) (de := de) (sx := 2) (so := 1) (ty := 1) (x1 := 1) (y1 := 0) (by decide) (by rw [HK.out]; exact ho)
        rw [HK.out] at L1 L2 L3
        obtain ⟨rS, HS⟩ : ∃ r, Hid (sureM 2 2 = r) := ⟨_, rfl⟩
        go_wp2_with fail
        refine (SureMass_any 2 _ _).mono ?_; rw [HS.out]; rintro e w5 ⟨⟨vS, rfl, hrS⟩, hb⟩
        obtain ⟨aS, nS, cS, rfl, hiS⟩ := hrS.ints
        clear hrS
        have hd := hb
        replace f0 := keep hd f0
        replace f1 := keep hd f1
        replace mK0 := keep hd mK0
        replace mK1 := keep hd mK1
        replace mQ0 := keep hd mQ0
        replace mQ1 := keep hd mQ1
        replace hiK := hiK.below hd
        replace hiQ := hiQ.below hd
        replace hB := chain hB hd
        have hs5 := hd.size
        clear hb hd
        obtain ⟨rO, HO⟩ : ∃ r, Hid (sureM 2 1 = r) := ⟨_, rfl⟩
        go_wp2_with fail
        refine (SureMass_any 2 _ _).mono ?_; rw [HO.out]; rintro e w6 ⟨⟨vO, rfl, hrO⟩, hb⟩
        obtain ⟨aO, nO, cO, rfl, hiO⟩ := hrO.ints
        clear hrO
        have mS0 := keep hb (a := ⟨w5.heap.size, 0, none⟩) (v := .int .i64 rS.size) (by simp)
        have mS1 := keep hb (a := ⟨w5.heap.size, 1, none⟩) (v := .slice aS nS cS) (by simp)
        have hN21 : w5.heap.size < w6.heap.size := by have := World.block_lt_of_cell? w6 _ mS0; simpa using this
        have hd : Below w5.heap.size w5 w6 := Below.trans (by (repeat (first | exact Below.refl _ _ | assumption | refine Below.alloc ?_ (by first | omega | (simp <;> omega)) _ | refine Below.setCell ?_ (by first | omega | (simp <;> omega)) _ | refine Below.drew ?_ | refine below_drewN ?_))) (hb.mono (by simp <;> omega))
        replace f0 := keep hd f0
        replace f1 := keep hd f1
        replace mK0 := keep hd mK0
        replace mK1 := keep hd mK1
        replace mQ0 := keep hd mQ0
        replace mQ1 := keep hd mQ1
        replace hiK := hiK.below hd
        replace hiQ := hiQ.below hd
        replace hiS := hiS.below hd
        replace hB := chain hB hd
        have hs6 := hd.size
        clear hb hd
        obtain ⟨rA, HA⟩ : ∃ r, Hid (passM rS.size rS.parts rK.size rK.parts = r) := ⟨_, rfl⟩
        go_wp2_with fail
        refine (PassOn_any _ _ _ _ _ _ _ _ rS.parts rK.parts _ (hiS.below (by (repeat (first | exact Below.refl _ _ | assumption | refine Below.alloc ?_ (by first | omega | (simp <;> omega)) _ | refine Below.setCell ?_ (by first | omega | (simp <;> omega)) _ | refine Below.drew ?_ | refine below_drewN ?_)))) (hiK.below (by (repeat (first | exact Below.refl _ _ | assumption | refine Below.alloc ?_ (by first | omega | (simp <;> omega)) _ | refine Below.setCell ?_ (by first | omega | (simp <;> omega)) _ | refine Below.drew ?_ | refine below_drewN ?_))))).mono ?_; rw [HA.out]; rintro e w7 ⟨⟨vA, rfl, hrA⟩, hb⟩
        obtain ⟨aA, nA, cA, rfl, hiA⟩ := hrA.ints
        clear hrA
        have mO0 := keep hb (a := ⟨w6.heap.size, 0, none⟩) (v := .int .i64 rO.size) (by simp)
        have mO1 := keep hb (a := ⟨w6.heap.size, 1, none⟩) (v := .slice aO nO cO) (by simp)
        have hN22 : w6.heap.size < w7.heap.size := by have := World.block_lt_of_cell? w7 _ mO0; simpa using this
        have hd : Below w6.heap.size w6 w7 := Below.trans (by (repeat (first | exact Below.refl _ _ | assumption | refine Below.alloc ?_ (by first | omega | (simp <;> omega)) _ | refine Below.setCell ?_ (by first | omega | (simp <;> omega)) _ | refine Below.drew ?_ | refine below_drewN ?_))) (hb.mono (by simp <;> omega))
        replace f0 := keep hd f0
        replace f1 := keep hd f1
        replace mK0 := keep hd mK0
        replace mK1 := keep hd mK1
        replace mQ0 := keep hd mQ0
        replace mQ1 := keep hd mQ1
        replace mS0 := keep hd mS0
        replace mS1 := keep hd mS1
        replace hiK := hiK.below hd
        replace hiQ := hiQ.below hd
        replace hiS := hiS.below hd
        replace hiO := hiO.below hd
        replace hB := chain hB hd
        have hs7 := hd.size
        clear hb hd
        obtain ⟨rB, HB⟩ : ∃ r, Hid (passM rO.size rO.parts rK.size rK.parts = r) := ⟨_, rfl⟩
        go_wp2_with fail
        refine (PassOn_any _ _ _ _ _ _ _ _ rO.parts rK.parts _ (hiO.below (by (repeat (first | exact Below.refl _ _ | assumption | refine Below.alloc ?_ (by first | omega | (simp <;> omega)) _ | refine Below.setCell ?_ (by first | omega | (simp <;> omega)) _ | refine Below.drew ?_ | refine below_drewN ?_)))) (hiK.below (by (repeat (first | exact Below.refl _ _ | assumption | refine Below.alloc ?_ (by first | omega | (simp <;> omega)) _ | refine Below.setCell ?_ (by first | omega | (simp <;> omega)) _ | refine Below.drew ?_ | refine below_drewN ?_))))).mono ?_; rw [HB.out]; rintro e w8 ⟨⟨vB, rfl, hrB⟩, hb⟩
        obtain ⟨aB, nB, cB, rfl, hiB⟩ := hrB.ints
        clear hrB
        have mA0 := keep hb (a := ⟨w7.heap.size, 0, none⟩) (v := .int .i64 rA.size) (by simp)
        have mA1 := keep hb (a := ⟨w7.heap.size, 1, none⟩) (v := .slice aA nA cA) (by simp)
        have hN23 : w7.heap.size < w8.heap.size := by have := World.block_lt_of_cell? w8 _ mA0; simpa using this
        have hd : Below w7.heap.size w7 w8 := Below.trans (by (repeat (first | exact Below.refl _ _ | assumption | refine Below.alloc ?_ (by first | omega | (simp <;> omega)) _ | refine Below.setCell ?_ (by first | omega | (simp <;> omega)) _ | refine Below.drew ?_ | refine below_drewN ?_))) (hb.mono (by simp <;> omega))
        replace f0 := keep hd f0
        replace f1 := keep hd f1
        replace mK0 := keep hd mK0
        replace mK1 := keep hd mK1
        replace mQ0 := keep hd mQ0
        replace mQ1 := keep hd mQ1
        replace mS0 := keep hd mS0
        replace mS1 := keep hd mS1
        replace mO0 := keep hd mO0
        replace mO1 := keep hd mO1
        replace hiK := hiK.below hd
        replace hiQ := hiQ.below hd
        replace hiS := hiS.below hd
        replace hiO := hiO.below hd
        replace hiA := hiA.below hd
        replace hB := chain hB hd
        have hs8 := hd.size
        clear hb hd
        obtain ⟨rT, HT⟩ : ∃ r, Hid (simpleM 2 1 nu de = r) := ⟨_, rfl⟩
        go_wp2_with fail
        refine (SimpleMass_any 2 _ nu de _).mono ?_; rw [HT.out]; rintro e w9 ⟨⟨vT, rfl, hrT⟩, hb⟩
        obtain ⟨aT, nT, cT, rfl, hiT⟩ := hrT.ints
        clear hrT
        have mB0 := keep hb (a := ⟨w8.heap.size, 0, none⟩) (v := .int .i64 rB.size) (by simp)
        have mB1 := keep hb (a := ⟨w8.heap.size, 1, none⟩) (v := .slice aB nB cB) (by simp)
        have hN24 : w8.heap.size < w9.heap.size := by have := World.block_lt_of_cell? w9 _ mB0; simpa using this
        have hd : Below w8.heap.size w8 w9 := Below.trans (by (repeat (first | exact Below.refl _ _ | assumption | refine Below.alloc ?_ (by first | omega | (simp <;> omega)) _ | refine Below.setCell ?_ (by first | omega | (simp <;> omega)) _ | refine Below.drew ?_ | refine below_drewN ?_))) (hb.mono (by simp <;> omega))
        replace f0 := keep hd f0
        replace f1 := keep hd f1
        replace mK0 := keep hd mK0
        replace mK1 := keep hd mK1
        replace mQ0 := keep hd mQ0
        replace mQ1 := keep hd mQ1
        replace mS0 := keep hd mS0
        replace mS1 := keep hd mS1
        replace mO0 := keep hd mO0
        replace mO1 := keep hd mO1
        replace mA0 := keep hd mA0
        replace mA1 := keep hd mA1
        replace hiK := hiK.below hd
        replace hiQ := hiQ.below hd
        replace hiS := hiS.below hd
        replace hiO := hiO.below hd
        replace hiA := hiA.below hd
        replace hiB := hiB.below hd
        replace hB := chain hB hd
        have hs9 := hd.size
        clear hb hd
        obtain ⟨rG, HG⟩ : ∃ r, Hid (sureM 2 3 = r) := ⟨_, rfl⟩
        go_wp2_with fail
        refine (NoEvidence2 _).mono ?_; rw [HG.out]; rintro e w10 ⟨⟨vG, rfl, hrG⟩, hb⟩
        obtain ⟨aG, nG, cG, rfl, hiG⟩ := hrG.ints
        clear hrG
        have mT0 := keep hb (a := ⟨w9.heap.size, 0, none⟩) (v := .int .i64 rT.size) (by simp)
        have mT1 := keep hb (a := ⟨w9.heap.size, 1, none⟩) (v := .slice aT nT cT) (by simp)
        have hN25 : w9.heap.size < w10.heap.size := by have := World.block_lt_of_cell? w10 _ mT0; simpa using this
        have hd : Below w9.heap.size w9 w10 := Below.trans (by (repeat (first | exact Below.refl _ _ | assumption | refine Below.alloc ?_ (by first | omega | (simp <;> omega)) _ | refine Below.setCell ?_ (by first | omega | (simp <;> omega)) _ | refine Below.drew ?_ | refine below_drewN ?_))) (hb.mono (by simp <;> omega))
        replace f0 := keep hd f0
        replace f1 := keep hd f1
        replace mK0 := keep hd mK0
        replace mK1 := keep hd mK1
        replace mQ0 := keep hd mQ0
        replace mQ1 := keep hd mQ1
        replace mS0 := keep hd mS0
        replace mS1 := keep hd mS1
        replace mO0 := keep hd mO0
        replace mO1 := keep hd mO1
        replace mA0 := keep hd mA0
        replace mA1 := keep hd mA1
        replace mB0 := keep hd mB0
        replace mB1 := keep hd mB1
        replace hiK := hiK.below hd
        replace hiQ := hiQ.below hd
        replace hiS := hiS.below hd
        replace hiO := hiO.below hd
        replace hiA := hiA.below hd
        replace hiB := hiB.below hd
        replace hiT := hiT.below hd
        replace hB := chain hB hd
        have hs10 := hd.size
        clear hb hd
        obtain ⟨rU, HU⟩ : ∃ r, Hid (swapM rK.size rK.parts = r) := ⟨_, rfl⟩
        go_wp2_with fail
        refine (SwapPairs_any _ _ _ _ rK.parts _ (hiK.below (by (repeat (first | exact Below.refl _ _ | assumption | refine Below.alloc ?_ (by first | omega | (simp <;> omega)) _ | refine Below.setCell ?_ (by first | omega | (simp <;> omega)) _ | refine Below.drew ?_ | refine below_drewN ?_))))).mono ?_; rw [HU.out]; rintro e w11 ⟨⟨vU, rfl, hrU⟩, hb⟩
        obtain ⟨aU, nU, cU, rfl, hiU⟩ := hrU.ints
        clear hrU
        have mG0 := keep hb (a := ⟨w10.heap.size, 0, none⟩) (v := .int .i64 rG.size) (by simp)
        have mG1 := keep hb (a := ⟨w10.heap.size, 1, none⟩) (v := .slice aG nG cG) (by simp)
        have hN26 : w10.heap.size < w11.heap.size := by have := World.block_lt_of_cell? w11 _ mG0; simpa using this
        have hd : Below w10.heap.size w10 w11 := Below.trans (by (repeat (first | exact Below.refl _ _ | assumption | refine Below.alloc ?_ (by first | omega | (simp <;> omega)) _ | refine Below.setCell ?_ (by first | omega | (simp <;> omega)) _ | refine Below.drew ?_ | refine below_drewN ?_))) (hb.mono (by simp <;> omega))
        replace f0 := keep hd f0
        replace f1 := keep hd f1
        replace mK0 := keep hd mK0
        replace mK1 := keep hd mK1
        replace mQ0 := keep hd mQ0
        replace mQ1 := keep hd mQ1
        replace mS0 := keep hd mS0
        replace mS1 := keep hd mS1
        replace mO0 := keep hd mO0
        replace mO1 := keep hd mO1
        replace mA0 := keep hd mA0
        replace mA1 := keep hd mA1
        replace mB0 := keep hd mB0
        replace mB1 := keep hd mB1
        replace mT0 := keep hd mT0
        replace mT1 := keep hd mT1
        replace hiK := hiK.below hd
        replace hiQ := hiQ.below hd
        replace hiS := hiS.below hd
        replace hiO := hiO.below hd
        replace hiA := hiA.below hd
        replace hiB := hiB.below hd
        replace hiT := hiT.below hd
        replace hiG := hiG.below hd
        replace hB := chain hB hd
        have hs11 := hd.size
        clear hb hd
        obtain ⟨rZ, HZ⟩ : ∃ r, Hid (ruleM 1 0 nu de = r) := ⟨_, rfl⟩
        go_wp2_with fail
        refine (RuleMass_any _ _ nu de _).mono ?_; rw [HZ.out]; rintro e w12 ⟨⟨vZ, rfl, hrZ⟩, hb⟩
        obtain ⟨aZ, nZ, cZ, rfl, hiZ⟩ := hrZ.ints
        clear hrZ
        have mU0 := keep hb (a := ⟨w11.heap.size, 0, none⟩) (v := .int .i64 rU.size) (by simp)
        have mU1 := keep hb (a := ⟨w11.heap.size, 1, none⟩) (v := .slice aU nU cU) (by simp)
        have hN27 : w11.heap.size < w12.heap.size := by have := World.block_lt_of_cell? w12 _ mU0; simpa using this
        have hd : Below w11.heap.size w11 w12 := Below.trans (by (repeat (first | exact Below.refl _ _ | assumption | refine Below.alloc ?_ (by first | omega | (simp <;> omega)) _ | refine Below.setCell ?_ (by first | omega | (simp <;> omega)) _ | refine Below.drew ?_ | refine below_drewN ?_))) (hb.mono (by simp <;> omega))
        replace f0 := keep hd f0
        replace f1 := keep hd f1
        replace mK0 := keep hd mK0
        replace mK1 := keep hd mK1
        replace mQ0 := keep hd mQ0
        replace mQ1 := keep hd mQ1
        replace mS0 := keep hd mS0
        replace mS1 := keep hd mS1
        replace mO0 := keep hd mO0
        replace mO1 := keep hd mO1
        replace mA0 := keep hd mA0
        replace mA1 := keep hd mA1
        replace mB0 := keep hd mB0
        replace mB1 := keep hd mB1
        replace mT0 := keep hd mT0
        replace mT1 := keep hd mT1
        replace mG0 := keep hd mG0
        replace mG1 := keep hd mG1
        replace hiK := hiK.below hd
        replace hiQ := hiQ.below hd
        replace hiS := hiS.below hd
        replace hiO := hiO.below hd
        replace hiA := hiA.below hd
        replace hiB := hiB.below hd
        replace hiT := hiT.below hd
        replace hiG := hiG.below hd
        replace hiU := hiU.below hd
        replace hB := chain hB hd
        have hs12 := hd.size
        clear hb hd
        have E1 : rA = rT ∧ rA.ok = true := by rw [← HA.out, ← HT.out, ← HS.out]; exact L1
        have E2 : rB = rG ∧ rB.ok = true := by rw [← HB.out, ← HG.out, ← HO.out]; exact L2
        have E3 : rU = rZ ∧ rZ.ok = true := by rw [← HU.out, ← HZ.out]; first | exact L3 | (rw [HK.out]; exact L3)
        have g1 := E1.2
        have g2 := E2.2
        have g3 := E3.2
        have E1h := hid E1.1
        have E2h := hid E2.1
        have E3h := hid E3.1
        clear E1 E2 E3 L1 L2 L3
        go_wp2_with fail
        refine (weEqual_eq _ _ _ _ _ _ _ _ _ _ _ (hiA.below (by (repeat (first | exact Below.refl _ _ | assumption | refine Below.alloc ?_ (by first | omega | (simp <;> omega)) _ | refine Below.setCell ?_ (by first | omega | (simp <;> omega)) _ | refine Below.drew ?_ | refine below_drewN ?_)))) (hiT.below (by (repeat (first | exact Below.refl _ _ | assumption | refine Below.alloc ?_ (by first | omega | (simp <;> omega)) _ | refine Below.setCell ?_ (by first | omega | (simp <;> omega)) _ | refine Below.drew ?_ | refine below_drewN ?_)))) (by rw [E1h.out]) (by rw [E1h.out])).mono ?_; rintro e w13 ⟨rfl, hb⟩
        have mZ0 := keep hb (a := ⟨w12.heap.size, 0, none⟩) (v := .int .i64 rZ.size) (by simp)
        have mZ1 := keep hb (a := ⟨w12.heap.size, 1, none⟩) (v := .slice aZ nZ cZ) (by simp)
        have hN28 : w12.heap.size < w13.heap.size := by have := World.block_lt_of_cell? w13 _ mZ0; simpa using this
        have hd : Below w12.heap.size w12 w13 := Below.trans (by (repeat (first | exact Below.refl _ _ | assumption | refine Below.alloc ?_ (by first | omega | (simp <;> omega)) _ | refine Below.setCell ?_ (by first | omega | (simp <;> omega)) _ | refine Below.drew ?_ | refine below_drewN ?_))) (hb.mono (by simp <;> omega))
        replace f0 := keep hd f0
        replace f1 := keep hd f1
        replace mK0 := keep hd mK0
        replace mK1 := keep hd mK1
        replace mQ0 := keep hd mQ0
        replace mQ1 := keep hd mQ1
        replace mS0 := keep hd mS0
        replace mS1 := keep hd mS1
        replace mO0 := keep hd mO0
        replace mO1 := keep hd mO1
        replace mA0 := keep hd mA0
        replace mA1 := keep hd mA1
        replace mB0 := keep hd mB0
        replace mB1 := keep hd mB1
        replace mT0 := keep hd mT0
        replace mT1 := keep hd mT1
        replace mG0 := keep hd mG0
        replace mG1 := keep hd mG1
        replace mU0 := keep hd mU0
        replace mU1 := keep hd mU1
        replace hiK := hiK.below hd
        replace hiQ := hiQ.below hd
        replace hiS := hiS.below hd
        replace hiO := hiO.below hd
        replace hiA := hiA.below hd
        replace hiB := hiB.below hd
        replace hiT := hiT.below hd
        replace hiG := hiG.below hd
        replace hiU := hiU.below hd
        replace hiZ := hiZ.below hd
        replace hB := chain hB hd
        have hs13 := hd.size
        clear hb hd
        go_wp2_with fail
        refine (weEqual_eq _ _ _ _ _ _ _ _ _ _ _ hiB hiG (by rw [E2h.out]) (by rw [E2h.out])).mono ?_; rintro e w14 ⟨rfl, hb⟩
        have hd := hb
        replace f0 := keep hd f0
        replace f1 := keep hd f1
        replace mK0 := keep hd mK0
        replace mK1 := keep hd mK1
        replace mQ0 := keep hd mQ0
        replace mQ1 := keep hd mQ1
        replace mS0 := keep hd mS0
        replace mS1 := keep hd mS1
        replace mO0 := keep hd mO0
        replace mO1 := keep hd mO1
        replace mA0 := keep hd mA0
        replace mA1 := keep hd mA1
        replace mB0 := keep hd mB0
        replace mB1 := keep hd mB1
        replace mT0 := keep hd mT0
        replace mT1 := keep hd mT1
        replace mG0 := keep hd mG0
        replace mG1 := keep hd mG1
        replace mU0 := keep hd mU0
        replace mU1 := keep hd mU1
        replace mZ0 := keep hd mZ0
        replace mZ1 := keep hd mZ1
        replace hiK := hiK.below hd
        replace hiQ := hiQ.below hd
        replace hiS := hiS.below hd
        replace hiO := hiO.below hd
        replace hiA := hiA.below hd
        replace hiB := hiB.below hd
        replace hiT := hiT.below hd
        replace hiG := hiG.below hd
        replace hiU := hiU.below hd
        replace hiZ := hiZ.below hd
        replace hB := chain hB hd
        have hs14 := hd.size
        clear hb hd
        go_wp2_with fail
        refine (weEqual_eq _ _ _ _ _ _ _ _ _ _ _ hiU hiZ (by rw [E3h.out]) (by rw [E3h.out])).mono ?_; rintro e w15 ⟨rfl, hb⟩
        have hd := hb
        replace f0 := keep hd f0
        replace f1 := keep hd f1
        replace mK0 := keep hd mK0
        replace mK1 := keep hd mK1
        replace mQ0 := keep hd mQ0
        replace mQ1 := keep hd mQ1
        replace mS0 := keep hd mS0
        replace mS1 := keep hd mS1
        replace mO0 := keep hd mO0
        replace mO1 := keep hd mO1
        replace mA0 := keep hd mA0
        replace mA1 := keep hd mA1
        replace mB0 := keep hd mB0
        replace mB1 := keep hd mB1
        replace mT0 := keep hd mT0
        replace mT1 := keep hd mT1
        replace mG0 := keep hd mG0
        replace mG1 := keep hd mG1
        replace mU0 := keep hd mU0
        replace mU1 := keep hd mU1
        replace mZ0 := keep hd mZ0
        replace mZ1 := keep hd mZ1
        replace hiK := hiK.below hd
        replace hiQ := hiQ.below hd
        replace hiS := hiS.below hd
        replace hiO := hiO.below hd
        replace hiA := hiA.below hd
        replace hiB := hiB.below hd
        replace hiT := hiT.below hd
        replace hiG := hiG.below hd
        replace hiU := hiU.below hd
        replace hiZ := hiZ.below hd
        replace hB := chain hB hd
        have hs15 := hd.size
        clear hb hd
        go_wp2
        go_ret
        exact ⟨rfl, hB⟩
      · obtain ⟨L1, L2, L3⟩ := rule_law (x := 1) (y := 1) (nu := nu) (de := de) (sx := 2) (so := 1) (ty := 2) (x1 := 0) (y1 := 0) (by decide) (by rw [HK.out]; exact ho)
        rw [HK.out] at L1 L2 L3
        obtain ⟨rS, HS⟩ : ∃ r, Hid (sureM 2 2 = r) := ⟨_, rfl⟩
        go_wp2_with fail
        refine (SureMass_any 2 _ _).mono ?_; rw [HS.out]; rintro e w5 ⟨⟨vS, rfl, hrS⟩, hb⟩
        obtain ⟨aS, nS, cS, rfl, hiS⟩ := hrS.ints
        clear hrS
        have hd := hb
        replace f0 := keep hd f0
        replace f1 := keep hd f1
        replace mK0 := keep hd mK0
        replace mK1 := keep hd mK1
        replace mQ0 := keep hd mQ0
        replace mQ1 := keep hd mQ1
        replace hiK := hiK.below hd
        replace hiQ := hiQ.below hd
        replace hB := chain hB hd
        have hs5 := hd.size
        clear hb hd
        obtain ⟨rO, HO⟩ : ∃ r, Hid (sureM 2 1 = r) := ⟨_, rfl⟩
        go_wp2_with fail
        refine (SureMass_any 2 _ _).mono ?_; rw [HO.out]; rintro e w6 ⟨⟨vO, rfl, hrO⟩, hb⟩
        obtain ⟨aO, nO, cO, rfl, hiO⟩ := hrO.ints
        clear hrO
        have mS0 := keep hb (a := ⟨w5.heap.size, 0, none⟩) (v := .int .i64 rS.size) (by simp)
        have mS1 := keep hb (a := ⟨w5.heap.size, 1, none⟩) (v := .slice aS nS cS) (by simp)
        have hN29 : w5.heap.size < w6.heap.size := by have := World.block_lt_of_cell? w6 _ mS0; simpa using this
        have hd : Below w5.heap.size w5 w6 := Below.trans (by (repeat (first | exact Below.refl _ _ | assumption | refine Below.alloc ?_ (by first | omega | (simp <;> omega)) _ | refine Below.setCell ?_ (by first | omega | (simp <;> omega)) _ | refine Below.drew ?_ | refine below_drewN ?_))) (hb.mono (by simp <;> omega))
        replace f0 := keep hd f0
        replace f1 := keep hd f1
        replace mK0 := keep hd mK0
        replace mK1 := keep hd mK1
        replace mQ0 := keep hd mQ0
        replace mQ1 := keep hd mQ1
        replace hiK := hiK.below hd
        replace hiQ := hiQ.below hd
        replace hiS := hiS.below hd
        replace hB := chain hB hd
        have hs6 := hd.size
        clear hb hd
        obtain ⟨rA, HA⟩ : ∃ r, Hid (passM rS.size rS.parts rK.size rK.parts = r) := ⟨_, rfl⟩
        go_wp2_with fail
        refine (PassOn_any _ _ _ _ _ _ _ _ rS.parts rK.parts _ (hiS.below (by (repeat (first | exact Below.refl _ _ | assumption | refine Below.alloc ?_ (by first | omega | (simp <;> omega)) _ | refine Below.setCell ?_ (by first | omega | (simp <;> omega)) _ | refine Below.drew ?_ | refine below_drewN ?_)))) (hiK.below (by (repeat (first | exact Below.refl _ _ | assumption | refine Below.alloc ?_ (by first | omega | (simp <;> omega)) _ | refine Below.setCell ?_ (by first | omega | (simp <;> omega)) _ | refine Below.drew ?_ | refine below_drewN ?_))))).mono ?_; rw [HA.out]; rintro e w7 ⟨⟨vA, rfl, hrA⟩, hb⟩
        obtain ⟨aA, nA, cA, rfl, hiA⟩ := hrA.ints
        clear hrA
        have mO0 := keep hb (a := ⟨w6.heap.size, 0, none⟩) (v := .int .i64 rO.size) (by simp)
        have mO1 := keep hb (a := ⟨w6.heap.size, 1, none⟩) (v := .slice aO nO cO) (by simp)
        have hN30 : w6.heap.size < w7.heap.size := by have := World.block_lt_of_cell? w7 _ mO0; simpa using this
        have hd : Below w6.heap.size w6 w7 := Below.trans (by (repeat (first | exact Below.refl _ _ | assumption | refine Below.alloc ?_ (by first | omega | (simp <;> omega)) _ | refine Below.setCell ?_ (by first | omega | (simp <;> omega)) _ | refine Below.drew ?_ | refine below_drewN ?_))) (hb.mono (by simp <;> omega))
        replace f0 := keep hd f0
        replace f1 := keep hd f1
        replace mK0 := keep hd mK0
        replace mK1 := keep hd mK1
        replace mQ0 := keep hd mQ0
        replace mQ1 := keep hd mQ1
        replace mS0 := keep hd mS0
        replace mS1 := keep hd mS1
        replace hiK := hiK.below hd
        replace hiQ := hiQ.below hd
        replace hiS := hiS.below hd
        replace hiO := hiO.below hd
        replace hB := chain hB hd
        have hs7 := hd.size
        clear hb hd
        obtain ⟨rB, HB⟩ : ∃ r, Hid (passM rO.size rO.parts rK.size rK.parts = r) := ⟨_, rfl⟩
        go_wp2_with fail
        refine (PassOn_any _ _ _ _ _ _ _ _ rO.parts rK.parts _ (hiO.below (by (repeat (first | exact Below.refl _ _ | assumption | refine Below.alloc ?_ (by first | omega | (simp <;> omega)) _ | refine Below.setCell ?_ (by first | omega | (simp <;> omega)) _ | refine Below.drew ?_ | refine below_drewN ?_)))) (hiK.below (by (repeat (first | exact Below.refl _ _ | assumption | refine Below.alloc ?_ (by first | omega | (simp <;> omega)) _ | refine Below.setCell ?_ (by first | omega | (simp <;> omega)) _ | refine Below.drew ?_ | refine below_drewN ?_))))).mono ?_; rw [HB.out]; rintro e w8 ⟨⟨vB, rfl, hrB⟩, hb⟩
        obtain ⟨aB, nB, cB, rfl, hiB⟩ := hrB.ints
        clear hrB
        have mA0 := keep hb (a := ⟨w7.heap.size, 0, none⟩) (v := .int .i64 rA.size) (by simp)
        have mA1 := keep hb (a := ⟨w7.heap.size, 1, none⟩) (v := .slice aA nA cA) (by simp)
        have hN31 : w7.heap.size < w8.heap.size := by have := World.block_lt_of_cell? w8 _ mA0; simpa using this
        have hd : Below w7.heap.size w7 w8 := Below.trans (by (repeat (first | exact Below.refl _ _ | assumption | refine Below.alloc ?_ (by first | omega | (simp <;> omega)) _ | refine Below.setCell ?_ (by first | omega | (simp <;> omega)) _ | refine Below.drew ?_ | refine below_drewN ?_))) (hb.mono (by simp <;> omega))
        replace f0 := keep hd f0
        replace f1 := keep hd f1
        replace mK0 := keep hd mK0
        replace mK1 := keep hd mK1
        replace mQ0 := keep hd mQ0
        replace mQ1 := keep hd mQ1
        replace mS0 := keep hd mS0
        replace mS1 := keep hd mS1
        replace mO0 := keep hd mO0
        replace mO1 := keep hd mO1
        replace hiK := hiK.below hd
        replace hiQ := hiQ.below hd
        replace hiS := hiS.below hd
        replace hiO := hiO.below hd
        replace hiA := hiA.below hd
        replace hB := chain hB hd
        have hs8 := hd.size
        clear hb hd
        obtain ⟨rT, HT⟩ : ∃ r, Hid (simpleM 2 2 nu de = r) := ⟨_, rfl⟩
        go_wp2_with fail
        refine (SimpleMass_any 2 _ nu de _).mono ?_; rw [HT.out]; rintro e w9 ⟨⟨vT, rfl, hrT⟩, hb⟩
        obtain ⟨aT, nT, cT, rfl, hiT⟩ := hrT.ints
        clear hrT
        have mB0 := keep hb (a := ⟨w8.heap.size, 0, none⟩) (v := .int .i64 rB.size) (by simp)
        have mB1 := keep hb (a := ⟨w8.heap.size, 1, none⟩) (v := .slice aB nB cB) (by simp)
        have hN32 : w8.heap.size < w9.heap.size := by have := World.block_lt_of_cell? w9 _ mB0; simpa using this
        have hd : Below w8.heap.size w8 w9 := Below.trans (by (repeat (first | exact Below.refl _ _ | assumption | refine Below.alloc ?_ (by first | omega | (simp <;> omega)) _ | refine Below.setCell ?_ (by first | omega | (simp <;> omega)) _ | refine Below.drew ?_ | refine below_drewN ?_))) (hb.mono (by simp <;> omega))
        replace f0 := keep hd f0
        replace f1 := keep hd f1
        replace mK0 := keep hd mK0
        replace mK1 := keep hd mK1
        replace mQ0 := keep hd mQ0
        replace mQ1 := keep hd mQ1
        replace mS0 := keep hd mS0
        replace mS1 := keep hd mS1
        replace mO0 := keep hd mO0
        replace mO1 := keep hd mO1
        replace mA0 := keep hd mA0
        replace mA1 := keep hd mA1
        replace hiK := hiK.below hd
        replace hiQ := hiQ.below hd
        replace hiS := hiS.below hd
        replace hiO := hiO.below hd
        replace hiA := hiA.below hd
        replace hiB := hiB.below hd
        replace hB := chain hB hd
        have hs9 := hd.size
        clear hb hd
        obtain ⟨rG, HG⟩ : ∃ r, Hid (sureM 2 3 = r) := ⟨_, rfl⟩
        go_wp2_with fail
        refine (NoEvidence2 _).mono ?_; rw [HG.out]; rintro e w10 ⟨⟨vG, rfl, hrG⟩, hb⟩
        obtain ⟨aG, nG, cG, rfl, hiG⟩ := hrG.ints
        clear hrG
        have mT0 := keep hb (a := ⟨w9.heap.size, 0, none⟩) (v := .int .i64 rT.size) (by simp)
        have mT1 := keep hb (a := ⟨w9.heap.size, 1, none⟩) (v := .slice aT nT cT) (by simp)
        have hN33 : w9.heap.size < w10.heap.size := by have := World.block_lt_of_cell? w10 _ mT0; simpa using this
        have hd : Below w9.heap.size w9 w10 := Below.trans (by (repeat (first | exact Below.refl _ _ | assumption | refine Below.alloc ?_ (by first | omega | (simp <;> omega)) _ | refine Below.setCell ?_ (by first | omega | (simp <;> omega)) _ | refine Below.drew ?_ | refine below_drewN ?_))) (hb.mono (by simp <;> omega))
        replace f0 := keep hd f0
        replace f1 := keep hd f1
        replace mK0 := keep hd mK0
        replace mK1 := keep hd mK1
        replace mQ0 := keep hd mQ0
        replace mQ1 := keep hd mQ1
        replace mS0 := keep hd mS0
        replace mS1 := keep hd mS1
        replace mO0 := keep hd mO0
        replace mO1 := keep hd mO1
        replace mA0 := keep hd mA0
        replace mA1 := keep hd mA1
        replace mB0 := keep hd mB0
        replace mB1 := keep hd mB1
        replace hiK := hiK.below hd
        replace hiQ := hiQ.below hd
        replace hiS := hiS.below hd
        replace hiO := hiO.below hd
        replace hiA := hiA.below hd
        replace hiB := hiB.below hd
        replace hiT := hiT.below hd
        replace hB := chain hB hd
        have hs10 := hd.size
        clear hb hd
        obtain ⟨rU, HU⟩ : ∃ r, Hid (swapM rK.size rK.parts = r) := ⟨_, rfl⟩
        go_wp2_with fail
        refine (SwapPairs_any _ _ _ _ rK.parts _ (hiK.below (by (repeat (first | exact Below.refl _ _ | assumption | refine Below.alloc ?_ (by first | omega | (simp <;> omega)) _ | refine Below.setCell ?_ (by first | omega | (simp <;> omega)) _ | refine Below.drew ?_ | refine below_drewN ?_))))).mono ?_; rw [HU.out]; rintro e w11 ⟨⟨vU, rfl, hrU⟩, hb⟩
        obtain ⟨aU, nU, cU, rfl, hiU⟩ := hrU.ints
        clear hrU
        have mG0 := keep hb (a := ⟨w10.heap.size, 0, none⟩) (v := .int .i64 rG.size) (by simp)
        have mG1 := keep hb (a := ⟨w10.heap.size, 1, none⟩) (v := .slice aG nG cG) (by simp)
        have hN34 : w10.heap.size < w11.heap.size := by have := World.block_lt_of_cell? w11 _ mG0; simpa using this
        have hd : Below w10.heap.size w10 w11 := Below.trans (by (repeat (first | exact Below.refl _ _ | assumption | refine Below.alloc ?_ (by first | omega | (simp <;> omega)) _ | refine Below.setCell ?_ (by first | omega | (simp <;> omega)) _ | refine Below.drew ?_ | refine below_drewN ?_))) (hb.mono (by simp <;> omega))
        replace f0 := keep hd f0
        replace f1 := keep hd f1
        replace mK0 := keep hd mK0
        replace mK1 := keep hd mK1
        replace mQ0 := keep hd mQ0
        replace mQ1 := keep hd mQ1
        replace mS0 := keep hd mS0
        replace mS1 := keep hd mS1
        replace mO0 := keep hd mO0
        replace mO1 := keep hd mO1
        replace mA0 := keep hd mA0
        replace mA1 := keep hd mA1
        replace mB0 := keep hd mB0
        replace mB1 := keep hd mB1
        replace mT0 := keep hd mT0
        replace mT1 := keep hd mT1
        replace hiK := hiK.below hd
        replace hiQ := hiQ.below hd
        replace hiS := hiS.below hd
        replace hiO := hiO.below hd
        replace hiA := hiA.below hd
        replace hiB := hiB.below hd
        replace hiT := hiT.below hd
        replace hiG := hiG.below hd
        replace hB := chain hB hd
        have hs11 := hd.size
        clear hb hd
        obtain ⟨rZ, HZ⟩ : ∃ r, Hid (ruleM 0 0 nu de = r) := ⟨_, rfl⟩
        go_wp2_with fail
        refine (RuleMass_any _ _ nu de _).mono ?_; rw [HZ.out]; rintro e w12 ⟨⟨vZ, rfl, hrZ⟩, hb⟩
        obtain ⟨aZ, nZ, cZ, rfl, hiZ⟩ := hrZ.ints
        clear hrZ
        have mU0 := keep hb (a := ⟨w11.heap.size, 0, none⟩) (v := .int .i64 rU.size) (by simp)
        have mU1 := keep hb (a := ⟨w11.heap.size, 1, none⟩) (v := .slice aU nU cU) (by simp)
        have hN35 : w11.heap.size < w12.heap.size := by have := World.block_lt_of_cell? w12 _ mU0; simpa using this
        have hd : Below w11.heap.size w11 w12 := Below.trans (by (repeat (first | exact Below.refl _ _ | assumption | refine Below.alloc ?_ (by first | omega | (simp <;> omega)) _ | refine Below.setCell ?_ (by first | omega | (simp <;> omega)) _ | refine Below.drew ?_ | refine below_drewN ?_))) (hb.mono (by simp <;> omega))
        replace f0 := keep hd f0
        replace f1 := keep hd f1
        replace mK0 := keep hd mK0
        replace mK1 := keep hd mK1
        replace mQ0 := keep hd mQ0
        replace mQ1 := keep hd mQ1
        replace mS0 := keep hd mS0
        replace mS1 := keep hd mS1
        replace mO0 := keep hd mO0
        replace mO1 := keep hd mO1
        replace mA0 := keep hd mA0
        replace mA1 := keep hd mA1
        replace mB0 := keep hd mB0
        replace mB1 := keep hd mB1
        replace mT0 := keep hd mT0
        replace mT1 := keep hd mT1
        replace mG0 := keep hd mG0
        replace mG1 := keep hd mG1
        replace hiK := hiK.below hd
        replace hiQ := hiQ.below hd
        replace hiS := hiS.below hd
        replace hiO := hiO.below hd
        replace hiA := hiA.below hd
        replace hiB := hiB.below hd
        replace hiT := hiT.below hd
        replace hiG := hiG.below hd
        replace hiU := hiU.below hd
        replace hB := chain hB hd
        have hs12 := hd.size
        clear hb hd
        have E1 : rA = rT ∧ rA.ok = true := by rw [← HA.out, ← HT.out, ← HS.out]; exact L1
        have E2 : rB = rG ∧ rB.ok = true := by rw [← HB.out, ← HG.out, ← HO.out]; exact L2
        have E3 : rU = rZ ∧ rZ.ok = true := by rw [← HU.out, ← HZ.out]; first | exact L3 | (rw [HK.out]; exact L3)
        have g1 := E1.2
        have g2 := E2.2
        have g3 := E3.2
        have E1h := hid E1.1
        have E2h := hid E2.1
        have E3h := hid E3.1
        clear E1 E2 E3 L1 L2 L3
        go_wp2_with fail
        refine (weEqual_eq _ _ _ _ _ _ _ _ _ _ _ (hiA.below (by (repeat (first | exact Below.refl _ _ | assumption | refine Below.alloc ?_ (by first | omega | (simp <;> omega)) _ | refine Below.setCell ?_ (by first | omega | (simp <;> omega)) _ | refine Below.drew ?_ | refine below_drewN ?_)))) (hiT.below (by (repeat (first | exact Below.refl _ _ | assumption | refine Below.alloc ?_ (by first | omega | (simp <;> omega)) _ | refine Below.setCell ?_ (by first | omega | (simp <;> omega)) _ | refine Below.drew ?_ | refine below_drewN ?_)))) (by rw [E1h.out]) (by rw [E1h.out])).mono ?_; rintro e w13 ⟨rfl, hb⟩
        have mZ0 := keep hb (a := ⟨w12.heap.size, 0, none⟩) (v := .int .i64 rZ.size) (by simp)
        have mZ1 := keep hb (a := ⟨w12.heap.size, 1, none⟩) (v := .slice aZ nZ cZ) (by simp)
        have hN36 : w12.heap.size < w13.heap.size := by have := World.block_lt_of_cell? w13 _ mZ0; simpa using this
        have hd : Below w12.heap.size w12 w13 := Below.trans (by (repeat (first | exact Below.refl _ _ | assumption | refine Below.alloc ?_ (by first | omega | (simp <;> omega)) _ | refine Below.setCell ?_ (by first | omega | (simp <;> omega)) _ | refine Below.drew ?_ | refine below_drewN ?_))) (hb.mono (by simp <;> omega))
        replace f0 := keep hd f0
        replace f1 := keep hd f1
        replace mK0 := keep hd mK0
        replace mK1 := keep hd mK1
        replace mQ0 := keep hd mQ0
        replace mQ1 := keep hd mQ1
        replace mS0 := keep hd mS0
        replace mS1 := keep hd mS1
        replace mO0 := keep hd mO0
        replace mO1 := keep hd mO1
        replace mA0 := keep hd mA0
        replace mA1 := keep hd mA1
        replace mB0 := keep hd mB0
        replace mB1 := keep hd mB1
        replace mT0 := keep hd mT0
        replace mT1 := keep hd mT1
        replace mG0 := keep hd mG0
        replace mG1 := keep hd mG1
        replace mU0 := keep hd mU0
        replace mU1 := keep hd mU1
        replace hiK := hiK.below hd
        replace hiQ := hiQ.below hd
        replace hiS := hiS.below hd
        replace hiO := hiO.below hd
        replace hiA := hiA.below hd
        replace hiB := hiB.below hd
        replace hiT := hiT.below hd
        replace hiG := hiG.below hd
        replace hiU := hiU.below hd
        replace hiZ := hiZ.below hd
        replace hB := chain hB hd
        have hs13 := hd.size
        clear hb hd
        go_wp2_with fail
        refine (weEqual_eq _ _ _ _ _ _ _ _ _ _ _ hiB hiG (by rw [E2h.out]) (by rw [E2h.out])).mono ?_; rintro e w14 ⟨rfl, hb⟩
        have hd := hb
        replace f0 := keep hd f0
        replace f1 := keep hd f1
        replace mK0 := keep hd mK0
        replace mK1 := keep hd mK1
        replace mQ0 := keep hd mQ0
        replace mQ1 := keep hd mQ1
        replace mS0 := keep hd mS0
        replace mS1 := keep hd mS1
        replace mO0 := keep hd mO0
        replace mO1 := keep hd mO1
        replace mA0 := keep hd mA0
        replace mA1 := keep hd mA1
        replace mB0 := keep hd mB0
        replace mB1 := keep hd mB1
        replace mT0 := keep hd mT0
        replace mT1 := keep hd mT1
        replace mG0 := keep hd mG0
        replace mG1 := keep hd mG1
        replace mU0 := keep hd mU0
        replace mU1 := keep hd mU1
        replace mZ0 := keep hd mZ0
        replace mZ1 := keep hd mZ1
        replace hiK := hiK.below hd
        replace hiQ := hiQ.below hd
        replace hiS := hiS.below hd
        replace hiO := hiO.below hd
        replace hiA := hiA.below hd
        replace hiB := hiB.below hd
        replace hiT := hiT.below hd
        replace hiG := hiG.below hd
        replace hiU := hiU.below hd
        replace hiZ := hiZ.below hd
        replace hB := chain hB hd
        have hs14 := hd.size
        clear hb hd
        go_wp2_with fail
        refine (weEqual_eq _ _ _ _ _ _ _ _ _ _ _ hiU hiZ (by rw [E3h.out]) (by rw [E3h.out])).mono ?_; rintro e w15 ⟨rfl, hb⟩
        have hd := hb
        replace f0 := keep hd f0
        replace f1 := keep hd f1
        replace mK0 := keep hd mK0
        replace mK1 := keep hd mK1
        replace mQ0 := keep hd mQ0
        replace mQ1 := keep hd mQ1
        replace mS0 := keep hd mS0
        replace mS1 := keep hd mS1
        replace mO0 := keep hd mO0
        replace mO1 := keep hd mO1
        replace mA0 := keep hd mA0
        replace mA1 := keep hd mA1
        replace mB0 := keep hd mB0
        replace mB1 := keep hd mB1
        replace mT0 := keep hd mT0
        replace mT1 := keep hd mT1
        replace mG0 := keep hd mG0
        replace mG1 := keep hd mG1
        replace mU0 := keep hd mU0
        replace mU1 := keep hd mU1
        replace mZ0 := keep hd mZ0
        replace mZ1 := keep hd mZ1
        replace hiK := hiK.below hd
        replace hiQ := hiQ.below hd
        replace hiS := hiS.below hd
        replace hiO := hiO.below hd
        replace hiA := hiA.below hd
        replace hiB := hiB.below hd
        replace hiT := hiT.below hd
        replace hiG := hiG.below hd
        replace hiU := hiU.below hd
        replace hiZ := hiZ.below hd
        replace hB := chain hB hd
        have hs15 := hd.size
        clear hb hd
        go_wp2
        go_ret
        exact ⟨rfl, hB⟩
end Go.Proofs.Ytphcjojdlmnnoaa
