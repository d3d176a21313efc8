/- The law FnFirstOf: its walk (printed by fngen.py). -/
import Derived.Test.YtnbjhmghobljaaaD23
import Derived.Test.YtnbjhmghobljaaaE1
import Derived.Test.YtnbjhmghobljaaaF3
import Derived.Test.YtnbjhmghobljaaaF10
import Derived.Test.YtnbjhmghobljaaaS10
import Derived.Test.YtnbjhmghobljaaaS8
import Derived.Test.YtnbjhmghobljaaaS6
set_option linter.unusedSimpArgs false
set_option linter.unusedVariables false
namespace Go.Proofs.Ytnbjhmghobljaaa
open Go.RowKit
theorem side_okb (second : Bool) (s : Int) (xs : List Int) : (sideM second s xs).ok = (massOk s xs && (s == 4)) := by
  by_cases h : (massOk s xs && (s == 4)) = true
  · rw [h]
    simp only [Bool.and_eq_true, beq_iff_eq] at h
    obtain ⟨h1, rfl⟩ := h
    exact (side_pr second h1 (Pr.of_mass h1 ns4)).1
  · rw [show (massOk s xs && (s == 4)) = false by simpa using h]
    unfold sideM; rw [if_neg h]; rfl
theorem swap_okb (s : Int) (xs : List Int) : (swapM s xs).ok = (massOk s xs && (s == 4)) := by
  by_cases h : (massOk s xs && (s == 4)) = true
  · rw [h]
    simp only [Bool.and_eq_true, beq_iff_eq] at h
    obtain ⟨h1, rfl⟩ := h
    exact (swap_pr h1).1
  · rw [show (massOk s xs && (s == 4)) = false by simpa using h]
    unfold swapM; rw [if_neg h]; rfl
set_option maxRecDepth 100000 in
set_option maxHeartbeats 4000000 in
theorem FnFirstOf_walk (ao : Option Addr) (n c : Nat) (w : World) (hx : n ≤ 1048576 → BytesIn w w.heap.size ao n) (hnc : n ≤ c) (hcap : n ≤ 9223372036854775807) :
    Calls Try.prog 5 #[.slice ao n c] w fun e w' => e = .returned (.bool true) ∧ Below w.heap.size w w' := by
  by_cases hn : 1048576 < n
  · go_enter Try.func5, Try.ntmps5
    go_wp2
    go_ret
    exact ⟨rfl, Below.refl _ _⟩
  have HX := hid (hx (by omega))
  clear hx
  go_enter Try.func5, Try.ntmps5
  have hB := Below.refl w.heap.size w
  go_wp2_with fail
  refine (DrawFirstOf_any ao n c _ HX.out hnc).mono ?_; rintro e w1 ⟨⟨s, p, xs, rfl, hr, hlx⟩, hb⟩
  have hd := hb
  replace hB := chain hB hd
  have hs1 := hd.size
  clear hb hd
  obtain ⟨am, nm, cm, rfl, him⟩ := hr.ints
  clear hr
  obtain ⟨rA, HA⟩ : ∃ r, Hid (sideM false s xs = r) := ⟨_, rfl⟩
  go_wp2_with fail
  refine (FirstOf_any s _ _ _ xs _ (him.below (by (repeat (first | exact Below.refl _ _ | assumption | refine Below.alloc ?_ (by first | omega | (simp <;> omega)) _ | refine Below.setCell ?_ (by first | omega | (simp <;> omega)) _ | refine Below.drew ?_ | refine below_drewN ?_))))).mono ?_; rw [HA.out]; rintro e w2 ⟨⟨vA, rfl, hrA⟩, hb⟩
  obtain ⟨aA, nA, cA, rfl, hiA⟩ := hrA.ints
  clear hrA
  have mm0 := keep hb (a := ⟨w1.heap.size, 0, none⟩) (v := .int .i64 s) (by simp)
  have mm1 := keep hb (a := ⟨w1.heap.size, 1, none⟩) (v := .slice am nm cm) (by simp)
  have hN1 : w1.heap.size < w2.heap.size := by have := World.block_lt_of_cell? w2 _ mm0; simpa using this
  have hd : Below w1.heap.size w1 w2 := Below.trans (by (repeat (first | exact Below.refl _ _ | assumption | refine Below.alloc ?_ (by first | omega | (simp <;> omega)) _ | refine Below.setCell ?_ (by first | omega | (simp <;> omega)) _ | refine Below.drew ?_ | refine below_drewN ?_))) (hb.mono (by simp <;> omega))
  replace him := him.below hd
  replace hB := chain hB hd
  have hs2 := hd.size
  clear hb hd
  obtain ⟨rP, HP⟩ : ∃ r, Hid (sideM false s xs = r) := ⟨_, rfl⟩
  go_wp2_with fail
  refine (specFirstOf_any s _ _ _ xs _ (him.below (by (repeat (first | exact Below.refl _ _ | assumption | refine Below.alloc ?_ (by first | omega | (simp <;> omega)) _ | refine Below.setCell ?_ (by first | omega | (simp <;> omega)) _ | refine Below.drew ?_ | refine below_drewN ?_))))).mono ?_; rw [HP.out]; rintro e w3 ⟨⟨vP, rfl, hrP⟩, hb⟩
  obtain ⟨aP, nP, cP, rfl, hiP⟩ := hrP.ints
  clear hrP
  have mA0 := keep hb (a := ⟨w2.heap.size, 0, none⟩) (v := .int .i64 rA.size) (by simp)
  have mA1 := keep hb (a := ⟨w2.heap.size, 1, none⟩) (v := .slice aA nA cA) (by simp)
  have hN2 : w2.heap.size < w3.heap.size := by have := World.block_lt_of_cell? w3 _ mA0; simpa using this
  have hd : Below w2.heap.size w2 w3 := Below.trans (by (repeat (first | exact Below.refl _ _ | assumption | refine Below.alloc ?_ (by first | omega | (simp <;> omega)) _ | refine Below.setCell ?_ (by first | omega | (simp <;> omega)) _ | refine Below.drew ?_ | refine below_drewN ?_))) (hb.mono (by simp <;> omega))
  replace mm0 := keep hd mm0
  replace mm1 := keep hd mm1
  replace him := him.below hd
  replace hiA := hiA.below hd
  replace hB := chain hB hd
  have hs3 := hd.size
  clear hb hd
  obtain ⟨rB, HB⟩ : ∃ r, Hid (sideM true s xs = r) := ⟨_, rfl⟩
  go_wp2_with fail
  refine (SecondOf_any s _ _ _ xs _ (him.below (by (repeat (first | exact Below.refl _ _ | assumption | refine Below.alloc ?_ (by first | omega | (simp <;> omega)) _ | refine Below.setCell ?_ (by first | omega | (simp <;> omega)) _ | refine Below.drew ?_ | refine below_drewN ?_))))).mono ?_; rw [HB.out]; rintro e w4 ⟨⟨vB, rfl, hrB⟩, hb⟩
  obtain ⟨aB, nB, cB, rfl, hiB⟩ := hrB.ints
  clear hrB
  have mP0 := keep hb (a := ⟨w3.heap.size, 0, none⟩) (v := .int .i64 rP.size) (by simp)
  have mP1 := keep hb (a := ⟨w3.heap.size, 1, none⟩) (v := .slice aP nP cP) (by simp)
  have hN3 : w3.heap.size < w4.heap.size := by have := World.block_lt_of_cell? w4 _ mP0; simpa using this
  have hd : Below w3.heap.size w3 w4 := Below.trans (by (repeat (first | exact Below.refl _ _ | assumption | refine Below.alloc ?_ (by first | omega | (simp <;> omega)) _ | refine Below.setCell ?_ (by first | omega | (simp <;> omega)) _ | refine Below.drew ?_ | refine below_drewN ?_))) (hb.mono (by simp <;> omega))
  replace mm0 := keep hd mm0
  replace mm1 := keep hd mm1
  replace mA0 := keep hd mA0
  replace mA1 := keep hd mA1
  replace him := him.below hd
  replace hiA := hiA.below hd
  replace hiP := hiP.below hd
  replace hB := chain hB hd
  have hs4 := hd.size
  clear hb hd
  obtain ⟨rQ, HQ⟩ : ∃ r, Hid (sideM true s xs = r) := ⟨_, rfl⟩
  go_wp2_with fail
  refine (specSecondOf_any s _ _ _ xs _ (him.below (by (repeat (first | exact Below.refl _ _ | assumption | refine Below.alloc ?_ (by first | omega | (simp <;> omega)) _ | refine Below.setCell ?_ (by first | omega | (simp <;> omega)) _ | refine Below.drew ?_ | refine below_drewN ?_))))).mono ?_; rw [HQ.out]; rintro e w5 ⟨⟨vQ, rfl, hrQ⟩, hb⟩
  obtain ⟨aQ, nQ, cQ, rfl, hiQ⟩ := hrQ.ints
  clear hrQ
  have mB0 := keep hb (a := ⟨w4.heap.size, 0, none⟩) (v := .int .i64 rB.size) (by simp)
  have mB1 := keep hb (a := ⟨w4.heap.size, 1, none⟩) (v := .slice aB nB cB) (by simp)
  have hN4 : w4.heap.size < w5.heap.size := by have := World.block_lt_of_cell? w5 _ mB0; simpa using this
  have hd : Below w4.heap.size w4 w5 := Below.trans (by (repeat (first | exact Below.refl _ _ | assumption | refine Below.alloc ?_ (by first | omega | (simp <;> omega)) _ | refine Below.setCell ?_ (by first | omega | (simp <;> omega)) _ | refine Below.drew ?_ | refine below_drewN ?_))) (hb.mono (by simp <;> omega))
  replace mm0 := keep hd mm0
  replace mm1 := keep hd mm1
  replace mA0 := keep hd mA0
  replace mA1 := keep hd mA1
  replace mP0 := keep hd mP0
  replace mP1 := keep hd mP1
  replace him := him.below hd
  replace hiA := hiA.below hd
  replace hiP := hiP.below hd
  replace hiB := hiB.below hd
  replace hB := chain hB hd
  have hs5 := hd.size
  clear hb hd
  obtain ⟨rS, HS⟩ : ∃ r, Hid (swapM s xs = r) := ⟨_, rfl⟩
  go_wp2_with fail
  refine (SwapPairs_any s _ _ _ xs _ (him.below (by (repeat (first | exact Below.refl _ _ | assumption | refine Below.alloc ?_ (by first | omega | (simp <;> omega)) _ | refine Below.setCell ?_ (by first | omega | (simp <;> omega)) _ | refine Below.drew ?_ | refine below_drewN ?_))))).mono ?_; rw [HS.out]; rintro e w6 ⟨⟨vS, rfl, hrS⟩, hb⟩
  obtain ⟨aS, nS, cS, rfl, hiS⟩ := hrS.ints
  clear hrS
  have mQ0 := keep hb (a := ⟨w5.heap.size, 0, none⟩) (v := .int .i64 rQ.size) (by simp)
  have mQ1 := keep hb (a := ⟨w5.heap.size, 1, none⟩) (v := .slice aQ nQ cQ) (by simp)
  have hN5 : w5.heap.size < w6.heap.size := by have := World.block_lt_of_cell? w6 _ mQ0; simpa using this
  have hd : Below w5.heap.size w5 w6 := Below.trans (by (repeat (first | exact Below.refl _ _ | assumption | refine Below.alloc ?_ (by first | omega | (simp <;> omega)) _ | refine Below.setCell ?_ (by first | omega | (simp <;> omega)) _ | refine Below.drew ?_ | refine below_drewN ?_))) (hb.mono (by simp <;> omega))
  replace mm0 := keep hd mm0
  replace mm1 := keep hd mm1
  replace mA0 := keep hd mA0
  replace mA1 := keep hd mA1
  replace mP0 := keep hd mP0
  replace mP1 := keep hd mP1
  replace mB0 := keep hd mB0
  replace mB1 := keep hd mB1
  replace him := him.below hd
  replace hiA := hiA.below hd
  replace hiP := hiP.below hd
  replace hiB := hiB.below hd
  replace hiQ := hiQ.below hd
  replace hB := chain hB hd
  have hs6 := hd.size
  clear hb hd
  obtain ⟨rT, HT⟩ : ∃ r, Hid (swapM s xs = r) := ⟨_, rfl⟩
  go_wp2_with fail
  refine (specSwapPairs_any s _ _ _ xs _ (him.below (by (repeat (first | exact Below.refl _ _ | assumption | refine Below.alloc ?_ (by first | omega | (simp <;> omega)) _ | refine Below.setCell ?_ (by first | omega | (simp <;> omega)) _ | refine Below.drew ?_ | refine below_drewN ?_))))).mono ?_; rw [HT.out]; rintro e w7 ⟨⟨vT, rfl, hrT⟩, hb⟩
  obtain ⟨aT, nT, cT, rfl, hiT⟩ := hrT.ints
  clear hrT
  have mS0 := keep hb (a := ⟨w6.heap.size, 0, none⟩) (v := .int .i64 rS.size) (by simp)
  have mS1 := keep hb (a := ⟨w6.heap.size, 1, none⟩) (v := .slice aS nS cS) (by simp)
  have hN6 : w6.heap.size < w7.heap.size := by have := World.block_lt_of_cell? w7 _ mS0; simpa using this
  have hd : Below w6.heap.size w6 w7 := Below.trans (by (repeat (first | exact Below.refl _ _ | assumption | refine Below.alloc ?_ (by first | omega | (simp <;> omega)) _ | refine Below.setCell ?_ (by first | omega | (simp <;> omega)) _ | refine Below.drew ?_ | refine below_drewN ?_))) (hb.mono (by simp <;> omega))
  replace mm0 := keep hd mm0
  replace mm1 := keep hd mm1
  replace mA0 := keep hd mA0
  replace mA1 := keep hd mA1
  replace mP0 := keep hd mP0
  replace mP1 := keep hd mP1
  replace mB0 := keep hd mB0
  replace mB1 := keep hd mB1
  replace mQ0 := keep hd mQ0
  replace mQ1 := keep hd mQ1
  replace him := him.below hd
  replace hiA := hiA.below hd
  replace hiP := hiP.below hd
  replace hiB := hiB.below hd
  replace hiQ := hiQ.below hd
  replace hiS := hiS.below hd
  replace hB := chain hB hd
  have hs7 := hd.size
  clear hb hd
  have HE1 : Hid (rP = rA) := HP.out.symm.trans HA.out
  have HE2 : Hid (rQ = rB) := HQ.out.symm.trans HB.out
  have HE3 : Hid (rT = rS) := HT.out.symm.trans HS.out
  have hob : rB.ok = rA.ok := by rw [← HB.out, ← HA.out, side_okb, side_okb]
  have hos : rS.ok = rA.ok := by rw [← HS.out, ← HA.out, swap_okb, side_okb]
  cases ho : rA.ok
  · rw [ho] at hob hos
    have hoP : rP.ok = false := by rw [HE1.out]; exact ho
    have hoQ : rQ.ok = false := by rw [HE2.out]; exact hob
    have hoT : rT.ok = false := by rw [HE3.out]; exact hos
    go_wp2_with fail
    refine (weEqual_eq _ _ _ _ _ _ _ _ _ _ _ (hiA.below (by (repeat (first | exact Below.refl _ _ | assumption | refine Below.alloc ?_ (by first | omega | (simp <;> omega)) _ | refine Below.setCell ?_ (by first | omega | (simp <;> omega)) _ | refine Below.drew ?_ | refine below_drewN ?_)))) (hiP.below (by (repeat (first | exact Below.refl _ _ | assumption | refine Below.alloc ?_ (by first | omega | (simp <;> omega)) _ | refine Below.setCell ?_ (by first | omega | (simp <;> omega)) _ | refine Below.drew ?_ | refine below_drewN ?_)))) (by rw [HE1.out]) (by rw [HE1.out])).mono ?_; rintro e w8 ⟨rfl, hb⟩
    have mT0 := keep hb (a := ⟨w7.heap.size, 0, none⟩) (v := .int .i64 rT.size) (by simp)
    have mT1 := keep hb (a := ⟨w7.heap.size, 1, none⟩) (v := .slice aT nT cT) (by simp)
    have hN7 : w7.heap.size < w8.heap.size := by have := World.block_lt_of_cell? w8 _ mT0; simpa using this
    have hd : Below w7.heap.size w7 w8 := Below.trans (by (repeat (first | exact Below.refl _ _ | assumption | refine Below.alloc ?_ (by first | omega | (simp <;> omega)) _ | refine Below.setCell ?_ (by first | omega | (simp <;> omega)) _ | refine Below.drew ?_ | refine below_drewN ?_))) (hb.mono (by simp <;> omega))
    replace mm0 := keep hd mm0
    replace mm1 := keep hd mm1
    replace mA0 := keep hd mA0
    replace mA1 := keep hd mA1
    replace mP0 := keep hd mP0
    replace mP1 := keep hd mP1
    replace mB0 := keep hd mB0
    replace mB1 := keep hd mB1
    replace mQ0 := keep hd mQ0
    replace mQ1 := keep hd mQ1
    replace mS0 := keep hd mS0
    replace mS1 := keep hd mS1
    replace him := him.below hd
    replace hiA := hiA.below hd
    replace hiP := hiP.below hd
    replace hiB := hiB.below hd
    replace hiQ := hiQ.below hd
    replace hiS := hiS.below hd
    replace hiT := hiT.below hd
    replace hB := chain hB hd
    have hs8 := hd.size
    clear hb hd
    go_wp2_with fail
    refine (weEqual_eq _ _ _ _ _ _ _ _ _ _ _ hiB hiQ (by rw [HE2.out]) (by rw [HE2.out])).mono ?_; rintro e w9 ⟨rfl, hb⟩
    have hd := hb
    replace mm0 := keep hd mm0
    replace mm1 := keep hd mm1
    replace mA0 := keep hd mA0
    replace mA1 := keep hd mA1
    replace mP0 := keep hd mP0
    replace mP1 := keep hd mP1
    replace mB0 := keep hd mB0
    replace mB1 := keep hd mB1
    replace mQ0 := keep hd mQ0
    replace mQ1 := keep hd mQ1
    replace mS0 := keep hd mS0
    replace mS1 := keep hd mS1
    replace mT0 := keep hd mT0
    replace mT1 := keep hd mT1
    replace him := him.below hd
    replace hiA := hiA.below hd
    replace hiP := hiP.below hd
    replace hiB := hiB.below hd
    replace hiQ := hiQ.below hd
    replace hiS := hiS.below hd
    replace hiT := hiT.below hd
    replace hB := chain hB hd
    have hs9 := hd.size
    clear hb hd
    go_wp2_with fail
    refine (weEqual_eq _ _ _ _ _ _ _ _ _ _ _ hiS hiT (by rw [HE3.out]) (by rw [HE3.out])).mono ?_; rintro e w10 ⟨rfl, hb⟩
    have hd := hb
    replace mm0 := keep hd mm0
    replace mm1 := keep hd mm1
    replace mA0 := keep hd mA0
    replace mA1 := keep hd mA1
    replace mP0 := keep hd mP0
    replace mP1 := keep hd mP1
    replace mB0 := keep hd mB0
    replace mB1 := keep hd mB1
    replace mQ0 := keep hd mQ0
    replace mQ1 := keep hd mQ1
    replace mS0 := keep hd mS0
    replace mS1 := keep hd mS1
    replace mT0 := keep hd mT0
    replace mT1 := keep hd mT1
    replace him := him.below hd
    replace hiA := hiA.below hd
    replace hiP := hiP.below hd
    replace hiB := hiB.below hd
    replace hiQ := hiQ.below hd
    replace hiS := hiS.below hd
    replace hiT := hiT.below hd
    replace hB := chain hB hd
    have hs10 := hd.size
    clear hb hd
    go_wp2_with fail
    refine (weEqual_eq _ _ _ _ _ _ _ _ _ _ _ hiA hiP (by rw [HE1.out]) (by rw [HE1.out])).mono ?_; rintro e w11 ⟨rfl, hb⟩
    have hd := hb
    replace mm0 := keep hd mm0
    replace mm1 := keep hd mm1
    replace mA0 := keep hd mA0
    replace mA1 := keep hd mA1
    replace mP0 := keep hd mP0
    replace mP1 := keep hd mP1
    replace mB0 := keep hd mB0
    replace mB1 := keep hd mB1
    replace mQ0 := keep hd mQ0
    replace mQ1 := keep hd mQ1
    replace mS0 := keep hd mS0
    replace mS1 := keep hd mS1
    replace mT0 := keep hd mT0
    replace mT1 := keep hd mT1
    replace him := him.below hd
    replace hiA := hiA.below hd
    replace hiP := hiP.below hd
    replace hiB := hiB.below hd
    replace hiQ := hiQ.below hd
    replace hiS := hiS.below hd
    replace hiT := hiT.below hd
    replace hB := chain hB hd
    have hs11 := hd.size
    clear hb hd
    go_wp2_with fail
    refine (weEqual_eq _ _ _ _ _ _ _ _ _ _ _ hiB hiQ (by rw [HE2.out]) (by rw [HE2.out])).mono ?_; rintro e w12 ⟨rfl, hb⟩
    have hd := hb
    replace mm0 := keep hd mm0
    replace mm1 := keep hd mm1
    replace mA0 := keep hd mA0
    replace mA1 := keep hd mA1
    replace mP0 := keep hd mP0
    replace mP1 := keep hd mP1
    replace mB0 := keep hd mB0
    replace mB1 := keep hd mB1
    replace mQ0 := keep hd mQ0
    replace mQ1 := keep hd mQ1
    replace mS0 := keep hd mS0
    replace mS1 := keep hd mS1
    replace mT0 := keep hd mT0
    replace mT1 := keep hd mT1
    replace him := him.below hd
    replace hiA := hiA.below hd
    replace hiP := hiP.below hd
    replace hiB := hiB.below hd
    replace hiQ := hiQ.below hd
    replace hiS := hiS.below hd
    replace hiT := hiT.below hd
    replace hB := chain hB hd
    have hs12 := hd.size
    clear hb hd
    go_wp2_with fail
    refine (weEqual_eq _ _ _ _ _ _ _ _ _ _ _ hiS hiT (by rw [HE3.out]) (by rw [HE3.out])).mono ?_; rintro e w13 ⟨rfl, hb⟩
    have hd := hb
    replace mm0 := keep hd mm0
    replace mm1 := keep hd mm1
    replace mA0 := keep hd mA0
    replace mA1 := keep hd mA1
    replace mP0 := keep hd mP0
    replace mP1 := keep hd mP1
    replace mB0 := keep hd mB0
    replace mB1 := keep hd mB1
    replace mQ0 := keep hd mQ0
    replace mQ1 := keep hd mQ1
    replace mS0 := keep hd mS0
    replace mS1 := keep hd mS1
    replace mT0 := keep hd mT0
    replace mT1 := keep hd mT1
    replace him := him.below hd
    replace hiA := hiA.below hd
    replace hiP := hiP.below hd
    replace hiB := hiB.below hd
    replace hiQ := hiQ.below hd
    replace hiS := hiS.below hd
    replace hiT := hiT.below hd
    replace hB := chain hB hd
    have hs13 := hd.size
    clear hb hd
    go_wp2
    go_ret
    exact ⟨rfl, hB⟩
  · rw [ho] at hob hos
    have hoP : rP.ok = true := by rw [HE1.out]; exact ho
    have hoQ : rQ.ok = true := by rw [HE2.out]; exact hob
    have hoT : rT.ok = true := by rw [HE3.out]; exact hos
    go_wp2_with fail
    refine (weEqual_eq _ _ _ _ _ _ _ _ _ _ _ (hiA.below (by (repeat (first | exact Below.refl _ _ | assumption | refine Below.alloc ?_ (by first | omega | (simp <;> omega)) _ | refine Below.setCell ?_ (by first | omega | (simp <;> omega)) _ | refine Below.drew ?_ | refine below_drewN ?_)))) (hiP.below (by (repeat (first | exact Below.refl _ _ | assumption | refine Below.alloc ?_ (by first | omega | (simp <;> omega)) _ | refine Below.setCell ?_ (by first | omega | (simp <;> omega)) _ | refine Below.drew ?_ | refine below_drewN ?_)))) (by rw [HE1.out]) (by rw [HE1.out])).mono ?_; rintro e w8 ⟨rfl, hb⟩
    have mT0 := keep hb (a := ⟨w7.heap.size, 0, none⟩) (v := .int .i64 rT.size) (by simp)
    have mT1 := keep hb (a := ⟨w7.heap.size, 1, none⟩) (v := .slice aT nT cT) (by simp)
    have hN8 : w7.heap.size < w8.heap.size := by have := World.block_lt_of_cell? w8 _ mT0; simpa using this
    have hd : Below w7.heap.size w7 w8 := Below.trans (by (repeat (first | exact Below.refl _ _ | assumption | refine Below.alloc ?_ (by first | omega | (simp <;> omega)) _ | refine Below.setCell ?_ (by first | omega | (simp <;> omega)) _ | refine Below.drew ?_ | refine below_drewN ?_))) (hb.mono (by simp <;> omega))
    replace mm0 := keep hd mm0
    replace mm1 := keep hd mm1
    replace mA0 := keep hd mA0
    replace mA1 := keep hd mA1
    replace mP0 := keep hd mP0
    replace mP1 := keep hd mP1
    replace mB0 := keep hd mB0
    replace mB1 := keep hd mB1
    replace mQ0 := keep hd mQ0
    replace mQ1 := keep hd mQ1
    replace mS0 := keep hd mS0
    replace mS1 := keep hd mS1
    replace him := him.below hd
    replace hiA := hiA.below hd
    replace hiP := hiP.below hd
    replace hiB := hiB.below hd
    replace hiQ := hiQ.below hd
    replace hiS := hiS.below hd
    replace hiT := hiT.below hd
    replace hB := chain hB hd
    have hs8 := hd.size
    clear hb hd
    go_wp2_with fail
    refine (weEqual_eq _ _ _ _ _ _ _ _ _ _ _ hiB hiQ (by rw [HE2.out]) (by rw [HE2.out])).mono ?_; rintro e w9 ⟨rfl, hb⟩
    have hd := hb
    replace mm0 := keep hd mm0
    replace mm1 := keep hd mm1
    replace mA0 := keep hd mA0
    replace mA1 := keep hd mA1
    replace mP0 := keep hd mP0
    replace mP1 := keep hd mP1
    replace mB0 := keep hd mB0
    replace mB1 := keep hd mB1
    replace mQ0 := keep hd mQ0
    replace mQ1 := keep hd mQ1
    replace mS0 := keep hd mS0
    replace mS1 := keep hd mS1
    replace mT0 := keep hd mT0
    replace mT1 := keep hd mT1
    replace him := him.below hd
    replace hiA := hiA.below hd
    replace hiP := hiP.below hd
    replace hiB := hiB.below hd
    replace hiQ := hiQ.below hd
    replace hiS := hiS.below hd
    replace hiT := hiT.below hd
    replace hB := chain hB hd
    have hs9 := hd.size
    clear hb hd
    go_wp2_with fail
    refine (weEqual_eq _ _ _ _ _ _ _ _ _ _ _ hiS hiT (by rw [HE3.out]) (by rw [HE3.out])).mono ?_; rintro e w10 ⟨rfl, hb⟩
    have hd := hb
    replace mm0 := keep hd mm0
    replace mm1 := keep hd mm1
    replace mA0 := keep hd mA0
    replace mA1 := keep hd mA1
    replace mP0 := keep hd mP0
    replace mP1 := keep hd mP1
    replace mB0 := keep hd mB0
    replace mB1 := keep hd mB1
    replace mQ0 := keep hd mQ0
    replace mQ1 := keep hd mQ1
    replace mS0 := keep hd mS0
    replace mS1 := keep hd mS1
    replace mT0 := keep hd mT0
    replace mT1 := keep hd mT1
    replace him := him.below hd
    replace hiA := hiA.below hd
    replace hiP := hiP.below hd
    replace hiB := hiB.below hd
    replace hiQ := hiQ.below hd
    replace hiS := hiS.below hd
    replace hiT := hiT.below hd
    replace hB := chain hB hd
    have hs10 := hd.size
    clear hb hd
    have hms : massOk s xs = true ∧ s = 4 := by
      have h1 := side_okb false s xs
      rw [HA.out, ho] at h1
      have h2 := h1.symm
      rw [Bool.and_eq_true, beq_iff_eq] at h2; exact h2
    obtain ⟨hm, rfl⟩ := hms
    clear HE1 HE2 HE3
    obtain ⟨rC, HC⟩ : ∃ r, Hid (sideM false rS.size rS.parts = r) := ⟨_, rfl⟩
    go_wp2_with fail
    refine (FirstOf_any _ _ _ _ rS.parts _ hiS).mono ?_; rw [HC.out]; rintro e w11 ⟨⟨vC, rfl, hrC⟩, hb⟩
    obtain ⟨aC, nC, cC, rfl, hiC⟩ := hrC.ints
    clear hrC
    have hd := hb
    replace mm0 := keep hd mm0
    replace mm1 := keep hd mm1
    replace mA0 := keep hd mA0
    replace mA1 := keep hd mA1
    replace mP0 := keep hd mP0
    replace mP1 := keep hd mP1
    replace mB0 := keep hd mB0
    replace mB1 := keep hd mB1
    replace mQ0 := keep hd mQ0
    replace mQ1 := keep hd mQ1
    replace mS0 := keep hd mS0
    replace mS1 := keep hd mS1
    replace mT0 := keep hd mT0
    replace mT1 := keep hd mT1
    replace him := him.below hd
    replace hiA := hiA.below hd
    replace hiP := hiP.below hd
    replace hiB := hiB.below hd
    replace hiQ := hiQ.below hd
    replace hiS := hiS.below hd
    replace hiT := hiT.below hd
    replace hB := chain hB hd
    have hs11 := hd.size
    clear hb hd
    obtain ⟨rD, HD⟩ : ∃ r, Hid (swapM rS.size rS.parts = r) := ⟨_, rfl⟩
    go_wp2_with fail
    refine (SwapPairs_any _ _ _ _ rS.parts _ (hiS.below (by (repeat (first | exact Below.refl _ _ | assumption | refine Below.alloc ?_ (by first | omega | (simp <;> omega)) _ | refine Below.setCell ?_ (by first | omega | (simp <;> omega)) _ | refine Below.drew ?_ | refine below_drewN ?_))))).mono ?_; rw [HD.out]; rintro e w12 ⟨⟨vD, rfl, hrD⟩, hb⟩
    obtain ⟨aD, nD, cD, rfl, hiD⟩ := hrD.ints
    clear hrD
    have mC0 := keep hb (a := ⟨w11.heap.size, 0, none⟩) (v := .int .i64 rC.size) (by simp)
    have mC1 := keep hb (a := ⟨w11.heap.size, 1, none⟩) (v := .slice aC nC cC) (by simp)
    have hN9 : w11.heap.size < w12.heap.size := by have := World.block_lt_of_cell? w12 _ mC0; simpa using this
    have hd : Below w11.heap.size w11 w12 := Below.trans (by (repeat (first | exact Below.refl _ _ | assumption | refine Below.alloc ?_ (by first | omega | (simp <;> omega)) _ | refine Below.setCell ?_ (by first | omega | (simp <;> omega)) _ | refine Below.drew ?_ | refine below_drewN ?_))) (hb.mono (by simp <;> omega))
    replace mm0 := keep hd mm0
    replace mm1 := keep hd mm1
    replace mA0 := keep hd mA0
    replace mA1 := keep hd mA1
    replace mP0 := keep hd mP0
    replace mP1 := keep hd mP1
    replace mB0 := keep hd mB0
    replace mB1 := keep hd mB1
    replace mQ0 := keep hd mQ0
    replace mQ1 := keep hd mQ1
    replace mS0 := keep hd mS0
    replace mS1 := keep hd mS1
    replace mT0 := keep hd mT0
    replace mT1 := keep hd mT1
    replace him := him.below hd
    replace hiA := hiA.below hd
    replace hiP := hiP.below hd
    replace hiB := hiB.below hd
    replace hiQ := hiQ.below hd
    replace hiS := hiS.below hd
    replace hiT := hiT.below hd
    replace hiC := hiC.below hd
    replace hB := chain hB hd
    have hs12 := hd.size
    clear hb hd
    obtain ⟨rU, HU⟩ : ∃ r, Hid (extendM false rA.size rA.parts = r) := ⟨_, rfl⟩
    go_wp2_with fail
    refine (ExtendFirst_any _ _ _ _ rA.parts _ (hiA.below (by (repeat (first | exact Below.refl _ _ | assumption | refine Below.alloc ?_ (by first | omega | (simp <;> omega)) _ | refine Below.setCell ?_ (by first | omega | (simp <;> omega)) _ | refine Below.drew ?_ | refine below_drewN ?_))))).mono ?_; rw [HU.out]; rintro e w13 ⟨⟨vU, rfl, hrU⟩, hb⟩
    obtain ⟨aU, nU, cU, rfl, hiU⟩ := hrU.ints
    clear hrU
    have mD0 := keep hb (a := ⟨w12.heap.size, 0, none⟩) (v := .int .i64 rD.size) (by simp)
    have mD1 := keep hb (a := ⟨w12.heap.size, 1, none⟩) (v := .slice aD nD cD) (by simp)
    have hN10 : w12.heap.size < w13.heap.size := by have := World.block_lt_of_cell? w13 _ mD0; simpa using this
    have hd : Below w12.heap.size w12 w13 := Below.trans (by (repeat (first | exact Below.refl _ _ | assumption | refine Below.alloc ?_ (by first | omega | (simp <;> omega)) _ | refine Below.setCell ?_ (by first | omega | (simp <;> omega)) _ | refine Below.drew ?_ | refine below_drewN ?_))) (hb.mono (by simp <;> omega))
    replace mm0 := keep hd mm0
    replace mm1 := keep hd mm1
    replace mA0 := keep hd mA0
    replace mA1 := keep hd mA1
    replace mP0 := keep hd mP0
    replace mP1 := keep hd mP1
    replace mB0 := keep hd mB0
    replace mB1 := keep hd mB1
    replace mQ0 := keep hd mQ0
    replace mQ1 := keep hd mQ1
    replace mS0 := keep hd mS0
    replace mS1 := keep hd mS1
    replace mT0 := keep hd mT0
    replace mT1 := keep hd mT1
    replace mC0 := keep hd mC0
    replace mC1 := keep hd mC1
    replace him := him.below hd
    replace hiA := hiA.below hd
    replace hiP := hiP.below hd
    replace hiB := hiB.below hd
    replace hiQ := hiQ.below hd
    replace hiS := hiS.below hd
    replace hiT := hiT.below hd
    replace hiC := hiC.below hd
    replace hiD := hiD.below hd
    replace hB := chain hB hd
    have hs13 := hd.size
    clear hb hd
    have HRA : Hid (rA.size = 2 ∧ massOk 2 rA.parts = true) := by rw [← HA.out]; exact ⟨(side_pr false hm (Pr.of_mass hm ns4)).2.1, (side_pr false hm (Pr.of_mass hm ns4)).2.2.1⟩
    have HRU : Hid (rU.size = 4 ∧ massOk 4 rU.parts = true) := by rw [← HU.out, HRA.out.1]; exact ⟨(extend_pr false HRA.out.2).2.1, (extend_pr false HRA.out.2).2.2.1⟩
    have E1 : Hid (rC = rB) := by rw [← HC.out, ← HB.out, ← HS.out]; exact (side_swap hm).1
    have E2 : Hid (rD = ⟨4, xs, true⟩) := by rw [← HD.out, ← HS.out]; exact swap_swap hm
    have E3 : Hid (oneQ 4 xs rU.size rU.parts = true ∧ HallD subN nm xs rU.parts (isum xs) (isum rU.parts)) := by
      have h1 := side_hall hm
      have h2 : nm = 16 := by rw [← him.len, (massOk_facts hm).2.1, ns4]
      have h3 : extendM false 2 (sideM false 4 xs).parts = rU := by rw [← HU.out, HRA.out.1, HA.out]
      rw [h3] at h1
      refine ⟨?_, ?_⟩
      · unfold oneQ; rw [hm, HRU.out.1, HRU.out.2]; rfl
      · rw [h2, isum_of_len (N := 16) (by rw [him.len, h2]), isum_of_len (N := 16) (by rw [(massOk_facts HRU.out.2).2.1, ns4])]; exact h1
    obtain ⟨bI, HI⟩ : ∃ r, Hid (indepM 4 xs = r) := ⟨_, rfl⟩
    have E4 : Hid (indepM rS.size rS.parts = bI) := by rw [← HI.out, ← HS.out]; exact indep_swap hm
    go_wp2
    obtain ⟨w14, hww14⟩ : ∃ W, (w13.alloc (.cells #[.int .i64 rU.size, .slice aU nU cU] 25)) = W := ⟨_, rfl⟩
    rw [hww14]
    have hd : Below w13.heap.size w13 w14 := by rw [← hww14]; (repeat (first | exact Below.refl _ _ | assumption | refine Below.alloc ?_ (by first | omega | (simp <;> omega)) _ | refine Below.setCell ?_ (by first | omega | (simp <;> omega)) _ | refine Below.drew ?_ | refine below_drewN ?_))
    have mU0 : w14.cell? ⟨w13.heap.size, 0, none⟩ = some (.int .i64 rU.size) := by rw [← hww14]; simp
    have mU1 : w14.cell? ⟨w13.heap.size, 1, none⟩ = some (.slice aU nU cU) := by rw [← hww14]; simp
    have hN11 : w13.heap.size < w14.heap.size := by rw [← hww14]; simp
    replace mm0 := keep hd mm0
    replace mm1 := keep hd mm1
    replace mA0 := keep hd mA0
    replace mA1 := keep hd mA1
    replace mP0 := keep hd mP0
    replace mP1 := keep hd mP1
    replace mB0 := keep hd mB0
    replace mB1 := keep hd mB1
    replace mQ0 := keep hd mQ0
    replace mQ1 := keep hd mQ1
    replace mS0 := keep hd mS0
    replace mS1 := keep hd mS1
    replace mT0 := keep hd mT0
    replace mT1 := keep hd mT1
    replace mC0 := keep hd mC0
    replace mC1 := keep hd mC1
    replace mD0 := keep hd mD0
    replace mD1 := keep hd mD1
    replace him := him.below hd
    replace hiA := hiA.below hd
    replace hiP := hiP.below hd
    replace hiB := hiB.below hd
    replace hiQ := hiQ.below hd
    replace hiS := hiS.below hd
    replace hiT := hiT.below hd
    replace hiC := hiC.below hd
    replace hiD := hiD.below hd
    replace hiU := hiU.below hd
    replace hB := chain hB hd
    have hs14 := hd.size
    clear hd hww14
    have HC1 : Hid (∀ w', IntsAt w' aC nC rC.parts → IntsAt w' aB nB rB.parts → Calls Try.prog 9 #[.agg #[.int .i64 rC.size, .slice aC nC cC], .agg #[.int .i64 rB.size, .slice aB nB cB]] w' fun e' w'' => e' = .returned (.bool true) ∧ Below w'.heap.size w' w'') := fun w' h1 h2 => weEqual_eq _ _ _ _ _ _ _ _ _ _ _ h1 h2 (by rw [E1.out]) (by rw [E1.out])
    have HC2 : Hid (∀ w', IntsAt w' aD nD rD.parts → IntsAt w' am nm xs → Calls Try.prog 9 #[.agg #[.int .i64 rD.size, .slice aD nD cD], .agg #[.int .i64 4, .slice am nm cm]] w' fun e' w'' => e' = .returned (.bool true) ∧ Below w'.heap.size w' w'') := fun w' h1 h2 => weEqual_eq _ _ _ _ _ _ _ _ _ _ _ h1 h2 (by rw [E2.out]) (by rw [E2.out])
    have HC3 : Hid (∀ w', IntsAt w' am nm xs → IntsAt w' aU nU rU.parts → Calls Try.prog 13 #[.agg #[.int .i64 4, .slice am nm cm], .agg #[.int .i64 rU.size, .slice aU nU cU]] w' fun e' w'' => e' = .returned (.bool true) ∧ Below w'.heap.size w' w'') := fun w' h1 h2 => IsSpecialized_is _ _ _ _ _ _ _ _ xs rU.parts true w' h1 h2 ⟨fun _ => E3.out, fun _ => rfl⟩
    have HC4 : Hid (∀ w', IntsAt w' aS nS rS.parts → Calls Try.prog 30 #[.agg #[.int .i64 rS.size, .slice aS nS cS]] w' fun e' w'' => e' = .returned (.bool bI) ∧ Below w'.heap.size w' w'') := fun w' h1 => by rw [← E4.out]; exact IsIndependent_any _ _ _ _ rS.parts _ h1
    have HC5 : Hid (∀ w', IntsAt w' am nm xs → Calls Try.prog 30 #[.agg #[.int .i64 4, .slice am nm cm]] w' fun e' w'' => e' = .returned (.bool bI) ∧ Below w'.heap.size w' w'') := fun w' h1 => by rw [← HI.out]; exact IsIndependent_any _ _ _ _ xs _ h1
    have hbb : (bI == bI) = true := beq_self_eq_true _
    refine wp_region_ov (by kernel_rfl) (by kernel_rfl) ?_
    repeat (first | go_big_quiet_step ((first | (go_at_call 9; first | (with_reducible exact ov_call (HC1.out _ (hiC.below (ov_below _ _)) (hiB.below (ov_below _ _)))) | (with_reducible exact ov_call (HC2.out _ (hiD.below (ov_below _ _)) (him.below (ov_below _ _))))) | (go_at_call 13; (with_reducible exact ov_call (HC3.out _ (him.below (ov_below _ _)) (hiU.below (ov_below _ _))))) | (go_at_call 30; first | (with_reducible exact ov_call (HC4.out _ (hiS.below (ov_below _ _)))) | (with_reducible exact ov_call (HC5.out _ (him.below (ov_below _ _))))))) | quiet_step ((first | (go_at_call 9; first | (with_reducible exact ov_call (HC1.out _ (hiC.below (ov_below _ _)) (hiB.below (ov_below _ _)))) | (with_reducible exact ov_call (HC2.out _ (hiD.below (ov_below _ _)) (him.below (ov_below _ _))))) | (go_at_call 13; (with_reducible exact ov_call (HC3.out _ (him.below (ov_below _ _)) (hiU.below (ov_below _ _))))) | (go_at_call 30; first | (with_reducible exact ov_call (HC4.out _ (hiS.below (ov_below _ _)))) | (with_reducible exact ov_call (HC5.out _ (him.below (ov_below _ _))))))))
    refine wpQuiet_nil ?_
    intro _ hw_ov
    obtain ⟨x_ov, hw_ov2⟩ := hw_ov
    subst hw_ov2
    obtain ⟨wz, hw_ov3, hbz⟩ := ov_gen _ x_ov
    rw [hw_ov3]
    clear hw_ov3 x_ov
    have hBz := chain hB hbz
    go_wp2
    go_ret
    exact ⟨rfl, hBz⟩
end Go.Proofs.Ytnbjhmghobljaaa
