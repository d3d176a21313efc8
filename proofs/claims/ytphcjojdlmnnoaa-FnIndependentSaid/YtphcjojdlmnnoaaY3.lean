/- The law FnIndependent: its walk (printed by fngen.py). -/
import Derived.Test.YtphcjojdlmnnoaaD9
import Derived.Test.YtphcjojdlmnnoaaE4
import Derived.Test.YtphcjojdlmnnoaaN3
import Derived.Test.YtphcjojdlmnnoaaS8
import Derived.Test.YtphcjojdlmnnoaaS6
set_option linter.unusedSimpArgs false
set_option linter.unusedVariables false
namespace Go.Proofs.Ytphcjojdlmnnoaa
open Go.RowKit
set_option maxRecDepth 100000 in
set_option maxHeartbeats 4000000 in
theorem FnIndependent_walk (ao : Option Addr) (n c : Nat) (w : World) (hx : n ≤ 1048576 → BytesIn w w.heap.size ao n) (hnc : n ≤ c) (hcap : n ≤ 9223372036854775807) :
    Calls Try.prog 7 #[.slice ao n c] w fun e w' => e = .returned (.bool true) ∧ Below w.heap.size w w' := by
  by_cases hn : 1048576 < n
  · go_enter Try.func7, Try.ntmps7
    go_wp2
    go_ret
    exact ⟨rfl, Below.refl _ _⟩
  have HX := hid (hx (by omega))
  clear hx
  go_enter Try.func7, Try.ntmps7
  have hB := Below.refl w.heap.size w
  go_wp2_with fail
  refine (DrawIsIndependent_any ao n c _ HX.out hnc).mono ?_; rintro e w1 ⟨⟨s, p, xs, rfl, hr, hlx⟩, hb⟩
  have hd := hb
  replace hB := chain hB hd
  have hs1 := hd.size
  clear hb hd
  obtain ⟨am, nm, cm, rfl, him⟩ := hr.ints
  clear hr
  by_cases hg : massOk s xs = true ∧ s = 4
  · obtain ⟨hm, rfl⟩ := hg
    have hnm : nm = 16 := by have q1 := (massOk_facts hm).2.1; rw [ns4] at q1; rw [← him.len]; exact q1
    subst hnm
    obtain ⟨bI, HI⟩ : ∃ r, Hid (indepM 4 xs = r) := ⟨_, rfl⟩
    go_wp2_with fail
    refine (IsIndependent_any 4 _ _ _ xs _ (him.below (by (repeat (first | exact Below.refl _ _ | assumption | refine Below.alloc ?_ (by first | omega | (simp <;> omega)) _ | refine Below.setCell ?_ (by first | omega | (simp <;> omega)) _ | refine Below.drew ?_ | refine below_drewN ?_))))).mono ?_; rw [HI.out]; rintro e w2 ⟨rfl, hb⟩
    have mm0 := keep hb (a := ⟨w1.heap.size, 0, none⟩) (v := .int .i64 4) (by simp)
    have mm1 := keep hb (a := ⟨w1.heap.size, 1, none⟩) (v := .slice am 16 cm) (by simp)
    have hN1 : w1.heap.size < w2.heap.size := by have := World.block_lt_of_cell? w2 _ mm0; simpa using this
    have hd : Below w1.heap.size w1 w2 := Below.trans (by (repeat (first | exact Below.refl _ _ | assumption | refine Below.alloc ?_ (by first | omega | (simp <;> omega)) _ | refine Below.setCell ?_ (by first | omega | (simp <;> omega)) _ | refine Below.drew ?_ | refine below_drewN ?_))) (hb.mono (by simp <;> omega))
    replace him := him.below hd
    replace hB := chain hB hd
    have hs2 := hd.size
    clear hb hd
    go_wp2_with fail
    refine (specIsIndependent_any 4 _ _ _ xs _ him).mono ?_; rw [HI.out]; rintro e w3 ⟨rfl, hb⟩
    have hd := hb
    replace mm0 := keep hd mm0
    replace mm1 := keep hd mm1
    replace him := him.below hd
    replace hB := chain hB hd
    have hs3 := hd.size
    clear hb hd
    go_wp2_with fail
    refine (iMassValid_any 4 _ _ _ xs _ him).mono ?_; rw [hm]; rintro e w4 ⟨rfl, hb⟩
    have hd := hb
    replace mm0 := keep hd mm0
    replace mm1 := keep hd mm1
    replace him := him.below hd
    replace hB := chain hB hd
    have hs4 := hd.size
    clear hb hd
    obtain ⟨rA, HA⟩ : ∃ r, Hid (sideM false 4 xs = r) := ⟨_, rfl⟩
    go_wp2_with fail
    refine (FirstOf_any _ _ _ _ xs _ him).mono ?_; rw [HA.out]; rintro e w5 ⟨⟨vA, rfl, hrA⟩, hb⟩
    obtain ⟨aA, nA, cA, rfl, hiA⟩ := hrA.ints
    clear hrA
    have hd := hb
    replace mm0 := keep hd mm0
    replace mm1 := keep hd mm1
    replace him := him.below hd
    replace hB := chain hB hd
    have hs5 := hd.size
    clear hb hd
    obtain ⟨rB, HB⟩ : ∃ r, Hid (sideM true 4 xs = r) := ⟨_, rfl⟩
    go_wp2_with fail
    refine (SecondOf_any _ _ _ _ xs _ (him.below (by (repeat (first | exact Below.refl _ _ | assumption | refine Below.alloc ?_ (by first | omega | (simp <;> omega)) _ | refine Below.setCell ?_ (by first | omega | (simp <;> omega)) _ | refine Below.drew ?_ | refine below_drewN ?_))))).mono ?_; rw [HB.out]; rintro e w6 ⟨⟨vB, rfl, hrB⟩, hb⟩
    obtain ⟨aB, nB, cB, rfl, hiB⟩ := hrB.ints
    clear hrB
    have mA0 := keep hb (a := ⟨w5.heap.size, 0, none⟩) (v := .int .i64 rA.size) (by simp)
    have mA1 := keep hb (a := ⟨w5.heap.size, 1, none⟩) (v := .slice aA nA cA) (by simp)
    have hN2 : w5.heap.size < w6.heap.size := by have := World.block_lt_of_cell? w6 _ mA0; simpa using this
    have hd : Below w5.heap.size w5 w6 := Below.trans (by (repeat (first | exact Below.refl _ _ | assumption | refine Below.alloc ?_ (by first | omega | (simp <;> omega)) _ | refine Below.setCell ?_ (by first | omega | (simp <;> omega)) _ | refine Below.drew ?_ | refine below_drewN ?_))) (hb.mono (by simp <;> omega))
    replace mm0 := keep hd mm0
    replace mm1 := keep hd mm1
    replace him := him.below hd
    replace hiA := hiA.below hd
    replace hB := chain hB hd
    have hs6 := hd.size
    clear hb hd
    obtain ⟨rK, HK⟩ : ∃ r, Hid (pairM rA.size rA.parts rB.size rB.parts = r) := ⟨_, rfl⟩
    go_wp2_with fail
    refine (PairMasses_any _ _ _ _ _ _ _ _ rA.parts rB.parts _ (hiA.below (by (repeat (first | exact Below.refl _ _ | assumption | refine Below.alloc ?_ (by first | omega | (simp <;> omega)) _ | refine Below.setCell ?_ (by first | omega | (simp <;> omega)) _ | refine Below.drew ?_ | refine below_drewN ?_)))) (hiB.below (by (repeat (first | exact Below.refl _ _ | assumption | refine Below.alloc ?_ (by first | omega | (simp <;> omega)) _ | refine Below.setCell ?_ (by first | omega | (simp <;> omega)) _ | refine Below.drew ?_ | refine below_drewN ?_))))).mono ?_; rw [HK.out]; rintro e w7 ⟨⟨vK, rfl, hrK⟩, hb⟩
    obtain ⟨aK, nK, cK, rfl, hiK⟩ := hrK.ints
    clear hrK
    have mB0 := keep hb (a := ⟨w6.heap.size, 0, none⟩) (v := .int .i64 rB.size) (by simp)
    have mB1 := keep hb (a := ⟨w6.heap.size, 1, none⟩) (v := .slice aB nB cB) (by simp)
    have hN3 : w6.heap.size < w7.heap.size := by have := World.block_lt_of_cell? w7 _ mB0; simpa using this
    have hd : Below w6.heap.size w6 w7 := Below.trans (by (repeat (first | exact Below.refl _ _ | assumption | refine Below.alloc ?_ (by first | omega | (simp <;> omega)) _ | refine Below.setCell ?_ (by first | omega | (simp <;> omega)) _ | refine Below.drew ?_ | refine below_drewN ?_))) (hb.mono (by simp <;> omega))
    replace mm0 := keep hd mm0
    replace mm1 := keep hd mm1
    replace mA0 := keep hd mA0
    replace mA1 := keep hd mA1
    replace him := him.below hd
    replace hiA := hiA.below hd
    replace hiB := hiB.below hd
    replace hB := chain hB hd
    have hs7 := hd.size
    clear hb hd
    have HJ : Hid (bI = (rK.ok && (decide (rK.size = 4) && eqList rK.parts xs))) := by rw [← HI.out, ← HK.out, ← HA.out, ← HB.out]; exact indep_is hm
    go_wp2_with fail
    refine (FocalSets_any 4 _ _ _ xs _ (him.below (by (repeat (first | exact Below.refl _ _ | assumption | refine Below.alloc ?_ (by first | omega | (simp <;> omega)) _ | refine Below.setCell ?_ (by first | omega | (simp <;> omega)) _ | refine Below.drew ?_ | refine below_drewN ?_)))) hm).mono ?_; rintro e w8 ⟨vl, rfl, hrl, hb⟩
    have mK0 := keep hb (a := ⟨w7.heap.size, 0, none⟩) (v := .int .i64 rK.size) (by simp)
    have mK1 := keep hb (a := ⟨w7.heap.size, 1, none⟩) (v := .slice aK nK cK) (by simp)
    have hN4 : w7.heap.size < w8.heap.size := by have := World.block_lt_of_cell? w8 _ mK0; simpa using this
    have hd : Below w7.heap.size w7 w8 := Below.trans (by (repeat (first | exact Below.refl _ _ | assumption | refine Below.alloc ?_ (by first | omega | (simp <;> omega)) _ | refine Below.setCell ?_ (by first | omega | (simp <;> omega)) _ | refine Below.drew ?_ | refine below_drewN ?_))) (hb.mono (by simp <;> omega))
    replace mm0 := keep hd mm0
    replace mm1 := keep hd mm1
    replace mA0 := keep hd mA0
    replace mA1 := keep hd mA1
    replace mB0 := keep hd mB0
    replace mB1 := keep hd mB1
    replace him := him.below hd
    replace hiA := hiA.below hd
    replace hiB := hiB.below hd
    replace hiK := hiK.below hd
    replace hB := chain hB hd
    have hs8 := hd.size
    clear hb hd
    obtain ⟨al, nl, cl, rfl, hil⟩ := hrl.ints
    clear hrl
    by_cases hl1 : nl = 1
    · have h1 : (focTo xs 16).length = 1 := by rw [hil.len]; exact hl1
      obtain ⟨a, ha, h2, h3⟩ := focTo_at xs 16 0 (by omega)
      obtain ⟨bl, ol, rfl, hbl1, hbl2, hcl⟩ := hil.at (Below.refl _ _) (show 0 < nl by omega)
      rw [Nat.add_zero, h2] at hcl
      clear h3
      subst hl1
      go_wp2_with fail
      refine (CountSet_any a _ ha).mono ?_; rintro e wq ⟨rfl, rfl⟩
      by_cases h4 : cnt a = 1
      · have h5 : ((cnt a : Int) == 1) = true := by rw [h4]; rfl
        cases bI
        · have h3 := indep_single hm h1 h2 h4
          rw [HI.out] at h3; cases h3
        · cases ho : rK.ok
          · have h3 := HJ.out
            rw [ho] at h3; cases h3
          · have hq : eqMM rK.size 4 rK.parts xs = true := by have h3 := HJ.out; rw [ho, Bool.true_and] at h3; exact h3.symm
            go_wp2_with fail
            refine (weEqual_any _ _ _ _ _ _ _ _ _ _ _ hiK him).mono ?_; rw [hq]; rintro e w9 ⟨rfl, hb⟩
            have hd := hb
            replace mm0 := keep hd mm0
            replace mm1 := keep hd mm1
            replace mA0 := keep hd mA0
            replace mA1 := keep hd mA1
            replace mB0 := keep hd mB0
            replace mB1 := keep hd mB1
            replace mK0 := keep hd mK0
            replace mK1 := keep hd mK1
            replace hcl := keep hd hcl
            replace him := him.below hd
            replace hiA := hiA.below hd
            replace hiB := hiB.below hd
            replace hiK := hiK.below hd
            replace hil := hil.below hd
            replace hB := chain hB hd
            have hs9 := hd.size
            clear hb hd
            go_wp2
            go_ret
            exact ⟨rfl, hB⟩
      · have h5 : ((cnt a : Int) == 1) = false := by simp; omega
        cases bI
        · cases ho : rK.ok
          · go_wp2
            go_ret
            exact ⟨rfl, hB⟩
          · have hq : eqMM rK.size 4 rK.parts xs = false := by have h3 := HJ.out; rw [ho, Bool.true_and] at h3; exact h3.symm
            go_wp2_with fail
            refine (weEqual_any _ _ _ _ _ _ _ _ _ _ _ hiK him).mono ?_; rw [hq]; rintro e w9 ⟨rfl, hb⟩
            have hd := hb
            replace mm0 := keep hd mm0
            replace mm1 := keep hd mm1
            replace mA0 := keep hd mA0
            replace mA1 := keep hd mA1
            replace mB0 := keep hd mB0
            replace mB1 := keep hd mB1
            replace mK0 := keep hd mK0
            replace mK1 := keep hd mK1
            replace hcl := keep hd hcl
            replace him := him.below hd
            replace hiA := hiA.below hd
            replace hiB := hiB.below hd
            replace hiK := hiK.below hd
            replace hil := hil.below hd
            replace hB := chain hB hd
            have hs9 := hd.size
            clear hb hd
            go_wp2
            go_ret
            exact ⟨rfl, hB⟩
        · cases ho : rK.ok
          · have h3 := HJ.out
            rw [ho] at h3; cases h3
          · have hq : eqMM rK.size 4 rK.parts xs = true := by have h3 := HJ.out; rw [ho, Bool.true_and] at h3; exact h3.symm
            go_wp2_with fail
            refine (weEqual_any _ _ _ _ _ _ _ _ _ _ _ hiK him).mono ?_; rw [hq]; rintro e w9 ⟨rfl, hb⟩
            have hd := hb
            replace mm0 := keep hd mm0
            replace mm1 := keep hd mm1
            replace mA0 := keep hd mA0
            replace mA1 := keep hd mA1
            replace mB0 := keep hd mB0
            replace mB1 := keep hd mB1
            replace mK0 := keep hd mK0
            replace mK1 := keep hd mK1
            replace hcl := keep hd hcl
            replace him := him.below hd
            replace hiA := hiA.below hd
            replace hiB := hiB.below hd
            replace hiK := hiK.below hd
            replace hil := hil.below hd
            replace hB := chain hB hd
            have hs9 := hd.size
            clear hb hd
            go_wp2
            go_ret
            exact ⟨rfl, hB⟩
    · have h5 : ((nl : Int) == 1) = false := by simp; omega
      cases bI
      · cases ho : rK.ok
        · go_wp2
          go_ret
          exact ⟨rfl, hB⟩
        · have hq : eqMM rK.size 4 rK.parts xs = false := by have h3 := HJ.out; rw [ho, Bool.true_and] at h3; exact h3.symm
          go_wp2_with fail
          refine (weEqual_any _ _ _ _ _ _ _ _ _ _ _ hiK him).mono ?_; rw [hq]; rintro e w9 ⟨rfl, hb⟩
          have hd := hb
          replace mm0 := keep hd mm0
          replace mm1 := keep hd mm1
          replace mA0 := keep hd mA0
          replace mA1 := keep hd mA1
          replace mB0 := keep hd mB0
          replace mB1 := keep hd mB1
          replace mK0 := keep hd mK0
          replace mK1 := keep hd mK1
          replace him := him.below hd
          replace hiA := hiA.below hd
          replace hiB := hiB.below hd
          replace hiK := hiK.below hd
          replace hil := hil.below hd
          replace hB := chain hB hd
          have hs9 := hd.size
          clear hb hd
          go_wp2
          go_ret
          exact ⟨rfl, hB⟩
      · cases ho : rK.ok
        · have h3 := HJ.out
          rw [ho] at h3; cases h3
        · have hq : eqMM rK.size 4 rK.parts xs = true := by have h3 := HJ.out; rw [ho, Bool.true_and] at h3; exact h3.symm
          go_wp2_with fail
          refine (weEqual_any _ _ _ _ _ _ _ _ _ _ _ hiK him).mono ?_; rw [hq]; rintro e w9 ⟨rfl, hb⟩
          have hd := hb
          replace mm0 := keep hd mm0
          replace mm1 := keep hd mm1
          replace mA0 := keep hd mA0
          replace mA1 := keep hd mA1
          replace mB0 := keep hd mB0
          replace mB1 := keep hd mB1
          replace mK0 := keep hd mK0
          replace mK1 := keep hd mK1
          replace him := him.below hd
          replace hiA := hiA.below hd
          replace hiB := hiB.below hd
          replace hiK := hiK.below hd
          replace hil := hil.below hd
          replace hB := chain hB hd
          have hs9 := hd.size
          clear hb hd
          go_wp2
          go_ret
          exact ⟨rfl, hB⟩
  · have hI : indepM s xs = false := by
      have h0 : sideM false s xs = MR.no := sideM_bad (by by_cases h1 : massOk s xs = true; exact Or.inr (fun h2 => hg ⟨h1, h2⟩); exact Or.inl (by simpa using h1))
      unfold indepM; rw [h0]; rfl
    go_wp2_with fail
    refine (IsIndependent_any s _ _ _ xs _ (him.below (by (repeat (first | exact Below.refl _ _ | assumption | refine Below.alloc ?_ (by first | omega | (simp <;> omega)) _ | refine Below.setCell ?_ (by first | omega | (simp <;> omega)) _ | refine Below.drew ?_ | refine below_drewN ?_))))).mono ?_; rw [hI]; rintro e w2 ⟨rfl, hb⟩
    have mm0 := keep hb (a := ⟨w1.heap.size, 0, none⟩) (v := .int .i64 s) (by simp)
    have mm1 := keep hb (a := ⟨w1.heap.size, 1, none⟩) (v := .slice am nm cm) (by simp)
    have hN5 : w1.heap.size < w2.heap.size := by have := World.block_lt_of_cell? w2 _ mm0; simpa using this
    have hd : Below w1.heap.size w1 w2 := Below.trans (by (repeat (first | exact Below.refl _ _ | assumption | refine Below.alloc ?_ (by first | omega | (simp <;> omega)) _ | refine Below.setCell ?_ (by first | omega | (simp <;> omega)) _ | refine Below.drew ?_ | refine below_drewN ?_))) (hb.mono (by simp <;> omega))
    replace him := him.below hd
    replace hB := chain hB hd
    have hs2 := hd.size
    clear hb hd
    go_wp2_with fail
    refine (specIsIndependent_any s _ _ _ xs _ him).mono ?_; rw [hI]; rintro e w3 ⟨rfl, hb⟩
    have hd := hb
    replace mm0 := keep hd mm0
    replace mm1 := keep hd mm1
    replace him := him.below hd
    replace hB := chain hB hd
    have hs3 := hd.size
    clear hb hd
    cases hm : massOk s xs
    · go_wp2_with fail
      refine (iMassValid_any s _ _ _ xs _ him).mono ?_; rw [hm]; rintro e w4 ⟨rfl, hb⟩
      have hd := hb
      replace mm0 := keep hd mm0
      replace mm1 := keep hd mm1
      replace him := him.below hd
      replace hB := chain hB hd
      have hs4 := hd.size
      clear hb hd
      go_wp2_with fail
      refine (specIsIndependent_any s _ _ _ xs _ him).mono ?_; rw [hI]; rintro e w5 ⟨rfl, hb⟩
      have hd := hb
      replace mm0 := keep hd mm0
      replace mm1 := keep hd mm1
      replace him := him.below hd
      replace hB := chain hB hd
      have hs5 := hd.size
      clear hb hd
      go_wp2
      go_ret
      exact ⟨rfl, hB⟩
    · have hs4 : (s != 4) = true := by rw [bne_iff_ne]; exact fun h => hg ⟨hm, h⟩
      go_wp2_with fail
      refine (iMassValid_any s _ _ _ xs _ him).mono ?_; rw [hm]; rintro e w4 ⟨rfl, hb⟩
      have hd := hb
      replace mm0 := keep hd mm0
      replace mm1 := keep hd mm1
      replace him := him.below hd
      replace hB := chain hB hd
      have hs4 := hd.size
      clear hb hd
      go_wp2_with fail
      refine (specIsIndependent_any s _ _ _ xs _ him).mono ?_; rw [hI]; rintro e w5 ⟨rfl, hb⟩
      have hd := hb
      replace mm0 := keep hd mm0
      replace mm1 := keep hd mm1
      replace him := him.below hd
      replace hB := chain hB hd
      have hs5 := hd.size
      clear hb hd
      go_wp2
      go_ret
      exact ⟨rfl, hB⟩
end Go.Proofs.Ytphcjojdlmnnoaa
