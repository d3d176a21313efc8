/- The law FnLocal: its walk (printed by fngen.py). -/
import Derived.Test.YtphcjojdlmnnoaaD11
import Derived.Test.YtphcjojdlmnnoaaE1
import Derived.Test.YtphcjojdlmnnoaaN3
import Derived.Test.YtphcjojdlmnnoaaS10
import Derived.Test.YtphcjojdlmnnoaaS8
import Derived.Test.YtphcjojdlmnnoaaS6
set_option linter.unusedSimpArgs false
set_option linter.unusedVariables false
namespace Go.Proofs.Ytphcjojdlmnnoaa
open Go.RowKit
set_option maxRecDepth 100000 in
set_option maxHeartbeats 4000000 in
theorem FnLocal_walk (ao : Option Addr) (n c : Nat) (w : World) (hx : n ≤ 1048576 → BytesIn w w.heap.size ao n) (hnc : n ≤ c) (hcap : n ≤ 9223372036854775807) :
    Calls Try.prog 5 #[.slice ao n c] w fun e w' => e = .returned (.bool true) ∧ Below w.heap.size w w' := by
  by_cases hn : 1048576 < n
  · go_enter Try.func5, Try.ntmps5
    go_wp2
    go_ret
    exact ⟨rfl, Below.refl _ _⟩
  have HX := hid (hx (by omega))
  clear hx
  go_enter Try.func5, Try.ntmps5
  have hB := Below.refl w.heap.size w
  go_wp2_with fail
  refine (DrawPassOn_any ao n c _ HX.out hnc).mono ?_; rintro e w1 ⟨⟨s, p, xs, u, q, ks, rfl, hr, hlx, hr2, hlk⟩, hb⟩
  have hd := hb
  replace hB := chain hB hd
  have hs1 := hd.size
  clear hb hd
  obtain ⟨am, nm, cm, rfl, him⟩ := hr.ints
  clear hr
  obtain ⟨ak, nk, ck, rfl, hik⟩ := hr2.ints
  clear hr2
  obtain ⟨rK, HK⟩ : ∃ r, Hid (passM s xs u ks = r) := ⟨_, rfl⟩
  go_wp2_with fail
  refine (PassOn_any _ _ _ _ _ _ _ _ xs ks _ (him.below (by (repeat (first | exact Below.refl _ _ | assumption | refine Below.alloc ?_ (by first | omega | (simp <;> omega)) _ | refine Below.setCell ?_ (by first | omega | (simp <;> omega)) _ | refine Below.drew ?_ | refine below_drewN ?_)))) (hik.below (by (repeat (first | exact Below.refl _ _ | assumption | refine Below.alloc ?_ (by first | omega | (simp <;> omega)) _ | refine Below.setCell ?_ (by first | omega | (simp <;> omega)) _ | refine Below.drew ?_ | refine below_drewN ?_))))).mono ?_; rw [HK.out]; rintro e w2 ⟨⟨vK, rfl, hrK⟩, hb⟩
  obtain ⟨aK, nK, cK, rfl, hiK⟩ := hrK.ints
  clear hrK
  have mm0 := keep hb (a := ⟨w1.heap.size, 0, none⟩) (v := .int .i64 s) (by simp)
  have mm1 := keep hb (a := ⟨w1.heap.size, 1, none⟩) (v := .slice am nm cm) (by simp)
  have hN1 : w1.heap.size < w2.heap.size := by have := World.block_lt_of_cell? w2 _ mm0; simpa using this
  have kk0 := keep hb (a := ⟨w1.heap.size + 1, 0, none⟩) (v := .int .i64 u) (by simp)
  have kk1 := keep hb (a := ⟨w1.heap.size + 1, 1, none⟩) (v := .slice ak nk ck) (by simp)
  have hN2 : w1.heap.size + 1 < w2.heap.size := by have := World.block_lt_of_cell? w2 _ kk0; simpa using this
  have hd : Below w1.heap.size w1 w2 := Below.trans (by (repeat (first | exact Below.refl _ _ | assumption | refine Below.alloc ?_ (by first | omega | (simp <;> omega)) _ | refine Below.setCell ?_ (by first | omega | (simp <;> omega)) _ | refine Below.drew ?_ | refine below_drewN ?_))) (hb.mono (by simp <;> omega))
  replace him := him.below hd
  replace hik := hik.below hd
  replace hB := chain hB hd
  have hs2 := hd.size
  clear hb hd
  obtain ⟨rQ, HQ⟩ : ∃ r, Hid (passM s xs u ks = r) := ⟨_, rfl⟩
  go_wp2_with fail
  refine (specPassOn_any _ _ _ _ _ _ _ _ xs ks _ (him.below (by (repeat (first | exact Below.refl _ _ | assumption | refine Below.alloc ?_ (by first | omega | (simp <;> omega)) _ | refine Below.setCell ?_ (by first | omega | (simp <;> omega)) _ | refine Below.drew ?_ | refine below_drewN ?_)))) (hik.below (by (repeat (first | exact Below.refl _ _ | assumption | refine Below.alloc ?_ (by first | omega | (simp <;> omega)) _ | refine Below.setCell ?_ (by first | omega | (simp <;> omega)) _ | refine Below.drew ?_ | refine below_drewN ?_))))).mono ?_; rw [HQ.out]; rintro e w3 ⟨⟨vQ, rfl, hrQ⟩, hb⟩
  obtain ⟨aQ, nQ, cQ, rfl, hiQ⟩ := hrQ.ints
  clear hrQ
  have mK0 := keep hb (a := ⟨w2.heap.size, 0, none⟩) (v := .int .i64 rK.size) (by simp)
  have mK1 := keep hb (a := ⟨w2.heap.size, 1, none⟩) (v := .slice aK nK cK) (by simp)
  have hN3 : w2.heap.size < w3.heap.size := by have := World.block_lt_of_cell? w3 _ mK0; simpa using this
  have hd : Below w2.heap.size w2 w3 := Below.trans (by (repeat (first | exact Below.refl _ _ | assumption | refine Below.alloc ?_ (by first | omega | (simp <;> omega)) _ | refine Below.setCell ?_ (by first | omega | (simp <;> omega)) _ | refine Below.drew ?_ | refine below_drewN ?_))) (hb.mono (by simp <;> omega))
  replace mm0 := keep hd mm0
  replace mm1 := keep hd mm1
  replace kk0 := keep hd kk0
  replace kk1 := keep hd kk1
  replace him := him.below hd
  replace hik := hik.below hd
  replace hiK := hiK.below hd
  replace hB := chain hB hd
  have hs3 := hd.size
  clear hb hd
  have HE : Hid (rQ = rK) := HQ.out.symm.trans HK.out
  cases ho : rK.ok
  · have ho2 : rQ.ok = false := by rw [HE.out]; exact ho
    go_wp2_with fail
    refine (weEqual_eq _ _ _ _ _ _ _ _ _ _ _ (hiK.below (by (repeat (first | exact Below.refl _ _ | assumption | refine Below.alloc ?_ (by first | omega | (simp <;> omega)) _ | refine Below.setCell ?_ (by first | omega | (simp <;> omega)) _ | refine Below.drew ?_ | refine below_drewN ?_)))) (hiQ.below (by (repeat (first | exact Below.refl _ _ | assumption | refine Below.alloc ?_ (by first | omega | (simp <;> omega)) _ | refine Below.setCell ?_ (by first | omega | (simp <;> omega)) _ | refine Below.drew ?_ | refine below_drewN ?_)))) (by rw [HE.out]) (by rw [HE.out])).mono ?_; rintro e w4 ⟨rfl, hb⟩
    have mQ0 := keep hb (a := ⟨w3.heap.size, 0, none⟩) (v := .int .i64 rQ.size) (by simp)
    have mQ1 := keep hb (a := ⟨w3.heap.size, 1, none⟩) (v := .slice aQ nQ cQ) (by simp)
    have hN4 : w3.heap.size < w4.heap.size := by have := World.block_lt_of_cell? w4 _ mQ0; simpa using this
    have hd : Below w3.heap.size w3 w4 := Below.trans (by (repeat (first | exact Below.refl _ _ | assumption | refine Below.alloc ?_ (by first | omega | (simp <;> omega)) _ | refine Below.setCell ?_ (by first | omega | (simp <;> omega)) _ | refine Below.drew ?_ | refine below_drewN ?_))) (hb.mono (by simp <;> omega))
    replace mm0 := keep hd mm0
    replace mm1 := keep hd mm1
    replace kk0 := keep hd kk0
    replace kk1 := keep hd kk1
    replace mK0 := keep hd mK0
    replace mK1 := keep hd mK1
    replace him := him.below hd
    replace hik := hik.below hd
    replace hiK := hiK.below hd
    replace hiQ := hiQ.below hd
    replace hB := chain hB hd
    have hs4 := hd.size
    clear hb hd
    go_wp2_with fail
    refine (weEqual_eq _ _ _ _ _ _ _ _ _ _ _ hiK hiQ (by rw [HE.out]) (by rw [HE.out])).mono ?_; rintro e w5 ⟨rfl, hb⟩
    have hd := hb
    replace mm0 := keep hd mm0
    replace mm1 := keep hd mm1
    replace kk0 := keep hd kk0
    replace kk1 := keep hd kk1
    replace mK0 := keep hd mK0
    replace mK1 := keep hd mK1
    replace mQ0 := keep hd mQ0
    replace mQ1 := keep hd mQ1
    replace him := him.below hd
    replace hik := hik.below hd
    replace hiK := hiK.below hd
    replace hiQ := hiQ.below hd
    replace hB := chain hB hd
    have hs5 := hd.size
    clear hb hd
    go_wp2
    go_ret
    exact ⟨rfl, hB⟩
  · have ho2 : rQ.ok = true := by rw [HE.out]; exact ho
    go_wp2_with fail
    refine (weEqual_eq _ _ _ _ _ _ _ _ _ _ _ (hiK.below (by (repeat (first | exact Below.refl _ _ | assumption | refine Below.alloc ?_ (by first | omega | (simp <;> omega)) _ | refine Below.setCell ?_ (by first | omega | (simp <;> omega)) _ | refine Below.drew ?_ | refine below_drewN ?_)))) (hiQ.below (by (repeat (first | exact Below.refl _ _ | assumption | refine Below.alloc ?_ (by first | omega | (simp <;> omega)) _ | refine Below.setCell ?_ (by first | omega | (simp <;> omega)) _ | refine Below.drew ?_ | refine below_drewN ?_)))) (by rw [HE.out]) (by rw [HE.out])).mono ?_; rintro e w4 ⟨rfl, hb⟩
    have mQ0 := keep hb (a := ⟨w3.heap.size, 0, none⟩) (v := .int .i64 rQ.size) (by simp)
    have mQ1 := keep hb (a := ⟨w3.heap.size, 1, none⟩) (v := .slice aQ nQ cQ) (by simp)
    have hN5 : w3.heap.size < w4.heap.size := by have := World.block_lt_of_cell? w4 _ mQ0; simpa using this
    have hd : Below w3.heap.size w3 w4 := Below.trans (by (repeat (first | exact Below.refl _ _ | assumption | refine Below.alloc ?_ (by first | omega | (simp <;> omega)) _ | refine Below.setCell ?_ (by first | omega | (simp <;> omega)) _ | refine Below.drew ?_ | refine below_drewN ?_))) (hb.mono (by simp <;> omega))
    replace mm0 := keep hd mm0
    replace mm1 := keep hd mm1
    replace kk0 := keep hd kk0
    replace kk1 := keep hd kk1
    replace mK0 := keep hd mK0
    replace mK1 := keep hd mK1
    replace him := him.below hd
    replace hik := hik.below hd
    replace hiK := hiK.below hd
    replace hiQ := hiQ.below hd
    replace hB := chain hB hd
    have hs4 := hd.size
    clear hb hd
    clear HE
    have hpo : (passM s xs u ks).ok = true := by rw [HK.out]; exact ho
    obtain ⟨hm1, rfl, hm2, rfl, _, _⟩ := pass_ok hpo
    have HL := hid (local_law hpo)
    clear hpo
    obtain ⟨rU, HU⟩ : ∃ r, Hid (extendM false 2 xs = r) := ⟨_, rfl⟩
    go_wp2_with fail
    refine (ExtendFirst_any 2 _ _ _ xs _ him).mono ?_; rw [HU.out]; rintro e w5 ⟨⟨vU, rfl, hrU⟩, hb⟩
    obtain ⟨aU, nU, cU, rfl, hiU⟩ := hrU.ints
    clear hrU
    have hd := hb
    replace mm0 := keep hd mm0
    replace mm1 := keep hd mm1
    replace kk0 := keep hd kk0
    replace kk1 := keep hd kk1
    replace mK0 := keep hd mK0
    replace mK1 := keep hd mK1
    replace mQ0 := keep hd mQ0
    replace mQ1 := keep hd mQ1
    replace him := him.below hd
    replace hik := hik.below hd
    replace hiK := hiK.below hd
    replace hiQ := hiQ.below hd
    replace hB := chain hB hd
    have hs5 := hd.size
    clear hb hd
    obtain ⟨rB, HB⟩ : ∃ r, Hid (togM (fun a b => a &&& b) rU.size rU.parts 4 ks = r) := ⟨_, rfl⟩
    go_wp2_with fail
    refine (ConjoinMasses_any _ _ _ _ _ _ _ _ rU.parts ks _ (hiU.below (by (repeat (first | exact Below.refl _ _ | assumption | refine Below.alloc ?_ (by first | omega | (simp <;> omega)) _ | refine Below.setCell ?_ (by first | omega | (simp <;> omega)) _ | refine Below.drew ?_ | refine below_drewN ?_)))) (hik.below (by (repeat (first | exact Below.refl _ _ | assumption | refine Below.alloc ?_ (by first | omega | (simp <;> omega)) _ | refine Below.setCell ?_ (by first | omega | (simp <;> omega)) _ | refine Below.drew ?_ | refine below_drewN ?_))))).mono ?_; rw [HB.out]; rintro e w6 ⟨⟨vB, rfl, hrB⟩, hb⟩
    obtain ⟨aB, nB, cB, rfl, hiB⟩ := hrB.ints
    clear hrB
    have mU0 := keep hb (a := ⟨w5.heap.size, 0, none⟩) (v := .int .i64 rU.size) (by simp)
    have mU1 := keep hb (a := ⟨w5.heap.size, 1, none⟩) (v := .slice aU nU cU) (by simp)
    have hN6 : w5.heap.size < w6.heap.size := by have := World.block_lt_of_cell? w6 _ mU0; simpa using this
    have hd : Below w5.heap.size w5 w6 := Below.trans (by (repeat (first | exact Below.refl _ _ | assumption | refine Below.alloc ?_ (by first | omega | (simp <;> omega)) _ | refine Below.setCell ?_ (by first | omega | (simp <;> omega)) _ | refine Below.drew ?_ | refine below_drewN ?_))) (hb.mono (by simp <;> omega))
    replace mm0 := keep hd mm0
    replace mm1 := keep hd mm1
    replace kk0 := keep hd kk0
    replace kk1 := keep hd kk1
    replace mK0 := keep hd mK0
    replace mK1 := keep hd mK1
    replace mQ0 := keep hd mQ0
    replace mQ1 := keep hd mQ1
    replace him := him.below hd
    replace hik := hik.below hd
    replace hiK := hiK.below hd
    replace hiQ := hiQ.below hd
    replace hiU := hiU.below hd
    replace hB := chain hB hd
    have hs6 := hd.size
    clear hb hd
    obtain ⟨rA, HA⟩ : ∃ r, Hid (sideM false rB.size rB.parts = r) := ⟨_, rfl⟩
    go_wp2_with fail
    refine (FirstOf_any _ _ _ _ rB.parts _ (hiB.below (by (repeat (first | exact Below.refl _ _ | assumption | refine Below.alloc ?_ (by first | omega | (simp <;> omega)) _ | refine Below.setCell ?_ (by first | omega | (simp <;> omega)) _ | refine Below.drew ?_ | refine below_drewN ?_))))).mono ?_; rw [HA.out]; rintro e w7 ⟨⟨vA, rfl, hrA⟩, hb⟩
    obtain ⟨aA, nA, cA, rfl, hiA⟩ := hrA.ints
    clear hrA
    have mB0 := keep hb (a := ⟨w6.heap.size, 0, none⟩) (v := .int .i64 rB.size) (by simp)
    have mB1 := keep hb (a := ⟨w6.heap.size, 1, none⟩) (v := .slice aB nB cB) (by simp)
    have hN7 : w6.heap.size < w7.heap.size := by have := World.block_lt_of_cell? w7 _ mB0; simpa using this
    have hd : Below w6.heap.size w6 w7 := Below.trans (by (repeat (first | exact Below.refl _ _ | assumption | refine Below.alloc ?_ (by first | omega | (simp <;> omega)) _ | refine Below.setCell ?_ (by first | omega | (simp <;> omega)) _ | refine Below.drew ?_ | refine below_drewN ?_))) (hb.mono (by simp <;> omega))
    replace mm0 := keep hd mm0
    replace mm1 := keep hd mm1
    replace kk0 := keep hd kk0
    replace kk1 := keep hd kk1
    replace mK0 := keep hd mK0
    replace mK1 := keep hd mK1
    replace mQ0 := keep hd mQ0
    replace mQ1 := keep hd mQ1
    replace mU0 := keep hd mU0
    replace mU1 := keep hd mU1
    replace him := him.below hd
    replace hik := hik.below hd
    replace hiK := hiK.below hd
    replace hiQ := hiQ.below hd
    replace hiU := hiU.below hd
    replace hiB := hiB.below hd
    replace hB := chain hB hd
    have hs7 := hd.size
    clear hb hd
    obtain ⟨rS, HS⟩ : ∃ r, Hid (sideM false 4 ks = r) := ⟨_, rfl⟩
    go_wp2_with fail
    refine (FirstOf_any _ _ _ _ ks _ (hik.below (by (repeat (first | exact Below.refl _ _ | assumption | refine Below.alloc ?_ (by first | omega | (simp <;> omega)) _ | refine Below.setCell ?_ (by first | omega | (simp <;> omega)) _ | refine Below.drew ?_ | refine below_drewN ?_))))).mono ?_; rw [HS.out]; rintro e w8 ⟨⟨vS, rfl, hrS⟩, hb⟩
    obtain ⟨aS, nS, cS, rfl, hiS⟩ := hrS.ints
    clear hrS
    have mA0 := keep hb (a := ⟨w7.heap.size, 0, none⟩) (v := .int .i64 rA.size) (by simp)
    have mA1 := keep hb (a := ⟨w7.heap.size, 1, none⟩) (v := .slice aA nA cA) (by simp)
    have hN8 : w7.heap.size < w8.heap.size := by have := World.block_lt_of_cell? w8 _ mA0; simpa using this
    have hd : Below w7.heap.size w7 w8 := Below.trans (by (repeat (first | exact Below.refl _ _ | assumption | refine Below.alloc ?_ (by first | omega | (simp <;> omega)) _ | refine Below.setCell ?_ (by first | omega | (simp <;> omega)) _ | refine Below.drew ?_ | refine below_drewN ?_))) (hb.mono (by simp <;> omega))
    replace mm0 := keep hd mm0
    replace mm1 := keep hd mm1
    replace kk0 := keep hd kk0
    replace kk1 := keep hd kk1
    replace mK0 := keep hd mK0
    replace mK1 := keep hd mK1
    replace mQ0 := keep hd mQ0
    replace mQ1 := keep hd mQ1
    replace mU0 := keep hd mU0
    replace mU1 := keep hd mU1
    replace mB0 := keep hd mB0
    replace mB1 := keep hd mB1
    replace him := him.below hd
    replace hik := hik.below hd
    replace hiK := hiK.below hd
    replace hiQ := hiQ.below hd
    replace hiU := hiU.below hd
    replace hiB := hiB.below hd
    replace hiA := hiA.below hd
    replace hB := chain hB hd
    have hs8 := hd.size
    clear hb hd
    obtain ⟨rH, HH⟩ : ∃ r, Hid (togM (fun a b => a &&& b) 2 xs rS.size rS.parts = r) := ⟨_, rfl⟩
    go_wp2_with fail
    refine (ConjoinMasses_any _ _ _ _ _ _ _ _ xs rS.parts _ (him.below (by (repeat (first | exact Below.refl _ _ | assumption | refine Below.alloc ?_ (by first | omega | (simp <;> omega)) _ | refine Below.setCell ?_ (by first | omega | (simp <;> omega)) _ | refine Below.drew ?_ | refine below_drewN ?_)))) (hiS.below (by (repeat (first | exact Below.refl _ _ | assumption | refine Below.alloc ?_ (by first | omega | (simp <;> omega)) _ | refine Below.setCell ?_ (by first | omega | (simp <;> omega)) _ | refine Below.drew ?_ | refine below_drewN ?_))))).mono ?_; rw [HH.out]; rintro e w9 ⟨⟨vH, rfl, hrH⟩, hb⟩
    obtain ⟨aH, nH, cH, rfl, hiH⟩ := hrH.ints
    clear hrH
    have mS0 := keep hb (a := ⟨w8.heap.size, 0, none⟩) (v := .int .i64 rS.size) (by simp)
    have mS1 := keep hb (a := ⟨w8.heap.size, 1, none⟩) (v := .slice aS nS cS) (by simp)
    have hN9 : w8.heap.size < w9.heap.size := by have := World.block_lt_of_cell? w9 _ mS0; simpa using this
    have hd : Below w8.heap.size w8 w9 := Below.trans (by (repeat (first | exact Below.refl _ _ | assumption | refine Below.alloc ?_ (by first | omega | (simp <;> omega)) _ | refine Below.setCell ?_ (by first | omega | (simp <;> omega)) _ | refine Below.drew ?_ | refine below_drewN ?_))) (hb.mono (by simp <;> omega))
    replace mm0 := keep hd mm0
    replace mm1 := keep hd mm1
    replace kk0 := keep hd kk0
    replace kk1 := keep hd kk1
    replace mK0 := keep hd mK0
    replace mK1 := keep hd mK1
    replace mQ0 := keep hd mQ0
    replace mQ1 := keep hd mQ1
    replace mU0 := keep hd mU0
    replace mU1 := keep hd mU1
    replace mB0 := keep hd mB0
    replace mB1 := keep hd mB1
    replace mA0 := keep hd mA0
    replace mA1 := keep hd mA1
    replace him := him.below hd
    replace hik := hik.below hd
    replace hiK := hiK.below hd
    replace hiQ := hiQ.below hd
    replace hiU := hiU.below hd
    replace hiB := hiB.below hd
    replace hiA := hiA.below hd
    replace hiS := hiS.below hd
    replace hB := chain hB hd
    have hs9 := hd.size
    clear hb hd
    obtain ⟨rC, HC⟩ : ∃ r, Hid (sideM true rB.size rB.parts = r) := ⟨_, rfl⟩
    go_wp2_with fail
    refine (SecondOf_any _ _ _ _ rB.parts _ (hiB.below (by (repeat (first | exact Below.refl _ _ | assumption | refine Below.alloc ?_ (by first | omega | (simp <;> omega)) _ | refine Below.setCell ?_ (by first | omega | (simp <;> omega)) _ | refine Below.drew ?_ | refine below_drewN ?_))))).mono ?_; rw [HC.out]; rintro e w10 ⟨⟨vC, rfl, hrC⟩, hb⟩
    obtain ⟨aC, nC, cC, rfl, hiC⟩ := hrC.ints
    clear hrC
    have mH0 := keep hb (a := ⟨w9.heap.size, 0, none⟩) (v := .int .i64 rH.size) (by simp)
    have mH1 := keep hb (a := ⟨w9.heap.size, 1, none⟩) (v := .slice aH nH cH) (by simp)
    have hN10 : w9.heap.size < w10.heap.size := by have := World.block_lt_of_cell? w10 _ mH0; simpa using this
    have hd : Below w9.heap.size w9 w10 := Below.trans (by (repeat (first | exact Below.refl _ _ | assumption | refine Below.alloc ?_ (by first | omega | (simp <;> omega)) _ | refine Below.setCell ?_ (by first | omega | (simp <;> omega)) _ | refine Below.drew ?_ | refine below_drewN ?_))) (hb.mono (by simp <;> omega))
    replace mm0 := keep hd mm0
    replace mm1 := keep hd mm1
    replace kk0 := keep hd kk0
    replace kk1 := keep hd kk1
    replace mK0 := keep hd mK0
    replace mK1 := keep hd mK1
    replace mQ0 := keep hd mQ0
    replace mQ1 := keep hd mQ1
    replace mU0 := keep hd mU0
    replace mU1 := keep hd mU1
    replace mB0 := keep hd mB0
    replace mB1 := keep hd mB1
    replace mA0 := keep hd mA0
    replace mA1 := keep hd mA1
    replace mS0 := keep hd mS0
    replace mS1 := keep hd mS1
    replace him := him.below hd
    replace hik := hik.below hd
    replace hiK := hiK.below hd
    replace hiQ := hiQ.below hd
    replace hiU := hiU.below hd
    replace hiB := hiB.below hd
    replace hiA := hiA.below hd
    replace hiS := hiS.below hd
    replace hiH := hiH.below hd
    replace hB := chain hB hd
    have hs10 := hd.size
    clear hb hd
    rw [HU.out, HB.out, HA.out, HS.out, HH.out, HC.out, HK.out] at HL
    have g1 : rB.ok = true := HL.out.1
    have g2 : rA.ok = true := HL.out.2.1
    have E1 : Hid (rA = rH) := HL.out.2.2.1
    have E2 : Hid (rC = rK) := HL.out.2.2.2
    clear HL
    cases ho3 : rH.ok
    · go_wp2_with fail
      refine (weEqual_eq _ _ _ _ _ _ _ _ _ _ _ (hiC.below (by (repeat (first | exact Below.refl _ _ | assumption | refine Below.alloc ?_ (by first | omega | (simp <;> omega)) _ | refine Below.setCell ?_ (by first | omega | (simp <;> omega)) _ | refine Below.drew ?_ | refine below_drewN ?_)))) (hiK.below (by (repeat (first | exact Below.refl _ _ | assumption | refine Below.alloc ?_ (by first | omega | (simp <;> omega)) _ | refine Below.setCell ?_ (by first | omega | (simp <;> omega)) _ | refine Below.drew ?_ | refine below_drewN ?_)))) (by rw [E2.out]) (by rw [E2.out])).mono ?_; rintro e w11 ⟨rfl, hb⟩
      have mC0 := keep hb (a := ⟨w10.heap.size, 0, none⟩) (v := .int .i64 rC.size) (by simp)
      have mC1 := keep hb (a := ⟨w10.heap.size, 1, none⟩) (v := .slice aC nC cC) (by simp)
      have hN11 : w10.heap.size < w11.heap.size := by have := World.block_lt_of_cell? w11 _ mC0; simpa using this
      have hd : Below w10.heap.size w10 w11 := Below.trans (by (repeat (first | exact Below.refl _ _ | assumption | refine Below.alloc ?_ (by first | omega | (simp <;> omega)) _ | refine Below.setCell ?_ (by first | omega | (simp <;> omega)) _ | refine Below.drew ?_ | refine below_drewN ?_))) (hb.mono (by simp <;> omega))
      replace mm0 := keep hd mm0
      replace mm1 := keep hd mm1
      replace kk0 := keep hd kk0
      replace kk1 := keep hd kk1
      replace mK0 := keep hd mK0
      replace mK1 := keep hd mK1
      replace mQ0 := keep hd mQ0
      replace mQ1 := keep hd mQ1
      replace mU0 := keep hd mU0
      replace mU1 := keep hd mU1
      replace mB0 := keep hd mB0
      replace mB1 := keep hd mB1
      replace mA0 := keep hd mA0
      replace mA1 := keep hd mA1
      replace mS0 := keep hd mS0
      replace mS1 := keep hd mS1
      replace mH0 := keep hd mH0
      replace mH1 := keep hd mH1
      replace him := him.below hd
      replace hik := hik.below hd
      replace hiK := hiK.below hd
      replace hiQ := hiQ.below hd
      replace hiU := hiU.below hd
      replace hiB := hiB.below hd
      replace hiA := hiA.below hd
      replace hiS := hiS.below hd
      replace hiH := hiH.below hd
      replace hiC := hiC.below hd
      replace hB := chain hB hd
      have hs11 := hd.size
      clear hb hd
      go_wp2
      go_ret
      exact ⟨rfl, hB⟩
    · go_wp2_with fail
      refine (weEqual_eq _ _ _ _ _ _ _ _ _ _ _ (hiA.below (by (repeat (first | exact Below.refl _ _ | assumption | refine Below.alloc ?_ (by first | omega | (simp <;> omega)) _ | refine Below.setCell ?_ (by first | omega | (simp <;> omega)) _ | refine Below.drew ?_ | refine below_drewN ?_)))) (hiH.below (by (repeat (first | exact Below.refl _ _ | assumption | refine Below.alloc ?_ (by first | omega | (simp <;> omega)) _ | refine Below.setCell ?_ (by first | omega | (simp <;> omega)) _ | refine Below.drew ?_ | refine below_drewN ?_)))) (by rw [E1.out]) (by rw [E1.out])).mono ?_; rintro e w11 ⟨rfl, hb⟩
      have mC0 := keep hb (a := ⟨w10.heap.size, 0, none⟩) (v := .int .i64 rC.size) (by simp)
      have mC1 := keep hb (a := ⟨w10.heap.size, 1, none⟩) (v := .slice aC nC cC) (by simp)
      have hN12 : w10.heap.size < w11.heap.size := by have := World.block_lt_of_cell? w11 _ mC0; simpa using this
      have hd : Below w10.heap.size w10 w11 := Below.trans (by (repeat (first | exact Below.refl _ _ | assumption | refine Below.alloc ?_ (by first | omega | (simp <;> omega)) _ | refine Below.setCell ?_ (by first | omega | (simp <;> omega)) _ | refine Below.drew ?_ | refine below_drewN ?_))) (hb.mono (by simp <;> omega))
      replace mm0 := keep hd mm0
      replace mm1 := keep hd mm1
      replace kk0 := keep hd kk0
      replace kk1 := keep hd kk1
      replace mK0 := keep hd mK0
      replace mK1 := keep hd mK1
      replace mQ0 := keep hd mQ0
      replace mQ1 := keep hd mQ1
      replace mU0 := keep hd mU0
      replace mU1 := keep hd mU1
      replace mB0 := keep hd mB0
      replace mB1 := keep hd mB1
      replace mA0 := keep hd mA0
      replace mA1 := keep hd mA1
      replace mS0 := keep hd mS0
      replace mS1 := keep hd mS1
      replace mH0 := keep hd mH0
      replace mH1 := keep hd mH1
      replace him := him.below hd
      replace hik := hik.below hd
      replace hiK := hiK.below hd
      replace hiQ := hiQ.below hd
      replace hiU := hiU.below hd
      replace hiB := hiB.below hd
      replace hiA := hiA.below hd
      replace hiS := hiS.below hd
      replace hiH := hiH.below hd
      replace hiC := hiC.below hd
      replace hB := chain hB hd
      have hs11 := hd.size
      clear hb hd
      go_wp2_with fail
      refine (weEqual_eq _ _ _ _ _ _ _ _ _ _ _ hiC hiK (by rw [E2.out]) (by rw [E2.out])).mono ?_; rintro e w12 ⟨rfl, hb⟩
      have hd := hb
      replace mm0 := keep hd mm0
      replace mm1 := keep hd mm1
      replace kk0 := keep hd kk0
      replace kk1 := keep hd kk1
      replace mK0 := keep hd mK0
      replace mK1 := keep hd mK1
      replace mQ0 := keep hd mQ0
      replace mQ1 := keep hd mQ1
      replace mU0 := keep hd mU0
      replace mU1 := keep hd mU1
      replace mB0 := keep hd mB0
      replace mB1 := keep hd mB1
      replace mA0 := keep hd mA0
      replace mA1 := keep hd mA1
      replace mS0 := keep hd mS0
      replace mS1 := keep hd mS1
      replace mH0 := keep hd mH0
      replace mH1 := keep hd mH1
      replace mC0 := keep hd mC0
      replace mC1 := keep hd mC1
      replace him := him.below hd
      replace hik := hik.below hd
      replace hiK := hiK.below hd
      replace hiQ := hiQ.below hd
      replace hiU := hiU.below hd
      replace hiB := hiB.below hd
      replace hiA := hiA.below hd
      replace hiS := hiS.below hd
      replace hiH := hiH.below hd
      replace hiC := hiC.below hd
      replace hB := chain hB hd
      have hs12 := hd.size
      clear hb hd
      go_wp2
      go_ret
      exact ⟨rfl, hB⟩
end Go.Proofs.Ytphcjojdlmnnoaa
