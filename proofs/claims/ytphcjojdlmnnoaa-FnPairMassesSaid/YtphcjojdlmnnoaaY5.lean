/- The law FnPairMasses: its walk (printed by fngen.py). -/
import Derived.Test.YtphcjojdlmnnoaaD10
import Derived.Test.YtphcjojdlmnnoaaE1
import Derived.Test.YtphcjojdlmnnoaaE2
import Derived.Test.YtphcjojdlmnnoaaE5
import Derived.Test.YtphcjojdlmnnoaaN3
import Derived.Test.YtphcjojdlmnnoaaS10
import Derived.Test.YtphcjojdlmnnoaaS8
import Derived.Test.YtphcjojdlmnnoaaS6
set_option linter.unusedSimpArgs false
set_option linter.unusedVariables false
namespace Go.Proofs.Ytphcjojdlmnnoaa
open Go.RowKit
theorem predI_sub (a : Nat) : predI (subB a) = subI a := by funext b; simp [predI, subB, subI]
/-- the set of pairs of which the first is in x and the second in y, as it is put together -/
def setP (x y p : Nat) : Nat := iter (fun p s => if (x / 2 ^ (p / 2)) % 2 = 1 ∧ (y / 2 ^ (p % 2)) % 2 = 1 then s ||| 2 ^ p else s) 0 p
theorem setP_F : ∀ x y : Fin 4, setP x.val y.val 4 = setXY x.val y.val ∧ setXY x.val y.val < 16 := by decide +kernel
theorem prod_bd {a b c : Int} (a0 : 0 ≤ a) (a1 : a ≤ 1000000) (b0 : 0 ≤ b) (b1 : b ≤ 1000000) (c0 : 0 ≤ c) (c1 : c ≤ 1000000) : IntKind.i64.wrap (a * b) = a * b ∧ IntKind.i64.wrap (a * b * c) = a * b * c := by
  have h := part_mul a b a0 a1 b0 b1
  have h2 : 0 ≤ a * b * c := Int.mul_nonneg h.1 c0
  have h3 : a * b * c ≤ 1000000000000 * c := Int.mul_le_mul_of_nonneg_right h.2 c0
  exact ⟨IntWalk.i64_in _ (by omega), IntWalk.i64_in _ (by omega)⟩
theorem sub_bd (p : Nat → Bool) {s : Int} {N : Nat} {xs : List Int} (h : massOk s xs = true) (hN : nsets s = N) : 0 ≤ dot (predI p) xs N ∧ dot (predI p) xs N ≤ 1000000 := by
  obtain ⟨_, hl, _, hb, _⟩ := massOk_facts h
  have h0 := (predI_bd p xs N (fun k hk => hb k (by omega)) N (Nat.le_refl _)).1
  have h1 : dot (predI p) xs N ≤ dot (fun _ => 1) xs N := dot_mono xs N (fun j hj => (hb j (by omega)).1) (fun j hj _ => by unfold predI; split <;> omega)
  have h2 := mass_sum h hN
  omega
/-- the numbers of the product law, none too great -/
theorem pair_nums {xs ys : List Int} (h : (pairM 2 xs 2 ys).ok = true) (hx : nth xs 0 = 0) (hy : nth ys 0 = 0) {x y : Nat} (x4 : x < 4) (y4 : y < 4) :
    ∃ i1 wm wn im jn wk : Int, dot (predI (subB (setXY x y))) (pairM 2 xs 2 ys).parts 16 = i1 ∧ isum xs = wm ∧ isum ys = wn ∧ dot (predI (subB x)) xs 4 = im ∧ dot (predI (subB y)) ys 4 = jn ∧ isum (pairM 2 xs 2 ys).parts = wk ∧
      IntKind.i64.wrap (i1 * wm) = i1 * wm ∧ IntKind.i64.wrap (i1 * wm * wn) = i1 * wm * wn ∧ IntKind.i64.wrap (im * jn) = im * jn ∧ IntKind.i64.wrap (im * jn * wk) = i1 * wm * wn := by
  obtain ⟨hm, _, hk, _⟩ := pair_fact h
  obtain ⟨p1, p2, _⟩ := pair_pr h
  have e := pair_implied h hx hy x4 y4
  rw [← predI_sub, ← predI_sub, ← predI_sub] at e
  have b1 := sub_bd (subB (setXY x y)) p2 ns4
  have b2 := sub_bd (subB x) hm ns2
  have b3 := sub_bd (subB y) hk ns2
  obtain ⟨_, _, _, _, s1, s2, _⟩ := massOk_facts hm
  obtain ⟨_, _, _, _, s3, s4, _⟩ := massOk_facts hk
  obtain ⟨_, _, _, _, s5, s6, _⟩ := massOk_facts p2
  obtain ⟨q1, q2⟩ := prod_bd b1.1 b1.2 (by omega) s2 (show 0 ≤ isum ys by omega) s4
  obtain ⟨q3, q4⟩ := prod_bd b2.1 b2.2 b3.1 b3.2 (show 0 ≤ isum (pairM 2 xs 2 ys).parts by omega) s6
  exact ⟨_, _, _, _, _, _, rfl, rfl, rfl, rfl, rfl, rfl, q1, q2, q3, by rw [q4, e]⟩
set_option maxRecDepth 100000 in
set_option maxHeartbeats 8000000 in
theorem FnPairMasses_walk (ao : Option Addr) (n c : Nat) (w : World) (hx : n ≤ 1048576 → BytesIn w w.heap.size ao n) (hnc : n ≤ c) (hcap : n ≤ 9223372036854775807) :
    Calls Try.prog 6 #[.slice ao n c] w fun e w' => e = .returned (.bool true) ∧ Below w.heap.size w w' := by
  by_cases hn : 1048576 < n
  · go_enter Try.func6, Try.ntmps6
    go_wp2
    go_ret
    exact ⟨rfl, Below.refl _ _⟩
  have HX := hid (hx (by omega))
  clear hx
  go_enter Try.func6, Try.ntmps6
  have hB := Below.refl w.heap.size w
  go_wp2_with fail
  refine (DrawPairMasses_any ao n c _ HX.out hnc).mono ?_; rintro e w1 ⟨⟨s, p, xs, u, q, ks, rfl, hr, hlx, hr2, hlk⟩, hb⟩
  have hd := hb
  replace hB := chain hB hd
  have hs1 := hd.size
  clear hb hd
  obtain ⟨am, nm, cm, rfl, him⟩ := hr.ints
  clear hr
  obtain ⟨ak, nk, ck, rfl, hik⟩ := hr2.ints
  clear hr2
  obtain ⟨rK, HK⟩ : ∃ r, Hid (pairM s xs u ks = r) := ⟨_, rfl⟩
  go_wp2_with fail
  refine (PairMasses_any _ _ _ _ _ _ _ _ xs ks _ (him.below (by (repeat (first | exact Below.refl _ _ | assumption | refine Below.alloc ?_ (by first | omega | (simp <;> omega)) _ | refine Below.setCell ?_ (by first | omega | (simp <;> omega)) _ | refine Below.drew ?_ | refine below_drewN ?_)))) (hik.below (by (repeat (first | exact Below.refl _ _ | assumption | refine Below.alloc ?_ (by first | omega | (simp <;> omega)) _ | refine Below.setCell ?_ (by first | omega | (simp <;> omega)) _ | refine Below.drew ?_ | refine below_drewN ?_))))).mono ?_; rw [HK.out]; rintro e w2 ⟨⟨vK, rfl, hrK⟩, hb⟩
  obtain ⟨aK, nK, cK, rfl, hiK⟩ := hrK.ints
  clear hrK
  have mm0 := keep hb (a := ⟨w1.heap.size, 0, none⟩) (v := .int .i64 s) (by simp)
  have mm1 := keep hb (a := ⟨w1.heap.size, 1, none⟩) (v := .slice am nm cm) (by simp)
  have hN1 : w1.heap.size < w2.heap.size := by have := World.block_lt_of_cell? w2 _ mm0; simpa using this
  have kk0 := keep hb (a := ⟨w1.heap.size + 1, 0, none⟩) (v := .int .i64 u) (by simp)
  have kk1 := keep hb (a := ⟨w1.heap.size + 1, 1, none⟩) (v := .slice ak nk ck) (by simp)
  have hN2 : w1.heap.size + 1 < w2.heap.size := by have := World.block_lt_of_cell? w2 _ kk0; simpa using this
  have hd : Below w1.heap.size w1 w2 := Below.trans (by (repeat (first | exact Below.refl _ _ | assumption | refine Below.alloc ?_ (by first | omega | (simp <;> omega)) _ | refine Below.setCell ?_ (by first | omega | (simp <;> omega)) _ | refine Below.drew ?_ | refine below_drewN ?_))) (hb.mono (by simp <;> omega))
  replace him := him.below hd
  replace hik := hik.below hd
  replace hB := chain hB hd
  have hs2 := hd.size
  clear hb hd
  obtain ⟨rQ, HQ⟩ : ∃ r, Hid (pairM s xs u ks = r) := ⟨_, rfl⟩
  go_wp2_with fail
  refine (specPairMasses_any _ _ _ _ _ _ _ _ xs ks _ (him.below (by (repeat (first | exact Below.refl _ _ | assumption | refine Below.alloc ?_ (by first | omega | (simp <;> omega)) _ | refine Below.setCell ?_ (by first | omega | (simp <;> omega)) _ | refine Below.drew ?_ | refine below_drewN ?_)))) (hik.below (by (repeat (first | exact Below.refl _ _ | assumption | refine Below.alloc ?_ (by first | omega | (simp <;> omega)) _ | refine Below.setCell ?_ (by first | omega | (simp <;> omega)) _ | refine Below.drew ?_ | refine below_drewN ?_))))).mono ?_; rw [HQ.out]; rintro e w3 ⟨⟨vQ, rfl, hrQ⟩, hb⟩
  obtain ⟨aQ, nQ, cQ, rfl, hiQ⟩ := hrQ.ints
  clear hrQ
  have mK0 := keep hb (a := ⟨w2.heap.size, 0, none⟩) (v := .int .i64 rK.size) (by simp)
  have mK1 := keep hb (a := ⟨w2.heap.size, 1, none⟩) (v := .slice aK nK cK) (by simp)
  have hN3 : w2.heap.size < w3.heap.size := by have := World.block_lt_of_cell? w3 _ mK0; simpa using this
  have hd : Below w2.heap.size w2 w3 := Below.trans (by (repeat (first | exact Below.refl _ _ | assumption | refine Below.alloc ?_ (by first | omega | (simp <;> omega)) _ | refine Below.setCell ?_ (by first | omega | (simp <;> omega)) _ | refine Below.drew ?_ | refine below_drewN ?_))) (hb.mono (by simp <;> omega))
  replace mm0 := keep hd mm0
  replace mm1 := keep hd mm1
  replace kk0 := keep hd kk0
  replace kk1 := keep hd kk1
  replace him := him.below hd
  replace hik := hik.below hd
  replace hiK := hiK.below hd
  replace hB := chain hB hd
  have hs3 := hd.size
  clear hb hd
  have HE : Hid (rQ = rK) := HQ.out.symm.trans HK.out
  cases ho : rK.ok
  · have ho2 : rQ.ok = false := by rw [HE.out]; exact ho
    go_wp2_with fail
    refine (weEqual_eq _ _ _ _ _ _ _ _ _ _ _ (hiK.below (by (repeat (first | exact Below.refl _ _ | assumption | refine Below.alloc ?_ (by first | omega | (simp <;> omega)) _ | refine Below.setCell ?_ (by first | omega | (simp <;> omega)) _ | refine Below.drew ?_ | refine below_drewN ?_)))) (hiQ.below (by (repeat (first | exact Below.refl _ _ | assumption | refine Below.alloc ?_ (by first | omega | (simp <;> omega)) _ | refine Below.setCell ?_ (by first | omega | (simp <;> omega)) _ | refine Below.drew ?_ | refine below_drewN ?_)))) (by rw [HE.out]) (by rw [HE.out])).mono ?_; rintro e w4 ⟨rfl, hb⟩
    have mQ0 := keep hb (a := ⟨w3.heap.size, 0, none⟩) (v := .int .i64 rQ.size) (by simp)
    have mQ1 := keep hb (a := ⟨w3.heap.size, 1, none⟩) (v := .slice aQ nQ cQ) (by simp)
    have hN4 : w3.heap.size < w4.heap.size := by have := World.block_lt_of_cell? w4 _ mQ0; simpa using this
    have hd : Below w3.heap.size w3 w4 := Below.trans (by (repeat (first | exact Below.refl _ _ | assumption | refine Below.alloc ?_ (by first | omega | (simp <;> omega)) _ | refine Below.setCell ?_ (by first | omega | (simp <;> omega)) _ | refine Below.drew ?_ | refine below_drewN ?_))) (hb.mono (by simp <;> omega))
    replace mm0 := keep hd mm0
    replace mm1 := keep hd mm1
    replace kk0 := keep hd kk0
    replace kk1 := keep hd kk1
    replace mK0 := keep hd mK0
    replace mK1 := keep hd mK1
    replace him := him.below hd
    replace hik := hik.below hd
    replace hiK := hiK.below hd
    replace hiQ := hiQ.below hd
    replace hB := chain hB hd
    have hs4 := hd.size
    clear hb hd
    go_wp2_with fail
    refine (weEqual_eq _ _ _ _ _ _ _ _ _ _ _ hiK hiQ (by rw [HE.out]) (by rw [HE.out])).mono ?_; rintro e w5 ⟨rfl, hb⟩
    have hd := hb
    replace mm0 := keep hd mm0
    replace mm1 := keep hd mm1
    replace kk0 := keep hd kk0
    replace kk1 := keep hd kk1
    replace mK0 := keep hd mK0
    replace mK1 := keep hd mK1
    replace mQ0 := keep hd mQ0
    replace mQ1 := keep hd mQ1
    replace him := him.below hd
    replace hik := hik.below hd
    replace hiK := hiK.below hd
    replace hiQ := hiQ.below hd
    replace hB := chain hB hd
    have hs5 := hd.size
    clear hb hd
    go_wp2
    go_ret
    exact ⟨rfl, hB⟩
  · have ho2 : rQ.ok = true := by rw [HE.out]; exact ho
    go_wp2_with fail
    refine (weEqual_eq _ _ _ _ _ _ _ _ _ _ _ (hiK.below (by (repeat (first | exact Below.refl _ _ | assumption | refine Below.alloc ?_ (by first | omega | (simp <;> omega)) _ | refine Below.setCell ?_ (by first | omega | (simp <;> omega)) _ | refine Below.drew ?_ | refine below_drewN ?_)))) (hiQ.below (by (repeat (first | exact Below.refl _ _ | assumption | refine Below.alloc ?_ (by first | omega | (simp <;> omega)) _ | refine Below.setCell ?_ (by first | omega | (simp <;> omega)) _ | refine Below.drew ?_ | refine below_drewN ?_)))) (by rw [HE.out]) (by rw [HE.out])).mono ?_; rintro e w4 ⟨rfl, hb⟩
    have mQ0 := keep hb (a := ⟨w3.heap.size, 0, none⟩) (v := .int .i64 rQ.size) (by simp)
    have mQ1 := keep hb (a := ⟨w3.heap.size, 1, none⟩) (v := .slice aQ nQ cQ) (by simp)
    have hN5 : w3.heap.size < w4.heap.size := by have := World.block_lt_of_cell? w4 _ mQ0; simpa using this
    have hd : Below w3.heap.size w3 w4 := Below.trans (by (repeat (first | exact Below.refl _ _ | assumption | refine Below.alloc ?_ (by first | omega | (simp <;> omega)) _ | refine Below.setCell ?_ (by first | omega | (simp <;> omega)) _ | refine Below.drew ?_ | refine below_drewN ?_))) (hb.mono (by simp <;> omega))
    replace mm0 := keep hd mm0
    replace mm1 := keep hd mm1
    replace kk0 := keep hd kk0
    replace kk1 := keep hd kk1
    replace mK0 := keep hd mK0
    replace mK1 := keep hd mK1
    replace him := him.below hd
    replace hik := hik.below hd
    replace hiK := hiK.below hd
    replace hiQ := hiQ.below hd
    replace hB := chain hB hd
    have hs4 := hd.size
    clear hb hd
    clear HE
    have hpo : (pairM s xs u ks).ok = true := by rw [HK.out]; exact ho
    obtain ⟨hm1, rfl, hm2, rfl⟩ := pair_fact hpo
    have HO := hid (pair_other hpo)
    have HPO := hid hpo
    clear hpo
    obtain ⟨rA, HA⟩ : ∃ r, Hid (sideM false rK.size rK.parts = r) := ⟨_, rfl⟩
    go_wp2_with fail
    refine (FirstOf_any _ _ _ _ rK.parts _ hiK).mono ?_; rw [HA.out]; rintro e w5 ⟨⟨vA, rfl, hrA⟩, hb⟩
    obtain ⟨aA, nA, cA, rfl, hiA⟩ := hrA.ints
    clear hrA
    have hd := hb
    replace mm0 := keep hd mm0
    replace mm1 := keep hd mm1
    replace kk0 := keep hd kk0
    replace kk1 := keep hd kk1
    replace mK0 := keep hd mK0
    replace mK1 := keep hd mK1
    replace mQ0 := keep hd mQ0
    replace mQ1 := keep hd mQ1
    replace him := him.below hd
    replace hik := hik.below hd
    replace hiK := hiK.below hd
    replace hiQ := hiQ.below hd
    replace hB := chain hB hd
    have hs5 := hd.size
    clear hb hd
    obtain ⟨rB, HB⟩ : ∃ r, Hid (sideM true rK.size rK.parts = r) := ⟨_, rfl⟩
    go_wp2_with fail
    refine (SecondOf_any _ _ _ _ rK.parts _ (hiK.below (by (repeat (first | exact Below.refl _ _ | assumption | refine Below.alloc ?_ (by first | omega | (simp <;> omega)) _ | refine Below.setCell ?_ (by first | omega | (simp <;> omega)) _ | refine Below.drew ?_ | refine below_drewN ?_))))).mono ?_; rw [HB.out]; rintro e w6 ⟨⟨vB, rfl, hrB⟩, hb⟩
    obtain ⟨aB, nB, cB, rfl, hiB⟩ := hrB.ints
    clear hrB
    have mA0 := keep hb (a := ⟨w5.heap.size, 0, none⟩) (v := .int .i64 rA.size) (by simp)
    have mA1 := keep hb (a := ⟨w5.heap.size, 1, none⟩) (v := .slice aA nA cA) (by simp)
    have hN6 : w5.heap.size < w6.heap.size := by have := World.block_lt_of_cell? w6 _ mA0; simpa using this
    have hd : Below w5.heap.size w5 w6 := Below.trans (by (repeat (first | exact Below.refl _ _ | assumption | refine Below.alloc ?_ (by first | omega | (simp <;> omega)) _ | refine Below.setCell ?_ (by first | omega | (simp <;> omega)) _ | refine Below.drew ?_ | refine below_drewN ?_))) (hb.mono (by simp <;> omega))
    replace mm0 := keep hd mm0
    replace mm1 := keep hd mm1
    replace kk0 := keep hd kk0
    replace kk1 := keep hd kk1
    replace mK0 := keep hd mK0
    replace mK1 := keep hd mK1
    replace mQ0 := keep hd mQ0
    replace mQ1 := keep hd mQ1
    replace him := him.below hd
    replace hik := hik.below hd
    replace hiK := hiK.below hd
    replace hiQ := hiQ.below hd
    replace hiA := hiA.below hd
    replace hB := chain hB hd
    have hs6 := hd.size
    clear hb hd
    obtain ⟨rT, HT⟩ : ∃ r, Hid (pairM 2 ks 2 xs = r) := ⟨_, rfl⟩
    go_wp2_with fail
    refine (PairMasses_any _ _ _ _ _ _ _ _ ks xs _ (hik.below (by (repeat (first | exact Below.refl _ _ | assumption | refine Below.alloc ?_ (by first | omega | (simp <;> omega)) _ | refine Below.setCell ?_ (by first | omega | (simp <;> omega)) _ | refine Below.drew ?_ | refine below_drewN ?_)))) (him.below (by (repeat (first | exact Below.refl _ _ | assumption | refine Below.alloc ?_ (by first | omega | (simp <;> omega)) _ | refine Below.setCell ?_ (by first | omega | (simp <;> omega)) _ | refine Below.drew ?_ | refine below_drewN ?_))))).mono ?_; rw [HT.out]; rintro e w7 ⟨⟨vT, rfl, hrT⟩, hb⟩
    obtain ⟨aT, nT, cT, rfl, hiT⟩ := hrT.ints
    clear hrT
    have mB0 := keep hb (a := ⟨w6.heap.size, 0, none⟩) (v := .int .i64 rB.size) (by simp)
    have mB1 := keep hb (a := ⟨w6.heap.size, 1, none⟩) (v := .slice aB nB cB) (by simp)
    have hN7 : w6.heap.size < w7.heap.size := by have := World.block_lt_of_cell? w7 _ mB0; simpa using this
    have hd : Below w6.heap.size w6 w7 := Below.trans (by (repeat (first | exact Below.refl _ _ | assumption | refine Below.alloc ?_ (by first | omega | (simp <;> omega)) _ | refine Below.setCell ?_ (by first | omega | (simp <;> omega)) _ | refine Below.drew ?_ | refine below_drewN ?_))) (hb.mono (by simp <;> omega))
    replace mm0 := keep hd mm0
    replace mm1 := keep hd mm1
    replace kk0 := keep hd kk0
    replace kk1 := keep hd kk1
    replace mK0 := keep hd mK0
    replace mK1 := keep hd mK1
    replace mQ0 := keep hd mQ0
    replace mQ1 := keep hd mQ1
    replace mA0 := keep hd mA0
    replace mA1 := keep hd mA1
    replace him := him.below hd
    replace hik := hik.below hd
    replace hiK := hiK.below hd
    replace hiQ := hiQ.below hd
    replace hiA := hiA.below hd
    replace hiB := hiB.below hd
    replace hB := chain hB hd
    have hs7 := hd.size
    clear hb hd
    obtain ⟨rS, HS⟩ : ∃ r, Hid (swapM rK.size rK.parts = r) := ⟨_, rfl⟩
    go_wp2_with fail
    refine (SwapPairs_any _ _ _ _ rK.parts _ (hiK.below (by (repeat (first | exact Below.refl _ _ | assumption | refine Below.alloc ?_ (by first | omega | (simp <;> omega)) _ | refine Below.setCell ?_ (by first | omega | (simp <;> omega)) _ | refine Below.drew ?_ | refine below_drewN ?_))))).mono ?_; rw [HS.out]; rintro e w8 ⟨⟨vS, rfl, hrS⟩, hb⟩
    obtain ⟨aS, nS, cS, rfl, hiS⟩ := hrS.ints
    clear hrS
    have mT0 := keep hb (a := ⟨w7.heap.size, 0, none⟩) (v := .int .i64 rT.size) (by simp)
    have mT1 := keep hb (a := ⟨w7.heap.size, 1, none⟩) (v := .slice aT nT cT) (by simp)
    have hN8 : w7.heap.size < w8.heap.size := by have := World.block_lt_of_cell? w8 _ mT0; simpa using this
    have hd : Below w7.heap.size w7 w8 := Below.trans (by (repeat (first | exact Below.refl _ _ | assumption | refine Below.alloc ?_ (by first | omega | (simp <;> omega)) _ | refine Below.setCell ?_ (by first | omega | (simp <;> omega)) _ | refine Below.drew ?_ | refine below_drewN ?_))) (hb.mono (by simp <;> omega))
    replace mm0 := keep hd mm0
    replace mm1 := keep hd mm1
    replace kk0 := keep hd kk0
    replace kk1 := keep hd kk1
    replace mK0 := keep hd mK0
    replace mK1 := keep hd mK1
    replace mQ0 := keep hd mQ0
    replace mQ1 := keep hd mQ1
    replace mA0 := keep hd mA0
    replace mA1 := keep hd mA1
    replace mB0 := keep hd mB0
    replace mB1 := keep hd mB1
    replace him := him.below hd
    replace hik := hik.below hd
    replace hiK := hiK.below hd
    replace hiQ := hiQ.below hd
    replace hiA := hiA.below hd
    replace hiB := hiB.below hd
    replace hiT := hiT.below hd
    replace hB := chain hB hd
    have hs8 := hd.size
    clear hb hd
    rw [HK.out, HT.out, HS.out] at HO
    go_wp2_with fail
    refine (weEqual_eq _ _ _ _ _ _ _ _ _ _ _ (hiT.below (by (repeat (first | exact Below.refl _ _ | assumption | refine Below.alloc ?_ (by first | omega | (simp <;> omega)) _ | refine Below.setCell ?_ (by first | omega | (simp <;> omega)) _ | refine Below.drew ?_ | refine below_drewN ?_)))) (hiS.below (by (repeat (first | exact Below.refl _ _ | assumption | refine Below.alloc ?_ (by first | omega | (simp <;> omega)) _ | refine Below.setCell ?_ (by first | omega | (simp <;> omega)) _ | refine Below.drew ?_ | refine below_drewN ?_)))) (by rw [HO.out]) (by rw [HO.out])).mono ?_; rintro e w9 ⟨rfl, hb⟩
    have mS0 := keep hb (a := ⟨w8.heap.size, 0, none⟩) (v := .int .i64 rS.size) (by simp)
    have mS1 := keep hb (a := ⟨w8.heap.size, 1, none⟩) (v := .slice aS nS cS) (by simp)
    have hN9 : w8.heap.size < w9.heap.size := by have := World.block_lt_of_cell? w9 _ mS0; simpa using this
    have hd : Below w8.heap.size w8 w9 := Below.trans (by (repeat (first | exact Below.refl _ _ | assumption | refine Below.alloc ?_ (by first | omega | (simp <;> omega)) _ | refine Below.setCell ?_ (by first | omega | (simp <;> omega)) _ | refine Below.drew ?_ | refine below_drewN ?_))) (hb.mono (by simp <;> omega))
    replace mm0 := keep hd mm0
    replace mm1 := keep hd mm1
    replace kk0 := keep hd kk0
    replace kk1 := keep hd kk1
    replace mK0 := keep hd mK0
    replace mK1 := keep hd mK1
    replace mQ0 := keep hd mQ0
    replace mQ1 := keep hd mQ1
    replace mA0 := keep hd mA0
    replace mA1 := keep hd mA1
    replace mB0 := keep hd mB0
    replace mB1 := keep hd mB1
    replace mT0 := keep hd mT0
    replace mT1 := keep hd mT1
    replace him := him.below hd
    replace hik := hik.below hd
    replace hiK := hiK.below hd
    replace hiQ := hiQ.below hd
    replace hiA := hiA.below hd
    replace hiB := hiB.below hd
    replace hiT := hiT.below hd
    replace hiS := hiS.below hd
    replace hB := chain hB hd
    have hs9 := hd.size
    clear hb hd
    cases hn1 : normalOk 2 xs
    · go_wp2_with fail
      refine (IsNormal_any 2 _ _ _ xs _ him).mono ?_; rw [hn1]; rintro e w10 ⟨rfl, hb⟩
      have hd := hb
      replace mm0 := keep hd mm0
      replace mm1 := keep hd mm1
      replace kk0 := keep hd kk0
      replace kk1 := keep hd kk1
      replace mK0 := keep hd mK0
      replace mK1 := keep hd mK1
      replace mQ0 := keep hd mQ0
      replace mQ1 := keep hd mQ1
      replace mA0 := keep hd mA0
      replace mA1 := keep hd mA1
      replace mB0 := keep hd mB0
      replace mB1 := keep hd mB1
      replace mT0 := keep hd mT0
      replace mT1 := keep hd mT1
      replace mS0 := keep hd mS0
      replace mS1 := keep hd mS1
      replace him := him.below hd
      replace hik := hik.below hd
      replace hiK := hiK.below hd
      replace hiQ := hiQ.below hd
      replace hiA := hiA.below hd
      replace hiB := hiB.below hd
      replace hiT := hiT.below hd
      replace hiS := hiS.below hd
      replace hB := chain hB hd
      have hs10 := hd.size
      clear hb hd
      go_wp2
      go_ret
      exact ⟨rfl, hB⟩
    · go_wp2_with fail
      refine (IsNormal_any 2 _ _ _ xs _ him).mono ?_; rw [hn1]; rintro e w10 ⟨rfl, hb⟩
      have hd := hb
      replace mm0 := keep hd mm0
      replace mm1 := keep hd mm1
      replace kk0 := keep hd kk0
      replace kk1 := keep hd kk1
      replace mK0 := keep hd mK0
      replace mK1 := keep hd mK1
      replace mQ0 := keep hd mQ0
      replace mQ1 := keep hd mQ1
      replace mA0 := keep hd mA0
      replace mA1 := keep hd mA1
      replace mB0 := keep hd mB0
      replace mB1 := keep hd mB1
      replace mT0 := keep hd mT0
      replace mT1 := keep hd mT1
      replace mS0 := keep hd mS0
      replace mS1 := keep hd mS1
      replace him := him.below hd
      replace hik := hik.below hd
      replace hiK := hiK.below hd
      replace hiQ := hiQ.below hd
      replace hiA := hiA.below hd
      replace hiB := hiB.below hd
      replace hiT := hiT.below hd
      replace hiS := hiS.below hd
      replace hB := chain hB hd
      have hs10 := hd.size
      clear hb hd
      cases hn2 : normalOk 2 ks
      · go_wp2_with fail
        refine (IsNormal_any 2 _ _ _ ks _ hik).mono ?_; rw [hn2]; rintro e w11 ⟨rfl, hb⟩
        have hd := hb
        replace mm0 := keep hd mm0
        replace mm1 := keep hd mm1
        replace kk0 := keep hd kk0
        replace kk1 := keep hd kk1
        replace mK0 := keep hd mK0
        replace mK1 := keep hd mK1
        replace mQ0 := keep hd mQ0
        replace mQ1 := keep hd mQ1
        replace mA0 := keep hd mA0
        replace mA1 := keep hd mA1
        replace mB0 := keep hd mB0
        replace mB1 := keep hd mB1
        replace mT0 := keep hd mT0
        replace mT1 := keep hd mT1
        replace mS0 := keep hd mS0
        replace mS1 := keep hd mS1
        replace him := him.below hd
        replace hik := hik.below hd
        replace hiK := hiK.below hd
        replace hiQ := hiQ.below hd
        replace hiA := hiA.below hd
        replace hiB := hiB.below hd
        replace hiT := hiT.below hd
        replace hiS := hiS.below hd
        replace hB := chain hB hd
        have hs11 := hd.size
        clear hb hd
        go_wp2
        go_ret
        exact ⟨rfl, hB⟩
      · go_wp2_with fail
        refine (IsNormal_any 2 _ _ _ ks _ hik).mono ?_; rw [hn2]; rintro e w11 ⟨rfl, hb⟩
        have hd := hb
        replace mm0 := keep hd mm0
        replace mm1 := keep hd mm1
        replace kk0 := keep hd kk0
        replace kk1 := keep hd kk1
        replace mK0 := keep hd mK0
        replace mK1 := keep hd mK1
        replace mQ0 := keep hd mQ0
        replace mQ1 := keep hd mQ1
        replace mA0 := keep hd mA0
        replace mA1 := keep hd mA1
        replace mB0 := keep hd mB0
        replace mB1 := keep hd mB1
        replace mT0 := keep hd mT0
        replace mT1 := keep hd mT1
        replace mS0 := keep hd mS0
        replace mS1 := keep hd mS1
        replace him := him.below hd
        replace hik := hik.below hd
        replace hiK := hiK.below hd
        replace hiQ := hiQ.below hd
        replace hiA := hiA.below hd
        replace hiB := hiB.below hd
        replace hiT := hiT.below hd
        replace hiS := hiS.below hd
        replace hB := chain hB hd
        have hs11 := hd.size
        clear hb hd
        have h01 := (norm0 hn1).2
        have h02 := (norm0 hn2).2
        have E1 := hid (pair_first HPO.out h02)
        have E2 := hid (pair_second HPO.out h01)
        have E3 := hid (pair_indep HPO.out h01 h02)
        obtain ⟨hks, hm4, _⟩ := pair_pr HPO.out
        rw [HK.out] at E1 E2 E3 hks hm4
        rw [HA.out] at E1
        rw [HB.out] at E2
        have HNUM : Hid (∀ x y : Nat, x < 4 → y < 4 → _) := fun x y h1 h2 => pair_nums HPO.out h01 h02 h1 h2
        rw [HK.out] at HNUM
        have hnm : nm = 4 := by have q1 := (massOk_facts hm1).2.1; rw [ns2] at q1; rw [← him.len]; exact q1
        have hnk : nk = 4 := by have q1 := (massOk_facts hm2).2.1; rw [ns2] at q1; rw [← hik.len]; exact q1
        have hnK : nK = 16 := by have q1 := (massOk_facts hm4).2.1; rw [ns4] at q1; rw [← hiK.len]; exact q1
        have HW1 : Hid (wholeM 2 xs = isum xs) := by show wholeM 2 xs = _; unfold wholeM; rw [hm1]; rfl
        have HW2 : Hid (wholeM 2 ks = isum ks) := by show wholeM 2 ks = _; unfold wholeM; rw [hm2]; rfl
        have HW3 : Hid (wholeM rK.size rK.parts = isum rK.parts) := by show wholeM _ _ = _; unfold wholeM; rw [hks, hm4]; rfl
        have HM4 : Hid (massOk rK.size rK.parts = true) := by show massOk _ _ = _; rw [hks]; exact hm4
        subst hnm hnk hnK
        have HKS := hid hks
        clear hks h01 h02 HO
        clear mQ0 mQ1 mT0 mT1 mS0 mS1 hiQ hiT hiS
        go_wp2
        go_loopw [17] (fun i wr => ∃ x : Nat, 1 ≤ x ∧ x ≤ 4 ∧ i = .int .i64 x ∧ Below w11.heap.size w11 wr) (fun i _ => 4 - (intOf i).toNat)
        case atStart => exact ⟨1, by omega, by omega, rfl, Below.refl _ _⟩
        case round =>
          obtain ⟨x, hx1, hx4, rfl, hBx⟩ := hrel
          by_cases hlt : x < 4
          · have hxlt : (x : Int) < 4 := by omega
            go_wp2
            go_loopw [18] (fun i wq => ∃ y : Nat, 1 ≤ y ∧ y ≤ 4 ∧ i = .int .i64 y ∧ Below w11.heap.size w11 wq) (fun i _ => 4 - (intOf i).toNat)
            case atStart => exact ⟨1, by omega, by omega, rfl, hBx⟩
            case round =>
              obtain ⟨y, hy1, hy4, rfl, hBy⟩ := hrel
              by_cases hlt2 : y < 4
              · have hylt : (y : Int) < 4 := by omega
                go_wp2
                go_loop [19, 20] (fun st i => ∃ p : Nat, p ≤ 4 ∧ i = .int .i64 p ∧ st = .int .i64 (setP x y p : Nat)) (fun _ i => 4 - (intOf i).toNat)
                case atStart => exact ⟨0, by omega, rfl, rfl⟩
                case round =>
                  obtain ⟨p, hp, rfl, rfl⟩ := hrel
                  by_cases hpt : p < 4
                  · clear hBx hBy hB HX mm0 mm1 kk0 kk1 mK0 mK1 mA0 mA1 mB0 mB1 him hik hiK hiA hiB HK HQ HPO HNUM E1 E2 E3 HW1 HW2 HW3 HM4 HKS HA HB HT HS hm1 hm2 hm4 hn1 hn2 ho ho2 hcap hnc hlx hlk
                    rcases (show p = 0 ∨ p = 1 ∨ p = 2 ∨ p = 3 by omega) with rfl | rfl | rfl | rfl
                    · go_wp2
                      · rename_i ha hb
                        rcases (show x = 1 ∨ x = 2 ∨ x = 3 by omega) with rfl | rfl | rfl <;> rcases (show y = 1 ∨ y = 2 ∨ y = 3 by omega) with rfl | rfl | rfl
                        all_goals
                          first
                          | exact absurd ha (by decide +kernel)
                          | exact absurd hb (by decide +kernel)
                          | exact ⟨⟨1, by omega, rfl, congrArg (Value.int IntKind.i64) (by decide +kernel)⟩, by simp [intOf]⟩
                      · rename_i ha hb
                        rcases (show x = 1 ∨ x = 2 ∨ x = 3 by omega) with rfl | rfl | rfl <;> rcases (show y = 1 ∨ y = 2 ∨ y = 3 by omega) with rfl | rfl | rfl
                        all_goals
                          first
                          | exact absurd ha (by decide +kernel)
                          | exact absurd hb (by decide +kernel)
                          | exact ⟨⟨1, by omega, rfl, congrArg (Value.int IntKind.i64) (by decide +kernel)⟩, by simp [intOf]⟩
                      · rename_i ha
                        rcases (show x = 1 ∨ x = 2 ∨ x = 3 by omega) with rfl | rfl | rfl <;> rcases (show y = 1 ∨ y = 2 ∨ y = 3 by omega) with rfl | rfl | rfl
                        all_goals
                          first
                          | exact absurd ha (by decide +kernel)
                          | exact ⟨⟨1, by omega, rfl, congrArg (Value.int IntKind.i64) (by decide +kernel)⟩, by simp [intOf]⟩
                    · go_wp2
                      · rename_i ha hb
                        rcases (show x = 1 ∨ x = 2 ∨ x = 3 by omega) with rfl | rfl | rfl <;> rcases (show y = 1 ∨ y = 2 ∨ y = 3 by omega) with rfl | rfl | rfl
                        all_goals
                          first
                          | exact absurd ha (by decide +kernel)
                          | exact absurd hb (by decide +kernel)
                          | exact ⟨⟨2, by omega, rfl, congrArg (Value.int IntKind.i64) (by decide +kernel)⟩, by simp [intOf]⟩
                      · rename_i ha hb
                        rcases (show x = 1 ∨ x = 2 ∨ x = 3 by omega) with rfl | rfl | rfl <;> rcases (show y = 1 ∨ y = 2 ∨ y = 3 by omega) with rfl | rfl | rfl
                        all_goals
                          first
                          | exact absurd ha (by decide +kernel)
                          | exact absurd hb (by decide +kernel)
                          | exact ⟨⟨2, by omega, rfl, congrArg (Value.int IntKind.i64) (by decide +kernel)⟩, by simp [intOf]⟩
                      · rename_i ha
                        rcases (show x = 1 ∨ x = 2 ∨ x = 3 by omega) with rfl | rfl | rfl <;> rcases (show y = 1 ∨ y = 2 ∨ y = 3 by omega) with rfl | rfl | rfl
                        all_goals
                          first
                          | exact absurd ha (by decide +kernel)
                          | exact ⟨⟨2, by omega, rfl, congrArg (Value.int IntKind.i64) (by decide +kernel)⟩, by simp [intOf]⟩
                    · go_wp2
                      · rename_i ha hb
                        rcases (show x = 1 ∨ x = 2 ∨ x = 3 by omega) with rfl | rfl | rfl <;> rcases (show y = 1 ∨ y = 2 ∨ y = 3 by omega) with rfl | rfl | rfl
                        all_goals
                          first
                          | exact absurd ha (by decide +kernel)
                          | exact absurd hb (by decide +kernel)
                          | exact ⟨⟨3, by omega, rfl, congrArg (Value.int IntKind.i64) (by decide +kernel)⟩, by simp [intOf]⟩
                      · rename_i ha hb
                        rcases (show x = 1 ∨ x = 2 ∨ x = 3 by omega) with rfl | rfl | rfl <;> rcases (show y = 1 ∨ y = 2 ∨ y = 3 by omega) with rfl | rfl | rfl
                        all_goals
                          first
                          | exact absurd ha (by decide +kernel)
                          | exact absurd hb (by decide +kernel)
                          | exact ⟨⟨3, by omega, rfl, congrArg (Value.int IntKind.i64) (by decide +kernel)⟩, by simp [intOf]⟩
                      · rename_i ha
                        rcases (show x = 1 ∨ x = 2 ∨ x = 3 by omega) with rfl | rfl | rfl <;> rcases (show y = 1 ∨ y = 2 ∨ y = 3 by omega) with rfl | rfl | rfl
                        all_goals
                          first
                          | exact absurd ha (by decide +kernel)
                          | exact ⟨⟨3, by omega, rfl, congrArg (Value.int IntKind.i64) (by decide +kernel)⟩, by simp [intOf]⟩
                    · go_wp2
                      · rename_i ha hb
                        rcases (show x = 1 ∨ x = 2 ∨ x = 3 by omega) with rfl | rfl | rfl <;> rcases (show y = 1 ∨ y = 2 ∨ y = 3 by omega) with rfl | rfl | rfl
                        all_goals
                          first
                          | exact absurd ha (by decide +kernel)
                          | exact absurd hb (by decide +kernel)
                          | exact ⟨⟨4, by omega, rfl, congrArg (Value.int IntKind.i64) (by decide +kernel)⟩, by simp [intOf]⟩
                      · rename_i ha hb
                        rcases (show x = 1 ∨ x = 2 ∨ x = 3 by omega) with rfl | rfl | rfl <;> rcases (show y = 1 ∨ y = 2 ∨ y = 3 by omega) with rfl | rfl | rfl
                        all_goals
                          first
                          | exact absurd ha (by decide +kernel)
                          | exact absurd hb (by decide +kernel)
                          | exact ⟨⟨4, by omega, rfl, congrArg (Value.int IntKind.i64) (by decide +kernel)⟩, by simp [intOf]⟩
                      · rename_i ha
                        rcases (show x = 1 ∨ x = 2 ∨ x = 3 by omega) with rfl | rfl | rfl <;> rcases (show y = 1 ∨ y = 2 ∨ y = 3 by omega) with rfl | rfl | rfl
                        all_goals
                          first
                          | exact absurd ha (by decide +kernel)
                          | exact ⟨⟨4, by omega, rfl, congrArg (Value.int IntKind.i64) (by decide +kernel)⟩, by simp [intOf]⟩
                  · obtain rfl : p = 4 := by omega
                    have hset := setP_F ⟨x, hlt⟩ ⟨y, hlt2⟩
                    simp only at hset
                    rw [hset.1]
                    have hs16 := hset.2
                    obtain ⟨i1, wm, wn, im, jn, wk, N1, N2, N3, N4, N5, N6, q1, q2, q3, q4⟩ := HNUM.out x y hlt hlt2
                    have mm0' := keep hBy mm0
                    have mm1' := keep hBy mm1
                    have kk0' := keep hBy kk0
                    have kk1' := keep hBy kk1
                    have mK0' := keep hBy mK0
                    have mK1' := keep hBy mK1
                    have mA0' := keep hBy mA0
                    have mA1' := keep hBy mA1
                    have mB0' := keep hBy mB0
                    have mB1' := keep hBy mB1
                    have him' := him.below hBy
                    have hik' := hik.below hBy
                    have hiK' := hiK.below hBy
                    have HC1 : Hid (∀ w', IntsAt w' aK 16 rK.parts → Calls Try.prog 33 #[.agg #[.int .i64 rK.size, .slice aK 16 cK], .int .i64 (setXY x y : Nat)] w' fun e' w'' => e' = .returned (.int .i64 i1) ∧ Below w'.heap.size w' w'') := fun w' h1 => by rw [← N1]; exact ImpliedPart_any _ _ _ _ _ rK.parts _ h1 HM4.out (by rw [HKS.out, ns4]; exact hs16)
                    have HC2 : Hid (∀ w', IntsAt w' am 4 xs → Calls Try.prog 33 #[.agg #[.int .i64 2, .slice am 4 cm], .int .i64 x] w' fun e' w'' => e' = .returned (.int .i64 im) ∧ Below w'.heap.size w' w'') := fun w' h1 => by rw [← N4]; exact ImpliedPart_any _ _ _ _ _ xs _ h1 hm1 (by rw [ns2]; exact hlt)
                    have HC3 : Hid (∀ w', IntsAt w' ak 4 ks → Calls Try.prog 33 #[.agg #[.int .i64 2, .slice ak 4 ck], .int .i64 y] w' fun e' w'' => e' = .returned (.int .i64 jn) ∧ Below w'.heap.size w' w'') := fun w' h1 => by rw [← N5]; exact ImpliedPart_any _ _ _ _ _ ks _ h1 hm2 (by rw [ns2]; exact hlt2)
                    have HC4 : Hid (∀ w', IntsAt w' am 4 xs → Calls Try.prog 24 #[.agg #[.int .i64 2, .slice am 4 cm]] w' fun e' w'' => e' = .returned (.int .i64 wm) ∧ Below w'.heap.size w' w'') := fun w' h1 => by rw [← N2, ← HW1.out]; exact WholeOf_any _ _ _ _ xs _ h1
                    have HC5 : Hid (∀ w', IntsAt w' ak 4 ks → Calls Try.prog 24 #[.agg #[.int .i64 2, .slice ak 4 ck]] w' fun e' w'' => e' = .returned (.int .i64 wn) ∧ Below w'.heap.size w' w'') := fun w' h1 => by rw [← N3, ← HW2.out]; exact WholeOf_any _ _ _ _ ks _ h1
                    have HC6 : Hid (∀ w', IntsAt w' aK 16 rK.parts → Calls Try.prog 24 #[.agg #[.int .i64 rK.size, .slice aK 16 cK]] w' fun e' w'' => e' = .returned (.int .i64 wk) ∧ Below w'.heap.size w' w'') := fun w' h1 => by rw [← N6, ← HW3.out]; exact WholeOf_any _ _ _ _ rK.parts _ h1
                    clear N1 N2 N3 N4 N5 N6 hset
                    go_wp2
                    refine wp_region_ov (by kernel_rfl) (by kernel_rfl) ?_
                    repeat (first | go_big_quiet_step ((first | (go_at_call 33; (with_reducible exact ov_call (HC1.out _ (hiK'.below (ov_below _ _))))) | (go_at_call 33; (with_reducible exact ov_call (HC2.out _ (him'.below (ov_below _ _))))) | (go_at_call 33; (with_reducible exact ov_call (HC3.out _ (hik'.below (ov_below _ _))))) | (go_at_call 24; (with_reducible exact ov_call (HC4.out _ (him'.below (ov_below _ _))))) | (go_at_call 24; (with_reducible exact ov_call (HC5.out _ (hik'.below (ov_below _ _))))) | (go_at_call 24; (with_reducible exact ov_call (HC6.out _ (hiK'.below (ov_below _ _))))))) | quiet_step ((first | (go_at_call 33; (with_reducible exact ov_call (HC1.out _ (hiK'.below (ov_below _ _))))) | (go_at_call 33; (with_reducible exact ov_call (HC2.out _ (him'.below (ov_below _ _))))) | (go_at_call 33; (with_reducible exact ov_call (HC3.out _ (hik'.below (ov_below _ _))))) | (go_at_call 24; (with_reducible exact ov_call (HC4.out _ (him'.below (ov_below _ _))))) | (go_at_call 24; (with_reducible exact ov_call (HC5.out _ (hik'.below (ov_below _ _))))) | (go_at_call 24; (with_reducible exact ov_call (HC6.out _ (hiK'.below (ov_below _ _))))))))
                    refine wpQuiet_nil ?_
                    intro _ hw_ov
                    obtain ⟨x_ov, hw_ov2⟩ := hw_ov
                    subst hw_ov2
                    obtain ⟨w3, hw_ov3, hb3⟩ := ov_gen _ x_ov
                    rw [hw_ov3]
                    clear hw_ov3 x_ov
                    have hB3 := chain hBy hb3
                    go_wp2
                    go_roundw
                    case rel => first | exact ⟨y + 1, by omega, by omega, by go_num, hB3⟩ | exact ⟨_, ⟨y + 1, by omega, by omega, by go_num, hB3⟩, rfl⟩ | exact ⟨_, _, ⟨y + 1, by omega, by omega, by go_num, hB3⟩, rfl, rfl⟩ | exact ⟨_, _, _, ⟨y + 1, by omega, by omega, by go_num, hB3⟩, rfl, rfl, rfl⟩ | exact ⟨_, _, _, _, ⟨y + 1, by omega, by omega, by go_num, hB3⟩, rfl, rfl, rfl, rfl⟩ | exact ⟨_, _, _, _, _, ⟨y + 1, by omega, by omega, by go_num, hB3⟩, rfl, rfl, rfl, rfl, rfl⟩
                    case measure => simp [intOf]; omega
              · obtain rfl : y = 4 := by omega
                go_wp2
                go_roundw
                case rel => first | exact ⟨x + 1, by omega, by omega, by go_num, hBy⟩ | exact ⟨_, ⟨x + 1, by omega, by omega, by go_num, hBy⟩, rfl⟩ | exact ⟨_, _, ⟨x + 1, by omega, by omega, by go_num, hBy⟩, rfl, rfl⟩ | exact ⟨_, _, _, ⟨x + 1, by omega, by omega, by go_num, hBy⟩, rfl, rfl, rfl⟩ | exact ⟨_, _, _, _, ⟨x + 1, by omega, by omega, by go_num, hBy⟩, rfl, rfl, rfl, rfl⟩ | exact ⟨_, _, _, _, _, ⟨x + 1, by omega, by omega, by go_num, hBy⟩, rfl, rfl, rfl, rfl, rfl⟩
                case measure => simp [intOf]; omega
          · obtain rfl : x = 4 := by omega
            have mm0' := keep hBx mm0
            have mm1' := keep hBx mm1
            have kk0' := keep hBx kk0
            have kk1' := keep hBx kk1
            have mK0' := keep hBx mK0
            have mK1' := keep hBx mK1
            have mA0' := keep hBx mA0
            have mA1' := keep hBx mA1
            have mB0' := keep hBx mB0
            have mB1' := keep hBx mB1
            have him' := him.below hBx
            have hik' := hik.below hBx
            have hiK' := hiK.below hBx
            have hiA' := hiA.below hBx
            have hiB' := hiB.below hBx
            have HC1 : Hid (∀ w', IntsAt w' aA nA rA.parts → IntsAt w' am 4 xs → Calls Try.prog 11 #[.agg #[.int .i64 rA.size, .slice aA nA cA], .agg #[.int .i64 2, .slice am 4 cm]] w' fun e' w'' => e' = .returned (.bool true) ∧ Below w'.heap.size w' w'') := fun w' h1 h2 => weEqual_eq _ _ _ _ _ _ _ _ _ _ _ h1 h2 (by rw [E1.out]) (by rw [E1.out])
            have HC2 : Hid (∀ w', IntsAt w' aB nB rB.parts → IntsAt w' ak 4 ks → Calls Try.prog 11 #[.agg #[.int .i64 rB.size, .slice aB nB cB], .agg #[.int .i64 2, .slice ak 4 ck]] w' fun e' w'' => e' = .returned (.bool true) ∧ Below w'.heap.size w' w'') := fun w' h1 h2 => weEqual_eq _ _ _ _ _ _ _ _ _ _ _ h1 h2 (by rw [E2.out]) (by rw [E2.out])
            have HC3 : Hid (∀ w', IntsAt w' aK 16 rK.parts → Calls Try.prog 34 #[.agg #[.int .i64 rK.size, .slice aK 16 cK]] w' fun e' w'' => e' = .returned (.bool true) ∧ Below w'.heap.size w' w'') := fun w' h1 => by rw [← E3.out]; exact IsIndependent_any _ _ _ _ rK.parts _ h1
            have HC4 : Hid (∀ w', IntsAt w' aK 16 rK.parts → Calls Try.prog 35 #[.agg #[.int .i64 rK.size, .slice aK 16 cK]] w' fun e' w'' => e' = .returned (.bool true) ∧ Below w'.heap.size w' w'') := fun w' h1 => by rw [← E3.out]; exact specIsIndependent_any _ _ _ _ rK.parts _ h1
            go_wp2
            refine wp_region_ov (by kernel_rfl) (by kernel_rfl) ?_
            repeat (first | go_big_quiet_step ((first | (go_at_call 11; first | (with_reducible exact ov_call (HC1.out _ (hiA'.below (ov_below _ _)) (him'.below (ov_below _ _)))) | (with_reducible exact ov_call (HC2.out _ (hiB'.below (ov_below _ _)) (hik'.below (ov_below _ _))))) | (go_at_call 34; (with_reducible exact ov_call (HC3.out _ (hiK'.below (ov_below _ _))))) | (go_at_call 35; (with_reducible exact ov_call (HC4.out _ (hiK'.below (ov_below _ _))))))) | quiet_step ((first | (go_at_call 11; first | (with_reducible exact ov_call (HC1.out _ (hiA'.below (ov_below _ _)) (him'.below (ov_below _ _)))) | (with_reducible exact ov_call (HC2.out _ (hiB'.below (ov_below _ _)) (hik'.below (ov_below _ _))))) | (go_at_call 34; (with_reducible exact ov_call (HC3.out _ (hiK'.below (ov_below _ _))))) | (go_at_call 35; (with_reducible exact ov_call (HC4.out _ (hiK'.below (ov_below _ _))))))))
            refine wpQuiet_nil ?_
            intro _ hw_ov
            obtain ⟨x_ov, hw_ov2⟩ := hw_ov
            subst hw_ov2
            obtain ⟨w3, hw_ov3, hb3⟩ := ov_gen _ x_ov
            rw [hw_ov3]
            clear hw_ov3 x_ov
            have hB3 := hB.trans ((chain hBx hb3).mono (by have := hB.size; omega))
            go_wp2
            go_ret
            exact ⟨rfl, hB3⟩
end Go.Proofs.Ytphcjojdlmnnoaa
