/- The law FnSharedChance: its walk (printed by fngen.py). -/
import Derived.Test.YtaplpgmkobokhaaD8
import Derived.Test.YtaplpgmkobokhaaE1
import Derived.Test.YtaplpgmkobokhaaE6
import Derived.Test.YtaplpgmkobokhaaW21
set_option linter.unusedSimpArgs false
set_option linter.unusedVariables false
namespace Go.Proofs.Ytaplpgmkobokhaa
open Go.RowKit
set_option maxRecDepth 100000 in
set_option maxHeartbeats 4000000 in
theorem FnSharedChance_walk (ao : Option Addr) (n c : Nat) (w : World) (hx : n ≤ 1048576 → BytesIn w w.heap.size ao n) (hnc : n ≤ c) (hcap : n ≤ 9223372036854775807) :
    Calls Try.prog 3 #[.slice ao n c] w fun e w' => e = .returned (.bool true) ∧ Below w.heap.size w w' := by
  by_cases hn : 1048576 < n
  · go_enter Try.func3, Try.ntmps3
    go_wp2
    go_ret
    exact ⟨rfl, Below.refl _ _⟩
  have HX := hid (hx (by omega))
  clear hx
  go_enter Try.func3, Try.ntmps3
  have hB := Below.refl w.heap.size w
  go_wp2_with fail
  refine (DrawSharedChance_any ao n c _ HX.out hnc).mono ?_; rintro e w1 ⟨⟨s, p, xs, rfl, hr, hlx⟩, hb⟩
  have hd := hb
  replace hB := chain hB hd
  have hs1 := hd.size
  clear hb hd
  obtain ⟨am, nm, cm, rfl, him⟩ := hr.ints
  clear hr
  obtain ⟨rK, HK⟩ : ∃ r, Hid (shareM s xs = r) := ⟨_, rfl⟩
  go_wp2_with fail
  refine (SharedChance_any _ _ _ _ xs _ (him.below (by (repeat (first | exact Below.refl _ _ | assumption | refine Below.alloc ?_ (by first | omega | (simp <;> omega)) _ | refine Below.setCell ?_ (by first | omega | (simp <;> omega)) _ | refine Below.drew ?_ | refine below_drewN ?_))))).mono ?_; rw [HK.out]; rintro e w2 ⟨⟨vK, rfl, hrK⟩, hb⟩
  obtain ⟨aK, nK, cK, rfl, hiK⟩ := hrK.ints
  clear hrK
  have mm0 := keep hb (a := ⟨w1.heap.size, 0, none⟩) (v := .int .i64 s) (by simp)
  have mm1 := keep hb (a := ⟨w1.heap.size, 1, none⟩) (v := .slice am nm cm) (by simp)
  have hN1 : w1.heap.size < w2.heap.size := by have := World.block_lt_of_cell? w2 _ mm0; simpa using this
  have hd : Below w1.heap.size w1 w2 := Below.trans (by (repeat (first | exact Below.refl _ _ | assumption | refine Below.alloc ?_ (by first | omega | (simp <;> omega)) _ | refine Below.setCell ?_ (by first | omega | (simp <;> omega)) _ | refine Below.drew ?_ | refine below_drewN ?_))) (hb.mono (by simp <;> omega))
  replace him := him.below hd
  replace hB := chain hB hd
  have hs2 := hd.size
  clear hb hd
  obtain ⟨rQ, HQ⟩ : ∃ r, Hid (shareM s xs = r) := ⟨_, rfl⟩
  go_wp2_with fail
  refine (specSharedChance_any _ _ _ _ xs _ (him.below (by (repeat (first | exact Below.refl _ _ | assumption | refine Below.alloc ?_ (by first | omega | (simp <;> omega)) _ | refine Below.setCell ?_ (by first | omega | (simp <;> omega)) _ | refine Below.drew ?_ | refine below_drewN ?_))))).mono ?_; rw [HQ.out]; rintro e w3 ⟨⟨vQ, rfl, hrQ⟩, hb⟩
  obtain ⟨aQ, nQ, cQ, rfl, hiQ⟩ := hrQ.ints
  clear hrQ
  have mK0 := keep hb (a := ⟨w2.heap.size, 0, none⟩) (v := .int .i64 rK.size) (by simp)
  have mK1 := keep hb (a := ⟨w2.heap.size, 1, none⟩) (v := .slice aK nK cK) (by simp)
  have hN2 : w2.heap.size < w3.heap.size := by have := World.block_lt_of_cell? w3 _ mK0; simpa using this
  have hd : Below w2.heap.size w2 w3 := Below.trans (by (repeat (first | exact Below.refl _ _ | assumption | refine Below.alloc ?_ (by first | omega | (simp <;> omega)) _ | refine Below.setCell ?_ (by first | omega | (simp <;> omega)) _ | refine Below.drew ?_ | refine below_drewN ?_))) (hb.mono (by simp <;> omega))
  replace mm0 := keep hd mm0
  replace mm1 := keep hd mm1
  replace him := him.below hd
  replace hiK := hiK.below hd
  replace hB := chain hB hd
  have hs3 := hd.size
  clear hb hd
  have HE : Hid (rQ = rK) := HQ.out.symm.trans HK.out
  cases ho : rK.ok
  · have ho2 : rQ.ok = false := by rw [HE.out]; exact ho
    go_wp2_with fail
    refine (weEqual_eq _ _ _ _ _ _ _ _ _ _ _ (hiK.below (by (repeat (first | exact Below.refl _ _ | assumption | refine Below.alloc ?_ (by first | omega | (simp <;> omega)) _ | refine Below.setCell ?_ (by first | omega | (simp <;> omega)) _ | refine Below.drew ?_ | refine below_drewN ?_)))) (hiQ.below (by (repeat (first | exact Below.refl _ _ | assumption | refine Below.alloc ?_ (by first | omega | (simp <;> omega)) _ | refine Below.setCell ?_ (by first | omega | (simp <;> omega)) _ | refine Below.drew ?_ | refine below_drewN ?_)))) (by rw [HE.out]) (by rw [HE.out])).mono ?_; rintro e w4 ⟨rfl, hb⟩
    have mQ0 := keep hb (a := ⟨w3.heap.size, 0, none⟩) (v := .int .i64 rQ.size) (by simp)
    have mQ1 := keep hb (a := ⟨w3.heap.size, 1, none⟩) (v := .slice aQ nQ cQ) (by simp)
    have hN3 : w3.heap.size < w4.heap.size := by have := World.block_lt_of_cell? w4 _ mQ0; simpa using this
    have hd : Below w3.heap.size w3 w4 := Below.trans (by (repeat (first | exact Below.refl _ _ | assumption | refine Below.alloc ?_ (by first | omega | (simp <;> omega)) _ | refine Below.setCell ?_ (by first | omega | (simp <;> omega)) _ | refine Below.drew ?_ | refine below_drewN ?_))) (hb.mono (by simp <;> omega))
    replace mm0 := keep hd mm0
    replace mm1 := keep hd mm1
    replace mK0 := keep hd mK0
    replace mK1 := keep hd mK1
    replace him := him.below hd
    replace hiK := hiK.below hd
    replace hiQ := hiQ.below hd
    replace hB := chain hB hd
    have hs4 := hd.size
    clear hb hd
    go_wp2_with fail
    refine (weEqual_eq _ _ _ _ _ _ _ _ _ _ _ hiK hiQ (by rw [HE.out]) (by rw [HE.out])).mono ?_; rintro e w5 ⟨rfl, hb⟩
    have hd := hb
    replace mm0 := keep hd mm0
    replace mm1 := keep hd mm1
    replace mK0 := keep hd mK0
    replace mK1 := keep hd mK1
    replace mQ0 := keep hd mQ0
    replace mQ1 := keep hd mQ1
    replace him := him.below hd
    replace hiK := hiK.below hd
    replace hiQ := hiQ.below hd
    replace hB := chain hB hd
    have hs5 := hd.size
    clear hb hd
    go_wp2
    go_ret
    exact ⟨rfl, hB⟩
  · have ho2 : rQ.ok = true := by rw [HE.out]; exact ho
    go_wp2_with fail
    refine (weEqual_eq _ _ _ _ _ _ _ _ _ _ _ (hiK.below (by (repeat (first | exact Below.refl _ _ | assumption | refine Below.alloc ?_ (by first | omega | (simp <;> omega)) _ | refine Below.setCell ?_ (by first | omega | (simp <;> omega)) _ | refine Below.drew ?_ | refine below_drewN ?_)))) (hiQ.below (by (repeat (first | exact Below.refl _ _ | assumption | refine Below.alloc ?_ (by first | omega | (simp <;> omega)) _ | refine Below.setCell ?_ (by first | omega | (simp <;> omega)) _ | refine Below.drew ?_ | refine below_drewN ?_)))) (by rw [HE.out]) (by rw [HE.out])).mono ?_; rintro e w4 ⟨rfl, hb⟩
    have mQ0 := keep hb (a := ⟨w3.heap.size, 0, none⟩) (v := .int .i64 rQ.size) (by simp)
    have mQ1 := keep hb (a := ⟨w3.heap.size, 1, none⟩) (v := .slice aQ nQ cQ) (by simp)
    have hN4 : w3.heap.size < w4.heap.size := by have := World.block_lt_of_cell? w4 _ mQ0; simpa using this
    have hd : Below w3.heap.size w3 w4 := Below.trans (by (repeat (first | exact Below.refl _ _ | assumption | refine Below.alloc ?_ (by first | omega | (simp <;> omega)) _ | refine Below.setCell ?_ (by first | omega | (simp <;> omega)) _ | refine Below.drew ?_ | refine below_drewN ?_))) (hb.mono (by simp <;> omega))
    replace mm0 := keep hd mm0
    replace mm1 := keep hd mm1
    replace mK0 := keep hd mK0
    replace mK1 := keep hd mK1
    replace him := him.below hd
    replace hiK := hiK.below hd
    replace hiQ := hiQ.below hd
    replace hB := chain hB hd
    have hs4 := hd.size
    clear hb hd
    have hpo : (shareM s xs).ok = true := by rw [HK.out]; exact ho
    have hm := (share_ok hpo).1
    obtain ⟨_, _, hks, hkl, hkm, _, hn1, _⟩ := share_facts hpo
    have HBL : Hid (∀ a, a < xs.length → _) := fun a ha => share_belief hpo ha
    have HCH := hid (share_chance hpo)
    have HAG := hid (share_again hpo)
    rw [HK.out] at hks hkl hkm HBL HCH HAG
    have HKM : Hid (massOk rK.size rK.parts = true) := by show massOk _ _ = _; rw [hks]; exact hkm
    have HAG2 : Hid (shareM rK.size rK.parts = rK) := by show shareM _ _ = _; rw [hks]; exact HAG.out
    have HM := hid hm
    have HN1 := hid hn1
    have HKL := hid hkl
    have hxl := him.len
    clear hpo hm hn1 hkm hks hkl HAG HE
    clear mQ0 mQ1 hiQ
    go_wp2
    go_loopw [8] (fun i w5 => ∃ a : Nat, a ≤ nm ∧ i = .int .i64 a ∧ Below w4.heap.size w4 w5) (fun i _ => nm - (intOf i).toNat)
    case atStart => exact ⟨0, by omega, rfl, Below.refl _ _⟩
    case round =>
      obtain ⟨a, ha, rfl, hBr⟩ := hrel
      obtain ⟨w5, rfl⟩ : ∃ q : World, q = wr := ⟨_, rfl⟩
      replace mm0 := keep hBr mm0
      replace mm1 := keep hBr mm1
      replace mK0 := keep hBr mK0
      replace mK1 := keep hBr mK1
      replace him := him.below hBr
      replace hiK := hiK.below hBr
      have hB0 := hB
      have hsw := hB.size
      clear hB
      have hB := hBr
      have hsr := hBr.size
      by_cases hlt : a < nm
      · have hax : a < xs.length := by omega
        have ha0 : (0 : Int) ≤ (a : Int) := by omega
        have ha1 : (a : Int) < (nm : Int) := by omega
        obtain ⟨e1, e2⟩ := HBL.out a hax
        obtain ⟨f1, hf1⟩ : ∃ r, Hid (redF (evenTo xs a xs.length) (12 * (isum xs - nth xs 0)) = r) := ⟨_, rfl⟩
        rw [hf1.out] at e1 e2
        have E1 : Hid (redF (dot (predI (subB a)) rK.parts rK.parts.length - nth rK.parts 0) (isum rK.parts) = f1) := by show _ = f1; rw [HKL.out]; exact e1
        clear e1
        go_wp2_with fail
        refine (ChanceOf_any s a _ _ _ xs _ him HM.out hax HN1.out).mono ?_; rw [hf1.out]; rintro e w6 ⟨rfl, hb⟩
        have hd := hb
        replace mm0 := keep hd mm0
        replace mm1 := keep hd mm1
        replace mK0 := keep hd mK0
        replace mK1 := keep hd mK1
        replace him := him.below hd
        replace hiK := hiK.below hd
        replace hB := chain hB hd
        have hs6 := hd.size
        clear hb hd
        go_wp2_with fail
        refine (BeliefOf_any _ a _ _ _ rK.parts _ (hiK.below (by (repeat (first | exact Below.refl _ _ | assumption | refine Below.alloc ?_ (by first | omega | (simp <;> omega)) _ | refine Below.setCell ?_ (by first | omega | (simp <;> omega)) _ | refine Below.drew ?_ | refine below_drewN ?_)))) HKM.out (by rw [HKL.out]; exact hax)).mono ?_; rw [E1.out]; rintro e w7 ⟨rfl, hb⟩
        have ff0 := keep hb (a := ⟨w6.heap.size, 0, none⟩) (v := .int .i64 f1.num) (by simp)
        have ff1 := keep hb (a := ⟨w6.heap.size, 1, none⟩) (v := .int .i64 f1.den) (by simp)
        have hN5 : w6.heap.size < w7.heap.size := by have := World.block_lt_of_cell? w7 _ ff0; simpa using this
        have hd : Below w6.heap.size w6 w7 := Below.trans (by (repeat (first | exact Below.refl _ _ | assumption | refine Below.alloc ?_ (by first | omega | (simp <;> omega)) _ | refine Below.setCell ?_ (by first | omega | (simp <;> omega)) _ | refine Below.drew ?_ | refine below_drewN ?_))) (hb.mono (by simp <;> omega))
        replace mm0 := keep hd mm0
        replace mm1 := keep hd mm1
        replace mK0 := keep hd mK0
        replace mK1 := keep hd mK1
        replace him := him.below hd
        replace hiK := hiK.below hd
        replace hB := chain hB hd
        have hs7 := hd.size
        clear hb hd
        go_wp2
        go_roundw
        case rel => first | exact ⟨a + 1, by omega, by go_num, by (repeat (first | exact Below.refl _ _ | assumption | refine Below.alloc ?_ (by first | omega | (simp <;> omega)) _ | refine Below.setCell ?_ (by first | omega | (simp <;> omega)) _ | refine Below.drew ?_ | refine below_drewN ?_))⟩ | exact ⟨_, ⟨a + 1, by omega, by go_num, by (repeat (first | exact Below.refl _ _ | assumption | refine Below.alloc ?_ (by first | omega | (simp <;> omega)) _ | refine Below.setCell ?_ (by first | omega | (simp <;> omega)) _ | refine Below.drew ?_ | refine below_drewN ?_))⟩, rfl⟩ | exact ⟨_, _, ⟨a + 1, by omega, by go_num, by (repeat (first | exact Below.refl _ _ | assumption | refine Below.alloc ?_ (by first | omega | (simp <;> omega)) _ | refine Below.setCell ?_ (by first | omega | (simp <;> omega)) _ | refine Below.drew ?_ | refine below_drewN ?_))⟩, rfl, rfl⟩ | exact ⟨_, _, _, ⟨a + 1, by omega, by go_num, by (repeat (first | exact Below.refl _ _ | assumption | refine Below.alloc ?_ (by first | omega | (simp <;> omega)) _ | refine Below.setCell ?_ (by first | omega | (simp <;> omega)) _ | refine Below.drew ?_ | refine below_drewN ?_))⟩, rfl, rfl, rfl⟩ | exact ⟨_, _, _, _, ⟨a + 1, by omega, by go_num, by (repeat (first | exact Below.refl _ _ | assumption | refine Below.alloc ?_ (by first | omega | (simp <;> omega)) _ | refine Below.setCell ?_ (by first | omega | (simp <;> omega)) _ | refine Below.drew ?_ | refine below_drewN ?_))⟩, rfl, rfl, rfl, rfl⟩ | exact ⟨_, _, _, _, _, ⟨a + 1, by omega, by go_num, by (repeat (first | exact Below.refl _ _ | assumption | refine Below.alloc ?_ (by first | omega | (simp <;> omega)) _ | refine Below.setCell ?_ (by first | omega | (simp <;> omega)) _ | refine Below.drew ?_ | refine below_drewN ?_))⟩, rfl, rfl, rfl, rfl, rfl⟩
        case measure => simp [intOf]; omega
      · obtain rfl : a = nm := by omega
        obtain ⟨rG, HG⟩ : ∃ r, Hid (shareM rK.size rK.parts = r) := ⟨_, rfl⟩
        go_wp2_with fail
        refine (SharedChance_any _ _ _ _ rK.parts _ hiK).mono ?_; rw [HG.out]; rintro e w6 ⟨⟨vG, rfl, hrG⟩, hb⟩
        obtain ⟨aG, nG, cG, rfl, hiG⟩ := hrG.ints
        clear hrG
        have hd := hb
        replace mm0 := keep hd mm0
        replace mm1 := keep hd mm1
        replace mK0 := keep hd mK0
        replace mK1 := keep hd mK1
        replace him := him.below hd
        replace hiK := hiK.below hd
        replace hB := chain hB hd
        have hs6 := hd.size
        clear hb hd
        have E5 : Hid (rG = rK) := by rw [← HG.out]; exact HAG2.out
        go_wp2_with fail
        refine (IsChance_any _ _ _ _ rK.parts _ (hiK.below (by (repeat (first | exact Below.refl _ _ | assumption | refine Below.alloc ?_ (by first | omega | (simp <;> omega)) _ | refine Below.setCell ?_ (by first | omega | (simp <;> omega)) _ | refine Below.drew ?_ | refine below_drewN ?_))))).mono ?_; rw [HCH.out]; rintro e w7 ⟨rfl, hb⟩
        have mG0 := keep hb (a := ⟨w6.heap.size, 0, none⟩) (v := .int .i64 rG.size) (by simp)
        have mG1 := keep hb (a := ⟨w6.heap.size, 1, none⟩) (v := .slice aG nG cG) (by simp)
        have hN6 : w6.heap.size < w7.heap.size := by have := World.block_lt_of_cell? w7 _ mG0; simpa using this
        have hd : Below w6.heap.size w6 w7 := Below.trans (by (repeat (first | exact Below.refl _ _ | assumption | refine Below.alloc ?_ (by first | omega | (simp <;> omega)) _ | refine Below.setCell ?_ (by first | omega | (simp <;> omega)) _ | refine Below.drew ?_ | refine below_drewN ?_))) (hb.mono (by simp <;> omega))
        replace mm0 := keep hd mm0
        replace mm1 := keep hd mm1
        replace mK0 := keep hd mK0
        replace mK1 := keep hd mK1
        replace him := him.below hd
        replace hiK := hiK.below hd
        replace hiG := hiG.below hd
        replace hB := chain hB hd
        have hs7 := hd.size
        clear hb hd
        go_wp2_with fail
        refine (weEqual_eq _ _ _ _ _ _ _ _ _ _ _ hiG hiK (by rw [E5.out]) (by rw [E5.out])).mono ?_; rintro e w8 ⟨rfl, hb⟩
        have hd := hb
        replace mm0 := keep hd mm0
        replace mm1 := keep hd mm1
        replace mK0 := keep hd mK0
        replace mK1 := keep hd mK1
        replace mG0 := keep hd mG0
        replace mG1 := keep hd mG1
        replace him := him.below hd
        replace hiK := hiK.below hd
        replace hiG := hiG.below hd
        replace hB := chain hB hd
        have hs8 := hd.size
        clear hb hd
        go_wp2
        go_ret
        exact ⟨rfl, hB0.trans (hB.mono hsw)⟩
end Go.Proofs.Ytaplpgmkobokhaa
