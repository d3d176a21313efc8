/- The law FnWorstChance: its walk (printed by fngen.py). -/
import Derived.Test.YtchjnjmlambpjaaD13
import Derived.Test.YtchjnjmlambpjaaN10
import Derived.Test.YtchjnjmlambpjaaE7
import Derived.Test.YtchjnjmlambpjaaW29
import Derived.Test.YtchjnjmlambpjaaW14
import Derived.Test.YtchjnjmlambpjaaW22
import Derived.Test.YtchjnjmlambpjaaE1
set_option linter.unusedSimpArgs false
set_option linter.unusedVariables false
namespace Go.Proofs.Ytchjnjmlambpjaa
open Go.RowKit
theorem worst_law {s : Int} {xs gs : List Int} (hok : (worstM s xs gs).ok = true) : normalOk s xs = true ∧ (worstM s xs gs).size = s ∧ chanceOk s (worstM s xs gs).parts = true ∧
    (∀ a, a < xs.length → impP a xs * isum (worstM s xs gs).parts ≤ impP a (worstM s xs gs).parts * isum xs) ∧ meanC s (worstM s xs gs).parts gs = meanM s xs gs ∧ (meanM s xs gs).ok = true := by
  have h : (normalOk s xs && gainsOk s gs) = true := by
    cases h : normalOk s xs && gainsOk s gs
    · unfold worstM at hok; rw [h] at hok; cases hok
    · rfl
  have hw : worstM s xs gs = chanceM s xs (sortTo gs gs.length) := by unfold worstM; rw [h]; rfl
  rw [hw]
  rw [Bool.and_eq_true] at h
  obtain ⟨hn, hg⟩ := h
  obtain ⟨_, _, _, _, hmo, hsz⟩ := norm_size hn
  have hgl := (gainsOk_facts hg).1
  have ho : OrdOk s.toNat (sortTo gs gs.length) := by
    have e : s.toNat = gs.length := by omega
    rw [e]; exact sortTo_ok gs _
  obtain ⟨_, _, _, h2, _⟩ := corner_facts hn ho
  obtain ⟨m1, _, _, m4, _⟩ := means_corner hn ho hg
  have hm := m4 (sortTo_asc gs gs.length)
  exact ⟨hn, h2, (corner_chance hn ho).1, fun a ha => (corner_imp hn ho ha).1, hm, by rw [← hm]; exact m1⟩
set_option maxRecDepth 100000 in
set_option maxHeartbeats 8000000 in
theorem FnWorstChance_walk (ao : Option Addr) (n c : Nat) (w : World) (hx : n ≤ 1048576 → BytesIn w w.heap.size ao n) (hnc : n ≤ c) (hcap : n ≤ 9223372036854775807) :
    Calls Try.prog 7 #[.slice ao n c] w fun e w' => e = .returned (.bool true) ∧ Below w.heap.size w w' := by
  by_cases hn : 1048576 < n
  · go_enter Try.func7, Try.ntmps7
    go_wp2
    go_ret
    exact ⟨rfl, Below.refl _ _⟩
  have HX := hid (hx (by omega))
  clear hx
  go_enter Try.func7, Try.ntmps7
  have hB := Below.refl w.heap.size w
  go_wp2_with fail
  refine (DrawWorstChance_any ao n c _ HX.out hnc).mono ?_; rintro e w1 ⟨⟨s, p, xs, q, gs, rfl, hr, hlx, hr2, hlg⟩, hb⟩
  have hd := hb
  replace hB := chain hB hd
  have hs1 := hd.size
  clear hb hd
  obtain ⟨am, nm, cm, rfl, him⟩ := hr.ints
  clear hr
  obtain ⟨ag, ng, cg, rfl, hig⟩ := hr2.ints
  clear hr2
  have hgl := hig.len
  obtain ⟨rP, HP⟩ : ∃ r, Hid (worstM s xs gs = r) := ⟨_, rfl⟩
  go_wp2_with fail
  refine (WorstChance_any s _ _ _ _ _ _ xs gs _ (him.below (by (repeat (first | exact Below.refl _ _ | assumption | refine Below.alloc ?_ (by first | omega | (simp <;> omega)) _ | refine Below.setCell ?_ (by first | omega | (simp <;> omega)) _ | refine Below.drew ?_ | refine below_drewN ?_)))) (hig.below (by (repeat (first | exact Below.refl _ _ | assumption | refine Below.alloc ?_ (by first | omega | (simp <;> omega)) _ | refine Below.setCell ?_ (by first | omega | (simp <;> omega)) _ | refine Below.drew ?_ | refine below_drewN ?_))))).mono ?_; rw [HP.out]; rintro e w2 ⟨⟨vP, rfl, hrP⟩, hb⟩
  obtain ⟨aP, nP, cP, rfl, hiP⟩ := hrP.ints
  clear hrP
  have mm0 := keep hb (a := ⟨w1.heap.size, 0, none⟩) (v := .int .i64 s) (by simp)
  have mm1 := keep hb (a := ⟨w1.heap.size, 1, none⟩) (v := .slice am nm cm) (by simp)
  have hN1 : w1.heap.size < w2.heap.size := by have := World.block_lt_of_cell? w2 _ mm0; simpa using this
  have hd : Below w1.heap.size w1 w2 := Below.trans (by (repeat (first | exact Below.refl _ _ | assumption | refine Below.alloc ?_ (by first | omega | (simp <;> omega)) _ | refine Below.setCell ?_ (by first | omega | (simp <;> omega)) _ | refine Below.drew ?_ | refine below_drewN ?_))) (hb.mono (by simp <;> omega))
  replace him := him.below hd
  replace hig := hig.below hd
  replace hB := chain hB hd
  have hs2 := hd.size
  clear hb hd
  obtain ⟨rQ, HQ⟩ : ∃ r, Hid (worstM s xs gs = r) := ⟨_, rfl⟩
  go_wp2_with fail
  refine (specWorstChance_any s _ _ _ _ _ _ xs gs _ (him.below (by (repeat (first | exact Below.refl _ _ | assumption | refine Below.alloc ?_ (by first | omega | (simp <;> omega)) _ | refine Below.setCell ?_ (by first | omega | (simp <;> omega)) _ | refine Below.drew ?_ | refine below_drewN ?_)))) (hig.below (by (repeat (first | exact Below.refl _ _ | assumption | refine Below.alloc ?_ (by first | omega | (simp <;> omega)) _ | refine Below.setCell ?_ (by first | omega | (simp <;> omega)) _ | refine Below.drew ?_ | refine below_drewN ?_))))).mono ?_; rw [HQ.out]; rintro e w3 ⟨⟨vQ, rfl, hrQ⟩, hb⟩
  obtain ⟨aQ, nQ, cQ, rfl, hiQ⟩ := hrQ.ints
  clear hrQ
  have mP0 := keep hb (a := ⟨w2.heap.size, 0, none⟩) (v := .int .i64 rP.size) (by simp)
  have mP1 := keep hb (a := ⟨w2.heap.size, 1, none⟩) (v := .slice aP nP cP) (by simp)
  have hN2 : w2.heap.size < w3.heap.size := by have := World.block_lt_of_cell? w3 _ mP0; simpa using this
  have hd : Below w2.heap.size w2 w3 := Below.trans (by (repeat (first | exact Below.refl _ _ | assumption | refine Below.alloc ?_ (by first | omega | (simp <;> omega)) _ | refine Below.setCell ?_ (by first | omega | (simp <;> omega)) _ | refine Below.drew ?_ | refine below_drewN ?_))) (hb.mono (by simp <;> omega))
  replace mm0 := keep hd mm0
  replace mm1 := keep hd mm1
  replace him := him.below hd
  replace hig := hig.below hd
  replace hiP := hiP.below hd
  replace hB := chain hB hd
  have hs3 := hd.size
  clear hb hd
  have HE : Hid (rQ = rP) := HQ.out.symm.trans HP.out
  cases ho : rP.ok
  · have ho2 : rQ.ok = false := by rw [HE.out]; exact ho
    go_wp2_with fail
    refine (weEqual_eq _ _ _ _ _ _ _ _ _ _ _ (hiP.below (by (repeat (first | exact Below.refl _ _ | assumption | refine Below.alloc ?_ (by first | omega | (simp <;> omega)) _ | refine Below.setCell ?_ (by first | omega | (simp <;> omega)) _ | refine Below.drew ?_ | refine below_drewN ?_)))) (hiQ.below (by (repeat (first | exact Below.refl _ _ | assumption | refine Below.alloc ?_ (by first | omega | (simp <;> omega)) _ | refine Below.setCell ?_ (by first | omega | (simp <;> omega)) _ | refine Below.drew ?_ | refine below_drewN ?_)))) (by rw [HE.out]) (by rw [HE.out])).mono ?_; rintro e w4 ⟨rfl, hb⟩
    have mQ0 := keep hb (a := ⟨w3.heap.size, 0, none⟩) (v := .int .i64 rQ.size) (by simp)
    have mQ1 := keep hb (a := ⟨w3.heap.size, 1, none⟩) (v := .slice aQ nQ cQ) (by simp)
    have hN3 : w3.heap.size < w4.heap.size := by have := World.block_lt_of_cell? w4 _ mQ0; simpa using this
    have hd : Below w3.heap.size w3 w4 := Below.trans (by (repeat (first | exact Below.refl _ _ | assumption | refine Below.alloc ?_ (by first | omega | (simp <;> omega)) _ | refine Below.setCell ?_ (by first | omega | (simp <;> omega)) _ | refine Below.drew ?_ | refine below_drewN ?_))) (hb.mono (by simp <;> omega))
    replace mm0 := keep hd mm0
    replace mm1 := keep hd mm1
    replace mP0 := keep hd mP0
    replace mP1 := keep hd mP1
    replace him := him.below hd
    replace hig := hig.below hd
    replace hiP := hiP.below hd
    replace hiQ := hiQ.below hd
    replace hB := chain hB hd
    have hs4 := hd.size
    clear hb hd
    go_wp2_with fail
    refine (weEqual_eq _ _ _ _ _ _ _ _ _ _ _ hiP hiQ (by rw [HE.out]) (by rw [HE.out])).mono ?_; rintro e w5 ⟨rfl, hb⟩
    have hd := hb
    replace mm0 := keep hd mm0
    replace mm1 := keep hd mm1
    replace mP0 := keep hd mP0
    replace mP1 := keep hd mP1
    replace mQ0 := keep hd mQ0
    replace mQ1 := keep hd mQ1
    replace him := him.below hd
    replace hig := hig.below hd
    replace hiP := hiP.below hd
    replace hiQ := hiQ.below hd
    replace hB := chain hB hd
    have hs5 := hd.size
    clear hb hd
    go_wp2
    go_ret
    exact ⟨rfl, hB⟩
  · have ho2 : rQ.ok = true := by rw [HE.out]; exact ho
    go_wp2_with fail
    refine (weEqual_eq _ _ _ _ _ _ _ _ _ _ _ (hiP.below (by (repeat (first | exact Below.refl _ _ | assumption | refine Below.alloc ?_ (by first | omega | (simp <;> omega)) _ | refine Below.setCell ?_ (by first | omega | (simp <;> omega)) _ | refine Below.drew ?_ | refine below_drewN ?_)))) (hiQ.below (by (repeat (first | exact Below.refl _ _ | assumption | refine Below.alloc ?_ (by first | omega | (simp <;> omega)) _ | refine Below.setCell ?_ (by first | omega | (simp <;> omega)) _ | refine Below.drew ?_ | refine below_drewN ?_)))) (by rw [HE.out]) (by rw [HE.out])).mono ?_; rintro e w4 ⟨rfl, hb⟩
    have mQ0 := keep hb (a := ⟨w3.heap.size, 0, none⟩) (v := .int .i64 rQ.size) (by simp)
    have mQ1 := keep hb (a := ⟨w3.heap.size, 1, none⟩) (v := .slice aQ nQ cQ) (by simp)
    have hN4 : w3.heap.size < w4.heap.size := by have := World.block_lt_of_cell? w4 _ mQ0; simpa using this
    have hd : Below w3.heap.size w3 w4 := Below.trans (by (repeat (first | exact Below.refl _ _ | assumption | refine Below.alloc ?_ (by first | omega | (simp <;> omega)) _ | refine Below.setCell ?_ (by first | omega | (simp <;> omega)) _ | refine Below.drew ?_ | refine below_drewN ?_))) (hb.mono (by simp <;> omega))
    replace mm0 := keep hd mm0
    replace mm1 := keep hd mm1
    replace mP0 := keep hd mP0
    replace mP1 := keep hd mP1
    replace him := him.below hd
    replace hig := hig.below hd
    replace hiP := hiP.below hd
    replace hiQ := hiQ.below hd
    replace hB := chain hB hd
    have hs4 := hd.size
    clear hb hd
    have hlaw := worst_law (s := s) (xs := xs) (gs := gs) (by rw [HP.out]; exact ho)
    rw [HP.out] at hlaw
    obtain ⟨g1, hPs, g3, g4, g5, g6⟩ := hlaw
    have H1 := hid g1
    have H3 := hid g3
    have H4 := hid g4
    have H5 := hid g5
    have H6 := hid g6
    have HPS := hid hPs
    clear g1 g3 g4 g5 g6 hPs
    obtain ⟨fX, HX⟩ : ∃ r, Hid (meanC rP.size rP.parts gs = r) := ⟨_, rfl⟩
    go_wp2_with fail
    refine (MeanOf_any rP.size _ _ _ _ _ _ rP.parts gs _ hiP hig).mono ?_; rw [HX.out]; rintro e w5 ⟨rfl, hb⟩
    have hd := hb
    replace mm0 := keep hd mm0
    replace mm1 := keep hd mm1
    replace mP0 := keep hd mP0
    replace mP1 := keep hd mP1
    replace mQ0 := keep hd mQ0
    replace mQ1 := keep hd mQ1
    replace him := him.below hd
    replace hig := hig.below hd
    replace hiP := hiP.below hd
    replace hiQ := hiQ.below hd
    replace hB := chain hB hd
    have hs5 := hd.size
    clear hb hd
    obtain ⟨fL, HL⟩ : ∃ r, Hid (meanM s xs gs = r) := ⟨_, rfl⟩
    go_wp2_with fail
    refine (LowestMean_any s _ _ _ _ _ _ xs gs _ (him.below (by (repeat (first | exact Below.refl _ _ | assumption | refine Below.alloc ?_ (by first | omega | (simp <;> omega)) _ | refine Below.setCell ?_ (by first | omega | (simp <;> omega)) _ | refine Below.drew ?_ | refine below_drewN ?_)))) (hig.below (by (repeat (first | exact Below.refl _ _ | assumption | refine Below.alloc ?_ (by first | omega | (simp <;> omega)) _ | refine Below.setCell ?_ (by first | omega | (simp <;> omega)) _ | refine Below.drew ?_ | refine below_drewN ?_))))).mono ?_; rw [HL.out]; rintro e w6 ⟨rfl, hb⟩
    have fX0 := keep hb (a := ⟨w5.heap.size, 0, none⟩) (v := .int .i64 fX.num) (by simp)
    have fX1 := keep hb (a := ⟨w5.heap.size, 1, none⟩) (v := .int .i64 fX.den) (by simp)
    have hN5 : w5.heap.size < w6.heap.size := by have := World.block_lt_of_cell? w6 _ fX0; simpa using this
    have hd : Below w5.heap.size w5 w6 := Below.trans (by (repeat (first | exact Below.refl _ _ | assumption | refine Below.alloc ?_ (by first | omega | (simp <;> omega)) _ | refine Below.setCell ?_ (by first | omega | (simp <;> omega)) _ | refine Below.drew ?_ | refine below_drewN ?_))) (hb.mono (by simp <;> omega))
    replace mm0 := keep hd mm0
    replace mm1 := keep hd mm1
    replace mP0 := keep hd mP0
    replace mP1 := keep hd mP1
    replace mQ0 := keep hd mQ0
    replace mQ1 := keep hd mQ1
    replace him := him.below hd
    replace hig := hig.below hd
    replace hiP := hiP.below hd
    replace hiQ := hiQ.below hd
    replace hB := chain hB hd
    have hs6 := hd.size
    clear hb hd
    have hXL : fL = fX := by rw [← HX.out, ← HL.out, HPS.out]; exact H5.out.symm
    have hLo : fL.ok = true := by rw [← HL.out]; exact H6.out
    subst hXL
    clear HX HL H5 H6
    have HAL : Hid (∀ w', IntsAt w' am nm xs → IntsAt w' aP nP rP.parts → Calls Try.prog 33 #[.agg #[.int .i64 s, .slice am nm cm], .agg #[.int .i64 rP.size, .slice aP nP cP]] w' fun e w'' => e = .returned (.bool true) ∧ Below w'.heap.size w' w'') := fun w' h1 h2 => by rw [HPS.out]; exact AllowsChance_true s _ _ _ _ _ _ xs rP.parts w' h1 h2 H1.out H3.out H4.out
    go_wp2_with fail
    refine (HAL.out _ (him.below (by (repeat (first | exact Below.refl _ _ | assumption | refine Below.alloc ?_ (by first | omega | (simp <;> omega)) _ | refine Below.setCell ?_ (by first | omega | (simp <;> omega)) _ | refine Below.drew ?_ | refine below_drewN ?_)))) (hiP.below (by (repeat (first | exact Below.refl _ _ | assumption | refine Below.alloc ?_ (by first | omega | (simp <;> omega)) _ | refine Below.setCell ?_ (by first | omega | (simp <;> omega)) _ | refine Below.drew ?_ | refine below_drewN ?_))))).mono ?_; rintro e w7 ⟨rfl, hb⟩
    have fL0 := keep hb (a := ⟨w6.heap.size, 0, none⟩) (v := .int .i64 fL.num) (by simp)
    have fL1 := keep hb (a := ⟨w6.heap.size, 1, none⟩) (v := .int .i64 fL.den) (by simp)
    have hN6 : w6.heap.size < w7.heap.size := by have := World.block_lt_of_cell? w7 _ fL0; simpa using this
    have hd : Below w6.heap.size w6 w7 := Below.trans (by (repeat (first | exact Below.refl _ _ | assumption | refine Below.alloc ?_ (by first | omega | (simp <;> omega)) _ | refine Below.setCell ?_ (by first | omega | (simp <;> omega)) _ | refine Below.drew ?_ | refine below_drewN ?_))) (hb.mono (by simp <;> omega))
    replace mm0 := keep hd mm0
    replace mm1 := keep hd mm1
    replace mP0 := keep hd mP0
    replace mP1 := keep hd mP1
    replace mQ0 := keep hd mQ0
    replace mQ1 := keep hd mQ1
    replace fX0 := keep hd fX0
    replace fX1 := keep hd fX1
    replace him := him.below hd
    replace hig := hig.below hd
    replace hiP := hiP.below hd
    replace hiQ := hiQ.below hd
    replace hB := chain hB hd
    have hs7 := hd.size
    clear hb hd
    go_wp2
    go_ret
    exact ⟨rfl, hB⟩
end Go.Proofs.Ytchjnjmlambpjaa
