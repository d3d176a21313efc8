/- Plain: the first side of swapped pairs, pairs swapped twice, pairs and their side extended, independence of swapped pairs. -/
import Derived.Test.YtnbjhmghobljaaaF2
import Derived.Test.YtnbjhmghobljaaaN3
set_option linter.unusedSimpArgs false
set_option linter.unusedVariables false
namespace Go.Proofs.Ytnbjhmghobljaaa
open Go.RowKit
theorem img_sw : ∀ a, a < 16 → imgT false (swT a) = imgT true a := by decide
theorem img_sw2 : ∀ a, a < 16 → imgT true (swT a) = imgT false a := by decide
theorem sw_sw : ∀ a, a < 16 → swT (swT a) = a := by decide
theorem up_sub : ∀ a, a < 16 → refT false (imgT false a) < 16 ∧ subN a (refT false (imgT false a)) = true := by decide
theorem swap_pr {xs : List Int} (h : massOk 4 xs = true) : (swapM 4 xs).ok = true ∧ (swapM 4 xs).size = 4 ∧ massOk 4 (swapM 4 xs).parts = true ∧ Pr 16 (swapM 4 xs).parts (fun g => dot (fun a => g (swT a)) xs 16) := by
  have hp := (Pr.of_mass h ns4).map (M := 16) swT_lt
  have hs := mass_sum h ns4
  have ho : (mkMass 4 (mapTo swT xs 16 16)).ok = true := made_ok okS4 ns4 hp.len hp.nn (by rw [dot_mapTo _ _ _ _ _ swT_lt]; omega) (by rw [dot_mapTo _ _ _ _ _ swT_lt]; omega)
  obtain ⟨h1, h2, h3⟩ := hp.mass ho
  rw [swap_eq h]
  exact ⟨ho, h2, h3, h1⟩
theorem side_swap {xs : List Int} (h : massOk 4 xs = true) : sideM false (swapM 4 xs).size (swapM 4 xs).parts = sideM true 4 xs ∧ sideM true (swapM 4 xs).size (swapM 4 xs).parts = sideM false 4 xs := by
  obtain ⟨_, h2, h3, h4⟩ := swap_pr h
  rw [h2, side_eq h3, side_eq h3, side_eq h, side_eq h]
  exact ⟨((h4.map (M := 4) (imgT_lt false)).eq (G := fun g => dot (fun a => g (imgT true a)) xs 16) fun g => dot_congr xs 16 fun j hj => by
    show g (imgT false (swT j)) * _ = _
    rw [img_sw j hj]).same ((Pr.of_mass h ns4).map (M := 4) (imgT_lt true)),
    ((h4.map (M := 4) (imgT_lt true)).eq (G := fun g => dot (fun a => g (imgT false a)) xs 16) fun g => dot_congr xs 16 fun j hj => by
    show g (imgT true (swT j)) * _ = _
    rw [img_sw2 j hj]).same ((Pr.of_mass h ns4).map (M := 4) (imgT_lt false))⟩
theorem swap_swap {xs : List Int} (h : massOk 4 xs = true) : swapM (swapM 4 xs).size (swapM 4 xs).parts = ⟨4, xs, true⟩ := by
  obtain ⟨_, h2, h3, h4⟩ := swap_pr h
  rw [h2, swap_eq h3, ← mkMass_self h]
  exact ((h4.map (M := 16) swT_lt).eq (G := fun g => dot g xs 16) fun g => dot_congr xs 16 fun j hj => by
    show g (swT (swT j)) * _ = _
    rw [sw_sw j hj]).same (Pr.of_mass h ns4)
/-- pairs are made of their first side, extended -/
theorem side_hall {xs : List Int} (h : massOk 4 xs = true) : HallD subN 16 xs (extendM false 2 (sideM false 4 xs).parts).parts (dot (fun _ => 1) xs 16) (dot (fun _ => 1) (extendM false 2 (sideM false 4 xs).parts).parts 16) := by
  have hp := Pr.of_mass h ns4
  obtain ⟨_, _, a3, a4⟩ := side_pr false h hp
  obtain ⟨_, _, _, b4⟩ := extend_pr false a3
  obtain ⟨e1, he1, hd1⟩ := a4.pr
  obtain ⟨e2, he2, hd2⟩ := b4.pr
  have key : ∀ g : Nat → Int, e1 * e2 * dot g (extendM false 2 (sideM false 4 xs).parts).parts 16 = 1 * dot (fun a => g (refT false (imgT false a))) xs 16 := fun g => by
    have h1 := hd2 g
    have h2 := hd1 (fun a => g (refT false a))
    rw [Int.mul_assoc, h1, h2, Int.one_mul]
  exact hall_up (N := 16) (φ := fun a => refT false (imgT false a)) hp.nn (Int.mul_pos he1 he2) (by decide) key up_sub
theorem indep_swap {xs : List Int} (h : massOk 4 xs = true) : indepM (swapM 4 xs).size (swapM 4 xs).parts = indepM 4 xs := by
  obtain ⟨_, h2, h3, h4⟩ := swap_pr h
  obtain ⟨s1, s2⟩ := side_swap h
  have hsw := swap_swap h
  rw [h2] at s1 s2 hsw ⊢
  rw [indep_is h3, indep_is h, s1, s2]
  have hp := Pr.of_mass h ns4
  obtain ⟨_, a2, a3, _⟩ := side_pr false h hp
  obtain ⟨_, b2, b3, _⟩ := side_pr true h hp
  rw [a2, b2]
  obtain ⟨A, hA⟩ : ∃ A, A = (sideM false 4 xs).parts := ⟨_, rfl⟩
  obtain ⟨B, hB⟩ : ∃ B, B = (sideM true 4 xs).parts := ⟨_, rfl⟩
  rw [← hA, ← hB]
  rw [← hA] at a3
  rw [← hB] at b3
  have hsame : ∀ P : List Int, massOk 4 P = true → eqList (swapM 4 P).parts (swapM 4 xs).parts = eqList P xs := fun P hP => by
    have hiff : (swapM 4 P).parts = (swapM 4 xs).parts ↔ P = xs := by
      constructor
      · intro e2
        have w1 := swap_swap hP
        rw [(swap_pr hP).2.1, e2, hsw] at w1
        exact (congrArg MR.parts w1).symm
      · intro e2; rw [e2]
    unfold eqList
    rw [Bool.eq_iff_iff, decide_eq_true_iff, decide_eq_true_iff]; exact hiff
  obtain ⟨Q, hQ⟩ : ∃ Q, Q = pairM 2 A 2 B := ⟨_, rfl⟩
  obtain ⟨Q2, hQ2⟩ : ∃ Q2, Q2 = pairM 2 B 2 A := ⟨_, rfl⟩
  have f1 : Q.ok = true → Q.size = 4 ∧ massOk 4 Q.parts = true ∧ Q2 = swapM Q.size Q.parts := fun ho => by
    rw [hQ] at ho
    rw [hQ, hQ2]
    exact ⟨(pair_ok ho).1, (pair_ok ho).2, pair_other ho⟩
  have f2 : Q2.ok = true → Q2.size = 4 ∧ massOk 4 Q2.parts = true ∧ Q = swapM Q2.size Q2.parts := fun ho => by
    rw [hQ2] at ho
    rw [hQ, hQ2]
    exact ⟨(pair_ok ho).1, (pair_ok ho).2, pair_other ho⟩
  rw [← hQ, ← hQ2]
  clear hQ hQ2 hA hB
  cases ho : Q.ok with
  | true =>
    obtain ⟨k1, k2, e⟩ := f1 ho
    rw [k1] at e
    have q := swap_pr k2
    rw [e, q.1, q.2.1, hsame _ k2, k1]
  | false =>
    cases ho2 : Q2.ok with
    | false => rw [Bool.false_and, Bool.false_and]
    | true =>
      obtain ⟨k1, k2, e⟩ := f2 ho2
      rw [k1] at e
      have q := swap_pr k2
      rw [e, q.1] at ho
      cases ho
end Go.Proofs.Ytnbjhmghobljaaa
