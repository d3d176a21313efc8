/- Plain: the sides of extended masses. No program in sight. -/
import Derived.Test.YtnbjhmghobljaaaN1
set_option linter.unusedSimpArgs false
set_option linter.unusedVariables false
namespace Go.Proofs.Ytnbjhmghobljaaa
open Go.RowKit
theorem extend_okb (second : Bool) (s : Int) (xs : List Int) : (extendM second s xs).ok = (massOk s xs && (s == 2)) := by
  cases h : (massOk s xs && (s == 2))
  · rw [extend_bad h]; rfl
  · rw [Bool.and_eq_true, beq_iff_eq] at h
    obtain ⟨h1, rfl⟩ := h
    exact (extend_pr second h1).1
theorem img_ref (second : Bool) : ∀ a, a < 4 → imgT second (refT second a) = a := by cases second <;> decide
theorem sw_ref : ∀ a, a < 4 → swT (refT false a) = refT true a := by decide
theorem img_other : ∀ a, a < 4 → imgT true (refT false a) = if a = 0 then 0 else 3 := by decide
theorem side_extend (second : Bool) {xs : List Int} (h : massOk 2 xs = true) : sideM second (extendM second 2 xs).size (extendM second 2 xs).parts = ⟨2, xs, true⟩ := by
  obtain ⟨_, h2, h3, h4⟩ := extend_pr second h
  rw [h2, side_eq h3, ← mkMass_self h]
  exact ((h4.map (M := 4) (imgT_lt second)).eq (G := fun g => dot g xs 4) fun g => dot_congr xs 4 fun j hj => by
    show g (imgT second (refT second j)) * _ = _
    rw [img_ref second j hj]).same (Pr.of_mass h ns2)
theorem swap_extend {xs : List Int} (h : massOk 2 xs = true) : swapM (extendM false 2 xs).size (extendM false 2 xs).parts = extendM true 2 xs := by
  obtain ⟨_, h2, h3, h4⟩ := extend_pr false h
  have q : Pr 16 (mapTo swT (extendM false 2 xs).parts 16 16) (fun g => dot (fun a => g (refT true a)) xs 4) := (h4.map (M := 16) swT_lt).eq fun g => dot_congr xs 4 fun j hj => by
    show g (swT (refT false j)) * _ = _
    rw [sw_ref j hj]
  have q2 : Pr 16 (mapTo (refT true) xs 16 4) (fun g => dot (fun a => g (refT true a)) xs 4) := (Pr.of_mass h ns2).map (M := 16) (refT_lt true)
  have e := q.same (s := 4) q2
  rw [h2, swap_eq h3, extend_eq (second := true) h]
  exact e
theorem dot4 (g : Nat → Int) (xs : List Int) : dot g xs 4 = g 0 * nth xs 0 + g 1 * nth xs 1 + g 2 * nth xs 2 + g 3 * nth xs 3 := by
  rw [dot_succ, dot_succ, dot_succ, dot_succ]
  show (0 : Int) + _ + _ + _ + _ = _
  omega
theorem other_extend {xs : List Int} (h : massOk 2 xs = true) : sideM true (extendM false 2 xs).size (extendM false 2 xs).parts = mkMass 2 [nth xs 0, 0, 0, isum xs - nth xs 0] ∧ (mkMass 2 [nth xs 0, 0, 0, isum xs - nth xs 0]).ok = true ∧ ∀ k, k < 4 → 0 ≤ nth [nth xs 0, 0, 0, isum xs - nth xs 0] k ∧ nth [nth xs 0, 0, 0, isum xs - nth xs 0] k ≤ 1000000000 := by
  obtain ⟨_, h2, h3, h4⟩ := extend_pr false h
  have hp := Pr.of_mass h ns2
  obtain ⟨_, hl, _, hb, hs1, hs2, _⟩ := massOk_facts h
  have hsum : isum xs = nth xs 0 + nth xs 1 + nth xs 2 + nth xs 3 := by rw [isum_of_len (N := 4) (by rw [hl, ns2]), dot4]; omega
  have b0 := hp.nn 0 (by omega)
  have b1 := hp.nn 1 (by omega)
  have b2 := hp.nn 2 (by omega)
  have b3 := hp.nn 3 (by omega)
  have hbd : ∀ k, k < 4 → 0 ≤ nth [nth xs 0, 0, 0, isum xs - nth xs 0] k ∧ nth [nth xs 0, 0, 0, isum xs - nth xs 0] k ≤ 1000000000 := by
    intro k hk
    have hk4 : k = 0 ∨ k = 1 ∨ k = 2 ∨ k = 3 := by omega
    rcases hk4 with rfl | rfl | rfl | rfl
    · show 0 ≤ nth xs 0 ∧ nth xs 0 ≤ _; omega
    · show (0 : Int) ≤ 0 ∧ (0 : Int) ≤ _; omega
    · show (0 : Int) ≤ 0 ∧ (0 : Int) ≤ _; omega
    · show 0 ≤ isum xs - nth xs 0 ∧ isum xs - nth xs 0 ≤ _; omega
  have hq : Pr 4 [nth xs 0, 0, 0, isum xs - nth xs 0] (fun g => dot (fun a => g (if a = 0 then 0 else 3)) xs 4) := by
    refine ⟨rfl, fun j hj => (hbd j hj).1, 1, by omega, fun g => ?_⟩
    rw [dot4, dot4]
    show 1 * (g 0 * nth xs 0 + g 1 * 0 + g 2 * 0 + g 3 * (isum xs - nth xs 0)) = g 0 * nth xs 0 + g 3 * nth xs 1 + g 3 * nth xs 2 + g 3 * nth xs 3
    have e3 : g 3 * (nth xs 1 + nth xs 2 + nth xs 3) = g 3 * nth xs 1 + g 3 * nth xs 2 + g 3 * nth xs 3 := by rw [Int.mul_add, Int.mul_add]
    rw [hsum, show nth xs 0 + nth xs 1 + nth xs 2 + nth xs 3 - nth xs 0 = nth xs 1 + nth xs 2 + nth xs 3 by omega, e3]
    omega
  have e : sideM true (extendM false 2 xs).size (extendM false 2 xs).parts = mkMass 2 [nth xs 0, 0, 0, isum xs - nth xs 0] := by
    rw [h2, side_eq h3]
    exact ((h4.map (M := 4) (imgT_lt true)).eq (G := fun g => dot (fun a => g (if a = 0 then 0 else 3)) xs 4) fun g => dot_congr xs 4 fun j hj => by
      show g (imgT true (refT false j)) * _ = _
      rw [img_other j hj]).same hq
  refine ⟨e, ?_, hbd⟩
  rw [← e, h2]
  exact (side_pr true h3 (Pr.of_mass h3 ns4)).1
end Go.Proofs.Ytnbjhmghobljaaa
