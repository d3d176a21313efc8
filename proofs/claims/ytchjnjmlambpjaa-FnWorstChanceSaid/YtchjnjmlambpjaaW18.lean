/- The act between the safest and the boldest one: BetweenAct both. -/
import Derived.Test.YtchjnjmlambpjaaW11
set_option linter.unusedSimpArgs false
set_option linter.unusedVariables false
namespace Go.Proofs.Ytchjnjmlambpjaa
open Go.RowKit
/-- the score of an act between bounds -/
def betS (num den : Int) (xs gs : List Int) : Int := num * sumF 1000 xs gs xs.length + (den - num) * -(sumF 1000 xs (negTo gs gs.length) xs.length)
def betOk (s : Int) (xs : List Int) (acts : List (List Int)) (num den : Int) : Bool := actsOk s xs acts && (shareOk num den && decide (den ≤ 1000))
theorem mul_bd3 (p b : Int) (h0 : 0 ≤ p) (h1 : p ≤ 1000) (h2 : -32000000000 ≤ b) (h3 : b ≤ 32000000000) : -32000000000000 ≤ p * b ∧ p * b ≤ 32000000000000 := by
  have e1 : p * b ≤ p * 32000000000 := Int.mul_le_mul_of_nonneg_left h3 h0
  have e2 : p * (-32000000000) ≤ p * b := Int.mul_le_mul_of_nonneg_left h2 h0
  omega
theorem MG.lo_bd {s : Int} {n m : Nat} {xs gs : List Int} (h : MG s n m xs gs) : -32000000000 ≤ sumF 1000 xs gs n ∧ sumF 1000 xs gs n ≤ 32000000000 := by
  have h1 := sumF_bd 1000 (by omega) xs gs n h.xb (fun k hk => h.gb k (by rw [← h.glen]; exact hk)) n (Nat.le_refl _)
  have := h.n16; omega
theorem MG.hi_bd {s : Int} {n m : Nat} {xs gs : List Int} (h : MG s n m xs gs) : -32000000000 ≤ -(sumF 1000 xs (negTo gs m) n) ∧ -(sumF 1000 xs (negTo gs m) n) ≤ 32000000000 := by
  have h1 := sumF_bd 1000 (by omega) xs (negTo gs m) n h.xb (fun k hk => h.neg k (by rw [negTo_len] at hk; exact hk)) n (Nat.le_refl _)
  have := h.n16; omega
theorem shareOk_facts {num den : Int} (h : shareOk num den = true) : 0 ≤ num ∧ num ≤ den ∧ 1 ≤ den := by
  simp only [shareOk, fracOk, Bool.and_eq_true, inB_iff] at h; omega
theorem betOk_cases {s : Int} {xs : List Int} {acts : List (List Int)} {num den : Int} (h : betOk s xs acts num den = false) :
    actsOk s xs acts = false ∨ (actsOk s xs acts = true ∧ shareOk num den = false) ∨ (actsOk s xs acts = true ∧ shareOk num den = true ∧ 1000 < den) := by
  cases h1 : actsOk s xs acts
  · exact .inl rfl
  · cases h2 : shareOk num den
    · exact .inr (.inl ⟨rfl, rfl⟩)
    · refine .inr (.inr ⟨rfl, rfl, ?_⟩)
      simp [betOk, h1, h2] at h; omega
end Go.Proofs.Ytchjnjmlambpjaa
