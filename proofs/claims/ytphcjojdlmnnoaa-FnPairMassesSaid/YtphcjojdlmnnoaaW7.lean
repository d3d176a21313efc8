/- Acts compared: sums of gains, lessAct, BeatsAct both. -/
import Derived.Test.YtphcjojdlmnnoaaW6
import Derived.Test.YtphcjojdlmnnoaaS1
set_option linter.unusedSimpArgs false
set_option linter.unusedVariables false
namespace Go.Proofs.Ytphcjojdlmnnoaa
open Go.RowKit
/-- the best of the first k gains that a set has, and whether it has one -/
def bestTo (ch : Int → Int → Int) (gs : List Int) (a k : Nat) : Int × Bool := iter (fun x b => if hasB a x then (if b.2 then ch b.1 (nth gs x) else nth gs x, true) else b) (0, false) k
def gainTo (ch : Int → Int → Int) (xs gs : List Int) (k : Nat) : Int := iter (fun a t => t + nth xs a * (bestTo ch gs a gs.length).1) 0 k
/-- all parts, each as often as the best gain of its set -/
def gainSum (ch : Int → Int → Int) (xs gs : List Int) : Int := gainTo ch xs gs xs.length
def inG (x : Int) : Prop := -2000 ≤ x ∧ x ≤ 2000
theorem bestTo_bd (ch : Int → Int → Int) (hch : ∀ x y, inG x → inG y → inG (ch x y)) (gs : List Int) (n : Nat) (h : ∀ k, k < n → inG (nth gs k)) (a k : Nat) (hk : k ≤ n) : inG (bestTo ch gs a k).1 := by
  induction k with
  | zero => exact (⟨by decide, by decide⟩ : inG 0)
  | succ k ih =>
    have h1 := ih (by omega)
    have h2 := h k (by omega)
    show inG (if hasB a k then (if (bestTo ch gs a k).2 then ch (bestTo ch gs a k).1 (nth gs k) else nth gs k, true) else bestTo ch gs a k).1
    split
    · show inG (if (bestTo ch gs a k).2 then _ else _)
      split
      · exact hch _ _ h1 h2
      · exact h2
    · exact h1
theorem mul_bd (p b : Int) (h0 : 0 ≤ p) (h1 : p ≤ 1000000) (h2 : -2000 ≤ b) (h3 : b ≤ 2000) : -2000000000 ≤ p * b ∧ p * b ≤ 2000000000 := by
  have e1 : p * b ≤ p * 2000 := Int.mul_le_mul_of_nonneg_left h3 h0
  have e2 : p * (-2000) ≤ p * b := Int.mul_le_mul_of_nonneg_left h2 h0
  omega
theorem gainTo_bd (ch : Int → Int → Int) (hch : ∀ x y, inG x → inG y → inG (ch x y)) (xs gs : List Int) (n : Nat) (hx : ∀ k, k < n → 0 ≤ nth xs k ∧ nth xs k ≤ 1000000) (h : ∀ k, k < gs.length → inG (nth gs k)) (k : Nat) (hk : k ≤ n) :
    -2000000000 * (k : Int) ≤ gainTo ch xs gs k ∧ gainTo ch xs gs k ≤ 2000000000 * (k : Int) := by
  induction k with
  | zero => exact ⟨by simp [gainTo, iter], by simp [gainTo, iter]⟩
  | succ k ih =>
    have h1 := ih (by omega)
    have h2 := hx k (by omega)
    have h3 := bestTo_bd ch hch gs gs.length h k gs.length (Nat.le_refl _)
    have h4 := mul_bd _ _ h2.1 h2.2 h3.1 h3.2
    show _ ≤ gainTo ch xs gs k + nth xs k * (bestTo ch gs k gs.length).1 ∧ gainTo ch xs gs k + nth xs k * (bestTo ch gs k gs.length).1 ≤ _
    push_cast
    omega
/-- one act's gains less another's -/
def subTo (f g : List Int) (k : Nat) : List Int := iter (fun j l => l ++ [nth f j - nth g j]) [] k
theorem subTo_len (f g : List Int) (k : Nat) : (subTo f g k).length = k := by
  induction k with
  | zero => rfl
  | succ k ih => show (subTo f g k ++ [_]).length = _; rw [List.length_append, ih]; rfl
theorem subTo_nth (f g : List Int) (k j : Nat) (h : j < k) : nth (subTo f g k) j = nth f j - nth g j := by
  induction k with
  | zero => omega
  | succ k ih =>
    show nth (subTo f g k ++ [nth f k - nth g k]) j = _
    by_cases e : j < k
    · rw [nth_append_left _ _ _ (by rw [subTo_len]; exact e)]; exact ih e
    · have e2 : j = k := by omega
      subst e2
      have hl := subTo_len f g j
      rw [nth_eq _ _ (by simp [hl])]
      simp [hl]
end Go.Proofs.Ytphcjojdlmnnoaa
