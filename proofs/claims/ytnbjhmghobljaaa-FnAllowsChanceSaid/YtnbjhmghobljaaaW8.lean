/- Acts compared: sums of gains, lessAct, BeatsAct both. Acts compared: lowestSum, l12Low, l12Beats, BeatsAct both. -/
import Derived.Test.YtnbjhmghobljaaaW6
import Derived.Test.YtnbjhmghobljaaaS1
set_option linter.unusedSimpArgs false
set_option linter.unusedVariables false
namespace Go.Proofs.Ytnbjhmghobljaaa
open Go.RowKit
/-- the best of the first k gains that a set has, and whether it has one -/
def bestTo (ch : Int → Int → Int) (gs : List Int) (a k : Nat) : Int × Bool := iter (fun x b => if hasB a x then (if b.2 then ch b.1 (nth gs x) else nth gs x, true) else b) (0, false) k
def gainTo (ch : Int → Int → Int) (xs gs : List Int) (k : Nat) : Int := iter (fun a t => t + nth xs a * (bestTo ch gs a gs.length).1) 0 k
/-- all parts, each as often as the best gain of its set -/
def gainSum (ch : Int → Int → Int) (xs gs : List Int) : Int := gainTo ch xs gs xs.length
def inG (x : Int) : Prop := -2000 ≤ x ∧ x ≤ 2000
theorem bestTo_bd (ch : Int → Int → Int) (hch : ∀ x y, inG x → inG y → inG (ch x y)) (gs : List Int) (n : Nat) (h : ∀ k, k < n → inG (nth gs k)) (a k : Nat) (hk : k ≤ n) : inG (bestTo ch gs a k).1 := by
  induction k with
  | zero => exact (⟨by decide, by decide⟩ : inG 0)
  | succ k ih =>
    have h1 := ih (by omega)
    have h2 := h k (by omega)
    show inG (if hasB a k then (if (bestTo ch gs a k).2 then ch (bestTo ch gs a k).1 (nth gs k) else nth gs k, true) else bestTo ch gs a k).1
    split
    · show inG (if (bestTo ch gs a k).2 then _ else _)
      split
      · exact hch _ _ h1 h2
      · exact h2
    · exact h1
theorem mul_bd (p b : Int) (h0 : 0 ≤ p) (h1 : p ≤ 1000000) (h2 : -2000 ≤ b) (h3 : b ≤ 2000) : -2000000000 ≤ p * b ∧ p * b ≤ 2000000000 := by
  have e1 : p * b ≤ p * 2000 := Int.mul_le_mul_of_nonneg_left h3 h0
  have e2 : p * (-2000) ≤ p * b := Int.mul_le_mul_of_nonneg_left h2 h0
  omega
theorem gainTo_bd (ch : Int → Int → Int) (hch : ∀ x y, inG x → inG y → inG (ch x y)) (xs gs : List Int) (n : Nat) (hx : ∀ k, k < n → 0 ≤ nth xs k ∧ nth xs k ≤ 1000000) (h : ∀ k, k < gs.length → inG (nth gs k)) (k : Nat) (hk : k ≤ n) :
    -2000000000 * (k : Int) ≤ gainTo ch xs gs k ∧ gainTo ch xs gs k ≤ 2000000000 * (k : Int) := by
  induction k with
  | zero => exact ⟨by simp [gainTo, iter], by simp [gainTo, iter]⟩
  | succ k ih =>
    have h1 := ih (by omega)
    have h2 := hx k (by omega)
    have h3 := bestTo_bd ch hch gs gs.length h k gs.length (Nat.le_refl _)
    have h4 := mul_bd _ _ h2.1 h2.2 h3.1 h3.2
    show _ ≤ gainTo ch xs gs k + nth xs k * (bestTo ch gs k gs.length).1 ∧ gainTo ch xs gs k + nth xs k * (bestTo ch gs k gs.length).1 ≤ _
    push_cast
    omega
/-- one act's gains less another's -/
def subTo (f g : List Int) (k : Nat) : List Int := iter (fun j l => l ++ [nth f j - nth g j]) [] k
theorem subTo_len (f g : List Int) (k : Nat) : (subTo f g k).length = k := by
  induction k with
  | zero => rfl
  | succ k ih => show (subTo f g k ++ [_]).length = _; rw [List.length_append, ih]; rfl
theorem subTo_nth (f g : List Int) (k j : Nat) (h : j < k) : nth (subTo f g k) j = nth f j - nth g j := by
  induction k with
  | zero => omega
  | succ k ih =>
    show nth (subTo f g k ++ [nth f k - nth g k]) j = _
    by_cases e : j < k
    · rw [nth_append_left _ _ _ (by rw [subTo_len]; exact e)]; exact ih e
    · have e2 : j = k := by omega
      subst e2
      have hl := subTo_len f g j
      rw [nth_eq _ _ (by simp [hl])]
      simp [hl]
theorem min_inG (x y : Int) (h1 : inG x) (h2 : inG y) : inG (min x y) := by unfold inG at *; omega
theorem min_eq (x y : Int) : (if y < x then y else x) = min x y := by split <;> omega
def lowTo (gs : List Int) (a k : Nat) : Int := iter (fun x t => if hasB a x then min t (nth gs x) else t) 2000 k
theorem lowTo_bd (gs : List Int) (a n : Nat) (h : ∀ k, k < n → inG (nth gs k)) (k : Nat) (hk : k ≤ n) : inG (lowTo gs a k) := by
  induction k with
  | zero => exact (⟨by decide, by decide⟩ : inG 2000)
  | succ k ih =>
    have h1 := ih (by omega)
    have h2 := h k (by omega)
    show inG (if hasB a k then min (lowTo gs a k) (nth gs k) else lowTo gs a k)
    split
    · exact min_inG _ _ h1 h2
    · exact h1
theorem massOk_facts' {s : Int} {xs : List Int} (h : massOk s xs = true) : okSize s = true ∧ xs.length = nsets s ∧ xs.length ≤ 16 ∧ (∀ k, k < xs.length → 0 ≤ nth xs k ∧ nth xs k ≤ 1000000) ∧ 1 ≤ isum xs ∧ isum xs ≤ 1000000 ∧ gcdL xs = 1 := by
  simp only [massOk, Bool.and_eq_true, beq_iff_eq] at h
  obtain ⟨⟨⟨⟨h1, h2⟩, h3⟩, h4⟩, h5⟩ := h
  refine ⟨h1, h2, by have := nsets_le h1; omega, fun k hk => inB_iff.1 ((allN_iff _ _).1 h3 k hk), (inB_iff.1 h4).1, (inB_iff.1 h4).2, h5⟩
def lowSumTo (xs gs : List Int) (k : Nat) : Int := iter (fun a t => t + nth xs a * lowTo gs a gs.length) 0 k
theorem lowSumTo_bd (xs gs : List Int) (n : Nat) (hx : ∀ k, k < n → 0 ≤ nth xs k ∧ nth xs k ≤ 1000000) (h : ∀ k, k < gs.length → inG (nth gs k)) (k : Nat) (hk : k ≤ n) : -2000000000 * (k : Int) ≤ lowSumTo xs gs k ∧ lowSumTo xs gs k ≤ 2000000000 * (k : Int) := by
  induction k with
  | zero => exact ⟨by simp [lowSumTo, iter], by simp [lowSumTo, iter]⟩
  | succ k ih =>
    have h1 := ih (by omega)
    have h2 := hx k (by omega)
    have h3 := lowTo_bd gs k gs.length h gs.length (Nat.le_refl _)
    have h4 := mul_bd _ _ h2.1 h2.2 h3.1 h3.2
    show _ ≤ lowSumTo xs gs k + nth xs k * lowTo gs k gs.length ∧ lowSumTo xs gs k + nth xs k * lowTo gs k gs.length ≤ _
    push_cast
    omega
theorem best_low (gs : List Int) (a n : Nat) (h : ∀ k, k < n → inG (nth gs k)) (k : Nat) (hk : k ≤ n) :
    ((∀ j, j < k → hasB a j = false) ∧ bestTo min gs a k = (0, false) ∧ lowTo gs a k = 2000) ∨ bestTo min gs a k = (lowTo gs a k, true) := by
  induction k with
  | zero => exact .inl ⟨fun j hj => by omega, rfl, rfl⟩
  | succ k ih =>
    have hs : bestTo min gs a (k + 1) = if hasB a k then (if (bestTo min gs a k).2 then min (bestTo min gs a k).1 (nth gs k) else nth gs k, true) else bestTo min gs a k := rfl
    have hl : lowTo gs a (k + 1) = if hasB a k then min (lowTo gs a k) (nth gs k) else lowTo gs a k := rfl
    have hg := h k (by omega)
    unfold inG at hg
    cases ht : hasB a k
    · rw [ht] at hs hl
      rw [hs, hl]
      rcases ih (by omega) with ⟨h1, h2, h3⟩ | h1
      · refine .inl ⟨fun j hj => ?_, h2, h3⟩
        by_cases e : j = k
        · rw [e]; exact ht
        · exact h1 j (by omega)
      · exact .inr h1
    · rw [ht] at hs hl
      rw [hs, hl]
      rcases ih (by omega) with ⟨h1, h2, h3⟩ | h1
      · right
        rw [h2, h3]
        show (nth gs k, true) = (min 2000 (nth gs k), true)
        congr 1; omega
      · right; rw [h1]; rfl
theorem some_bit {a m : Nat} (h0 : a ≠ 0) (hm : a < 2 ^ m) : ∃ j, j < m ∧ hasB a j = true := by
  refine Classical.byContradiction fun hc => h0 (Nat.eq_of_testBit_eq fun i => ?_)
  rw [Nat.zero_testBit]
  by_cases hi : i < m
  · cases ht : a.testBit i
    · rfl
    · exact absurd ⟨i, hi, ht⟩ hc
  · exact Nat.testBit_lt_two_pow (Nat.lt_of_lt_of_le hm (Nat.pow_le_pow_right (by decide) (by omega)))
theorem gain_low (xs gs : List Int) (h0 : nth xs 0 = 0) (h : ∀ k, k < gs.length → inG (nth gs k)) (n : Nat) (hn : n ≤ 2 ^ gs.length) (k : Nat) (hk : k ≤ n) : gainTo min xs gs k = lowSumTo xs gs k := by
  induction k with
  | zero => rfl
  | succ k ih =>
    show gainTo min xs gs k + nth xs k * (bestTo min gs k gs.length).1 = lowSumTo xs gs k + nth xs k * lowTo gs k gs.length
    rw [ih (by omega)]
    by_cases e : k = 0
    · subst e; rw [h0, Int.zero_mul, Int.zero_mul]
    · rcases best_low gs k gs.length h gs.length (Nat.le_refl _) with ⟨h1, _, _⟩ | h1
      · obtain ⟨j, hj, hb⟩ := some_bit e (show k < 2 ^ gs.length by omega)
        rw [h1 j hj] at hb; cases hb
      · rw [h1]
def gainOkN (s : Int) (gs : List Int) : Bool := gainsOk s gs
/-- the first act's least mean is beyond the other's at every corner -/
def beatsM (s : Int) (xs f g : List Int) : Bool := normalOk s xs && (gainsOk s f && (gainsOk s g && decide (0 < lowSumTo xs (subTo f g f.length) xs.length)))
theorem gainsOk_facts {s : Int} {gs : List Int} (h : gainsOk s gs = true) : (gs.length : Int) = s ∧ ∀ k, k < gs.length → -1000 ≤ nth gs k ∧ nth gs k ≤ 1000 := by
  simp only [gainsOk, Bool.and_eq_true, beq_iff_eq] at h
  exact ⟨h.1, fun k hk => inB_iff.1 ((allN_iff _ _).1 h.2 k hk)⟩
theorem normalOk_facts {s : Int} {xs : List Int} (h : normalOk s xs = true) : massOk s xs = true ∧ nth xs 0 = 0 := by
  simpa [normalOk] using h
end Go.Proofs.Ytnbjhmghobljaaa
