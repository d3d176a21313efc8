/- Sums of least and greatest gains, and the best of several acts. -/
import Derived.Test.YtnbjhmghobljaaaW8
set_option linter.unusedSimpArgs false
set_option linter.unusedVariables false
namespace Go.Proofs.Ytnbjhmghobljaaa
open Go.RowKit
/-- the least of M and of the gains that a set has -/
def lowF (M : Int) (gs : List Int) (a k : Nat) : Int := iter (fun x t => if hasB a x then min t (nth gs x) else t) M k
def sumF (M : Int) (xs gs : List Int) (k : Nat) : Int := iter (fun a t => t + nth xs a * lowF M gs a gs.length) 0 k
/-- gains with the other sign -/
def negTo (gs : List Int) (k : Nat) : List Int := iter (fun j l => l ++ [-(nth gs j)]) [] k
theorem negTo_len (gs : List Int) (k : Nat) : (negTo gs k).length = k := by
  induction k with
  | zero => rfl
  | succ k ih => show (negTo gs k ++ [_]).length = _; rw [List.length_append, ih]; rfl
theorem negTo_nth (gs : List Int) (k j : Nat) (h : j < k) : nth (negTo gs k) j = -(nth gs j) := by
  induction k with
  | zero => omega
  | succ k ih =>
    show nth (negTo gs k ++ [-(nth gs k)]) j = _
    by_cases e : j < k
    · rw [nth_append_left _ _ _ (by rw [negTo_len]; exact e)]; exact ih e
    · have e2 : j = k := by omega
      subst e2
      have hl := negTo_len gs j
      rw [nth_eq _ _ (by simp [hl])]
      simp [hl]
theorem lowF_bd (M : Int) (hM : 0 ≤ M ∧ M ≤ 2000) (gs : List Int) (a n : Nat) (h : ∀ k, k < n → inG (nth gs k)) (k : Nat) (hk : k ≤ n) : inG (lowF M gs a k) := by
  induction k with
  | zero => exact (⟨by show -2000 ≤ M; omega, by show M ≤ 2000; omega⟩ : inG M)
  | succ k ih =>
    have h1 := ih (by omega)
    have h2 := h k (by omega)
    show inG (if hasB a k then min (lowF M gs a k) (nth gs k) else lowF M gs a k)
    split
    · exact min_inG _ _ h1 h2
    · exact h1
theorem sumF_bd (M : Int) (hM : 0 ≤ M ∧ M ≤ 2000) (xs gs : List Int) (n : Nat) (hx : ∀ k, k < n → 0 ≤ nth xs k ∧ nth xs k ≤ 1000000) (h : ∀ k, k < gs.length → inG (nth gs k)) (k : Nat) (hk : k ≤ n) : -2000000000 * (k : Int) ≤ sumF M xs gs k ∧ sumF M xs gs k ≤ 2000000000 * (k : Int) := by
  induction k with
  | zero => exact ⟨by simp [sumF, iter], by simp [sumF, iter]⟩
  | succ k ih =>
    have h1 := ih (by omega)
    have h2 := hx k (by omega)
    have h3 := lowF_bd M hM gs k gs.length h gs.length (Nat.le_refl _)
    have h4 := mul_bd _ _ h2.1 h2.2 h3.1 h3.2
    show _ ≤ sumF M xs gs k + nth xs k * lowF M gs k gs.length ∧ sumF M xs gs k + nth xs k * lowF M gs k gs.length ≤ _
    push_cast
    omega
theorem best_minF (M : Int) (gs : List Int) (a n : Nat) (h : ∀ k, k < n → nth gs k ≤ M) (k : Nat) (hk : k ≤ n) :
    ((∀ j, j < k → hasB a j = false) ∧ bestTo min gs a k = (0, false) ∧ lowF M gs a k = M) ∨ bestTo min gs a k = (lowF M gs a k, true) := by
  induction k with
  | zero => exact .inl ⟨fun j hj => by omega, rfl, rfl⟩
  | succ k ih =>
    have hs : bestTo min gs a (k + 1) = if hasB a k then (if (bestTo min gs a k).2 then min (bestTo min gs a k).1 (nth gs k) else nth gs k, true) else bestTo min gs a k := rfl
    have hl : lowF M gs a (k + 1) = if hasB a k then min (lowF M gs a k) (nth gs k) else lowF M gs a k := rfl
    have hg := h k (by omega)
    cases ht : hasB a k
    · rw [ht] at hs hl
      rw [hs, hl]
      rcases ih (by omega) with ⟨h1, h2, h3⟩ | h1
      · refine .inl ⟨fun j hj => ?_, h2, h3⟩
        by_cases e : j = k
        · rw [e]; exact ht
        · exact h1 j (by omega)
      · exact .inr h1
    · rw [ht] at hs hl
      rw [hs, hl]
      rcases ih (by omega) with ⟨h1, h2, h3⟩ | h1
      · right
        rw [h2, h3]
        show (nth gs k, true) = (min M (nth gs k), true)
        congr 1; omega
      · right; rw [h1]; rfl
theorem best_maxF (M : Int) (gs ng : List Int) (a n : Nat) (h : ∀ k, k < n → -M ≤ nth gs k) (hn : ∀ k, k < n → nth ng k = -(nth gs k)) (k : Nat) (hk : k ≤ n) :
    ((∀ j, j < k → hasB a j = false) ∧ bestTo max gs a k = (0, false) ∧ lowF M ng a k = M) ∨ bestTo max gs a k = (-(lowF M ng a k), true) := by
  induction k with
  | zero => exact .inl ⟨fun j hj => by omega, rfl, rfl⟩
  | succ k ih =>
    have hs : bestTo max gs a (k + 1) = if hasB a k then (if (bestTo max gs a k).2 then max (bestTo max gs a k).1 (nth gs k) else nth gs k, true) else bestTo max gs a k := rfl
    have hl : lowF M ng a (k + 1) = if hasB a k then min (lowF M ng a k) (nth ng k) else lowF M ng a k := rfl
    have hg := h k (by omega)
    have hg2 := hn k (by omega)
    cases ht : hasB a k
    · rw [ht] at hs hl
      rw [hs, hl]
      rcases ih (by omega) with ⟨h1, h2, h3⟩ | h1
      · refine .inl ⟨fun j hj => ?_, h2, h3⟩
        by_cases e : j = k
        · rw [e]; exact ht
        · exact h1 j (by omega)
      · exact .inr h1
    · rw [ht] at hs hl
      rw [hs, hl]
      rcases ih (by omega) with ⟨h1, h2, h3⟩ | h1
      · right
        rw [h2, h3]
        show (nth gs k, true) = (-(min M (nth ng k)), true)
        congr 1; omega
      · right
        rw [h1]
        show (max (-(lowF M ng a k)) (nth gs k), true) = (-(min (lowF M ng a k) (nth ng k)), true)
        congr 1; omega
theorem gain_minF (M : Int) (xs gs : List Int) (h0 : nth xs 0 = 0) (h : ∀ k, k < gs.length → nth gs k ≤ M) (n : Nat) (hn : n ≤ 2 ^ gs.length) (k : Nat) (hk : k ≤ n) : gainTo min xs gs k = sumF M xs gs k := by
  induction k with
  | zero => rfl
  | succ k ih =>
    show gainTo min xs gs k + nth xs k * (bestTo min gs k gs.length).1 = sumF M xs gs k + nth xs k * lowF M gs k gs.length
    rw [ih (by omega)]
    by_cases e : k = 0
    · subst e; rw [h0, Int.zero_mul, Int.zero_mul]
    · rcases best_minF M gs k gs.length h gs.length (Nat.le_refl _) with ⟨h1, _, _⟩ | h1
      · obtain ⟨j, hj, hb⟩ := some_bit e (show k < 2 ^ gs.length by omega)
        rw [h1 j hj] at hb; cases hb
      · rw [h1]
theorem gain_maxF (M : Int) (xs gs : List Int) (h0 : nth xs 0 = 0) (h : ∀ k, k < gs.length → -M ≤ nth gs k) (n : Nat) (hn : n ≤ 2 ^ gs.length) (k : Nat) (hk : k ≤ n) : gainTo max xs gs k = -(sumF M xs (negTo gs gs.length) k) := by
  induction k with
  | zero => rfl
  | succ k ih =>
    show gainTo max xs gs k + nth xs k * (bestTo max gs k gs.length).1 = -(sumF M xs (negTo gs gs.length) k + nth xs k * lowF M (negTo gs gs.length) k (negTo gs gs.length).length)
    rw [ih (by omega), negTo_len]
    by_cases e : k = 0
    · subst e; rw [h0, Int.zero_mul, Int.zero_mul]; omega
    · rcases best_maxF M gs (negTo gs gs.length) k gs.length h (fun j hj => negTo_nth _ _ _ hj) gs.length (Nat.le_refl _) with ⟨h1, _, _⟩ | h1
      · obtain ⟨j, hj, hb⟩ := some_bit e (show k < 2 ^ gs.length by omega)
        rw [h1 j hj] at hb; cases hb
      · rw [h1]
        show _ + nth xs k * -(lowF M (negTo gs gs.length) k gs.length) = _
        rw [Int.mul_neg]; omega
/-- the first index below n at which f is greatest -/
def argTo (f : Nat → Int) (n : Nat) : Nat := iter (fun i b => if f b < f i then i else b) 0 n
theorem argTo_lt (f : Nat → Int) (n : Nat) (h : 0 < n) : argTo f n < n := by
  induction n with
  | zero => omega
  | succ n ih =>
    show (if f (argTo f n) < f n then n else argTo f n) < n + 1
    split
    · omega
    · by_cases e : n = 0
      · subst e; show 0 < 1; omega
      · have := ih (by omega); omega
theorem argTo_le (f : Nat → Int) (n : Nat) : argTo f n ≤ n := by
  by_cases h : 0 < n
  · exact Nat.le_of_lt (argTo_lt f n h)
  · obtain rfl : n = 0 := by omega
    exact Nat.le_refl _
theorem argTo_congr (f g : Nat → Int) (n : Nat) (h : ∀ k, k < n → f k = g k) : argTo f n = argTo g n := by
  induction n with
  | zero => rfl
  | succ n ih =>
    have e := ih fun k hk => h k (by omega)
    show (if f (argTo f n) < f n then n else argTo f n) = (if g (argTo g n) < g n then n else argTo g n)
    by_cases h0 : n = 0
    · subst h0
      show (if f 0 < f 0 then 0 else 0) = (if g 0 < g 0 then 0 else 0)
      rw [if_neg (by omega), if_neg (by omega)]
    · have h1 := argTo_lt f n (by omega)
      rw [e, h n (by omega), h (argTo g n) (by rw [← e]; omega)]
theorem max_inG (x y : Int) (h1 : inG x) (h2 : inG y) : inG (max x y) := by unfold inG at *; omega
end Go.Proofs.Ytnbjhmghobljaaa
