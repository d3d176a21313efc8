/- Chances and means: isChance, IsChance, LowestMean, MeanOf both. -/
import Derived.Test.YtobeeomeebicnaaDoorW12
import Derived.Test.YtobeeomeebicnaaDoorW11
set_option linter.unusedSimpArgs false
set_option linter.unusedVariables false
namespace Go.Proofs.YtobeeomeebicnaaDoor
open Go.RowKit
/-- is this a set of one answer? -/
def single (a : Nat) : Bool := a == 1 || a == 2 || a == 4 || a == 8
def chanceOk (s : Int) (xs : List Int) : Bool := massOk s xs && allN (fun a => (nth xs a == 0) || single a) xs.length
/-- how many answers has a set? -/
def cntTo (a k : Nat) : Nat := iter (fun j t => t + if hasB a j then 1 else 0) 0 k
def cnt (a : Nat) : Nat := cntTo a 30
theorem cnt_singleF : ∀ a : Fin 16, (cnt a.val == 1) = single a.val := by decide
theorem cnt_single (a : Nat) (h : a < 16) : (cnt a == 1) = single a := cnt_singleF ⟨a, h⟩
theorem cntTo_le (a k : Nat) : cntTo a k ≤ k := by
  induction k with
  | zero => exact Nat.le_refl _
  | succ k ih => show cntTo a k + (if hasB a k then 1 else 0) ≤ k + 1; split <;> omega
theorem cntTo_past (a k m : Nat) (h : a < 2 ^ k) (hk : k ≤ m) : cntTo a m = cntTo a k := by
  induction m with
  | zero => obtain rfl : k = 0 := by omega
            rfl
  | succ m ih =>
    by_cases e : k = m + 1
    · rw [e]
    · show cntTo a m + (if hasB a m then 1 else 0) = _
      have : hasB a m = false := Nat.testBit_lt_two_pow (Nat.lt_of_lt_of_le h (Nat.pow_le_pow_right (by decide) (by omega)))
      rw [this, ih (by omega)]; rfl
theorem and_zero1 (q : Nat) (hq : q < 1000000000) : bits BinOp.and IntKind.i64 (q : Int) 1 = if q.testBit 0 then 1 else 0 := by
  have := and_one q 0 hq
  simpa using this
theorem chanceOk_bad {s : Int} {xs : List Int} (h : massOk s xs = false) : chanceOk s xs = false := by simp [chanceOk, h]
theorem chance_normal {s : Int} {xs : List Int} (h : chanceOk s xs = true) : massOk s xs = true ∧ nth xs 0 = 0 := by
  simp only [chanceOk, Bool.and_eq_true] at h
  refine ⟨h.1, ?_⟩
  have hl := massOk_facts' h.1
  have := nsets_le hl.1
  have h2 := (allN_iff _ _).1 h.2 0 (by omega)
  simpa [single] using h2
/-- the sets that have a part -/
def focTo (xs : List Int) (k : Nat) : List Int := iter (fun a l => if nth xs a = 0 then l else l ++ [(a : Int)]) [] k
theorem focTo_succ (xs : List Int) (k : Nat) : focTo xs (k + 1) = if nth xs k = 0 then focTo xs k else focTo xs k ++ [(k : Int)] := rfl
theorem focTo_len (xs : List Int) (k : Nat) : (focTo xs k).length ≤ k := by
  induction k with
  | zero => exact Nat.le_refl _
  | succ k ih =>
    rw [focTo_succ]; split
    · omega
    · simp; omega
theorem focTo_at (xs : List Int) (k j : Nat) (h : j < (focTo xs k).length) : ∃ a : Nat, a < k ∧ nth (focTo xs k) j = (a : Int) ∧ nth xs a ≠ 0 := by
  induction k with
  | zero => exact absurd h (by show ¬ j < 0; omega)
  | succ k ih =>
    rw [focTo_succ] at h ⊢
    by_cases e : nth xs k = 0
    · rw [if_pos e] at h ⊢
      obtain ⟨a, h1, h2⟩ := ih h
      exact ⟨a, by omega, h2⟩
    · rw [if_neg e] at h ⊢
      by_cases e2 : j < (focTo xs k).length
      · rw [nth_append_left _ _ _ e2]
        obtain ⟨a, h1, h2⟩ := ih e2
        exact ⟨a, by omega, h2⟩
      · have : j = (focTo xs k).length := by simp at h; omega
        subst this
        exact ⟨k, by omega, by rw [nth_eq _ _ (by simp)]; simp, e⟩
theorem focTo_mem (xs : List Int) (k a : Nat) (h : a < k) (hz : nth xs a ≠ 0) : ∃ j, j < (focTo xs k).length ∧ nth (focTo xs k) j = (a : Int) := by
  induction k with
  | zero => omega
  | succ k ih =>
    rw [focTo_succ]
    by_cases e : nth xs k = 0
    · rw [if_pos e]
      have : a ≠ k := by rintro rfl; exact hz e
      exact ih (by omega)
    · rw [if_neg e]
      by_cases e2 : a = k
      · subst e2
        exact ⟨(focTo xs a).length, by simp, by rw [nth_eq _ _ (by simp)]; simp⟩
      · obtain ⟨j, h1, h2⟩ := ih (by omega)
        exact ⟨j, by simp; omega, by rw [nth_append_left _ _ _ h1]; exact h2⟩
theorem single_andF : ∀ a : Fin 16, if single a.val then a.val ≠ 0 ∧ bits BinOp.and IntKind.i64 (a.val : Int) ((a.val : Int) - 1) = 0 else a.val = 0 ∨ bits BinOp.and IntKind.i64 (a.val : Int) ((a.val : Int) - 1) ≠ 0 := by decide
theorem single_and (a : Nat) (h : a < 16) : if single a then a ≠ 0 ∧ bits BinOp.and IntKind.i64 (a : Int) ((a : Int) - 1) = 0 else a = 0 ∨ bits BinOp.and IntKind.i64 (a : Int) ((a : Int) - 1) ≠ 0 := single_andF ⟨a, h⟩
/-- of the sets that have a part each one has one answer -/
def focOk (xs : List Int) (n : Nat) : Bool := allN (fun j => single (nth (focTo xs n) j).toNat) (focTo xs n).length
theorem focOk_eq (xs : List Int) (n : Nat) : focOk xs n = allN (fun a => (nth xs a == 0) || single a) n := by
  rw [Bool.eq_iff_iff, focOk, allN_iff, allN_iff]
  constructor
  · intro h a ha
    by_cases hz : nth xs a = 0
    · simp [hz]
    · obtain ⟨j, hj, he⟩ := focTo_mem xs n a ha hz
      have := h j hj
      rw [he] at this
      simp at this
      simp [this]
  · intro h j hj
    obtain ⟨a, ha, he, hz⟩ := focTo_at xs n j hj
    have := h a ha
    rw [he]
    simpa [hz] using this
end Go.Proofs.YtobeeomeebicnaaDoor
