/- Masses of one set and of rules. -/
import Derived.Test.YtnbjhmghobljaaaL1
set_option linter.unusedSimpArgs false
set_option linter.unusedVariables false
namespace Go.Proofs.Ytnbjhmghobljaaa
open Go.RowKit
/-- the parts of a mass that supports set a by num of den -/
def simpleParts (n : Nat) (a : Nat) (num den : Int) : List Int :=
  ((List.replicate n (0 : Int)).set a num).set (n - 1) (nth ((List.replicate n (0 : Int)).set a num) (n - 1) + (den - num))
def simpleM (s a num den : Int) : MR := if setOk s a && shareOk num den then mkMass s (simpleParts (nsets s) a.toNat num den) else MR.no
theorem simpleParts_len (n a : Nat) (num den : Int) : (simpleParts n a num den).length = n := by simp [simpleParts]
theorem simpleParts_nth (n a : Nat) (num den : Int) (k : Nat) (hk : k < n) : nth (simpleParts n a num den) k = (if a = k then num else 0) + (if n - 1 = k then den - num else 0) := by
  unfold simpleParts
  rw [nth_set, nth_set, nth_set, nth_replicate, nth_replicate]
  simp only [List.length_set, List.length_replicate]
  by_cases h1 : n - 1 = k
  · subst h1; rw [if_pos ⟨rfl, hk⟩, if_pos rfl]
    by_cases h2 : a = n - 1 <;> simp [h2, hk]; try omega
  · rw [if_neg (by omega), if_neg h1]
    by_cases h2 : a = k <;> simp [h2, hk]
theorem simpleParts_spec (n a : Nat) (num den : Int) (ha : a < n) :
    ((List.replicate n (0 : Int)).set (n - 1) (den - num)).set a (nth ((List.replicate n (0 : Int)).set (n - 1) (den - num)) a + num) = simpleParts n a num den := by
  apply ext_nth
  · simp [simpleParts]
  · intro k hk
    have hk' : k < n := by simpa using hk
    rw [simpleParts_nth _ _ _ _ _ hk', nth_set, nth_set, nth_set, nth_replicate, nth_replicate]
    simp only [List.length_set, List.length_replicate]
    by_cases h1 : a = k
    · subst h1
      by_cases h2 : n - 1 = a <;> simp [h2, hk']; omega
    · by_cases h2 : n - 1 = k <;> simp [h1, h2, hk']
theorem shareOk_bd {num den : Int} (h : shareOk num den = true) : 0 ≤ num ∧ num ≤ den ∧ 1 ≤ den ∧ den ≤ 1000000000 := by
  simp only [shareOk, fracOk, Bool.and_eq_true, inB_iff] at h; omega
theorem simpleParts_bd (n a : Nat) (num den : Int) (h : shareOk num den = true) (k : Nat) (hk : k < n) : 0 ≤ nth (simpleParts n a num den) k ∧ nth (simpleParts n a num den) k ≤ 4000000000000000000 := by
  have := shareOk_bd h
  rw [simpleParts_nth _ _ _ _ _ hk]
  split <;> split <;> omega
theorem simpleM_set {s a num den : Int} (h : setOk s a = false) : simpleM s a num den = MR.no := by simp [simpleM, h]
theorem simpleM_share {s a num den : Int} (h : shareOk num den = false) : simpleM s a num den = MR.no := by simp [simpleM, h]
theorem simpleM_ok {s a num den : Int} (h1 : setOk s a = true) (h2 : shareOk num den = true) : simpleM s a num den = mkMass s (simpleParts (nsets s) a.toNat num den) := by simp [simpleM, h1, h2]
theorem setOk_bd {s a : Int} (h : setOk s a = true) : okSize s = true ∧ 0 ≤ a ∧ a ≤ (nsets s : Int) - 1 := by
  simp only [setOk, Bool.and_eq_true, inB_iff] at h; exact ⟨h.1, h.2.1, h.2.2⟩
/-- the mass of pairs of a rule -/
def ruleM (x y num den : Int) : MR := if inB 0 1 x && inB 0 1 y then simpleM 4 (15 - 2 ^ (2 * x + 1 - y).toNat) num den else MR.no
theorem ruleM_bad {x y num den : Int} (h : inB 0 1 x = false ∨ inB 0 1 y = false) : ruleM x y num den = MR.no := by
  rcases h with h | h <;> simp [ruleM, h]
theorem inB01 {x : Int} (h : inB 0 1 x = true) : x = 0 ∨ x = 1 := by have := inB_iff.1 h; omega
theorem xor_rule : bits BinOp.xor IntKind.i64 ((nsets 4 : Int) - 1) 1 = 14 ∧ bits BinOp.xor IntKind.i64 ((nsets 4 : Int) - 1) 2 = 13 ∧ bits BinOp.xor IntKind.i64 ((nsets 4 : Int) - 1) 4 = 11 ∧ bits BinOp.xor IntKind.i64 ((nsets 4 : Int) - 1) 8 = 7 := by decide
end Go.Proofs.Ytnbjhmghobljaaa
