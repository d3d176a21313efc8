/- What two masses tell together: ConjoinMasses both. -/
import Derived.Test.YtobeeomeebicnaaDoorW15
import Derived.Test.YtobeeomeebicnaaDoorS2
set_option linter.unusedSimpArgs false
set_option linter.unusedVariables false
namespace Go.Proofs.YtobeeomeebicnaaDoor
open Go.RowKit
/-- set a of one mass with the first j sets of another one: the products of their parts, each put where T says -/
def togIn (T : Nat → Nat → Nat) (xs ys : List Int) (a : Nat) (l : List Int) (j : Nat) : List Int := iter (fun b l => l.set (T a b) (nth l (T a b) + nth xs a * nth ys b)) l j
def togTo (T : Nat → Nat → Nat) (xs ys : List Int) (N m k : Nat) : List Int := iter (fun a l => togIn T xs ys a l m) (List.replicate N 0) k
theorem togIn_len (T : Nat → Nat → Nat) (xs ys : List Int) (a : Nat) (l : List Int) (j : Nat) : (togIn T xs ys a l j).length = l.length := by
  induction j with
  | zero => rfl
  | succ j ih => show ((togIn T xs ys a l j).set _ _).length = _; rw [List.length_set]; exact ih
theorem togTo_len (T : Nat → Nat → Nat) (xs ys : List Int) (N m k : Nat) : (togTo T xs ys N m k).length = N := by
  induction k with
  | zero => simp [togTo, iter]
  | succ k ih => show (togIn T xs ys k (togTo T xs ys N m k) m).length = N; rw [togIn_len]; exact ih
theorem part_mul (x y : Int) (h0 : 0 ≤ x) (h1 : x ≤ 1000000) (h2 : 0 ≤ y) (h3 : y ≤ 1000000) : 0 ≤ x * y ∧ x * y ≤ 1000000000000 := by
  refine ⟨Int.mul_nonneg h0 h2, ?_⟩
  have := Int.mul_le_mul h1 h3 h2 (by omega)
  omega
theorem togIn_bd (T : Nat → Nat → Nat) (xs ys : List Int) (a : Nat) (l : List Int) (M : Int) (m : Nat) (hx : 0 ≤ nth xs a ∧ nth xs a ≤ 1000000) (hy : ∀ b, b < m → 0 ≤ nth ys b ∧ nth ys b ≤ 1000000) (hl : ∀ p, 0 ≤ nth l p ∧ nth l p ≤ M) (j : Nat) (hj : j ≤ m) (p : Nat) :
    0 ≤ nth (togIn T xs ys a l j) p ∧ nth (togIn T xs ys a l j) p ≤ M + 1000000000000 * (j : Int) := by
  induction j generalizing p with
  | zero => have := hl p; show 0 ≤ nth l p ∧ nth l p ≤ _; omega
  | succ j ih =>
    have h1 := ih (by omega) p
    have h2 := ih (by omega) (T a j)
    have h3 := hy j (by omega)
    have h4 := part_mul _ _ hx.1 hx.2 h3.1 h3.2
    show 0 ≤ nth ((togIn T xs ys a l j).set (T a j) (nth (togIn T xs ys a l j) (T a j) + nth xs a * nth ys j)) p ∧ nth ((togIn T xs ys a l j).set (T a j) (nth (togIn T xs ys a l j) (T a j) + nth xs a * nth ys j)) p ≤ _
    rw [nth_set]
    push_cast
    split <;> omega
theorem togTo_bd (T : Nat → Nat → Nat) (xs ys : List Int) (N n m : Nat) (hm : m ≤ 16) (hx : ∀ a, a < n → 0 ≤ nth xs a ∧ nth xs a ≤ 1000000) (hy : ∀ b, b < m → 0 ≤ nth ys b ∧ nth ys b ≤ 1000000) (k : Nat) (hk : k ≤ n) (p : Nat) :
    0 ≤ nth (togTo T xs ys N m k) p ∧ nth (togTo T xs ys N m k) p ≤ 16000000000000 * (k : Int) := by
  induction k generalizing p with
  | zero => show 0 ≤ nth (List.replicate N 0) p ∧ nth (List.replicate N 0) p ≤ _; rw [nth_replicate]; omega
  | succ k ih =>
    have h1 := togIn_bd T xs ys k (togTo T xs ys N m k) (16000000000000 * (k : Int)) m (hx k (by omega)) hy (fun p => ih (by omega) p) m (Nat.le_refl _) p
    show 0 ≤ nth (togIn T xs ys k (togTo T xs ys N m k) m) p ∧ nth (togIn T xs ys k (togTo T xs ys N m k) m) p ≤ _
    push_cast
    omega
def oneQ (s : Int) (xs : List Int) (u : Int) (ys : List Int) : Bool := massOk s xs && (massOk u ys && (s == u))
/-- what two masses tell together, put where T says -/
def togM (T : Nat → Nat → Nat) (s : Int) (xs : List Int) (u : Int) (ys : List Int) : MR := if oneQ s xs u ys then mkMass s (togTo T xs ys xs.length ys.length xs.length) else MR.no
theorem togM_bad {T : Nat → Nat → Nat} {s : Int} {xs : List Int} {u : Int} {ys : List Int} (h : oneQ s xs u ys = false) : togM T s xs u ys = MR.no := by simp [togM, h]
theorem togM_len (T : Nat → Nat → Nat) (s : Int) (xs : List Int) (u : Int) (ys : List Int) : (togM T s xs u ys).parts.length ≤ 16 := by
  unfold togM; split
  · rename_i h
    simp only [oneQ, Bool.and_eq_true] at h
    have h1 : (mkMass s (togTo T xs ys xs.length ys.length xs.length)).parts.length ≤ (togTo T xs ys xs.length ys.length xs.length).length := by
      unfold mkMass; split
      · simp [MR.no]
      · split <;> simp [MR.no]
    rw [togTo_len] at h1
    have := (massOk_facts' h.1).2.2.1
    omega
  · simp [MR.no]
theorem oneQ_facts {s : Int} {xs : List Int} {u : Int} {ys : List Int} (h : oneQ s xs u ys = true) : massOk s xs = true ∧ massOk u ys = true ∧ u = s ∧ ys.length = xs.length := by
  simp only [oneQ, Bool.and_eq_true, beq_iff_eq] at h
  obtain ⟨h1, h2, h3⟩ := h
  refine ⟨h1, h2, h3.symm, ?_⟩
  rw [(massOk_facts' h1).2.1, (massOk_facts' h2).2.1, h3]
end Go.Proofs.YtobeeomeebicnaaDoor
