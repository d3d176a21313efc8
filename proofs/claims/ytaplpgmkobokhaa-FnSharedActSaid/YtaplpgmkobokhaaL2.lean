/- Contracts of the laws' helpers: sizes and copies of arguments. -/
import Derived.Test.YtaplpgmkobokhaaL1
set_option linter.unusedSimpArgs false
set_option linter.unusedVariables false
namespace Go.Proofs.Ytaplpgmkobokhaa
open Go.RowKit
/-- what a size leaves of a budget -/
def leaves (left : Int) (n : Nat) : Int := if left - (n : Int) < 0 then -1 else left - (n : Int)
/-- copied up to i -/
def copied (xs : List Int) (i : Nat) : List Int := iter (fun j l => l.set j (nth xs j)) (List.replicate xs.length 0) i
theorem copied_len (xs : List Int) (i : Nat) : (copied xs i).length = xs.length := by
  induction i with
  | zero => simp [copied, iter]
  | succ i ih => simp only [copied, iter, List.length_set] at *; exact ih
theorem copied_nth (xs : List Int) (i j : Nat) (hj : j < xs.length) : nth (copied xs i) j = if j < i then nth xs j else 0 := by
  induction i with
  | zero => simp [copied, iter, nth_replicate]
  | succ i ih =>
    show nth ((copied xs i).set i (nth xs i)) j = _
    rw [nth_set, ih, copied_len]
    by_cases e : i = j
    · subst e; simp [hj]
    · rw [if_neg (by omega)]; by_cases h : j < i
      · rw [if_pos h, if_pos (by omega)]
      · rw [if_neg h, if_neg (by omega)]
theorem copied_all (xs : List Int) : copied xs xs.length = xs := by
  apply ext_nth
  · rw [copied_len]
  · intro j hj
    rw [copied_len] at hj
    rw [copied_nth _ _ _ hj, if_pos hj]
end Go.Proofs.Ytaplpgmkobokhaa
