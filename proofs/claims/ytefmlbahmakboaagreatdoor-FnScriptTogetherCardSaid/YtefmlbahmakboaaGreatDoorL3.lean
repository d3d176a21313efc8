/- Contracts of the laws' helpers on lists of lists: sizes, copies, comparison. -/
import Derived.Test.YtefmlbahmakboaaGreatDoorL2
import Derived.Test.YtefmlbahmakboaaGreatDoorW6
import Derived.Deep.OwnRows
set_option linter.unusedSimpArgs false
set_option linter.unusedVariables false
namespace Go.Proofs.YtefmlbahmakboaaGreatDoor
open Go.RowKit
def totTo (xss : List (List Int)) (k : Nat) : Nat := iter (fun j t => t + (nthL xss j).length) 0 k
theorem totTo_succ (xss : List (List Int)) (k : Nat) : totTo xss (k + 1) = totTo xss k + (nthL xss k).length := rfl
theorem totTo_mono (xss : List (List Int)) {j k : Nat} (h : j ≤ k) : totTo xss j ≤ totTo xss k := by
  induction k with
  | zero => obtain rfl : j = 0 := by omega
            exact Nat.le_refl _
  | succ k ih =>
    rw [totTo_succ]
    by_cases e : j = k + 1
    · subst e; rw [totTo_succ]; exact Nat.le_refl _
    · have := ih (by omega); omega
/-- what a list of lists leaves of a budget -/
def leavesL (left : Int) (xss : List (List Int)) : Int := if left - ((xss.length + totTo xss xss.length : Nat) : Int) < 0 then -1 else left - ((xss.length + totTo xss xss.length : Nat) : Int)
theorem info_ints : (Tryz.prog.info? 23).map (fun i => (i.zero, i.size, i.bytes)) = some (some (.slice none 0 0), 1, 24) := by kernel_rfl
/-- a slice at block B owns lists: its cells hold vals, each an owned row, no two the same block -/
structure Mat (w : World) (B n : Nat) (vals : Nat → Value) (xss : List (List Int)) : Prop where
  row : w.rowIs B 23 n vals
  rows : ∀ k, k < n → Row w (B + 1) (vals k) (nthL xss k)
  apart : ∀ j k, j < k → k < n → ∀ b, (vals j).ownBlock = some b → (vals k).ownBlock ≠ some b
theorem Mat.rowsAt {w : World} {B n : Nat} {vals : Nat → Value} {xss : List (List Int)} (h : Mat w B n vals xss) (hl : xss.length = n) (hc : n ≤ 9223372036854775807) : RowsAt w (some ⟨B, 0, none⟩) n xss := by
  refine ⟨hl, hc, fun _ => ⟨B, 0, rfl, h.row.lt, fun k hk => ?_⟩⟩
  obtain ⟨a', n', c', e, hi⟩ := (h.rows k hk).ints
  exact ⟨a', n', c', by rw [Nat.zero_add, h.row.cell hk, e], hi⟩
theorem Mat.below {w w' : World} {B n : Nat} {vals : Nat → Value} {xss : List (List Int)} (h : Mat w B n vals xss) (hb : Below w.heap.size w w') : Mat w' B n vals xss :=
  ⟨h.row.of_block (hb.block _ h.row.lt), fun k hk => (h.rows k hk).below hb, h.apart⟩
theorem len_le_tot (xss : List (List Int)) {k : Nat} (hk : k < xss.length) : (nthL xss k).length ≤ totTo xss xss.length := by
  have := totTo_mono xss (show k + 1 ≤ xss.length by omega)
  rw [totTo_succ] at this; omega
end Go.Proofs.YtefmlbahmakboaaGreatDoor
