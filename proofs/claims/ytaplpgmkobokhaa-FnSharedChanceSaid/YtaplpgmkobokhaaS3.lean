/- Masses of a question told of pairs. -/
import Derived.Test.YtaplpgmkobokhaaS2
import Derived.RegionCalls
set_option linter.unusedSimpArgs false
set_option linter.unusedVariables false
namespace Go.Proofs.Ytaplpgmkobokhaa
open Go.RowKit
def sideL (second : Bool) : List Int := if second then [0, 1, 0, 1] else [0, 0, 1, 1]
def extendM (second : Bool) (s : Int) (xs : List Int) : MR := if massOk s xs && (s == 2) then refineM s xs (sideL second) 4 else MR.no
theorem extendM_bad {second : Bool} {s : Int} {xs : List Int} (h : massOk s xs = false ∨ s ≠ 2) : extendM second s xs = MR.no := by
  rcases h with h | h <;> simp [extendM, h]
theorem extendM_ok {second : Bool} {s : Int} {xs : List Int} (h : massOk s xs = true) (hs : s = 2) : extendM second s xs = refineM s xs (sideL second) 4 := by
  subst hs; unfold extendM; rw [h]; rfl
end Go.Proofs.Ytaplpgmkobokhaa
