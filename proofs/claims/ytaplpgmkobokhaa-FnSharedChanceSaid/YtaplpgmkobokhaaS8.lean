/- The sides of masses of pairs: FirstOf, SecondOf both. -/
import Derived.Test.YtaplpgmkobokhaaS7
import Derived.Test.YtaplpgmkobokhaaS3
import Derived.Test.YtaplpgmkobokhaaS6
set_option linter.unusedSimpArgs false
set_option linter.unusedVariables false
namespace Go.Proofs.Ytaplpgmkobokhaa
open Go.RowKit
def sideM (second : Bool) (s : Int) (xs : List Int) : MR := if massOk s xs && (s == 4) then coarseM s xs (sideL second) 2 else MR.no
theorem sideM_bad {second : Bool} {s : Int} {xs : List Int} (h : massOk s xs = false ∨ s ≠ 4) : sideM second s xs = MR.no := by
  rcases h with h | h <;> simp [sideM, h]
theorem sideM_ok {second : Bool} {s : Int} {xs : List Int} (h : massOk s xs = true) (hs : s = 4) : sideM second s xs = coarseM s xs (sideL second) 2 := by
  subst hs; unfold sideM; rw [h]; rfl
theorem sideM_len (second : Bool) (s : Int) (xs : List Int) : (sideM second s xs).parts.length ≤ 100000000 := by
  unfold sideM; split
  · have := coarseM_len s xs (sideL second) 2; omega
  · simp [MR.no]
end Go.Proofs.Ytaplpgmkobokhaa
