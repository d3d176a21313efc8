/- spec.MoveMass; SwapPairs. -/
import Derived.Test.YtaplpgmkobokhaaS5
set_option linter.unusedSimpArgs false
set_option linter.unusedVariables false
namespace Go.Proofs.Ytaplpgmkobokhaa
open Go.RowKit
def swapM (s : Int) (xs : List Int) : MR := if massOk s xs && (s == 4) then moveM s xs [0, 2, 1, 3] else MR.no
end Go.Proofs.Ytaplpgmkobokhaa
