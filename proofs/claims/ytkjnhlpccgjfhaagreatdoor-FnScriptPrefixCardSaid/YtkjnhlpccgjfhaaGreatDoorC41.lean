/- A part of the proof: lemmas (my texts, shortened by a program of mine). -/
import Derived.Test.YtkjnhlpccgjfhaaGreatDoorTie
import Derived.SevenTiedAt
import Derived.Test.YtkjnhlpccgjfhaaGreatDoorC39
set_option linter.all false
set_option maxRecDepth 100000
set_option maxHeartbeats 4000000
namespace Go.Proofs.YtkjnhlpccgjfhaaGreatDoor
open Go.ChangeShapes Go.WideShapes Go.ChangeAt Go.RowKit Go.Joins
open Go.Proofs.Tryz
open Bool renaming true->ae
variable {p q:Prop}
theorem Oj:joinedFacts prog 4 Tryz.f4 Rows.fnScriptPrefixSpec Rows.fnScriptPrefixRow=ae:=by
 exact yd
end Go.Proofs.YtkjnhlpccgjfhaaGreatDoor
