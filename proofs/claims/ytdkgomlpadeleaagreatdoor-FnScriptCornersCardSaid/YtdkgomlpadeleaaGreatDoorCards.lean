/-
  DERIVED. GIVEN WITH THE SEED: THE CARDS: each row of YtdkgomlpadeleaaGreatDoorRows.lean that lists a variable, with what it lists TIED to the program's text (the seventh form; the later family's looks); each row that meets fmt, with fmt's text TOLD by the authors' own Lean function (tested against real Go, not proved from fmt's source: count such statements apart). THE CARD IS WHAT COUNTS. Prove the row's statement (the work); the ties are given (YtdkgomlpadeleaaGreatDoorTie.lean); close each card by the builder's one call (the guide's Derived/Test/ToyasCard.lean, 'card_holds'). Laid BY PROGRAM, IN A SANDBOX (cutbox-door.mjs). By AI agents, Wed Nov 11 2026. No macro, syntax, notation, axiom, sorry.
-/
import Derived.Test.YtdkgomlpadeleaaGreatDoorRows
import GoSem.ClaimSeven
namespace Go.Proofs.YtdkgomlpadeleaaGreatDoor
namespace Rows

/-- THE TIED CARD OF 'laws.FnScriptPairs'. -/
def fnScriptPairsCard : Claim7 := { stood := { row := fnScriptPairsRow, standIns := [], harness := (true, "c2983c7db3690d39c39610fbf875d4539dee43eae55c1de80648fc1d28868ad2"), looks := true }, kinds := [], alts := [], laidByText := true, laidKinds := [.data, .data, .data, .data, .sentinel, .sentinel, .pinned], laidTests := true, laidLooks := .later }
def FnScriptPairsCardSaid : Prop := Claim7.holds Tryz.pinned (.plain (OpenSpec.ofChange fnScriptPairsSpec)) fnScriptPairsCard

/-- THE TIED CARD OF 'laws.FnScriptCorners'. -/
def fnScriptCornersCard : Claim7 := { stood := { row := fnScriptCornersRow, standIns := [], harness := (true, "c2983c7db3690d39c39610fbf875d4539dee43eae55c1de80648fc1d28868ad2"), looks := true }, kinds := [], alts := [], laidByText := true, laidKinds := [.data, .data, .data, .data, .sentinel, .sentinel, .pinned], laidTests := true, laidLooks := .later }
def FnScriptCornersCardSaid : Prop := Claim7.holds Tryz.pinned (.plain (OpenSpec.ofChange fnScriptCornersSpec)) fnScriptCornersCard

/-- THE SECOND FORM's CARD OF 'laws.FnScriptPairs'. -/
def fnScriptPairsUptoCard : Claim7 := { stood := { row := fnScriptPairsUptoRow, standIns := [], harness := (true, "c2983c7db3690d39c39610fbf875d4539dee43eae55c1de80648fc1d28868ad2"), looks := true }, kinds := [], alts := [], laidByText := true, laidKinds := [.data, .data, .data, .data, .sentinel, .sentinel, .pinned], laidTests := true, laidLooks := .later }
def FnScriptPairsUptoCardSaid : Prop := Claim7.holds Tryz.pinned (.plain (OpenSpec.upto fnScriptPairsSpec)) fnScriptPairsUptoCard

/-- THE SECOND FORM's CARD OF 'laws.FnScriptCorners'. -/
def fnScriptCornersUptoCard : Claim7 := { stood := { row := fnScriptCornersUptoRow, standIns := [], harness := (true, "c2983c7db3690d39c39610fbf875d4539dee43eae55c1de80648fc1d28868ad2"), looks := true }, kinds := [], alts := [], laidByText := true, laidKinds := [.data, .data, .data, .data, .sentinel, .sentinel, .pinned], laidTests := true, laidLooks := .later }
def FnScriptCornersUptoCardSaid : Prop := Claim7.holds Tryz.pinned (.plain (OpenSpec.upto fnScriptCornersSpec)) fnScriptCornersUptoCard
end Rows
end Go.Proofs.YtdkgomlpadeleaaGreatDoor
