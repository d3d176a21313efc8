/-
  DERIVED. GIVEN WITH THE SEED: THE CARDS: each row of YtkjnhlpccgjfhaaGreatDoorRows.lean that lists a variable, with what it lists TIED to the program's text (the seventh form; the later family's looks); each row that meets fmt, with fmt's text TOLD by the authors' own Lean function (tested against real Go, not proved from fmt's source: count such statements apart). THE CARD IS WHAT COUNTS. Prove the row's statement (the work); the ties are given (YtkjnhlpccgjfhaaGreatDoorTie.lean); close each card by the builder's one call (the guide's Derived/Test/ToyasCard.lean, 'card_holds'). Laid BY PROGRAM, IN A SANDBOX (cutbox-door.mjs). By AI agents, Wed Nov 11 2026. No macro, syntax, notation, axiom, sorry.
-/
import Derived.Test.YtkjnhlpccgjfhaaGreatDoorRows
import GoSem.ClaimSeven
namespace Go.Proofs.YtkjnhlpccgjfhaaGreatDoor
namespace Rows

/-- THE TIED CARD OF 'laws.FnExactRunScript'. -/
def fnExactRunScriptCard : Claim7 := { stood := { row := fnExactRunScriptRow, standIns := [], harness := (true, "3057950f171a9b3087d49c9d4569832faf4ef134cff985e9d97b66f1accf5581"), looks := true }, kinds := [], alts := [], laidByText := true, laidKinds := [.data, .data, .data, .data, .sentinel, .sentinel, .pinned], laidTests := true, laidLooks := .later }
def FnExactRunScriptCardSaid : Prop := Claim7.holds Tryz.pinned (.plain (OpenSpec.ofChange fnExactRunScriptSpec)) fnExactRunScriptCard

/-- THE TIED CARD OF 'laws.FnScriptPrefix'. -/
def fnScriptPrefixCard : Claim7 := { stood := { row := fnScriptPrefixRow, standIns := [], harness := (true, "3057950f171a9b3087d49c9d4569832faf4ef134cff985e9d97b66f1accf5581"), looks := true }, kinds := [], alts := [], laidByText := true, laidKinds := [.data, .data, .data, .data, .sentinel, .sentinel, .pinned], laidTests := true, laidLooks := .later }
def FnScriptPrefixCardSaid : Prop := Claim7.holds Tryz.pinned (.plain (OpenSpec.ofChange fnScriptPrefixSpec)) fnScriptPrefixCard

/-- THE SECOND FORM's CARD OF 'laws.FnExactRunScript'. -/
def fnExactRunScriptUptoCard : Claim7 := { stood := { row := fnExactRunScriptUptoRow, standIns := [], harness := (true, "3057950f171a9b3087d49c9d4569832faf4ef134cff985e9d97b66f1accf5581"), looks := true }, kinds := [], alts := [], laidByText := true, laidKinds := [.data, .data, .data, .data, .sentinel, .sentinel, .pinned], laidTests := true, laidLooks := .later }
def FnExactRunScriptUptoCardSaid : Prop := Claim7.holds Tryz.pinned (.plain (OpenSpec.upto fnExactRunScriptSpec)) fnExactRunScriptUptoCard

/-- THE SECOND FORM's CARD OF 'laws.FnScriptPrefix'. -/
def fnScriptPrefixUptoCard : Claim7 := { stood := { row := fnScriptPrefixUptoRow, standIns := [], harness := (true, "3057950f171a9b3087d49c9d4569832faf4ef134cff985e9d97b66f1accf5581"), looks := true }, kinds := [], alts := [], laidByText := true, laidKinds := [.data, .data, .data, .data, .sentinel, .sentinel, .pinned], laidTests := true, laidLooks := .later }
def FnScriptPrefixUptoCardSaid : Prop := Claim7.holds Tryz.pinned (.plain (OpenSpec.upto fnScriptPrefixSpec)) fnScriptPrefixUptoCard
end Rows
end Go.Proofs.YtkjnhlpccgjfhaaGreatDoor
