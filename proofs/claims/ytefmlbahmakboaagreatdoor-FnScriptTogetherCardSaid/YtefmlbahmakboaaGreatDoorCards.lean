/-
  DERIVED. GIVEN WITH THE SEED: THE CARDS: each row of YtefmlbahmakboaaGreatDoorRows.lean that lists a variable, with what it lists TIED to the program's text (the seventh form; the later family's looks); each row that meets fmt, with fmt's text TOLD by the authors' own Lean function (tested against real Go, not proved from fmt's source: count such statements apart). THE CARD IS WHAT COUNTS. Prove the row's statement (the work); the ties are given (YtefmlbahmakboaaGreatDoorTie.lean); close each card by the builder's one call (the guide's Derived/Test/ToyasCard.lean, 'card_holds'). Laid BY PROGRAM, IN A SANDBOX (cutbox-door.mjs). By AI agents, Wed Nov 11 2026. No macro, syntax, notation, axiom, sorry.
-/
import Derived.Test.YtefmlbahmakboaaGreatDoorRows
import GoSem.ClaimSeven
namespace Go.Proofs.YtefmlbahmakboaaGreatDoor
namespace Rows

/-- THE TIED CARD OF 'laws.FnScriptTogether'. -/
def fnScriptTogetherCard : Claim7 := { stood := { row := fnScriptTogetherRow, standIns := [], harness := (true, "d72ba707762c70be1a1d39f1e900e043880b0ec961494909138bdbdaaa19a031"), looks := true }, kinds := [], alts := [], laidByText := true, laidKinds := [.data, .data, .data, .data, .sentinel, .sentinel, .pinned], laidTests := true, laidLooks := .later }
def FnScriptTogetherCardSaid : Prop := Claim7.holds Tryz.pinned (.plain (OpenSpec.ofChange fnScriptTogetherSpec)) fnScriptTogetherCard

/-- THE TIED CARD OF 'laws.FnScriptActs'. -/
def fnScriptActsCard : Claim7 := { stood := { row := fnScriptActsRow, standIns := [], harness := (true, "d72ba707762c70be1a1d39f1e900e043880b0ec961494909138bdbdaaa19a031"), looks := true }, kinds := [], alts := [], laidByText := true, laidKinds := [.data, .data, .data, .data, .sentinel, .sentinel, .pinned], laidTests := true, laidLooks := .later }
def FnScriptActsCardSaid : Prop := Claim7.holds Tryz.pinned (.plain (OpenSpec.ofChange fnScriptActsSpec)) fnScriptActsCard

/-- THE SECOND FORM's CARD OF 'laws.FnScriptTogether'. -/
def fnScriptTogetherUptoCard : Claim7 := { stood := { row := fnScriptTogetherUptoRow, standIns := [], harness := (true, "d72ba707762c70be1a1d39f1e900e043880b0ec961494909138bdbdaaa19a031"), looks := true }, kinds := [], alts := [], laidByText := true, laidKinds := [.data, .data, .data, .data, .sentinel, .sentinel, .pinned], laidTests := true, laidLooks := .later }
def FnScriptTogetherUptoCardSaid : Prop := Claim7.holds Tryz.pinned (.plain (OpenSpec.upto fnScriptTogetherSpec)) fnScriptTogetherUptoCard

/-- THE SECOND FORM's CARD OF 'laws.FnScriptActs'. -/
def fnScriptActsUptoCard : Claim7 := { stood := { row := fnScriptActsUptoRow, standIns := [], harness := (true, "d72ba707762c70be1a1d39f1e900e043880b0ec961494909138bdbdaaa19a031"), looks := true }, kinds := [], alts := [], laidByText := true, laidKinds := [.data, .data, .data, .data, .sentinel, .sentinel, .pinned], laidTests := true, laidLooks := .later }
def FnScriptActsUptoCardSaid : Prop := Claim7.holds Tryz.pinned (.plain (OpenSpec.upto fnScriptActsSpec)) fnScriptActsUptoCard
end Rows
end Go.Proofs.YtefmlbahmakboaaGreatDoor
