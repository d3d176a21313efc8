/-
  DERIVED. GIVEN WITH THE SEED: THE CARDS: each row of YtlelnnglpimgjaaGreatDoorRows.lean that lists a variable, with what it lists TIED to the program's text (the seventh form; the later family's looks); each row that meets fmt, with fmt's text TOLD by the authors' own Lean function (tested against real Go, not proved from fmt's source: count such statements apart). THE CARD IS WHAT COUNTS. Prove the row's statement (the work); the ties are given (YtlelnnglpimgjaaGreatDoorTie.lean); close each card by the builder's one call (the guide's Derived/Test/ToyasCard.lean, 'card_holds'). Laid BY PROGRAM, IN A SANDBOX (cutbox-door.mjs). By AI agents, Wed Nov 11 2026. No macro, syntax, notation, axiom, sorry.
-/
import Derived.Test.YtlelnnglpimgjaaGreatDoorRows
import GoSem.ClaimSeven
namespace Go.Proofs.YtlelnnglpimgjaaGreatDoor
namespace Rows

/-- THE TIED CARD OF 'laws.FnScriptLearn'. -/
def fnScriptLearnCard : Claim7 := { stood := { row := fnScriptLearnRow, standIns := [], harness := (true, "ba887bc167094874ec0c9dd6c20d27f227757efb365af0967c4508fcee7eb817"), looks := true }, kinds := [], alts := [], laidByText := true, laidKinds := [.data, .data, .data, .data, .sentinel, .sentinel, .pinned], laidTests := true, laidLooks := .later }
def FnScriptLearnCardSaid : Prop := Claim7.holds Tryz.pinned (.plain (OpenSpec.ofChange fnScriptLearnSpec)) fnScriptLearnCard

/-- THE TIED CARD OF 'laws.FnScriptBelief'. -/
def fnScriptBeliefCard : Claim7 := { stood := { row := fnScriptBeliefRow, standIns := [], harness := (true, "ba887bc167094874ec0c9dd6c20d27f227757efb365af0967c4508fcee7eb817"), looks := true }, kinds := [], alts := [], laidByText := true, laidKinds := [.data, .data, .data, .data, .sentinel, .sentinel, .pinned], laidTests := true, laidLooks := .later }
def FnScriptBeliefCardSaid : Prop := Claim7.holds Tryz.pinned (.plain (OpenSpec.ofChange fnScriptBeliefSpec)) fnScriptBeliefCard

/-- THE TIED CARD OF 'laws.FnScriptActs'. -/
def fnScriptActsCard : Claim7 := { stood := { row := fnScriptActsRow, standIns := [], harness := (true, "ba887bc167094874ec0c9dd6c20d27f227757efb365af0967c4508fcee7eb817"), looks := true }, kinds := [], alts := [], laidByText := true, laidKinds := [.data, .data, .data, .data, .sentinel, .sentinel, .pinned], laidTests := true, laidLooks := .later }
def FnScriptActsCardSaid : Prop := Claim7.holds Tryz.pinned (.plain (OpenSpec.ofChange fnScriptActsSpec)) fnScriptActsCard

/-- THE SECOND FORM's CARD OF 'laws.FnScriptLearn'. -/
def fnScriptLearnUptoCard : Claim7 := { stood := { row := fnScriptLearnUptoRow, standIns := [], harness := (true, "ba887bc167094874ec0c9dd6c20d27f227757efb365af0967c4508fcee7eb817"), looks := true }, kinds := [], alts := [], laidByText := true, laidKinds := [.data, .data, .data, .data, .sentinel, .sentinel, .pinned], laidTests := true, laidLooks := .later }
def FnScriptLearnUptoCardSaid : Prop := Claim7.holds Tryz.pinned (.plain (OpenSpec.upto fnScriptLearnSpec)) fnScriptLearnUptoCard

/-- THE SECOND FORM's CARD OF 'laws.FnScriptBelief'. -/
def fnScriptBeliefUptoCard : Claim7 := { stood := { row := fnScriptBeliefUptoRow, standIns := [], harness := (true, "ba887bc167094874ec0c9dd6c20d27f227757efb365af0967c4508fcee7eb817"), looks := true }, kinds := [], alts := [], laidByText := true, laidKinds := [.data, .data, .data, .data, .sentinel, .sentinel, .pinned], laidTests := true, laidLooks := .later }
def FnScriptBeliefUptoCardSaid : Prop := Claim7.holds Tryz.pinned (.plain (OpenSpec.upto fnScriptBeliefSpec)) fnScriptBeliefUptoCard

/-- THE SECOND FORM's CARD OF 'laws.FnScriptActs'. -/
def fnScriptActsUptoCard : Claim7 := { stood := { row := fnScriptActsUptoRow, standIns := [], harness := (true, "ba887bc167094874ec0c9dd6c20d27f227757efb365af0967c4508fcee7eb817"), looks := true }, kinds := [], alts := [], laidByText := true, laidKinds := [.data, .data, .data, .data, .sentinel, .sentinel, .pinned], laidTests := true, laidLooks := .later }
def FnScriptActsUptoCardSaid : Prop := Claim7.holds Tryz.pinned (.plain (OpenSpec.upto fnScriptActsSpec)) fnScriptActsUptoCard
end Rows
end Go.Proofs.YtlelnnglpimgjaaGreatDoor
