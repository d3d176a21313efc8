/-
  DERIVED. GIVEN WITH THE SEED: THE CARDS: each row of YtobeeomeebicnaaDoorRows.lean that lists a variable, with what it lists TIED to the program's text (the seventh form; the later family's looks); each row that meets fmt, with fmt's text TOLD by the authors' own Lean function (tested against real Go, not proved from fmt's source: count such statements apart). THE CARD IS WHAT COUNTS. Prove the row's statement (the work); the ties are given (YtobeeomeebicnaaDoorTie.lean); close each card by the builder's one call (the guide's Derived/Test/ToyasCard.lean, 'card_holds'). Laid BY PROGRAM, IN A SANDBOX (cutbox-door.mjs). By AI agents, Wed Nov 11 2026. No macro, syntax, notation, axiom, sorry.
-/
import Derived.Test.YtobeeomeebicnaaDoorRows
import GoSem.ClaimSeven
namespace Go.Proofs.YtobeeomeebicnaaDoor
namespace Rows

/-- THE TIED CARD OF 'laws.FnExactFormatNumbers'. -/
def fnExactFormatNumbersCard : Claim7 := { stood := { row := fnExactFormatNumbersRow, standIns := [], harness := (true, "7d0b75f591f6c948c7dd7b9ff57a90c725bfc44d94c088503fc0413e2136e433"), looks := true }, kinds := [], alts := [], laidByText := true, laidKinds := [.data, .data, .data], laidTests := true, laidLooks := .later }
def FnExactFormatNumbersCardSaid : Prop := Claim7.holds Tryd.pinned (.plain (OpenSpec.ofChange fnExactFormatNumbersSpec)) fnExactFormatNumbersCard

/-- THE TIED CARD OF 'laws.FnExactParseNumbers'. -/
def fnExactParseNumbersCard : Claim7 := { stood := { row := fnExactParseNumbersRow, standIns := [], harness := (true, "7d0b75f591f6c948c7dd7b9ff57a90c725bfc44d94c088503fc0413e2136e433"), looks := true }, kinds := [], alts := [], laidByText := true, laidKinds := [.data, .data, .data, .data, .sentinel, .sentinel, .pinned], laidTests := true, laidLooks := .later }
def FnExactParseNumbersCardSaid : Prop := Claim7.holds Tryd.pinned (.plain (OpenSpec.ofChange fnExactParseNumbersSpec)) fnExactParseNumbersCard

/-- THE TIED CARD OF 'laws.FnNumbers'. -/
def fnNumbersCard : Claim7 := { stood := { row := fnNumbersRow, standIns := [], harness := (true, "7d0b75f591f6c948c7dd7b9ff57a90c725bfc44d94c088503fc0413e2136e433"), looks := true }, kinds := [], alts := [], laidByText := true, laidKinds := [.data, .data, .data, .data, .sentinel, .sentinel, .pinned], laidTests := true, laidLooks := .later }
def FnNumbersCardSaid : Prop := Claim7.holds Tryd.pinned (.plain (OpenSpec.ofChange fnNumbersSpec)) fnNumbersCard

/-- THE SECOND FORM's CARD OF 'laws.FnExactFormatNumbers'. -/
def fnExactFormatNumbersUptoCard : Claim7 := { stood := { row := fnExactFormatNumbersUptoRow, standIns := [], harness := (true, "7d0b75f591f6c948c7dd7b9ff57a90c725bfc44d94c088503fc0413e2136e433"), looks := true }, kinds := [], alts := [], laidByText := true, laidKinds := [.data, .data, .data], laidTests := true, laidLooks := .later }
def FnExactFormatNumbersUptoCardSaid : Prop := Claim7.holds Tryd.pinned (.plain (OpenSpec.upto fnExactFormatNumbersSpec)) fnExactFormatNumbersUptoCard

/-- THE SECOND FORM's CARD OF 'laws.FnExactParseNumbers'. -/
def fnExactParseNumbersUptoCard : Claim7 := { stood := { row := fnExactParseNumbersUptoRow, standIns := [], harness := (true, "7d0b75f591f6c948c7dd7b9ff57a90c725bfc44d94c088503fc0413e2136e433"), looks := true }, kinds := [], alts := [], laidByText := true, laidKinds := [.data, .data, .data, .data, .sentinel, .sentinel, .pinned], laidTests := true, laidLooks := .later }
def FnExactParseNumbersUptoCardSaid : Prop := Claim7.holds Tryd.pinned (.plain (OpenSpec.upto fnExactParseNumbersSpec)) fnExactParseNumbersUptoCard

/-- THE SECOND FORM's CARD OF 'laws.FnNumbers'. -/
def fnNumbersUptoCard : Claim7 := { stood := { row := fnNumbersUptoRow, standIns := [], harness := (true, "7d0b75f591f6c948c7dd7b9ff57a90c725bfc44d94c088503fc0413e2136e433"), looks := true }, kinds := [], alts := [], laidByText := true, laidKinds := [.data, .data, .data, .data, .sentinel, .sentinel, .pinned], laidTests := true, laidLooks := .later }
def FnNumbersUptoCardSaid : Prop := Claim7.holds Tryd.pinned (.plain (OpenSpec.upto fnNumbersSpec)) fnNumbersUptoCard
end Rows
end Go.Proofs.YtobeeomeebicnaaDoor
