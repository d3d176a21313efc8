/-
  No cell of these rows narrows 'for every input' (looked for: loops, veiled, ifaces, maps, wideKeys, modest, calm, conditions, laid).
  DERIVED. THE GIVEN ROWS OF THIS SEAT. 5 by the template 'for every input the law returns true; each argument reads behind the call as it read before'; 0 by the template 'total and deterministic' (their statements: YtphcjojdlmnnoaaTotals.lean).
  GIVEN WITH THE SEED: the statements are not yours to turn. If you find one false, say at which input.
  Laid BY PROGRAM, IN A SANDBOX (cutbox-rows.mjs): the forced cells as the released guide's own fill.sh prints them over the translation 2efe7f42ff6ffe1c… (all of the seat's roots in one cut). By AI agents, Wed Nov 11 2026. No macro, syntax, notation, axiom, sorry.
-/
import Derived.Test.YtphcjojdlmnnoaaChecked
import GoSem.Claim
import GoSem.ClaimJoined
import GoSem.ClaimMapViews
import Derived.JoinedTies
import Derived.KernelRfl
namespace Go.Proofs.Ytphcjojdlmnnoaa
/- THE CELL 'sum', in the pinned program and in every row, IS THE sha256 OF THE DUMP (.gsa) THAT YtphcjojdlmnnoaaProg.lean LOADS. Nothing in Lean hashes anything: it is a label: what it is worth is what the hold of that sum in a sandbox is worth. -/
noncomputable def Try.pinned : Pinned := { name := "ytphcjojdlmnnoaa", sum := "2efe7f42ff6ffe1c4e0ca24912f753bfc716d787ac94fbfdd3557e0de0402700", checked := Try.checked }
namespace Rows
def none {H : Type} : Left H := { results := [], args := [] }

/-- 'laws.FnRuleMass': WHATEVER THE INPUT: true; the input reads as it did. -/
def fnRuleMassSpec : ChangeSpec := { name := "fnRuleMass", fn := fun _ => fun
  | [d] => { results := [.lit (.bool true)], args := [d] }
  | _ => none }
def fnRuleMassRow : OpenClaim := { program := "ytphcjojdlmnnoaa", sum := "2efe7f42ff6ffe1c4e0ca24912f753bfc716d787ac94fbfdd3557e0de0402700", func := "loop.example/weighedevidence/laws.FnRuleMass", spec := "fnRuleMass", unfollowed := true, recurses := true, apart := false }
def FnRuleMassSaid : Prop := fnRuleMassRow.holds Try.pinned (OpenSpec.ofChange fnRuleMassSpec)

/-- ITS FALSE NEIGHBOUR: 'it returns false'. Refute it at one input. -/
def fnRuleMassWrong : ChangeSpec := { name := "fnRuleMass", fn := fun _ => fun
  | [d] => { results := [.lit (.bool false)], args := [d] }
  | _ => none }
def FnRuleMassWrongFalsely : Prop := fnRuleMassRow.holds Try.pinned (OpenSpec.ofChange fnRuleMassWrong)

/-- 'laws.FnSides': WHATEVER THE INPUT: true; the input reads as it did. -/
def fnSidesSpec : ChangeSpec := { name := "fnSides", fn := fun _ => fun
  | [d] => { results := [.lit (.bool true)], args := [d] }
  | _ => none }
def fnSidesRow : OpenClaim := { program := "ytphcjojdlmnnoaa", sum := "2efe7f42ff6ffe1c4e0ca24912f753bfc716d787ac94fbfdd3557e0de0402700", func := "loop.example/weighedevidence/laws.FnSides", spec := "fnSides", unfollowed := true, recurses := true, apart := false }
def FnSidesSaid : Prop := fnSidesRow.holds Try.pinned (OpenSpec.ofChange fnSidesSpec)

/-- ITS FALSE NEIGHBOUR: 'it returns false'. Refute it at one input. -/
def fnSidesWrong : ChangeSpec := { name := "fnSides", fn := fun _ => fun
  | [d] => { results := [.lit (.bool false)], args := [d] }
  | _ => none }
def FnSidesWrongFalsely : Prop := fnSidesRow.holds Try.pinned (OpenSpec.ofChange fnSidesWrong)

/-- 'laws.FnLocal': WHATEVER THE INPUT: true; the input reads as it did. -/
def fnLocalSpec : ChangeSpec := { name := "fnLocal", fn := fun _ => fun
  | [d] => { results := [.lit (.bool true)], args := [d] }
  | _ => none }
def fnLocalRow : OpenClaim := { program := "ytphcjojdlmnnoaa", sum := "2efe7f42ff6ffe1c4e0ca24912f753bfc716d787ac94fbfdd3557e0de0402700", func := "loop.example/weighedevidence/laws.FnLocal", spec := "fnLocal", unfollowed := true, recurses := true, apart := false }
def FnLocalSaid : Prop := fnLocalRow.holds Try.pinned (OpenSpec.ofChange fnLocalSpec)

/-- ITS FALSE NEIGHBOUR: 'it returns false'. Refute it at one input. -/
def fnLocalWrong : ChangeSpec := { name := "fnLocal", fn := fun _ => fun
  | [d] => { results := [.lit (.bool false)], args := [d] }
  | _ => none }
def FnLocalWrongFalsely : Prop := fnLocalRow.holds Try.pinned (OpenSpec.ofChange fnLocalWrong)

/-- 'laws.FnPairMasses': WHATEVER THE INPUT: true; the input reads as it did. -/
def fnPairMassesSpec : ChangeSpec := { name := "fnPairMasses", fn := fun _ => fun
  | [d] => { results := [.lit (.bool true)], args := [d] }
  | _ => none }
def fnPairMassesRow : OpenClaim := { program := "ytphcjojdlmnnoaa", sum := "2efe7f42ff6ffe1c4e0ca24912f753bfc716d787ac94fbfdd3557e0de0402700", func := "loop.example/weighedevidence/laws.FnPairMasses", spec := "fnPairMasses", unfollowed := true, recurses := true, apart := false }
def FnPairMassesSaid : Prop := fnPairMassesRow.holds Try.pinned (OpenSpec.ofChange fnPairMassesSpec)

/-- ITS FALSE NEIGHBOUR: 'it returns false'. Refute it at one input. -/
def fnPairMassesWrong : ChangeSpec := { name := "fnPairMasses", fn := fun _ => fun
  | [d] => { results := [.lit (.bool false)], args := [d] }
  | _ => none }
def FnPairMassesWrongFalsely : Prop := fnPairMassesRow.holds Try.pinned (OpenSpec.ofChange fnPairMassesWrong)

/-- 'laws.FnIndependent': WHATEVER THE INPUT: true; the input reads as it did. -/
def fnIndependentSpec : ChangeSpec := { name := "fnIndependent", fn := fun _ => fun
  | [d] => { results := [.lit (.bool true)], args := [d] }
  | _ => none }
def fnIndependentRow : OpenClaim := { program := "ytphcjojdlmnnoaa", sum := "2efe7f42ff6ffe1c4e0ca24912f753bfc716d787ac94fbfdd3557e0de0402700", func := "loop.example/weighedevidence/laws.FnIndependent", spec := "fnIndependent", unfollowed := true, recurses := true, apart := false }
def FnIndependentSaid : Prop := fnIndependentRow.holds Try.pinned (OpenSpec.ofChange fnIndependentSpec)

/-- ITS FALSE NEIGHBOUR: 'it returns false'. Refute it at one input. -/
def fnIndependentWrong : ChangeSpec := { name := "fnIndependent", fn := fun _ => fun
  | [d] => { results := [.lit (.bool false)], args := [d] }
  | _ => none }
def FnIndependentWrongFalsely : Prop := fnIndependentRow.holds Try.pinned (OpenSpec.ofChange fnIndependentWrong)

/- THE SECOND FORM. 'bulk': how many values and letters a reading holds, each counted each time it is reached (what is shared counts as often as it is met; a slice's spare places count too). A statement '..UptoSaid' is the law's where the arguments, and the package variables that the reading takes, are together of bulk at most 1048576: NARROWER than '..Said'. Prove '..Said' where nothing that the law and all that it calls make is longer than what came in: it says more and counts as full. Else prove '..UptoSaid'. A law counts once. -/
mutual
def uptoBulk {H : Type} : DataW H → Nat
  | .lit (.string bytes) => bytes.length + 1
  | .lit _ => 1
  | .nil => 1
  | .ptr d => uptoBulk d + 1
  | .slice elems spare => uptoBulkAll elems + uptoBulkAll spare + 1
  | .agg parts => uptoBulkAll parts + 1
  | .iface _ d => uptoBulk d + 1
  | .map entries => uptoBulkEntries entries + 1
  | .held _ => 1
def uptoBulkAll {H : Type} : List (DataW H) → Nat
  | [] => 0
  | d :: r => uptoBulk d + uptoBulkAll r
def uptoBulkEntries {H : Type} : List (Lit × DataW H) → Nat
  | [] => 0
  | x :: r => uptoBulkEntry x + uptoBulkEntries r
def uptoBulkEntry {H : Type} : Lit × DataW H → Nat
  | (.string bytes, d) => bytes.length + uptoBulk d + 1
  | (_, d) => uptoBulk d + 1
 end
def uptoSmall : (H : Type) → List (DataW H) → Bool := fun _ ds => decide (uptoBulkAll ds ≤ 1048576)
def OpenSpec.upto (s : _root_.Go.ChangeSpec) : _root_.Go.OpenSpec := { _root_.Go.OpenSpec.ofChange s with cond := some uptoSmall }

/-- 'laws.FnRuleMass', WHERE WHAT IT READS IS OF BULK AT MOST 1048576: true; the input reads as it did. -/
def fnRuleMassUptoRow : OpenClaim := { program := "ytphcjojdlmnnoaa", sum := "2efe7f42ff6ffe1c4e0ca24912f753bfc716d787ac94fbfdd3557e0de0402700", func := "loop.example/weighedevidence/laws.FnRuleMass", spec := "fnRuleMass", unfollowed := true, recurses := true, apart := false, narrowed := true }
def FnRuleMassUptoSaid : Prop := fnRuleMassUptoRow.holds Try.pinned (OpenSpec.upto fnRuleMassSpec)

/-- 'laws.FnSides', WHERE WHAT IT READS IS OF BULK AT MOST 1048576: true; the input reads as it did. -/
def fnSidesUptoRow : OpenClaim := { program := "ytphcjojdlmnnoaa", sum := "2efe7f42ff6ffe1c4e0ca24912f753bfc716d787ac94fbfdd3557e0de0402700", func := "loop.example/weighedevidence/laws.FnSides", spec := "fnSides", unfollowed := true, recurses := true, apart := false, narrowed := true }
def FnSidesUptoSaid : Prop := fnSidesUptoRow.holds Try.pinned (OpenSpec.upto fnSidesSpec)

/-- 'laws.FnLocal', WHERE WHAT IT READS IS OF BULK AT MOST 1048576: true; the input reads as it did. -/
def fnLocalUptoRow : OpenClaim := { program := "ytphcjojdlmnnoaa", sum := "2efe7f42ff6ffe1c4e0ca24912f753bfc716d787ac94fbfdd3557e0de0402700", func := "loop.example/weighedevidence/laws.FnLocal", spec := "fnLocal", unfollowed := true, recurses := true, apart := false, narrowed := true }
def FnLocalUptoSaid : Prop := fnLocalUptoRow.holds Try.pinned (OpenSpec.upto fnLocalSpec)

/-- 'laws.FnPairMasses', WHERE WHAT IT READS IS OF BULK AT MOST 1048576: true; the input reads as it did. -/
def fnPairMassesUptoRow : OpenClaim := { program := "ytphcjojdlmnnoaa", sum := "2efe7f42ff6ffe1c4e0ca24912f753bfc716d787ac94fbfdd3557e0de0402700", func := "loop.example/weighedevidence/laws.FnPairMasses", spec := "fnPairMasses", unfollowed := true, recurses := true, apart := false, narrowed := true }
def FnPairMassesUptoSaid : Prop := fnPairMassesUptoRow.holds Try.pinned (OpenSpec.upto fnPairMassesSpec)

/-- 'laws.FnIndependent', WHERE WHAT IT READS IS OF BULK AT MOST 1048576: true; the input reads as it did. -/
def fnIndependentUptoRow : OpenClaim := { program := "ytphcjojdlmnnoaa", sum := "2efe7f42ff6ffe1c4e0ca24912f753bfc716d787ac94fbfdd3557e0de0402700", func := "loop.example/weighedevidence/laws.FnIndependent", spec := "fnIndependent", unfollowed := true, recurses := true, apart := false, narrowed := true }
def FnIndependentUptoSaid : Prop := fnIndependentUptoRow.holds Try.pinned (OpenSpec.upto fnIndependentSpec)

end Rows
end Go.Proofs.Ytphcjojdlmnnoaa
