/-
  No cell of these rows narrows 'for every input' (looked for: loops, veiled, ifaces, maps, wideKeys, modest, calm, conditions, laid).
  DERIVED. THE GIVEN ROWS OF THIS SEAT. 5 by the template 'for every input the law returns true; each argument reads behind the call as it read before'; 0 by the template 'total and deterministic' (their statements: YtaplpgmkobokhaaTotals.lean).
  GIVEN WITH THE SEED: the statements are not yours to turn. If you find one false, say at which input.
  Laid BY PROGRAM, IN A SANDBOX (cutbox-rows.mjs): the forced cells as the released guide's own fill.sh prints them over the translation 797eea110d666c5b… (all of the seat's roots in one cut). By AI agents, Wed Nov 11 2026. No macro, syntax, notation, axiom, sorry.
-/
import Derived.Test.YtaplpgmkobokhaaChecked
import GoSem.Claim
import GoSem.ClaimJoined
import GoSem.ClaimMapViews
import Derived.JoinedTies
import Derived.KernelRfl
namespace Go.Proofs.Ytaplpgmkobokhaa
/- THE CELL 'sum', in the pinned program and in every row, IS THE sha256 OF THE DUMP (.gsa) THAT YtaplpgmkobokhaaProg.lean LOADS. Nothing in Lean hashes anything: it is a label: what it is worth is what the hold of that sum in a sandbox is worth. -/
noncomputable def Try.pinned : Pinned := { name := "ytaplpgmkobokhaa", sum := "797eea110d666c5b5d927241c7cb6dcc442782e934068c3e4760d45719dc6bfd", checked := Try.checked }
namespace Rows
def none {H : Type} : Left H := { results := [], args := [] }

/-- 'laws.FnSharedChance': WHATEVER THE INPUT: true; the input reads as it did. -/
def fnSharedChanceSpec : ChangeSpec := { name := "fnSharedChance", fn := fun _ => fun
  | [d] => { results := [.lit (.bool true)], args := [d] }
  | _ => none }
def fnSharedChanceRow : OpenClaim := { program := "ytaplpgmkobokhaa", sum := "797eea110d666c5b5d927241c7cb6dcc442782e934068c3e4760d45719dc6bfd", func := "loop.example/weighedevidence/laws.FnSharedChance", spec := "fnSharedChance", unfollowed := true, recurses := true, apart := false }
def FnSharedChanceSaid : Prop := fnSharedChanceRow.holds Try.pinned (OpenSpec.ofChange fnSharedChanceSpec)

/-- ITS FALSE NEIGHBOUR: 'it returns false'. Refute it at one input. -/
def fnSharedChanceWrong : ChangeSpec := { name := "fnSharedChance", fn := fun _ => fun
  | [d] => { results := [.lit (.bool false)], args := [d] }
  | _ => none }
def FnSharedChanceWrongFalsely : Prop := fnSharedChanceRow.holds Try.pinned (OpenSpec.ofChange fnSharedChanceWrong)

/-- 'laws.FnMeansTogether': WHATEVER THE INPUT: true; the input reads as it did. -/
def fnMeansTogetherSpec : ChangeSpec := { name := "fnMeansTogether", fn := fun _ => fun
  | [d1, d2] => { results := [.lit (.bool true)], args := [d1, d2] }
  | _ => none }
def fnMeansTogetherRow : OpenClaim := { program := "ytaplpgmkobokhaa", sum := "797eea110d666c5b5d927241c7cb6dcc442782e934068c3e4760d45719dc6bfd", func := "loop.example/weighedevidence/laws.FnMeansTogether", spec := "fnMeansTogether", unfollowed := true, recurses := true, apart := false }
def FnMeansTogetherSaid : Prop := fnMeansTogetherRow.holds Try.pinned (OpenSpec.ofChange fnMeansTogetherSpec)

/-- ITS FALSE NEIGHBOUR: 'it returns false'. Refute it at one input. -/
def fnMeansTogetherWrong : ChangeSpec := { name := "fnMeansTogether", fn := fun _ => fun
  | [d1, d2] => { results := [.lit (.bool false)], args := [d1, d2] }
  | _ => none }
def FnMeansTogetherWrongFalsely : Prop := fnMeansTogetherRow.holds Try.pinned (OpenSpec.ofChange fnMeansTogetherWrong)

/-- 'laws.FnSafest': WHATEVER THE INPUT: true; the input reads as it did. -/
def fnSafestSpec : ChangeSpec := { name := "fnSafest", fn := fun _ => fun
  | [d] => { results := [.lit (.bool true)], args := [d] }
  | _ => none }
def fnSafestRow : OpenClaim := { program := "ytaplpgmkobokhaa", sum := "797eea110d666c5b5d927241c7cb6dcc442782e934068c3e4760d45719dc6bfd", func := "loop.example/weighedevidence/laws.FnSafest", spec := "fnSafest", unfollowed := true, recurses := true, apart := false }
def FnSafestSaid : Prop := fnSafestRow.holds Try.pinned (OpenSpec.ofChange fnSafestSpec)

/-- ITS FALSE NEIGHBOUR: 'it returns false'. Refute it at one input. -/
def fnSafestWrong : ChangeSpec := { name := "fnSafest", fn := fun _ => fun
  | [d] => { results := [.lit (.bool false)], args := [d] }
  | _ => none }
def FnSafestWrongFalsely : Prop := fnSafestRow.holds Try.pinned (OpenSpec.ofChange fnSafestWrong)

/-- 'laws.FnBetween': WHATEVER THE INPUT: true; the input reads as it did. -/
def fnBetweenSpec : ChangeSpec := { name := "fnBetween", fn := fun _ => fun
  | [d] => { results := [.lit (.bool true)], args := [d] }
  | _ => none }
def fnBetweenRow : OpenClaim := { program := "ytaplpgmkobokhaa", sum := "797eea110d666c5b5d927241c7cb6dcc442782e934068c3e4760d45719dc6bfd", func := "loop.example/weighedevidence/laws.FnBetween", spec := "fnBetween", unfollowed := true, recurses := true, apart := false }
def FnBetweenSaid : Prop := fnBetweenRow.holds Try.pinned (OpenSpec.ofChange fnBetweenSpec)

/-- ITS FALSE NEIGHBOUR: 'it returns false'. Refute it at one input. -/
def fnBetweenWrong : ChangeSpec := { name := "fnBetween", fn := fun _ => fun
  | [d] => { results := [.lit (.bool false)], args := [d] }
  | _ => none }
def FnBetweenWrongFalsely : Prop := fnBetweenRow.holds Try.pinned (OpenSpec.ofChange fnBetweenWrong)

/-- 'laws.FnSharedAct': WHATEVER THE INPUT: true; the input reads as it did. -/
def fnSharedActSpec : ChangeSpec := { name := "fnSharedAct", fn := fun _ => fun
  | [d] => { results := [.lit (.bool true)], args := [d] }
  | _ => none }
def fnSharedActRow : OpenClaim := { program := "ytaplpgmkobokhaa", sum := "797eea110d666c5b5d927241c7cb6dcc442782e934068c3e4760d45719dc6bfd", func := "loop.example/weighedevidence/laws.FnSharedAct", spec := "fnSharedAct", unfollowed := true, recurses := true, apart := false }
def FnSharedActSaid : Prop := fnSharedActRow.holds Try.pinned (OpenSpec.ofChange fnSharedActSpec)

/-- ITS FALSE NEIGHBOUR: 'it returns false'. Refute it at one input. -/
def fnSharedActWrong : ChangeSpec := { name := "fnSharedAct", fn := fun _ => fun
  | [d] => { results := [.lit (.bool false)], args := [d] }
  | _ => none }
def FnSharedActWrongFalsely : Prop := fnSharedActRow.holds Try.pinned (OpenSpec.ofChange fnSharedActWrong)

/- THE SECOND FORM. 'bulk': how many values and letters a reading holds, each counted each time it is reached (what is shared counts as often as it is met; a slice's spare places count too). A statement '..UptoSaid' is the law's where the arguments, and the package variables that the reading takes, are together of bulk at most 1048576: NARROWER than '..Said'. Prove '..Said' where nothing that the law and all that it calls make is longer than what came in: it says more and counts as full. Else prove '..UptoSaid'. A law counts once. -/
mutual
def uptoBulk {H : Type} : DataW H → Nat
  | .lit (.string bytes) => bytes.length + 1
  | .lit _ => 1
  | .nil => 1
  | .ptr d => uptoBulk d + 1
  | .slice elems spare => uptoBulkAll elems + uptoBulkAll spare + 1
  | .agg parts => uptoBulkAll parts + 1
  | .iface _ d => uptoBulk d + 1
  | .map entries => uptoBulkEntries entries + 1
  | .held _ => 1
def uptoBulkAll {H : Type} : List (DataW H) → Nat
  | [] => 0
  | d :: r => uptoBulk d + uptoBulkAll r
def uptoBulkEntries {H : Type} : List (Lit × DataW H) → Nat
  | [] => 0
  | x :: r => uptoBulkEntry x + uptoBulkEntries r
def uptoBulkEntry {H : Type} : Lit × DataW H → Nat
  | (.string bytes, d) => bytes.length + uptoBulk d + 1
  | (_, d) => uptoBulk d + 1
 end
def uptoSmall : (H : Type) → List (DataW H) → Bool := fun _ ds => decide (uptoBulkAll ds ≤ 1048576)
def OpenSpec.upto (s : _root_.Go.ChangeSpec) : _root_.Go.OpenSpec := { _root_.Go.OpenSpec.ofChange s with cond := some uptoSmall }

/-- 'laws.FnSharedChance', WHERE WHAT IT READS IS OF BULK AT MOST 1048576: true; the input reads as it did. -/
def fnSharedChanceUptoRow : OpenClaim := { program := "ytaplpgmkobokhaa", sum := "797eea110d666c5b5d927241c7cb6dcc442782e934068c3e4760d45719dc6bfd", func := "loop.example/weighedevidence/laws.FnSharedChance", spec := "fnSharedChance", unfollowed := true, recurses := true, apart := false, narrowed := true }
def FnSharedChanceUptoSaid : Prop := fnSharedChanceUptoRow.holds Try.pinned (OpenSpec.upto fnSharedChanceSpec)

/-- 'laws.FnMeansTogether', WHERE WHAT IT READS IS OF BULK AT MOST 1048576: true; the input reads as it did. -/
def fnMeansTogetherUptoRow : OpenClaim := { program := "ytaplpgmkobokhaa", sum := "797eea110d666c5b5d927241c7cb6dcc442782e934068c3e4760d45719dc6bfd", func := "loop.example/weighedevidence/laws.FnMeansTogether", spec := "fnMeansTogether", unfollowed := true, recurses := true, apart := false, narrowed := true }
def FnMeansTogetherUptoSaid : Prop := fnMeansTogetherUptoRow.holds Try.pinned (OpenSpec.upto fnMeansTogetherSpec)

/-- 'laws.FnSafest', WHERE WHAT IT READS IS OF BULK AT MOST 1048576: true; the input reads as it did. -/
def fnSafestUptoRow : OpenClaim := { program := "ytaplpgmkobokhaa", sum := "797eea110d666c5b5d927241c7cb6dcc442782e934068c3e4760d45719dc6bfd", func := "loop.example/weighedevidence/laws.FnSafest", spec := "fnSafest", unfollowed := true, recurses := true, apart := false, narrowed := true }
def FnSafestUptoSaid : Prop := fnSafestUptoRow.holds Try.pinned (OpenSpec.upto fnSafestSpec)

/-- 'laws.FnBetween', WHERE WHAT IT READS IS OF BULK AT MOST 1048576: true; the input reads as it did. -/
def fnBetweenUptoRow : OpenClaim := { program := "ytaplpgmkobokhaa", sum := "797eea110d666c5b5d927241c7cb6dcc442782e934068c3e4760d45719dc6bfd", func := "loop.example/weighedevidence/laws.FnBetween", spec := "fnBetween", unfollowed := true, recurses := true, apart := false, narrowed := true }
def FnBetweenUptoSaid : Prop := fnBetweenUptoRow.holds Try.pinned (OpenSpec.upto fnBetweenSpec)

/-- 'laws.FnSharedAct', WHERE WHAT IT READS IS OF BULK AT MOST 1048576: true; the input reads as it did. -/
def fnSharedActUptoRow : OpenClaim := { program := "ytaplpgmkobokhaa", sum := "797eea110d666c5b5d927241c7cb6dcc442782e934068c3e4760d45719dc6bfd", func := "loop.example/weighedevidence/laws.FnSharedAct", spec := "fnSharedAct", unfollowed := true, recurses := true, apart := false, narrowed := true }
def FnSharedActUptoSaid : Prop := fnSharedActUptoRow.holds Try.pinned (OpenSpec.upto fnSharedActSpec)

end Rows
end Go.Proofs.Ytaplpgmkobokhaa
