/-
  No cell of these rows narrows 'for every input' (looked for: loops, veiled, ifaces, maps, wideKeys, modest, calm, conditions, laid).
  DERIVED. THE GIVEN ROWS OF THIS SEAT. 9 by the template 'for every input the law returns true; each argument reads behind the call as it read before'; 0 by the template 'total and deterministic' (their statements: YtchjnjmlambpjaaTotals.lean).
  GIVEN WITH THE SEED: the statements are not yours to turn. If you find one false, say at which input.
  Laid BY PROGRAM, IN A SANDBOX (cutbox-rows.mjs): the forced cells as the released guide's own fill.sh prints them over the translation a9b77e5532738b8c… (all of the seat's roots in one cut). By AI agents, Wed Nov 11 2026. No macro, syntax, notation, axiom, sorry.
-/
import Derived.Test.YtchjnjmlambpjaaChecked
import GoSem.Claim
import GoSem.ClaimJoined
import GoSem.ClaimMapViews
import Derived.JoinedTies
import Derived.KernelRfl
namespace Go.Proofs.Ytchjnjmlambpjaa
/- THE CELL 'sum', in the pinned program and in every row, IS THE sha256 OF THE DUMP (.gsa) THAT YtchjnjmlambpjaaProg.lean LOADS. Nothing in Lean hashes anything: it is a label: what it is worth is what the hold of that sum in a sandbox is worth. -/
noncomputable def Try.pinned : Pinned := { name := "ytchjnjmlambpjaa", sum := "a9b77e5532738b8c6c5df3d8e60aee540b6879b13e1ec30b5e8c0e80b01b96f1", checked := Try.checked }
namespace Rows
def none {H : Type} : Left H := { results := [], args := [] }

/-- 'laws.FnExactCornersOf': WHATEVER THE INPUT: true; the input reads as it did. -/
def fnExactCornersOfSpec : ChangeSpec := { name := "fnExactCornersOf", fn := fun _ => fun
  | [d] => { results := [.lit (.bool true)], args := [d] }
  | _ => none }
def fnExactCornersOfRow : OpenClaim := { program := "ytchjnjmlambpjaa", sum := "a9b77e5532738b8c6c5df3d8e60aee540b6879b13e1ec30b5e8c0e80b01b96f1", func := "loop.example/weighedevidence/laws.FnExactCornersOf", spec := "fnExactCornersOf", unfollowed := true, recurses := true, apart := false }
def FnExactCornersOfSaid : Prop := fnExactCornersOfRow.holds Try.pinned (OpenSpec.ofChange fnExactCornersOfSpec)

/-- ITS FALSE NEIGHBOUR: 'it returns false'. Refute it at one input. -/
def fnExactCornersOfWrong : ChangeSpec := { name := "fnExactCornersOf", fn := fun _ => fun
  | [d] => { results := [.lit (.bool false)], args := [d] }
  | _ => none }
def FnExactCornersOfWrongFalsely : Prop := fnExactCornersOfRow.holds Try.pinned (OpenSpec.ofChange fnExactCornersOfWrong)

/-- 'laws.FnExactWorstChance': WHATEVER THE INPUT: true; the input reads as it did. -/
def fnExactWorstChanceSpec : ChangeSpec := { name := "fnExactWorstChance", fn := fun _ => fun
  | [d1, d2] => { results := [.lit (.bool true)], args := [d1, d2] }
  | _ => none }
def fnExactWorstChanceRow : OpenClaim := { program := "ytchjnjmlambpjaa", sum := "a9b77e5532738b8c6c5df3d8e60aee540b6879b13e1ec30b5e8c0e80b01b96f1", func := "loop.example/weighedevidence/laws.FnExactWorstChance", spec := "fnExactWorstChance", unfollowed := true, recurses := true, apart := false }
def FnExactWorstChanceSaid : Prop := fnExactWorstChanceRow.holds Try.pinned (OpenSpec.ofChange fnExactWorstChanceSpec)

/-- ITS FALSE NEIGHBOUR: 'it returns false'. Refute it at one input. -/
def fnExactWorstChanceWrong : ChangeSpec := { name := "fnExactWorstChance", fn := fun _ => fun
  | [d1, d2] => { results := [.lit (.bool false)], args := [d1, d2] }
  | _ => none }
def FnExactWorstChanceWrongFalsely : Prop := fnExactWorstChanceRow.holds Try.pinned (OpenSpec.ofChange fnExactWorstChanceWrong)

/-- 'laws.FnCorners': WHATEVER THE INPUT: true; the input reads as it did. -/
def fnCornersSpec : ChangeSpec := { name := "fnCorners", fn := fun _ => fun
  | [d] => { results := [.lit (.bool true)], args := [d] }
  | _ => none }
def fnCornersRow : OpenClaim := { program := "ytchjnjmlambpjaa", sum := "a9b77e5532738b8c6c5df3d8e60aee540b6879b13e1ec30b5e8c0e80b01b96f1", func := "loop.example/weighedevidence/laws.FnCorners", spec := "fnCorners", unfollowed := true, recurses := true, apart := false }
def FnCornersSaid : Prop := fnCornersRow.holds Try.pinned (OpenSpec.ofChange fnCornersSpec)

/-- ITS FALSE NEIGHBOUR: 'it returns false'. Refute it at one input. -/
def fnCornersWrong : ChangeSpec := { name := "fnCorners", fn := fun _ => fun
  | [d] => { results := [.lit (.bool false)], args := [d] }
  | _ => none }
def FnCornersWrongFalsely : Prop := fnCornersRow.holds Try.pinned (OpenSpec.ofChange fnCornersWrong)

/-- 'laws.FnMeans': WHATEVER THE INPUT: true; the input reads as it did. -/
def fnMeansSpec : ChangeSpec := { name := "fnMeans", fn := fun _ => fun
  | [d] => { results := [.lit (.bool true)], args := [d] }
  | _ => none }
def fnMeansRow : OpenClaim := { program := "ytchjnjmlambpjaa", sum := "a9b77e5532738b8c6c5df3d8e60aee540b6879b13e1ec30b5e8c0e80b01b96f1", func := "loop.example/weighedevidence/laws.FnMeans", spec := "fnMeans", unfollowed := true, recurses := true, apart := false }
def FnMeansSaid : Prop := fnMeansRow.holds Try.pinned (OpenSpec.ofChange fnMeansSpec)

/-- ITS FALSE NEIGHBOUR: 'it returns false'. Refute it at one input. -/
def fnMeansWrong : ChangeSpec := { name := "fnMeans", fn := fun _ => fun
  | [d] => { results := [.lit (.bool false)], args := [d] }
  | _ => none }
def FnMeansWrongFalsely : Prop := fnMeansRow.holds Try.pinned (OpenSpec.ofChange fnMeansWrong)

/-- 'laws.FnWorstChance': WHATEVER THE INPUT: true; the input reads as it did. -/
def fnWorstChanceSpec : ChangeSpec := { name := "fnWorstChance", fn := fun _ => fun
  | [d] => { results := [.lit (.bool true)], args := [d] }
  | _ => none }
def fnWorstChanceRow : OpenClaim := { program := "ytchjnjmlambpjaa", sum := "a9b77e5532738b8c6c5df3d8e60aee540b6879b13e1ec30b5e8c0e80b01b96f1", func := "loop.example/weighedevidence/laws.FnWorstChance", spec := "fnWorstChance", unfollowed := true, recurses := true, apart := false }
def FnWorstChanceSaid : Prop := fnWorstChanceRow.holds Try.pinned (OpenSpec.ofChange fnWorstChanceSpec)

/-- ITS FALSE NEIGHBOUR: 'it returns false'. Refute it at one input. -/
def fnWorstChanceWrong : ChangeSpec := { name := "fnWorstChance", fn := fun _ => fun
  | [d] => { results := [.lit (.bool false)], args := [d] }
  | _ => none }
def FnWorstChanceWrongFalsely : Prop := fnWorstChanceRow.holds Try.pinned (OpenSpec.ofChange fnWorstChanceWrong)

/-- 'laws.FnBeatsAct': WHATEVER THE INPUT: true; the input reads as it did. -/
def fnBeatsActSpec : ChangeSpec := { name := "fnBeatsAct", fn := fun _ => fun
  | [d] => { results := [.lit (.bool true)], args := [d] }
  | _ => none }
def fnBeatsActRow : OpenClaim := { program := "ytchjnjmlambpjaa", sum := "a9b77e5532738b8c6c5df3d8e60aee540b6879b13e1ec30b5e8c0e80b01b96f1", func := "loop.example/weighedevidence/laws.FnBeatsAct", spec := "fnBeatsAct", unfollowed := true, recurses := true, apart := false }
def FnBeatsActSaid : Prop := fnBeatsActRow.holds Try.pinned (OpenSpec.ofChange fnBeatsActSpec)

/-- ITS FALSE NEIGHBOUR: 'it returns false'. Refute it at one input. -/
def fnBeatsActWrong : ChangeSpec := { name := "fnBeatsAct", fn := fun _ => fun
  | [d] => { results := [.lit (.bool false)], args := [d] }
  | _ => none }
def FnBeatsActWrongFalsely : Prop := fnBeatsActRow.holds Try.pinned (OpenSpec.ofChange fnBeatsActWrong)

/-- 'laws.FnRegret': WHATEVER THE INPUT: true; the input reads as it did. -/
def fnRegretSpec : ChangeSpec := { name := "fnRegret", fn := fun _ => fun
  | [d] => { results := [.lit (.bool true)], args := [d] }
  | _ => none }
def fnRegretRow : OpenClaim := { program := "ytchjnjmlambpjaa", sum := "a9b77e5532738b8c6c5df3d8e60aee540b6879b13e1ec30b5e8c0e80b01b96f1", func := "loop.example/weighedevidence/laws.FnRegret", spec := "fnRegret", unfollowed := true, recurses := true, apart := false }
def FnRegretSaid : Prop := fnRegretRow.holds Try.pinned (OpenSpec.ofChange fnRegretSpec)

/-- ITS FALSE NEIGHBOUR: 'it returns false'. Refute it at one input. -/
def fnRegretWrong : ChangeSpec := { name := "fnRegret", fn := fun _ => fun
  | [d] => { results := [.lit (.bool false)], args := [d] }
  | _ => none }
def FnRegretWrongFalsely : Prop := fnRegretRow.holds Try.pinned (OpenSpec.ofChange fnRegretWrong)

/-- 'laws.FnExactPossiblyBest': WHATEVER THE INPUT: true; the input reads as it did. -/
def fnExactPossiblyBestSpec : ChangeSpec := { name := "fnExactPossiblyBest", fn := fun _ => fun
  | [d1, d2] => { results := [.lit (.bool true)], args := [d1, d2] }
  | _ => none }
def fnExactPossiblyBestRow : OpenClaim := { program := "ytchjnjmlambpjaa", sum := "a9b77e5532738b8c6c5df3d8e60aee540b6879b13e1ec30b5e8c0e80b01b96f1", func := "loop.example/weighedevidence/laws.FnExactPossiblyBest", spec := "fnExactPossiblyBest", unfollowed := true, recurses := true, apart := false }
def FnExactPossiblyBestSaid : Prop := fnExactPossiblyBestRow.holds Try.pinned (OpenSpec.ofChange fnExactPossiblyBestSpec)

/-- ITS FALSE NEIGHBOUR: 'it returns false'. Refute it at one input. -/
def fnExactPossiblyBestWrong : ChangeSpec := { name := "fnExactPossiblyBest", fn := fun _ => fun
  | [d1, d2] => { results := [.lit (.bool false)], args := [d1, d2] }
  | _ => none }
def FnExactPossiblyBestWrongFalsely : Prop := fnExactPossiblyBestRow.holds Try.pinned (OpenSpec.ofChange fnExactPossiblyBestWrong)

/-- 'laws.FnUnbeaten': WHATEVER THE INPUT: true; the input reads as it did. -/
def fnUnbeatenSpec : ChangeSpec := { name := "fnUnbeaten", fn := fun _ => fun
  | [d] => { results := [.lit (.bool true)], args := [d] }
  | _ => none }
def fnUnbeatenRow : OpenClaim := { program := "ytchjnjmlambpjaa", sum := "a9b77e5532738b8c6c5df3d8e60aee540b6879b13e1ec30b5e8c0e80b01b96f1", func := "loop.example/weighedevidence/laws.FnUnbeaten", spec := "fnUnbeaten", unfollowed := true, recurses := true, apart := false }
def FnUnbeatenSaid : Prop := fnUnbeatenRow.holds Try.pinned (OpenSpec.ofChange fnUnbeatenSpec)

/-- ITS FALSE NEIGHBOUR: 'it returns false'. Refute it at one input. -/
def fnUnbeatenWrong : ChangeSpec := { name := "fnUnbeaten", fn := fun _ => fun
  | [d] => { results := [.lit (.bool false)], args := [d] }
  | _ => none }
def FnUnbeatenWrongFalsely : Prop := fnUnbeatenRow.holds Try.pinned (OpenSpec.ofChange fnUnbeatenWrong)

/- THE SECOND FORM. 'bulk': how many values and letters a reading holds, each counted each time it is reached (what is shared counts as often as it is met; a slice's spare places count too). A statement '..UptoSaid' is the law's where the arguments, and the package variables that the reading takes, are together of bulk at most 1048576: NARROWER than '..Said'. Prove '..Said' where nothing that the law and all that it calls make is longer than what came in: it says more and counts as full. Else prove '..UptoSaid'. A law counts once. -/
mutual
def uptoBulk {H : Type} : DataW H → Nat
  | .lit (.string bytes) => bytes.length + 1
  | .lit _ => 1
  | .nil => 1
  | .ptr d => uptoBulk d + 1
  | .slice elems spare => uptoBulkAll elems + uptoBulkAll spare + 1
  | .agg parts => uptoBulkAll parts + 1
  | .iface _ d => uptoBulk d + 1
  | .map entries => uptoBulkEntries entries + 1
  | .held _ => 1
def uptoBulkAll {H : Type} : List (DataW H) → Nat
  | [] => 0
  | d :: r => uptoBulk d + uptoBulkAll r
def uptoBulkEntries {H : Type} : List (Lit × DataW H) → Nat
  | [] => 0
  | x :: r => uptoBulkEntry x + uptoBulkEntries r
def uptoBulkEntry {H : Type} : Lit × DataW H → Nat
  | (.string bytes, d) => bytes.length + uptoBulk d + 1
  | (_, d) => uptoBulk d + 1
 end
def uptoSmall : (H : Type) → List (DataW H) → Bool := fun _ ds => decide (uptoBulkAll ds ≤ 1048576)
def OpenSpec.upto (s : _root_.Go.ChangeSpec) : _root_.Go.OpenSpec := { _root_.Go.OpenSpec.ofChange s with cond := some uptoSmall }

/-- 'laws.FnExactCornersOf', WHERE WHAT IT READS IS OF BULK AT MOST 1048576: true; the input reads as it did. -/
def fnExactCornersOfUptoRow : OpenClaim := { program := "ytchjnjmlambpjaa", sum := "a9b77e5532738b8c6c5df3d8e60aee540b6879b13e1ec30b5e8c0e80b01b96f1", func := "loop.example/weighedevidence/laws.FnExactCornersOf", spec := "fnExactCornersOf", unfollowed := true, recurses := true, apart := false, narrowed := true }
def FnExactCornersOfUptoSaid : Prop := fnExactCornersOfUptoRow.holds Try.pinned (OpenSpec.upto fnExactCornersOfSpec)

/-- 'laws.FnExactWorstChance', WHERE WHAT IT READS IS OF BULK AT MOST 1048576: true; the input reads as it did. -/
def fnExactWorstChanceUptoRow : OpenClaim := { program := "ytchjnjmlambpjaa", sum := "a9b77e5532738b8c6c5df3d8e60aee540b6879b13e1ec30b5e8c0e80b01b96f1", func := "loop.example/weighedevidence/laws.FnExactWorstChance", spec := "fnExactWorstChance", unfollowed := true, recurses := true, apart := false, narrowed := true }
def FnExactWorstChanceUptoSaid : Prop := fnExactWorstChanceUptoRow.holds Try.pinned (OpenSpec.upto fnExactWorstChanceSpec)

/-- 'laws.FnCorners', WHERE WHAT IT READS IS OF BULK AT MOST 1048576: true; the input reads as it did. -/
def fnCornersUptoRow : OpenClaim := { program := "ytchjnjmlambpjaa", sum := "a9b77e5532738b8c6c5df3d8e60aee540b6879b13e1ec30b5e8c0e80b01b96f1", func := "loop.example/weighedevidence/laws.FnCorners", spec := "fnCorners", unfollowed := true, recurses := true, apart := false, narrowed := true }
def FnCornersUptoSaid : Prop := fnCornersUptoRow.holds Try.pinned (OpenSpec.upto fnCornersSpec)

/-- 'laws.FnMeans', WHERE WHAT IT READS IS OF BULK AT MOST 1048576: true; the input reads as it did. -/
def fnMeansUptoRow : OpenClaim := { program := "ytchjnjmlambpjaa", sum := "a9b77e5532738b8c6c5df3d8e60aee540b6879b13e1ec30b5e8c0e80b01b96f1", func := "loop.example/weighedevidence/laws.FnMeans", spec := "fnMeans", unfollowed := true, recurses := true, apart := false, narrowed := true }
def FnMeansUptoSaid : Prop := fnMeansUptoRow.holds Try.pinned (OpenSpec.upto fnMeansSpec)

/-- 'laws.FnWorstChance', WHERE WHAT IT READS IS OF BULK AT MOST 1048576: true; the input reads as it did. -/
def fnWorstChanceUptoRow : OpenClaim := { program := "ytchjnjmlambpjaa", sum := "a9b77e5532738b8c6c5df3d8e60aee540b6879b13e1ec30b5e8c0e80b01b96f1", func := "loop.example/weighedevidence/laws.FnWorstChance", spec := "fnWorstChance", unfollowed := true, recurses := true, apart := false, narrowed := true }
def FnWorstChanceUptoSaid : Prop := fnWorstChanceUptoRow.holds Try.pinned (OpenSpec.upto fnWorstChanceSpec)

/-- 'laws.FnBeatsAct', WHERE WHAT IT READS IS OF BULK AT MOST 1048576: true; the input reads as it did. -/
def fnBeatsActUptoRow : OpenClaim := { program := "ytchjnjmlambpjaa", sum := "a9b77e5532738b8c6c5df3d8e60aee540b6879b13e1ec30b5e8c0e80b01b96f1", func := "loop.example/weighedevidence/laws.FnBeatsAct", spec := "fnBeatsAct", unfollowed := true, recurses := true, apart := false, narrowed := true }
def FnBeatsActUptoSaid : Prop := fnBeatsActUptoRow.holds Try.pinned (OpenSpec.upto fnBeatsActSpec)

/-- 'laws.FnRegret', WHERE WHAT IT READS IS OF BULK AT MOST 1048576: true; the input reads as it did. -/
def fnRegretUptoRow : OpenClaim := { program := "ytchjnjmlambpjaa", sum := "a9b77e5532738b8c6c5df3d8e60aee540b6879b13e1ec30b5e8c0e80b01b96f1", func := "loop.example/weighedevidence/laws.FnRegret", spec := "fnRegret", unfollowed := true, recurses := true, apart := false, narrowed := true }
def FnRegretUptoSaid : Prop := fnRegretUptoRow.holds Try.pinned (OpenSpec.upto fnRegretSpec)

/-- 'laws.FnExactPossiblyBest', WHERE WHAT IT READS IS OF BULK AT MOST 1048576: true; the input reads as it did. -/
def fnExactPossiblyBestUptoRow : OpenClaim := { program := "ytchjnjmlambpjaa", sum := "a9b77e5532738b8c6c5df3d8e60aee540b6879b13e1ec30b5e8c0e80b01b96f1", func := "loop.example/weighedevidence/laws.FnExactPossiblyBest", spec := "fnExactPossiblyBest", unfollowed := true, recurses := true, apart := false, narrowed := true }
def FnExactPossiblyBestUptoSaid : Prop := fnExactPossiblyBestUptoRow.holds Try.pinned (OpenSpec.upto fnExactPossiblyBestSpec)

/-- 'laws.FnUnbeaten', WHERE WHAT IT READS IS OF BULK AT MOST 1048576: true; the input reads as it did. -/
def fnUnbeatenUptoRow : OpenClaim := { program := "ytchjnjmlambpjaa", sum := "a9b77e5532738b8c6c5df3d8e60aee540b6879b13e1ec30b5e8c0e80b01b96f1", func := "loop.example/weighedevidence/laws.FnUnbeaten", spec := "fnUnbeaten", unfollowed := true, recurses := true, apart := false, narrowed := true }
def FnUnbeatenUptoSaid : Prop := fnUnbeatenUptoRow.holds Try.pinned (OpenSpec.upto fnUnbeatenSpec)

end Rows
end Go.Proofs.Ytchjnjmlambpjaa
