/-
  No cell of these rows narrows 'for every input' (looked for: loops, veiled, ifaces, maps, wideKeys, modest, calm, conditions, laid).
  DERIVED. THE GIVEN ROWS OF THIS SEAT. 12 by the template 'for every input the law returns true; each argument reads behind the call as it read before'; 0 by the template 'total and deterministic' (their statements: YtmmlfjohknfbmaaTotals.lean).
  GIVEN WITH THE SEED: the statements are not yours to turn. If you find one false, say at which input.
  Laid BY PROGRAM, IN A SANDBOX (cutbox-rows.mjs): the forced cells as the released guide's own fill.sh prints them over the translation 8982a9a14e0f2040… (all of the seat's roots in one cut). By AI agents, Wed Nov 11 2026. No macro, syntax, notation, axiom, sorry.
-/
import Derived.Test.YtmmlfjohknfbmaaChecked
import GoSem.Claim
import GoSem.ClaimJoined
import GoSem.ClaimMapViews
import Derived.JoinedTies
import Derived.KernelRfl
namespace Go.Proofs.Ytmmlfjohknfbmaa
/- THE CELL 'sum', in the pinned program and in every row, IS THE sha256 OF THE DUMP (.gsa) THAT YtmmlfjohknfbmaaProg.lean LOADS. Nothing in Lean hashes anything: it is a label: what it is worth is what the hold of that sum in a sandbox is worth. -/
noncomputable def Try.pinned : Pinned := { name := "ytmmlfjohknfbmaa", sum := "8982a9a14e0f20404a44b41c5805d01440bfc00c1e159b835c173c24a53891ef", checked := Try.checked }
namespace Rows
def none {H : Type} : Left H := { results := [], args := [] }

/-- 'laws.FnExactFirstOf': WHATEVER THE INPUT: true; the input reads as it did. -/
def fnExactFirstOfSpec : ChangeSpec := { name := "fnExactFirstOf", fn := fun _ => fun
  | [d] => { results := [.lit (.bool true)], args := [d] }
  | _ => none }
def fnExactFirstOfRow : OpenClaim := { program := "ytmmlfjohknfbmaa", sum := "8982a9a14e0f20404a44b41c5805d01440bfc00c1e159b835c173c24a53891ef", func := "loop.example/weighedevidence/laws.FnExactFirstOf", spec := "fnExactFirstOf", unfollowed := true, recurses := true, apart := false }
def FnExactFirstOfSaid : Prop := fnExactFirstOfRow.holds Try.pinned (OpenSpec.ofChange fnExactFirstOfSpec)

/-- ITS FALSE NEIGHBOUR: 'it returns false'. Refute it at one input. -/
def fnExactFirstOfWrong : ChangeSpec := { name := "fnExactFirstOf", fn := fun _ => fun
  | [d] => { results := [.lit (.bool false)], args := [d] }
  | _ => none }
def FnExactFirstOfWrongFalsely : Prop := fnExactFirstOfRow.holds Try.pinned (OpenSpec.ofChange fnExactFirstOfWrong)

/-- 'laws.FnExactSecondOf': WHATEVER THE INPUT: true; the input reads as it did. -/
def fnExactSecondOfSpec : ChangeSpec := { name := "fnExactSecondOf", fn := fun _ => fun
  | [d] => { results := [.lit (.bool true)], args := [d] }
  | _ => none }
def fnExactSecondOfRow : OpenClaim := { program := "ytmmlfjohknfbmaa", sum := "8982a9a14e0f20404a44b41c5805d01440bfc00c1e159b835c173c24a53891ef", func := "loop.example/weighedevidence/laws.FnExactSecondOf", spec := "fnExactSecondOf", unfollowed := true, recurses := true, apart := false }
def FnExactSecondOfSaid : Prop := fnExactSecondOfRow.holds Try.pinned (OpenSpec.ofChange fnExactSecondOfSpec)

/-- ITS FALSE NEIGHBOUR: 'it returns false'. Refute it at one input. -/
def fnExactSecondOfWrong : ChangeSpec := { name := "fnExactSecondOf", fn := fun _ => fun
  | [d] => { results := [.lit (.bool false)], args := [d] }
  | _ => none }
def FnExactSecondOfWrongFalsely : Prop := fnExactSecondOfRow.holds Try.pinned (OpenSpec.ofChange fnExactSecondOfWrong)

/-- 'laws.FnExactSafestAct': WHATEVER THE INPUT: true; the input reads as it did. -/
def fnExactSafestActSpec : ChangeSpec := { name := "fnExactSafestAct", fn := fun _ => fun
  | [d1, d2] => { results := [.lit (.bool true)], args := [d1, d2] }
  | _ => none }
def fnExactSafestActRow : OpenClaim := { program := "ytmmlfjohknfbmaa", sum := "8982a9a14e0f20404a44b41c5805d01440bfc00c1e159b835c173c24a53891ef", func := "loop.example/weighedevidence/laws.FnExactSafestAct", spec := "fnExactSafestAct", unfollowed := true, recurses := true, apart := false }
def FnExactSafestActSaid : Prop := fnExactSafestActRow.holds Try.pinned (OpenSpec.ofChange fnExactSafestActSpec)

/-- ITS FALSE NEIGHBOUR: 'it returns false'. Refute it at one input. -/
def fnExactSafestActWrong : ChangeSpec := { name := "fnExactSafestAct", fn := fun _ => fun
  | [d1, d2] => { results := [.lit (.bool false)], args := [d1, d2] }
  | _ => none }
def FnExactSafestActWrongFalsely : Prop := fnExactSafestActRow.holds Try.pinned (OpenSpec.ofChange fnExactSafestActWrong)

/-- 'laws.FnExactBoldestAct': WHATEVER THE INPUT: true; the input reads as it did. -/
def fnExactBoldestActSpec : ChangeSpec := { name := "fnExactBoldestAct", fn := fun _ => fun
  | [d1, d2] => { results := [.lit (.bool true)], args := [d1, d2] }
  | _ => none }
def fnExactBoldestActRow : OpenClaim := { program := "ytmmlfjohknfbmaa", sum := "8982a9a14e0f20404a44b41c5805d01440bfc00c1e159b835c173c24a53891ef", func := "loop.example/weighedevidence/laws.FnExactBoldestAct", spec := "fnExactBoldestAct", unfollowed := true, recurses := true, apart := false }
def FnExactBoldestActSaid : Prop := fnExactBoldestActRow.holds Try.pinned (OpenSpec.ofChange fnExactBoldestActSpec)

/-- ITS FALSE NEIGHBOUR: 'it returns false'. Refute it at one input. -/
def fnExactBoldestActWrong : ChangeSpec := { name := "fnExactBoldestAct", fn := fun _ => fun
  | [d1, d2] => { results := [.lit (.bool false)], args := [d1, d2] }
  | _ => none }
def FnExactBoldestActWrongFalsely : Prop := fnExactBoldestActRow.holds Try.pinned (OpenSpec.ofChange fnExactBoldestActWrong)

/-- 'laws.FnExactMeanOf': WHATEVER THE INPUT: true; the input reads as it did. -/
def fnExactMeanOfSpec : ChangeSpec := { name := "fnExactMeanOf", fn := fun _ => fun
  | [d1, d2] => { results := [.lit (.bool true)], args := [d1, d2] }
  | _ => none }
def fnExactMeanOfRow : OpenClaim := { program := "ytmmlfjohknfbmaa", sum := "8982a9a14e0f20404a44b41c5805d01440bfc00c1e159b835c173c24a53891ef", func := "loop.example/weighedevidence/laws.FnExactMeanOf", spec := "fnExactMeanOf", unfollowed := true, recurses := true, apart := false }
def FnExactMeanOfSaid : Prop := fnExactMeanOfRow.holds Try.pinned (OpenSpec.ofChange fnExactMeanOfSpec)

/-- ITS FALSE NEIGHBOUR: 'it returns false'. Refute it at one input. -/
def fnExactMeanOfWrong : ChangeSpec := { name := "fnExactMeanOf", fn := fun _ => fun
  | [d1, d2] => { results := [.lit (.bool false)], args := [d1, d2] }
  | _ => none }
def FnExactMeanOfWrongFalsely : Prop := fnExactMeanOfRow.holds Try.pinned (OpenSpec.ofChange fnExactMeanOfWrong)

/-- 'laws.FnExactBetweenAct': WHATEVER THE INPUT: true; the input reads as it did. -/
def fnExactBetweenActSpec : ChangeSpec := { name := "fnExactBetweenAct", fn := fun _ => fun
  | [d1, d2, d3] => { results := [.lit (.bool true)], args := [d1, d2, d3] }
  | _ => none }
def fnExactBetweenActRow : OpenClaim := { program := "ytmmlfjohknfbmaa", sum := "8982a9a14e0f20404a44b41c5805d01440bfc00c1e159b835c173c24a53891ef", func := "loop.example/weighedevidence/laws.FnExactBetweenAct", spec := "fnExactBetweenAct", unfollowed := true, recurses := true, apart := false }
def FnExactBetweenActSaid : Prop := fnExactBetweenActRow.holds Try.pinned (OpenSpec.ofChange fnExactBetweenActSpec)

/-- ITS FALSE NEIGHBOUR: 'it returns false'. Refute it at one input. -/
def fnExactBetweenActWrong : ChangeSpec := { name := "fnExactBetweenAct", fn := fun _ => fun
  | [d1, d2, d3] => { results := [.lit (.bool false)], args := [d1, d2, d3] }
  | _ => none }
def FnExactBetweenActWrongFalsely : Prop := fnExactBetweenActRow.holds Try.pinned (OpenSpec.ofChange fnExactBetweenActWrong)

/-- 'laws.FnExactUnbeatenActs': WHATEVER THE INPUT: true; the input reads as it did. -/
def fnExactUnbeatenActsSpec : ChangeSpec := { name := "fnExactUnbeatenActs", fn := fun _ => fun
  | [d1, d2] => { results := [.lit (.bool true)], args := [d1, d2] }
  | _ => none }
def fnExactUnbeatenActsRow : OpenClaim := { program := "ytmmlfjohknfbmaa", sum := "8982a9a14e0f20404a44b41c5805d01440bfc00c1e159b835c173c24a53891ef", func := "loop.example/weighedevidence/laws.FnExactUnbeatenActs", spec := "fnExactUnbeatenActs", unfollowed := true, recurses := true, apart := false }
def FnExactUnbeatenActsSaid : Prop := fnExactUnbeatenActsRow.holds Try.pinned (OpenSpec.ofChange fnExactUnbeatenActsSpec)

/-- ITS FALSE NEIGHBOUR: 'it returns false'. Refute it at one input. -/
def fnExactUnbeatenActsWrong : ChangeSpec := { name := "fnExactUnbeatenActs", fn := fun _ => fun
  | [d1, d2] => { results := [.lit (.bool false)], args := [d1, d2] }
  | _ => none }
def FnExactUnbeatenActsWrongFalsely : Prop := fnExactUnbeatenActsRow.holds Try.pinned (OpenSpec.ofChange fnExactUnbeatenActsWrong)

/-- 'laws.FnExactSharedAct': WHATEVER THE INPUT: true; the input reads as it did. -/
def fnExactSharedActSpec : ChangeSpec := { name := "fnExactSharedAct", fn := fun _ => fun
  | [d1, d2] => { results := [.lit (.bool true)], args := [d1, d2] }
  | _ => none }
def fnExactSharedActRow : OpenClaim := { program := "ytmmlfjohknfbmaa", sum := "8982a9a14e0f20404a44b41c5805d01440bfc00c1e159b835c173c24a53891ef", func := "loop.example/weighedevidence/laws.FnExactSharedAct", spec := "fnExactSharedAct", unfollowed := true, recurses := true, apart := false }
def FnExactSharedActSaid : Prop := fnExactSharedActRow.holds Try.pinned (OpenSpec.ofChange fnExactSharedActSpec)

/-- ITS FALSE NEIGHBOUR: 'it returns false'. Refute it at one input. -/
def fnExactSharedActWrong : ChangeSpec := { name := "fnExactSharedAct", fn := fun _ => fun
  | [d1, d2] => { results := [.lit (.bool false)], args := [d1, d2] }
  | _ => none }
def FnExactSharedActWrongFalsely : Prop := fnExactSharedActRow.holds Try.pinned (OpenSpec.ofChange fnExactSharedActWrong)

/-- 'laws.FnExactRegretOf': WHATEVER THE INPUT: true; the input reads as it did. -/
def fnExactRegretOfSpec : ChangeSpec := { name := "fnExactRegretOf", fn := fun _ => fun
  | [d1, d2, d3] => { results := [.lit (.bool true)], args := [d1, d2, d3] }
  | _ => none }
def fnExactRegretOfRow : OpenClaim := { program := "ytmmlfjohknfbmaa", sum := "8982a9a14e0f20404a44b41c5805d01440bfc00c1e159b835c173c24a53891ef", func := "loop.example/weighedevidence/laws.FnExactRegretOf", spec := "fnExactRegretOf", unfollowed := true, recurses := true, apart := false }
def FnExactRegretOfSaid : Prop := fnExactRegretOfRow.holds Try.pinned (OpenSpec.ofChange fnExactRegretOfSpec)

/-- ITS FALSE NEIGHBOUR: 'it returns false'. Refute it at one input. -/
def fnExactRegretOfWrong : ChangeSpec := { name := "fnExactRegretOf", fn := fun _ => fun
  | [d1, d2, d3] => { results := [.lit (.bool false)], args := [d1, d2, d3] }
  | _ => none }
def FnExactRegretOfWrongFalsely : Prop := fnExactRegretOfRow.holds Try.pinned (OpenSpec.ofChange fnExactRegretOfWrong)

/-- 'laws.FnExactPairMasses': WHATEVER THE INPUT: true; the input reads as it did. -/
def fnExactPairMassesSpec : ChangeSpec := { name := "fnExactPairMasses", fn := fun _ => fun
  | [d1, d2] => { results := [.lit (.bool true)], args := [d1, d2] }
  | _ => none }
def fnExactPairMassesRow : OpenClaim := { program := "ytmmlfjohknfbmaa", sum := "8982a9a14e0f20404a44b41c5805d01440bfc00c1e159b835c173c24a53891ef", func := "loop.example/weighedevidence/laws.FnExactPairMasses", spec := "fnExactPairMasses", unfollowed := true, recurses := true, apart := false }
def FnExactPairMassesSaid : Prop := fnExactPairMassesRow.holds Try.pinned (OpenSpec.ofChange fnExactPairMassesSpec)

/-- ITS FALSE NEIGHBOUR: 'it returns false'. Refute it at one input. -/
def fnExactPairMassesWrong : ChangeSpec := { name := "fnExactPairMasses", fn := fun _ => fun
  | [d1, d2] => { results := [.lit (.bool false)], args := [d1, d2] }
  | _ => none }
def FnExactPairMassesWrongFalsely : Prop := fnExactPairMassesRow.holds Try.pinned (OpenSpec.ofChange fnExactPairMassesWrong)

/-- 'laws.FnExactPassOn': WHATEVER THE INPUT: true; the input reads as it did. -/
def fnExactPassOnSpec : ChangeSpec := { name := "fnExactPassOn", fn := fun _ => fun
  | [d1, d2] => { results := [.lit (.bool true)], args := [d1, d2] }
  | _ => none }
def fnExactPassOnRow : OpenClaim := { program := "ytmmlfjohknfbmaa", sum := "8982a9a14e0f20404a44b41c5805d01440bfc00c1e159b835c173c24a53891ef", func := "loop.example/weighedevidence/laws.FnExactPassOn", spec := "fnExactPassOn", unfollowed := true, recurses := true, apart := false }
def FnExactPassOnSaid : Prop := fnExactPassOnRow.holds Try.pinned (OpenSpec.ofChange fnExactPassOnSpec)

/-- ITS FALSE NEIGHBOUR: 'it returns false'. Refute it at one input. -/
def fnExactPassOnWrong : ChangeSpec := { name := "fnExactPassOn", fn := fun _ => fun
  | [d1, d2] => { results := [.lit (.bool false)], args := [d1, d2] }
  | _ => none }
def FnExactPassOnWrongFalsely : Prop := fnExactPassOnRow.holds Try.pinned (OpenSpec.ofChange fnExactPassOnWrong)

/-- 'laws.FnExactIsIndependent': WHATEVER THE INPUT: true; the input reads as it did. -/
def fnExactIsIndependentSpec : ChangeSpec := { name := "fnExactIsIndependent", fn := fun _ => fun
  | [d] => { results := [.lit (.bool true)], args := [d] }
  | _ => none }
def fnExactIsIndependentRow : OpenClaim := { program := "ytmmlfjohknfbmaa", sum := "8982a9a14e0f20404a44b41c5805d01440bfc00c1e159b835c173c24a53891ef", func := "loop.example/weighedevidence/laws.FnExactIsIndependent", spec := "fnExactIsIndependent", unfollowed := true, recurses := true, apart := false }
def FnExactIsIndependentSaid : Prop := fnExactIsIndependentRow.holds Try.pinned (OpenSpec.ofChange fnExactIsIndependentSpec)

/-- ITS FALSE NEIGHBOUR: 'it returns false'. Refute it at one input. -/
def fnExactIsIndependentWrong : ChangeSpec := { name := "fnExactIsIndependent", fn := fun _ => fun
  | [d] => { results := [.lit (.bool false)], args := [d] }
  | _ => none }
def FnExactIsIndependentWrongFalsely : Prop := fnExactIsIndependentRow.holds Try.pinned (OpenSpec.ofChange fnExactIsIndependentWrong)

/- THE SECOND FORM. 'bulk': how many values and letters a reading holds, each counted each time it is reached (what is shared counts as often as it is met; a slice's spare places count too). A statement '..UptoSaid' is the law's where the arguments, and the package variables that the reading takes, are together of bulk at most 1048576: NARROWER than '..Said'. Prove '..Said' where nothing that the law and all that it calls make is longer than what came in: it says more and counts as full. Else prove '..UptoSaid'. A law counts once. -/
mutual
def uptoBulk {H : Type} : DataW H → Nat
  | .lit (.string bytes) => bytes.length + 1
  | .lit _ => 1
  | .nil => 1
  | .ptr d => uptoBulk d + 1
  | .slice elems spare => uptoBulkAll elems + uptoBulkAll spare + 1
  | .agg parts => uptoBulkAll parts + 1
  | .iface _ d => uptoBulk d + 1
  | .map entries => uptoBulkEntries entries + 1
  | .held _ => 1
def uptoBulkAll {H : Type} : List (DataW H) → Nat
  | [] => 0
  | d :: r => uptoBulk d + uptoBulkAll r
def uptoBulkEntries {H : Type} : List (Lit × DataW H) → Nat
  | [] => 0
  | x :: r => uptoBulkEntry x + uptoBulkEntries r
def uptoBulkEntry {H : Type} : Lit × DataW H → Nat
  | (.string bytes, d) => bytes.length + uptoBulk d + 1
  | (_, d) => uptoBulk d + 1
 end
def uptoSmall : (H : Type) → List (DataW H) → Bool := fun _ ds => decide (uptoBulkAll ds ≤ 1048576)
def OpenSpec.upto (s : _root_.Go.ChangeSpec) : _root_.Go.OpenSpec := { _root_.Go.OpenSpec.ofChange s with cond := some uptoSmall }

/-- 'laws.FnExactFirstOf', WHERE WHAT IT READS IS OF BULK AT MOST 1048576: true; the input reads as it did. -/
def fnExactFirstOfUptoRow : OpenClaim := { program := "ytmmlfjohknfbmaa", sum := "8982a9a14e0f20404a44b41c5805d01440bfc00c1e159b835c173c24a53891ef", func := "loop.example/weighedevidence/laws.FnExactFirstOf", spec := "fnExactFirstOf", unfollowed := true, recurses := true, apart := false, narrowed := true }
def FnExactFirstOfUptoSaid : Prop := fnExactFirstOfUptoRow.holds Try.pinned (OpenSpec.upto fnExactFirstOfSpec)

/-- 'laws.FnExactSecondOf', WHERE WHAT IT READS IS OF BULK AT MOST 1048576: true; the input reads as it did. -/
def fnExactSecondOfUptoRow : OpenClaim := { program := "ytmmlfjohknfbmaa", sum := "8982a9a14e0f20404a44b41c5805d01440bfc00c1e159b835c173c24a53891ef", func := "loop.example/weighedevidence/laws.FnExactSecondOf", spec := "fnExactSecondOf", unfollowed := true, recurses := true, apart := false, narrowed := true }
def FnExactSecondOfUptoSaid : Prop := fnExactSecondOfUptoRow.holds Try.pinned (OpenSpec.upto fnExactSecondOfSpec)

/-- 'laws.FnExactSafestAct', WHERE WHAT IT READS IS OF BULK AT MOST 1048576: true; the input reads as it did. -/
def fnExactSafestActUptoRow : OpenClaim := { program := "ytmmlfjohknfbmaa", sum := "8982a9a14e0f20404a44b41c5805d01440bfc00c1e159b835c173c24a53891ef", func := "loop.example/weighedevidence/laws.FnExactSafestAct", spec := "fnExactSafestAct", unfollowed := true, recurses := true, apart := false, narrowed := true }
def FnExactSafestActUptoSaid : Prop := fnExactSafestActUptoRow.holds Try.pinned (OpenSpec.upto fnExactSafestActSpec)

/-- 'laws.FnExactBoldestAct', WHERE WHAT IT READS IS OF BULK AT MOST 1048576: true; the input reads as it did. -/
def fnExactBoldestActUptoRow : OpenClaim := { program := "ytmmlfjohknfbmaa", sum := "8982a9a14e0f20404a44b41c5805d01440bfc00c1e159b835c173c24a53891ef", func := "loop.example/weighedevidence/laws.FnExactBoldestAct", spec := "fnExactBoldestAct", unfollowed := true, recurses := true, apart := false, narrowed := true }
def FnExactBoldestActUptoSaid : Prop := fnExactBoldestActUptoRow.holds Try.pinned (OpenSpec.upto fnExactBoldestActSpec)

/-- 'laws.FnExactMeanOf', WHERE WHAT IT READS IS OF BULK AT MOST 1048576: true; the input reads as it did. -/
def fnExactMeanOfUptoRow : OpenClaim := { program := "ytmmlfjohknfbmaa", sum := "8982a9a14e0f20404a44b41c5805d01440bfc00c1e159b835c173c24a53891ef", func := "loop.example/weighedevidence/laws.FnExactMeanOf", spec := "fnExactMeanOf", unfollowed := true, recurses := true, apart := false, narrowed := true }
def FnExactMeanOfUptoSaid : Prop := fnExactMeanOfUptoRow.holds Try.pinned (OpenSpec.upto fnExactMeanOfSpec)

/-- 'laws.FnExactBetweenAct', WHERE WHAT IT READS IS OF BULK AT MOST 1048576: true; the input reads as it did. -/
def fnExactBetweenActUptoRow : OpenClaim := { program := "ytmmlfjohknfbmaa", sum := "8982a9a14e0f20404a44b41c5805d01440bfc00c1e159b835c173c24a53891ef", func := "loop.example/weighedevidence/laws.FnExactBetweenAct", spec := "fnExactBetweenAct", unfollowed := true, recurses := true, apart := false, narrowed := true }
def FnExactBetweenActUptoSaid : Prop := fnExactBetweenActUptoRow.holds Try.pinned (OpenSpec.upto fnExactBetweenActSpec)

/-- 'laws.FnExactUnbeatenActs', WHERE WHAT IT READS IS OF BULK AT MOST 1048576: true; the input reads as it did. -/
def fnExactUnbeatenActsUptoRow : OpenClaim := { program := "ytmmlfjohknfbmaa", sum := "8982a9a14e0f20404a44b41c5805d01440bfc00c1e159b835c173c24a53891ef", func := "loop.example/weighedevidence/laws.FnExactUnbeatenActs", spec := "fnExactUnbeatenActs", unfollowed := true, recurses := true, apart := false, narrowed := true }
def FnExactUnbeatenActsUptoSaid : Prop := fnExactUnbeatenActsUptoRow.holds Try.pinned (OpenSpec.upto fnExactUnbeatenActsSpec)

/-- 'laws.FnExactSharedAct', WHERE WHAT IT READS IS OF BULK AT MOST 1048576: true; the input reads as it did. -/
def fnExactSharedActUptoRow : OpenClaim := { program := "ytmmlfjohknfbmaa", sum := "8982a9a14e0f20404a44b41c5805d01440bfc00c1e159b835c173c24a53891ef", func := "loop.example/weighedevidence/laws.FnExactSharedAct", spec := "fnExactSharedAct", unfollowed := true, recurses := true, apart := false, narrowed := true }
def FnExactSharedActUptoSaid : Prop := fnExactSharedActUptoRow.holds Try.pinned (OpenSpec.upto fnExactSharedActSpec)

/-- 'laws.FnExactRegretOf', WHERE WHAT IT READS IS OF BULK AT MOST 1048576: true; the input reads as it did. -/
def fnExactRegretOfUptoRow : OpenClaim := { program := "ytmmlfjohknfbmaa", sum := "8982a9a14e0f20404a44b41c5805d01440bfc00c1e159b835c173c24a53891ef", func := "loop.example/weighedevidence/laws.FnExactRegretOf", spec := "fnExactRegretOf", unfollowed := true, recurses := true, apart := false, narrowed := true }
def FnExactRegretOfUptoSaid : Prop := fnExactRegretOfUptoRow.holds Try.pinned (OpenSpec.upto fnExactRegretOfSpec)

/-- 'laws.FnExactPairMasses', WHERE WHAT IT READS IS OF BULK AT MOST 1048576: true; the input reads as it did. -/
def fnExactPairMassesUptoRow : OpenClaim := { program := "ytmmlfjohknfbmaa", sum := "8982a9a14e0f20404a44b41c5805d01440bfc00c1e159b835c173c24a53891ef", func := "loop.example/weighedevidence/laws.FnExactPairMasses", spec := "fnExactPairMasses", unfollowed := true, recurses := true, apart := false, narrowed := true }
def FnExactPairMassesUptoSaid : Prop := fnExactPairMassesUptoRow.holds Try.pinned (OpenSpec.upto fnExactPairMassesSpec)

/-- 'laws.FnExactPassOn', WHERE WHAT IT READS IS OF BULK AT MOST 1048576: true; the input reads as it did. -/
def fnExactPassOnUptoRow : OpenClaim := { program := "ytmmlfjohknfbmaa", sum := "8982a9a14e0f20404a44b41c5805d01440bfc00c1e159b835c173c24a53891ef", func := "loop.example/weighedevidence/laws.FnExactPassOn", spec := "fnExactPassOn", unfollowed := true, recurses := true, apart := false, narrowed := true }
def FnExactPassOnUptoSaid : Prop := fnExactPassOnUptoRow.holds Try.pinned (OpenSpec.upto fnExactPassOnSpec)

/-- 'laws.FnExactIsIndependent', WHERE WHAT IT READS IS OF BULK AT MOST 1048576: true; the input reads as it did. -/
def fnExactIsIndependentUptoRow : OpenClaim := { program := "ytmmlfjohknfbmaa", sum := "8982a9a14e0f20404a44b41c5805d01440bfc00c1e159b835c173c24a53891ef", func := "loop.example/weighedevidence/laws.FnExactIsIndependent", spec := "fnExactIsIndependent", unfollowed := true, recurses := true, apart := false, narrowed := true }
def FnExactIsIndependentUptoSaid : Prop := fnExactIsIndependentUptoRow.holds Try.pinned (OpenSpec.upto fnExactIsIndependentSpec)

end Rows
end Go.Proofs.Ytmmlfjohknfbmaa
