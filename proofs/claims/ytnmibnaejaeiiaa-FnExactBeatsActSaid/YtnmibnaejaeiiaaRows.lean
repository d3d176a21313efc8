/-
  No cell of these rows narrows 'for every input' (looked for: loops, veiled, ifaces, maps, wideKeys, modest, calm, conditions, laid).
  DERIVED. THE GIVEN ROWS OF THIS SEAT. 6 by the template 'for every input the law returns true; each argument reads behind the call as it read before'; 0 by the template 'total and deterministic' (their statements: YtnmibnaejaeiiaaTotals.lean).
  GIVEN WITH THE SEED: the statements are not yours to turn. If you find one false, say at which input.
  Laid BY PROGRAM, IN A SANDBOX (cutbox-rows.mjs): the forced cells as the released guide's own fill.sh prints them over the translation 8b2a2d2caea19b86… (all of the seat's roots in one cut). By AI agents, Wed Nov 11 2026. No macro, syntax, notation, axiom, sorry.
-/
import Derived.Test.YtnmibnaejaeiiaaChecked
import GoSem.Claim
import GoSem.ClaimJoined
import GoSem.ClaimMapViews
import Derived.JoinedTies
import Derived.KernelRfl
namespace Go.Proofs.Ytnmibnaejaeiiaa
/- THE CELL 'sum', in the pinned program and in every row, IS THE sha256 OF THE DUMP (.gsa) THAT YtnmibnaejaeiiaaProg.lean LOADS. Nothing in Lean hashes anything: it is a label: what it is worth is what the hold of that sum in a sandbox is worth. -/
noncomputable def Try.pinned : Pinned := { name := "ytnmibnaejaeiiaa", sum := "8b2a2d2caea19b862b440fe4eb0be28e5cb0bbdaceea8118b72fe86024a3a3b4", checked := Try.checked }
namespace Rows
def none {H : Type} : Left H := { results := [], args := [] }

/-- 'laws.FnExactActsValid': WHATEVER THE INPUT: true; the input reads as it did. -/
def fnExactActsValidSpec : ChangeSpec := { name := "fnExactActsValid", fn := fun _ => fun
  | [d1, d2] => { results := [.lit (.bool true)], args := [d1, d2] }
  | _ => none }
def fnExactActsValidRow : OpenClaim := { program := "ytnmibnaejaeiiaa", sum := "8b2a2d2caea19b862b440fe4eb0be28e5cb0bbdaceea8118b72fe86024a3a3b4", func := "loop.example/weighedevidence/laws.FnExactActsValid", spec := "fnExactActsValid", unfollowed := true, recurses := true, apart := false }
def FnExactActsValidSaid : Prop := fnExactActsValidRow.holds Try.pinned (OpenSpec.ofChange fnExactActsValidSpec)

/-- ITS FALSE NEIGHBOUR: 'it returns false'. Refute it at one input. -/
def fnExactActsValidWrong : ChangeSpec := { name := "fnExactActsValid", fn := fun _ => fun
  | [d1, d2] => { results := [.lit (.bool false)], args := [d1, d2] }
  | _ => none }
def FnExactActsValidWrongFalsely : Prop := fnExactActsValidRow.holds Try.pinned (OpenSpec.ofChange fnExactActsValidWrong)

/-- 'laws.FnExactRuleMass': WHATEVER THE INPUT: true; the input reads as it did. -/
def fnExactRuleMassSpec : ChangeSpec := { name := "fnExactRuleMass", fn := fun _ => fun
  | [d1, d2, d3] => { results := [.lit (.bool true)], args := [d1, d2, d3] }
  | _ => none }
def fnExactRuleMassRow : OpenClaim := { program := "ytnmibnaejaeiiaa", sum := "8b2a2d2caea19b862b440fe4eb0be28e5cb0bbdaceea8118b72fe86024a3a3b4", func := "loop.example/weighedevidence/laws.FnExactRuleMass", spec := "fnExactRuleMass", apart := false }
def FnExactRuleMassSaid : Prop := fnExactRuleMassRow.holds Try.pinned (OpenSpec.ofChange fnExactRuleMassSpec)

/-- ITS FALSE NEIGHBOUR: 'it returns false'. Refute it at one input. -/
def fnExactRuleMassWrong : ChangeSpec := { name := "fnExactRuleMass", fn := fun _ => fun
  | [d1, d2, d3] => { results := [.lit (.bool false)], args := [d1, d2, d3] }
  | _ => none }
def FnExactRuleMassWrongFalsely : Prop := fnExactRuleMassRow.holds Try.pinned (OpenSpec.ofChange fnExactRuleMassWrong)

/-- 'laws.FnExactBeatsAct': WHATEVER THE INPUT: true; the input reads as it did. -/
def fnExactBeatsActSpec : ChangeSpec := { name := "fnExactBeatsAct", fn := fun _ => fun
  | [d1, d2, d3] => { results := [.lit (.bool true)], args := [d1, d2, d3] }
  | _ => none }
def fnExactBeatsActRow : OpenClaim := { program := "ytnmibnaejaeiiaa", sum := "8b2a2d2caea19b862b440fe4eb0be28e5cb0bbdaceea8118b72fe86024a3a3b4", func := "loop.example/weighedevidence/laws.FnExactBeatsAct", spec := "fnExactBeatsAct", unfollowed := true, recurses := true, apart := false }
def FnExactBeatsActSaid : Prop := fnExactBeatsActRow.holds Try.pinned (OpenSpec.ofChange fnExactBeatsActSpec)

/-- ITS FALSE NEIGHBOUR: 'it returns false'. Refute it at one input. -/
def fnExactBeatsActWrong : ChangeSpec := { name := "fnExactBeatsAct", fn := fun _ => fun
  | [d1, d2, d3] => { results := [.lit (.bool false)], args := [d1, d2, d3] }
  | _ => none }
def FnExactBeatsActWrongFalsely : Prop := fnExactBeatsActRow.holds Try.pinned (OpenSpec.ofChange fnExactBeatsActWrong)

/-- 'laws.FnExactSwapPairs': WHATEVER THE INPUT: true; the input reads as it did. -/
def fnExactSwapPairsSpec : ChangeSpec := { name := "fnExactSwapPairs", fn := fun _ => fun
  | [d] => { results := [.lit (.bool true)], args := [d] }
  | _ => none }
def fnExactSwapPairsRow : OpenClaim := { program := "ytnmibnaejaeiiaa", sum := "8b2a2d2caea19b862b440fe4eb0be28e5cb0bbdaceea8118b72fe86024a3a3b4", func := "loop.example/weighedevidence/laws.FnExactSwapPairs", spec := "fnExactSwapPairs", unfollowed := true, recurses := true, apart := false }
def FnExactSwapPairsSaid : Prop := fnExactSwapPairsRow.holds Try.pinned (OpenSpec.ofChange fnExactSwapPairsSpec)

/-- ITS FALSE NEIGHBOUR: 'it returns false'. Refute it at one input. -/
def fnExactSwapPairsWrong : ChangeSpec := { name := "fnExactSwapPairs", fn := fun _ => fun
  | [d] => { results := [.lit (.bool false)], args := [d] }
  | _ => none }
def FnExactSwapPairsWrongFalsely : Prop := fnExactSwapPairsRow.holds Try.pinned (OpenSpec.ofChange fnExactSwapPairsWrong)

/-- 'laws.FnExactExtendFirst': WHATEVER THE INPUT: true; the input reads as it did. -/
def fnExactExtendFirstSpec : ChangeSpec := { name := "fnExactExtendFirst", fn := fun _ => fun
  | [d] => { results := [.lit (.bool true)], args := [d] }
  | _ => none }
def fnExactExtendFirstRow : OpenClaim := { program := "ytnmibnaejaeiiaa", sum := "8b2a2d2caea19b862b440fe4eb0be28e5cb0bbdaceea8118b72fe86024a3a3b4", func := "loop.example/weighedevidence/laws.FnExactExtendFirst", spec := "fnExactExtendFirst", unfollowed := true, recurses := true, apart := false }
def FnExactExtendFirstSaid : Prop := fnExactExtendFirstRow.holds Try.pinned (OpenSpec.ofChange fnExactExtendFirstSpec)

/-- ITS FALSE NEIGHBOUR: 'it returns false'. Refute it at one input. -/
def fnExactExtendFirstWrong : ChangeSpec := { name := "fnExactExtendFirst", fn := fun _ => fun
  | [d] => { results := [.lit (.bool false)], args := [d] }
  | _ => none }
def FnExactExtendFirstWrongFalsely : Prop := fnExactExtendFirstRow.holds Try.pinned (OpenSpec.ofChange fnExactExtendFirstWrong)

/-- 'laws.FnExactExtendSecond': WHATEVER THE INPUT: true; the input reads as it did. -/
def fnExactExtendSecondSpec : ChangeSpec := { name := "fnExactExtendSecond", fn := fun _ => fun
  | [d] => { results := [.lit (.bool true)], args := [d] }
  | _ => none }
def fnExactExtendSecondRow : OpenClaim := { program := "ytnmibnaejaeiiaa", sum := "8b2a2d2caea19b862b440fe4eb0be28e5cb0bbdaceea8118b72fe86024a3a3b4", func := "loop.example/weighedevidence/laws.FnExactExtendSecond", spec := "fnExactExtendSecond", unfollowed := true, recurses := true, apart := false }
def FnExactExtendSecondSaid : Prop := fnExactExtendSecondRow.holds Try.pinned (OpenSpec.ofChange fnExactExtendSecondSpec)

/-- ITS FALSE NEIGHBOUR: 'it returns false'. Refute it at one input. -/
def fnExactExtendSecondWrong : ChangeSpec := { name := "fnExactExtendSecond", fn := fun _ => fun
  | [d] => { results := [.lit (.bool false)], args := [d] }
  | _ => none }
def FnExactExtendSecondWrongFalsely : Prop := fnExactExtendSecondRow.holds Try.pinned (OpenSpec.ofChange fnExactExtendSecondWrong)

/- THE SECOND FORM. 'bulk': how many values and letters a reading holds, each counted each time it is reached (what is shared counts as often as it is met; a slice's spare places count too). A statement '..UptoSaid' is the law's where the arguments, and the package variables that the reading takes, are together of bulk at most 1048576: NARROWER than '..Said'. Prove '..Said' where nothing that the law and all that it calls make is longer than what came in: it says more and counts as full. Else prove '..UptoSaid'. A law counts once. -/
mutual
def uptoBulk {H : Type} : DataW H → Nat
  | .lit (.string bytes) => bytes.length + 1
  | .lit _ => 1
  | .nil => 1
  | .ptr d => uptoBulk d + 1
  | .slice elems spare => uptoBulkAll elems + uptoBulkAll spare + 1
  | .agg parts => uptoBulkAll parts + 1
  | .iface _ d => uptoBulk d + 1
  | .map entries => uptoBulkEntries entries + 1
  | .held _ => 1
def uptoBulkAll {H : Type} : List (DataW H) → Nat
  | [] => 0
  | d :: r => uptoBulk d + uptoBulkAll r
def uptoBulkEntries {H : Type} : List (Lit × DataW H) → Nat
  | [] => 0
  | x :: r => uptoBulkEntry x + uptoBulkEntries r
def uptoBulkEntry {H : Type} : Lit × DataW H → Nat
  | (.string bytes, d) => bytes.length + uptoBulk d + 1
  | (_, d) => uptoBulk d + 1
 end
def uptoSmall : (H : Type) → List (DataW H) → Bool := fun _ ds => decide (uptoBulkAll ds ≤ 1048576)
def OpenSpec.upto (s : _root_.Go.ChangeSpec) : _root_.Go.OpenSpec := { _root_.Go.OpenSpec.ofChange s with cond := some uptoSmall }

/-- 'laws.FnExactActsValid', WHERE WHAT IT READS IS OF BULK AT MOST 1048576: true; the input reads as it did. -/
def fnExactActsValidUptoRow : OpenClaim := { program := "ytnmibnaejaeiiaa", sum := "8b2a2d2caea19b862b440fe4eb0be28e5cb0bbdaceea8118b72fe86024a3a3b4", func := "loop.example/weighedevidence/laws.FnExactActsValid", spec := "fnExactActsValid", unfollowed := true, recurses := true, apart := false, narrowed := true }
def FnExactActsValidUptoSaid : Prop := fnExactActsValidUptoRow.holds Try.pinned (OpenSpec.upto fnExactActsValidSpec)

/-- 'laws.FnExactRuleMass', WHERE WHAT IT READS IS OF BULK AT MOST 1048576: true; the input reads as it did. -/
def fnExactRuleMassUptoRow : OpenClaim := { program := "ytnmibnaejaeiiaa", sum := "8b2a2d2caea19b862b440fe4eb0be28e5cb0bbdaceea8118b72fe86024a3a3b4", func := "loop.example/weighedevidence/laws.FnExactRuleMass", spec := "fnExactRuleMass", apart := false, narrowed := true }
def FnExactRuleMassUptoSaid : Prop := fnExactRuleMassUptoRow.holds Try.pinned (OpenSpec.upto fnExactRuleMassSpec)

/-- 'laws.FnExactBeatsAct', WHERE WHAT IT READS IS OF BULK AT MOST 1048576: true; the input reads as it did. -/
def fnExactBeatsActUptoRow : OpenClaim := { program := "ytnmibnaejaeiiaa", sum := "8b2a2d2caea19b862b440fe4eb0be28e5cb0bbdaceea8118b72fe86024a3a3b4", func := "loop.example/weighedevidence/laws.FnExactBeatsAct", spec := "fnExactBeatsAct", unfollowed := true, recurses := true, apart := false, narrowed := true }
def FnExactBeatsActUptoSaid : Prop := fnExactBeatsActUptoRow.holds Try.pinned (OpenSpec.upto fnExactBeatsActSpec)

/-- 'laws.FnExactSwapPairs', WHERE WHAT IT READS IS OF BULK AT MOST 1048576: true; the input reads as it did. -/
def fnExactSwapPairsUptoRow : OpenClaim := { program := "ytnmibnaejaeiiaa", sum := "8b2a2d2caea19b862b440fe4eb0be28e5cb0bbdaceea8118b72fe86024a3a3b4", func := "loop.example/weighedevidence/laws.FnExactSwapPairs", spec := "fnExactSwapPairs", unfollowed := true, recurses := true, apart := false, narrowed := true }
def FnExactSwapPairsUptoSaid : Prop := fnExactSwapPairsUptoRow.holds Try.pinned (OpenSpec.upto fnExactSwapPairsSpec)

/-- 'laws.FnExactExtendFirst', WHERE WHAT IT READS IS OF BULK AT MOST 1048576: true; the input reads as it did. -/
def fnExactExtendFirstUptoRow : OpenClaim := { program := "ytnmibnaejaeiiaa", sum := "8b2a2d2caea19b862b440fe4eb0be28e5cb0bbdaceea8118b72fe86024a3a3b4", func := "loop.example/weighedevidence/laws.FnExactExtendFirst", spec := "fnExactExtendFirst", unfollowed := true, recurses := true, apart := false, narrowed := true }
def FnExactExtendFirstUptoSaid : Prop := fnExactExtendFirstUptoRow.holds Try.pinned (OpenSpec.upto fnExactExtendFirstSpec)

/-- 'laws.FnExactExtendSecond', WHERE WHAT IT READS IS OF BULK AT MOST 1048576: true; the input reads as it did. -/
def fnExactExtendSecondUptoRow : OpenClaim := { program := "ytnmibnaejaeiiaa", sum := "8b2a2d2caea19b862b440fe4eb0be28e5cb0bbdaceea8118b72fe86024a3a3b4", func := "loop.example/weighedevidence/laws.FnExactExtendSecond", spec := "fnExactExtendSecond", unfollowed := true, recurses := true, apart := false, narrowed := true }
def FnExactExtendSecondUptoSaid : Prop := fnExactExtendSecondUptoRow.holds Try.pinned (OpenSpec.upto fnExactExtendSecondSpec)

end Rows
end Go.Proofs.Ytnmibnaejaeiiaa
