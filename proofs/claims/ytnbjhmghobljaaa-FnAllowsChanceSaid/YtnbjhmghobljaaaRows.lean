/-
  No cell of these rows narrows 'for every input' (looked for: loops, veiled, ifaces, maps, wideKeys, modest, calm, conditions, laid).
  DERIVED. THE GIVEN ROWS OF THIS SEAT. 3 by the template 'for every input the law returns true; each argument reads behind the call as it read before'; 0 by the template 'total and deterministic' (their statements: YtnbjhmghobljaaaTotals.lean).
  GIVEN WITH THE SEED: the statements are not yours to turn. If you find one false, say at which input.
  Laid BY PROGRAM, IN A SANDBOX (cutbox-rows.mjs): the forced cells as the released guide's own fill.sh prints them over the translation 8e35811c3099a5ad… (all of the seat's roots in one cut). By AI agents, Wed Nov 11 2026. No macro, syntax, notation, axiom, sorry.
-/
import Derived.Test.YtnbjhmghobljaaaChecked
import GoSem.Claim
import GoSem.ClaimJoined
import GoSem.ClaimMapViews
import Derived.JoinedTies
import Derived.KernelRfl
namespace Go.Proofs.Ytnbjhmghobljaaa
/- THE CELL 'sum', in the pinned program and in every row, IS THE sha256 OF THE DUMP (.gsa) THAT YtnbjhmghobljaaaProg.lean LOADS. Nothing in Lean hashes anything: it is a label: what it is worth is what the hold of that sum in a sandbox is worth. -/
noncomputable def Try.pinned : Pinned := { name := "ytnbjhmghobljaaa", sum := "8e35811c3099a5add323b00f679f900a54ba6ecd2bc9dc8adeb68cc2ee1e8457", checked := Try.checked }
namespace Rows
def none {H : Type} : Left H := { results := [], args := [] }

/-- 'laws.FnChanceOfOrder': WHATEVER THE INPUT: true; the input reads as it did. -/
def fnChanceOfOrderSpec : ChangeSpec := { name := "fnChanceOfOrder", fn := fun _ => fun
  | [d] => { results := [.lit (.bool true)], args := [d] }
  | _ => none }
def fnChanceOfOrderRow : OpenClaim := { program := "ytnbjhmghobljaaa", sum := "8e35811c3099a5add323b00f679f900a54ba6ecd2bc9dc8adeb68cc2ee1e8457", func := "loop.example/weighedevidence/laws.FnChanceOfOrder", spec := "fnChanceOfOrder", unfollowed := true, recurses := true, apart := false }
def FnChanceOfOrderSaid : Prop := fnChanceOfOrderRow.holds Try.pinned (OpenSpec.ofChange fnChanceOfOrderSpec)

/-- ITS FALSE NEIGHBOUR: 'it returns false'. Refute it at one input. -/
def fnChanceOfOrderWrong : ChangeSpec := { name := "fnChanceOfOrder", fn := fun _ => fun
  | [d] => { results := [.lit (.bool false)], args := [d] }
  | _ => none }
def FnChanceOfOrderWrongFalsely : Prop := fnChanceOfOrderRow.holds Try.pinned (OpenSpec.ofChange fnChanceOfOrderWrong)

/-- 'laws.FnAllowsChance': WHATEVER THE INPUT: true; the input reads as it did. -/
def fnAllowsChanceSpec : ChangeSpec := { name := "fnAllowsChance", fn := fun _ => fun
  | [d] => { results := [.lit (.bool true)], args := [d] }
  | _ => none }
def fnAllowsChanceRow : OpenClaim := { program := "ytnbjhmghobljaaa", sum := "8e35811c3099a5add323b00f679f900a54ba6ecd2bc9dc8adeb68cc2ee1e8457", func := "loop.example/weighedevidence/laws.FnAllowsChance", spec := "fnAllowsChance", unfollowed := true, recurses := true, apart := false }
def FnAllowsChanceSaid : Prop := fnAllowsChanceRow.holds Try.pinned (OpenSpec.ofChange fnAllowsChanceSpec)

/-- ITS FALSE NEIGHBOUR: 'it returns false'. Refute it at one input. -/
def fnAllowsChanceWrong : ChangeSpec := { name := "fnAllowsChance", fn := fun _ => fun
  | [d] => { results := [.lit (.bool false)], args := [d] }
  | _ => none }
def FnAllowsChanceWrongFalsely : Prop := fnAllowsChanceRow.holds Try.pinned (OpenSpec.ofChange fnAllowsChanceWrong)

/-- 'laws.FnFirstOf': WHATEVER THE INPUT: true; the input reads as it did. -/
def fnFirstOfSpec : ChangeSpec := { name := "fnFirstOf", fn := fun _ => fun
  | [d] => { results := [.lit (.bool true)], args := [d] }
  | _ => none }
def fnFirstOfRow : OpenClaim := { program := "ytnbjhmghobljaaa", sum := "8e35811c3099a5add323b00f679f900a54ba6ecd2bc9dc8adeb68cc2ee1e8457", func := "loop.example/weighedevidence/laws.FnFirstOf", spec := "fnFirstOf", unfollowed := true, recurses := true, apart := false }
def FnFirstOfSaid : Prop := fnFirstOfRow.holds Try.pinned (OpenSpec.ofChange fnFirstOfSpec)

/-- ITS FALSE NEIGHBOUR: 'it returns false'. Refute it at one input. -/
def fnFirstOfWrong : ChangeSpec := { name := "fnFirstOf", fn := fun _ => fun
  | [d] => { results := [.lit (.bool false)], args := [d] }
  | _ => none }
def FnFirstOfWrongFalsely : Prop := fnFirstOfRow.holds Try.pinned (OpenSpec.ofChange fnFirstOfWrong)

/- THE SECOND FORM. 'bulk': how many values and letters a reading holds, each counted each time it is reached (what is shared counts as often as it is met; a slice's spare places count too). A statement '..UptoSaid' is the law's where the arguments, and the package variables that the reading takes, are together of bulk at most 1048576: NARROWER than '..Said'. Prove '..Said' where nothing that the law and all that it calls make is longer than what came in: it says more and counts as full. Else prove '..UptoSaid'. A law counts once. -/
mutual
def uptoBulk {H : Type} : DataW H → Nat
  | .lit (.string bytes) => bytes.length + 1
  | .lit _ => 1
  | .nil => 1
  | .ptr d => uptoBulk d + 1
  | .slice elems spare => uptoBulkAll elems + uptoBulkAll spare + 1
  | .agg parts => uptoBulkAll parts + 1
  | .iface _ d => uptoBulk d + 1
  | .map entries => uptoBulkEntries entries + 1
  | .held _ => 1
def uptoBulkAll {H : Type} : List (DataW H) → Nat
  | [] => 0
  | d :: r => uptoBulk d + uptoBulkAll r
def uptoBulkEntries {H : Type} : List (Lit × DataW H) → Nat
  | [] => 0
  | x :: r => uptoBulkEntry x + uptoBulkEntries r
def uptoBulkEntry {H : Type} : Lit × DataW H → Nat
  | (.string bytes, d) => bytes.length + uptoBulk d + 1
  | (_, d) => uptoBulk d + 1
 end
def uptoSmall : (H : Type) → List (DataW H) → Bool := fun _ ds => decide (uptoBulkAll ds ≤ 1048576)
def OpenSpec.upto (s : _root_.Go.ChangeSpec) : _root_.Go.OpenSpec := { _root_.Go.OpenSpec.ofChange s with cond := some uptoSmall }

/-- 'laws.FnChanceOfOrder', WHERE WHAT IT READS IS OF BULK AT MOST 1048576: true; the input reads as it did. -/
def fnChanceOfOrderUptoRow : OpenClaim := { program := "ytnbjhmghobljaaa", sum := "8e35811c3099a5add323b00f679f900a54ba6ecd2bc9dc8adeb68cc2ee1e8457", func := "loop.example/weighedevidence/laws.FnChanceOfOrder", spec := "fnChanceOfOrder", unfollowed := true, recurses := true, apart := false, narrowed := true }
def FnChanceOfOrderUptoSaid : Prop := fnChanceOfOrderUptoRow.holds Try.pinned (OpenSpec.upto fnChanceOfOrderSpec)

/-- 'laws.FnAllowsChance', WHERE WHAT IT READS IS OF BULK AT MOST 1048576: true; the input reads as it did. -/
def fnAllowsChanceUptoRow : OpenClaim := { program := "ytnbjhmghobljaaa", sum := "8e35811c3099a5add323b00f679f900a54ba6ecd2bc9dc8adeb68cc2ee1e8457", func := "loop.example/weighedevidence/laws.FnAllowsChance", spec := "fnAllowsChance", unfollowed := true, recurses := true, apart := false, narrowed := true }
def FnAllowsChanceUptoSaid : Prop := fnAllowsChanceUptoRow.holds Try.pinned (OpenSpec.upto fnAllowsChanceSpec)

/-- 'laws.FnFirstOf', WHERE WHAT IT READS IS OF BULK AT MOST 1048576: true; the input reads as it did. -/
def fnFirstOfUptoRow : OpenClaim := { program := "ytnbjhmghobljaaa", sum := "8e35811c3099a5add323b00f679f900a54ba6ecd2bc9dc8adeb68cc2ee1e8457", func := "loop.example/weighedevidence/laws.FnFirstOf", spec := "fnFirstOf", unfollowed := true, recurses := true, apart := false, narrowed := true }
def FnFirstOfUptoSaid : Prop := fnFirstOfUptoRow.holds Try.pinned (OpenSpec.upto fnFirstOfSpec)

end Rows
end Go.Proofs.Ytnbjhmghobljaaa
