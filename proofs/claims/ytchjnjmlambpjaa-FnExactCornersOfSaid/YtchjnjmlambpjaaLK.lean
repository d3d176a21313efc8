/- What the laws' walks share. -/
import Derived.Test.YtchjnjmlambpjaaL2
set_option linter.unusedSimpArgs false
set_option linter.unusedVariables false
namespace Go.Proofs.Ytchjnjmlambpjaa
open Go.RowKit
theorem Row.apart {w w' : World} {base : Nat} {v u : Value} {xs : List Int} (h : Row w base v xs) (hg : w.grownBy w' u.ownBlock) (hne : ∀ b, v.ownBlock = some b → ∀ b2, u.ownBlock = some b2 → b ≠ b2) : Row w' base v xs := by
  refine h.grown hg ?_
  cases hv : v.ownBlock with
  | none => exact .inl rfl
  | some b => exact .inr fun e => hne b hv b e.symm rfl
/-- a region that draws its order, of five operations that yield, the third a value that may differ from order to order: one end for all orders -/
theorem wp_region_join {id : Nat} {ops : Array Oper} {a : Act} {w : World} {Q : Exit → Act → World → Prop} (d0 d1 d2 d3 d4 : Tmp) (x0 x1 : Value)
    (h : (Code.region id ops true).wp Try.prog (fun x a' w' => match x with | .normal => ∃ v, a' = (((((a.put (some d0) x0).put (some d1) x1).put (some d2) v).put (some d3) (.bool true)).put (some d4) (.bool false)) ∧ Below w.heap.size w w' | _ => False) a w)
    (hK : ∀ v w', Below w.heap.size w w' → Q .normal (((((a.put (some d0) x0).put (some d1) x1).put (some d2) v).put (some d3) (.bool true)).put (some d4) (.bool false)) w') : (Code.region id ops true).wp Try.prog Q a w :=
  Code.wp_mono (fun e a' w' h => by
    cases e with
    | normal => obtain ⟨v, rfl, hb⟩ := h; exact hK v w' hb
    | _ => exact h.elim) h
end Go.Proofs.Ytchjnjmlambpjaa
