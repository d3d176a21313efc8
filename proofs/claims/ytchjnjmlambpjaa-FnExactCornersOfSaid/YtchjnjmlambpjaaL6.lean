/- What the laws' walks share: one end for all orders of a region that copies several arguments. -/
import Derived.Test.YtchjnjmlambpjaaLK
set_option linter.unusedSimpArgs false
set_option linter.unusedVariables false
namespace Go.Proofs.Ytchjnjmlambpjaa
open Go.RowKit
/-- a region that draws its order: one end for all orders, told by F -/
theorem wp_region_joinF {ι : Type} {id : Nat} {ops : Array Oper} {a : Act} {w : World} {Q : Exit → Act → World → Prop} (F : Act → ι → Act) (R : ι → World → Prop)
    (h : (Code.region id ops true).wp Try.prog (fun x a' w' => match x with | .normal => ∃ i, a' = F a i ∧ R i w' | _ => False) a w)
    (hK : ∀ i w', R i w' → Q .normal (F a i) w') : (Code.region id ops true).wp Try.prog Q a w :=
  Code.wp_mono (fun e a' w' h => by
    cases e with
    | normal => obtain ⟨i, rfl, hb⟩ := h; exact hK i w' hb
    | _ => exact h.elim) h
theorem Row.setOther {w : World} {base : Nat} {v : Value} {xs : List Int} (h : Row w base v xs) {a : Addr} (ha : v.ownBlock ≠ some a.block) (u : Value) : Row (w.setCell a u) base v xs :=
  ownsRow_setCell_other h (fun e => ha e) u
theorem heap_drew (w : World) : w.drew.heap.size = w.heap.size := rfl
theorem undrew {w w' : World} (h : Below w.drew.heap.size w.drew w') : Below w.heap.size w w' := chain (drew_below w) h
end Go.Proofs.Ytchjnjmlambpjaa
