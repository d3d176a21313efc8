/- Contracts of the laws' helpers: comparison of fractions. Contracts of the laws' helpers: sizes and copies of arguments. What the laws' walks share. What the laws' walks share: one end for all orders of a region that copies several arguments. -/
import Derived.Test.YtefmlbahmakboaaGreatDoorW3
set_option linter.unusedSimpArgs false
set_option linter.unusedVariables false
namespace Go.Proofs.YtefmlbahmakboaaGreatDoor
open Go.RowKit
/-- what a size leaves of a budget -/
def leaves (left : Int) (n : Nat) : Int := if left - (n : Int) < 0 then -1 else left - (n : Int)
/-- copied up to i -/
def copied (xs : List Int) (i : Nat) : List Int := iter (fun j l => l.set j (nth xs j)) (List.replicate xs.length 0) i
theorem copied_len (xs : List Int) (i : Nat) : (copied xs i).length = xs.length := by
  induction i with
  | zero => simp [copied, iter]
  | succ i ih => simp only [copied, iter, List.length_set] at *; exact ih
theorem copied_nth (xs : List Int) (i j : Nat) (hj : j < xs.length) : nth (copied xs i) j = if j < i then nth xs j else 0 := by
  induction i with
  | zero => simp [copied, iter, nth_replicate]
  | succ i ih =>
    show nth ((copied xs i).set i (nth xs i)) j = _
    rw [nth_set, ih, copied_len]
    by_cases e : i = j
    · subst e; simp [hj]
    · rw [if_neg (by omega)]; by_cases h : j < i
      · rw [if_pos h, if_pos (by omega)]
      · rw [if_neg h, if_neg (by omega)]
theorem copied_all (xs : List Int) : copied xs xs.length = xs := by
  apply ext_nth
  · rw [copied_len]
  · intro j hj
    rw [copied_len] at hj
    rw [copied_nth _ _ _ hj, if_pos hj]
theorem Row.apart {w w' : World} {base : Nat} {v u : Value} {xs : List Int} (h : Row w base v xs) (hg : w.grownBy w' u.ownBlock) (hne : ∀ b, v.ownBlock = some b → ∀ b2, u.ownBlock = some b2 → b ≠ b2) : Row w' base v xs := by
  refine h.grown hg ?_
  cases hv : v.ownBlock with
  | none => exact .inl rfl
  | some b => exact .inr fun e => hne b hv b e.symm rfl
/-- a region that draws its order, of five operations that yield, the third a value that may differ from order to order: one end for all orders -/
theorem wp_region_join {id : Nat} {ops : Array Oper} {a : Act} {w : World} {Q : Exit → Act → World → Prop} (d0 d1 d2 d3 d4 : Tmp) (x0 x1 : Value)
    (h : (Code.region id ops true).wp Tryz.prog (fun x a' w' => match x with | .normal => ∃ v, a' = (((((a.put (some d0) x0).put (some d1) x1).put (some d2) v).put (some d3) (.bool true)).put (some d4) (.bool false)) ∧ Below w.heap.size w w' | _ => False) a w)
    (hK : ∀ v w', Below w.heap.size w w' → Q .normal (((((a.put (some d0) x0).put (some d1) x1).put (some d2) v).put (some d3) (.bool true)).put (some d4) (.bool false)) w') : (Code.region id ops true).wp Tryz.prog Q a w :=
  Code.wp_mono (fun e a' w' h => by
    cases e with
    | normal => obtain ⟨v, rfl, hb⟩ := h; exact hK v w' hb
    | _ => exact h.elim) h
/-- a region that draws its order: one end for all orders, told by F -/
theorem wp_region_joinF {ι : Type} {id : Nat} {ops : Array Oper} {a : Act} {w : World} {Q : Exit → Act → World → Prop} (F : Act → ι → Act) (R : ι → World → Prop)
    (h : (Code.region id ops true).wp Tryz.prog (fun x a' w' => match x with | .normal => ∃ i, a' = F a i ∧ R i w' | _ => False) a w)
    (hK : ∀ i w', R i w' → Q .normal (F a i) w') : (Code.region id ops true).wp Tryz.prog Q a w :=
  Code.wp_mono (fun e a' w' h => by
    cases e with
    | normal => obtain ⟨i, rfl, hb⟩ := h; exact hK i w' hb
    | _ => exact h.elim) h
theorem Row.setOther {w : World} {base : Nat} {v : Value} {xs : List Int} (h : Row w base v xs) {a : Addr} (ha : v.ownBlock ≠ some a.block) (u : Value) : Row (w.setCell a u) base v xs :=
  ownsRow_setCell_other h (fun e => ha e) u
theorem heap_drew (w : World) : w.drew.heap.size = w.heap.size := rfl
theorem undrew {w w' : World} (h : Below w.drew.heap.size w.drew w') : Below w.heap.size w w' := chain (drew_below w) h
end Go.Proofs.YtefmlbahmakboaaGreatDoor
