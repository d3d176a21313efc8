/- Masses in lowest terms: makeMass, l3Made. -/
import Derived.Test.YtobeeomeebicnaaDoorW2
set_option linter.unusedSimpArgs false
set_option linter.unusedVariables false
namespace Go.Proofs.YtobeeomeebicnaaDoor
open Go.RowKit
/-- a function that returns a mass and whether there is one has returned r, its parts in new memory -/
def RetM (r : MR) (base : Nat) (e : Ending) (w' : World) : Prop :=
  ∃ v, e = .returned (.tuple #[.agg #[.int .i64 r.size, v], .bool r.ok]) ∧ Row w' base v r.parts
theorem RetM.no (base : Nat) (w' : World) : RetM MR.no base (.returned (.tuple #[.agg #[.int .i64 0, .slice none 0 0], .bool false])) w' := ⟨_, rfl, Row.nil _ _⟩

theorem heap_set_known {w : World} {b i : Nat} {u : Value} {cs : Array Value} {t : TypeId} {fr : Nat × Nat} (h : w.heap[b]? = some (.cells cs t fr)) :
    (w.setCell ⟨b, i, none⟩ u).heap[b]? = some (.cells (cs.setIfInBounds i u) t fr) := by
  have hlt := lt_of_block h
  have h' : w.heap[b] = .cells cs t fr := by simpa [Array.getElem?_eq_getElem hlt] using h
  show (w.heap.modify b _)[b]? = _
  rw [Array.getElem?_eq_getElem (by simpa using hlt), Array.getElem_modify_self, h']
  simp
theorem cell_known {w : World} {b i : Nat} {cs : Array Value} {t : TypeId} {fr : Nat × Nat} (h : w.heap[b]? = some (.cells cs t fr)) : w.cell? ⟨b, i, none⟩ = cs[i]? := by simp [World.cell?, h]
theorem free_known {w : World} {b i : Nat} {cs : Array Value} {t : TypeId} (h : w.heap[b]? = some (.cells cs t (0, 0))) : w.frozen? ⟨b, i, none⟩ = false := by simp [World.frozen?, h]
theorem below_of_eq {w w' : World} (h : w = w') : Below w.heap.size w w' := by subst h; exact Below.refl _ _
theorem Row.setBelow {w : World} {base : Nat} {v : Value} {xs : List Int} (h : Row w base v xs) {a : Addr} (ha : a.block < base) (u : Value) : Row (w.setCell a u) base v xs :=
  ownsRow_setCell_other h (fun e => by have := (h.block _ e).1; omega) u
/-- a struct of two fields in block C, its slice field appended to -/
theorem field_step {w1 wr wa w' : World} {C base : Nat} {a v v' : Value} {t : TypeId} {xs ys : List Int} (hC : wr.heap[C]? = some (.cells #[a, v] t (0, 0))) (hcb : C < base)
    (hrow : Row wr base v xs) (hB : Below C w1 wr) (ha : Below wr.heap.size wr wa) (hr' : Row w' base v' ys) (hg : wa.grownBy w' v.ownBlock) :
    w'.cell? ⟨C, 1, none⟩ = some v ∧ w'.frozen? ⟨C, 1, none⟩ = false ∧ (w'.setCell ⟨C, 1, none⟩ v').heap[C]? = some (.cells #[a, v'] t (0, 0)) ∧ Row (w'.setCell ⟨C, 1, none⟩ v') base v' ys ∧ Below C w1 (w'.setCell ⟨C, 1, none⟩ v') ∧ C < w'.heap.size := by
  have hlt := lt_of_block hC
  have hne : some C ≠ v.ownBlock := by
    intro e
    have := (hrow.block C e.symm).1
    omega
  have h1 : wa.heap[C]? = some (.cells #[a, v] t (0, 0)) := by rw [ha.block C hlt]; exact hC
  have h2 : w'.heap[C]? = some (.cells #[a, v] t (0, 0)) := by rw [hg.block C (lt_of_block h1) hne]; exact h1
  refine ⟨by rw [cell_known h2]; rfl, free_known h2, by rw [heap_set_known h2]; rfl, ?_, ?_, lt_of_block h2⟩
  · refine ownsRow_setCell_other hr' ?_ _
    intro e
    have := (hr'.block C e).1
    omega
  · have h3 : Below C w1 wa := hB.trans (ha.mono (Nat.le_of_lt hlt))
    exact (h3.grown hg (Nat.le_of_lt (lt_of_block h1)) (fun k hk => by have := (hrow.block k hk).1; omega)).setCell (Nat.le_refl _) _
theorem mkMass_zero {s : Int} {xs : List Int} (h : gcdL xs = 0) : mkMass s xs = MR.no := by simp [mkMass, h]
theorem take_snoc (xs : List Int) (k : Nat) (d : Int) (h : k < xs.length) : (xs.map (· / d)).take (k + 1) = (xs.map (· / d)).take k ++ [nth xs k / d] := by
  rw [List.take_succ_eq_append_getElem (by simpa using h)]; simp [nth_eq _ _ h]
theorem quo_eq (x d : Int) (h0 : 0 ≤ x) (h1 : x ≤ 4000000000000000000) (hd : 1 ≤ d) : IntKind.i64.wrap (x.tdiv d) = x / d := by
  have h2 : 0 ≤ x / d := Int.ediv_nonneg h0 (by omega)
  have h3 : x / d ≤ x := Int.ediv_le_self _ h0
  rw [Int.tdiv_eq_ediv_of_nonneg h0]; exact IntWalk.i64_in _ (by omega)
end Go.Proofs.YtobeeomeebicnaaDoor
