/- Two cells that are kept; boxes and rows under stores (printed by drawgen.py). -/
import Derived.Test.YtlelnnglpimgjaaGreatDoorD2
import Derived.Test.YtlelnnglpimgjaaGreatDoorL2
set_option linter.unusedSimpArgs false
set_option linter.unusedVariables false
namespace Go.Proofs.YtlelnnglpimgjaaGreatDoor
open Go.RowKit
/-- two cells below B are kept -/
theorem kept2_alloc {b i j B : Nat} {u v : Value} {w : World} (hb : b < B) (h : w.cell? ⟨b, i, none⟩ = some u ∧ w.cell? ⟨b, j, none⟩ = some v ∧ B ≤ w.heap.size) (o : Obj) : (w.alloc o).cell? ⟨b, i, none⟩ = some u ∧ (w.alloc o).cell? ⟨b, j, none⟩ = some v ∧ B ≤ (w.alloc o).heap.size := by
  obtain ⟨h1, h2, h3⟩ := h
  refine ⟨?_, ?_, by simp; omega⟩
  · rw [World.cell?_alloc_lt _ _ _ (by show b < _; omega)]; exact h1
  · rw [World.cell?_alloc_lt _ _ _ (by show b < _; omega)]; exact h2
theorem kept2_set {b i j B : Nat} {u v : Value} {w : World} (h : w.cell? ⟨b, i, none⟩ = some u ∧ w.cell? ⟨b, j, none⟩ = some v ∧ B ≤ w.heap.size) (a : Addr) (z : Value) (ha : a.block ≠ b) : (w.setCell a z).cell? ⟨b, i, none⟩ = some u ∧ (w.setCell a z).cell? ⟨b, j, none⟩ = some v ∧ B ≤ (w.setCell a z).heap.size := by
  obtain ⟨h1, h2, h3⟩ := h
  refine ⟨?_, ?_, by simp; omega⟩
  · rw [World.cell?_setCell_other _ _ _ _ (by rintro rfl; exact ha rfl)]; exact h1
  · rw [World.cell?_setCell_other _ _ _ _ (by rintro rfl; exact ha rfl)]; exact h2
theorem kept2_drew {b i j B : Nat} {u v : Value} {w : World} (h : w.cell? ⟨b, i, none⟩ = some u ∧ w.cell? ⟨b, j, none⟩ = some v ∧ B ≤ w.heap.size) : w.drew.cell? ⟨b, i, none⟩ = some u ∧ w.drew.cell? ⟨b, j, none⟩ = some v ∧ B ≤ w.drew.heap.size := h
theorem kept2_span {lo hi b i j B : Nat} {u v : Value} {w w' : World} (h : w.cell? ⟨b, i, none⟩ = some u ∧ w.cell? ⟨b, j, none⟩ = some v ∧ B ≤ w.heap.size) (ht : Span lo hi w w') (hx : b < lo ∨ hi ≤ b) : w'.cell? ⟨b, i, none⟩ = some u ∧ w'.cell? ⟨b, j, none⟩ = some v ∧ B ≤ w'.heap.size := ⟨ht.keep h.1 hx, ht.keep h.2.1 hx, Nat.le_trans h.2.2 ht.size⟩
theorem kept2_below {b i j B : Nat} {u v : Value} {w w' : World} (h : w.cell? ⟨b, i, none⟩ = some u ∧ w.cell? ⟨b, j, none⟩ = some v ∧ B ≤ w.heap.size) (ht : Below w.heap.size w w') : w'.cell? ⟨b, i, none⟩ = some u ∧ w'.cell? ⟨b, j, none⟩ = some v ∧ B ≤ w'.heap.size := ⟨keep ht h.1, keep ht h.2.1, Nat.le_trans h.2.2 ht.size⟩
theorem Row.view {w : World} {base n c : Nat} {a : Option Addr} {xs : List Int} (h : Row w base (.slice a n c) xs) : IntsAt w a n xs := by
  obtain ⟨ao, n2, c2, e, hi⟩ := h.ints
  injection e with e1 e2 e3
  subst e1 e2 e3
  exact hi
theorem World.setCell2_other (w : World) (b k : Nat) (u v : Value) (h : k ≠ b) : ((w.setCell ⟨b, 0, none⟩ u).setCell ⟨b, 1, none⟩ v).heap[k]? = w.heap[k]? := by
  simp only [World.setCell, Array.getElem?_modify]
  rw [if_neg (fun e => h e.symm), if_neg (fun e => h e.symm)]
theorem Row.put2 {w : World} {base b : Nat} {v x y : Value} {xs : List Int} (h : Row w base v xs) (hb : ∀ k, v.ownBlock = some k → k ≠ b) : Row ((w.setCell ⟨b, 0, none⟩ x).setCell ⟨b, 1, none⟩ y) base v xs :=
  (h.setOther (a := ⟨b, 0, none⟩) (fun e => hb _ e rfl) x).setOther (a := ⟨b, 1, none⟩) (fun e => hb _ e rfl) y
theorem Bx.put2 {w : World} {b : Nat} {u0 u1 : Value} (h : Bx w b u0 u1) (v0 v1 : Value) : Bx ((w.setCell ⟨b, 0, none⟩ v0).setCell ⟨b, 1, none⟩ v1) b v0 v1 :=
  ⟨(World.cell?_setCell_other _ _ _ _ (by simp)).trans (World.cell?_setCell_same _ _ _ h.c0), World.cell?_setCell_same _ _ _ ((World.cell?_setCell_other _ _ _ _ (by simp)).trans h.c1), by simp [h.f0], by simp [h.f1], by simp; exact h.lt⟩
end Go.Proofs.YtlelnnglpimgjaaGreatDoor
