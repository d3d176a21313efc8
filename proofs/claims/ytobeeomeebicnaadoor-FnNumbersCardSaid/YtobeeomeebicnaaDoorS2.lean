/- Masses whose parts are moved: mapped, RefineMass, MoveMass. -/
import Derived.Test.YtobeeomeebicnaaDoorS1
set_option linter.unusedSimpArgs false
set_option linter.unusedVariables false
namespace Go.Proofs.YtobeeomeebicnaaDoor
open Go.RowKit
theorem keepB {B : Nat} {w1 w2 : World} {b o : Nat} {v : Value} (hb : Below B w1 w2) (hlt : b < B) (h : w1.cell? ⟨b, o, none⟩ = some v) : w2.cell? ⟨b, o, none⟩ = some v := (hb.cell (p := ⟨b, o, none⟩) hlt).trans h
theorem keepBF {B : Nat} {w1 w2 : World} {b o : Nat} (hb : Below B w1 w2) (hlt : b < B) (h : w1.frozen? ⟨b, o, none⟩ = false) : w2.frozen? ⟨b, o, none⟩ = false := (hb.frozen (p := ⟨b, o, none⟩) hlt).trans h
theorem IntsAt.belowB {B : Nat} {w w1 w2 : World} {ao : Option Addr} {n : Nat} {xs : List Int} (h : IntsAt w ao n xs) (h1 : Below w.heap.size w w1) (h2 : Below B w1 w2) (hB : w.heap.size ≤ B) : IntsAt w2 ao n xs :=
  h.below (h1.trans (h2.mono hB))
/-- a mass in which answers are told apart -/
def refineM (s : Int) (xs to : List Int) (size : Int) : MR :=
  if massOk s xs && okSize size && answersOk to size s then mkMass size (mapTo (fun a => refTo a to to.length) xs (nsets size) xs.length) else MR.no
theorem massOk_facts {s : Int} {xs : List Int} (h : massOk s xs = true) : okSize s = true ∧ xs.length = nsets s ∧ xs.length ≤ 16 ∧ (∀ k, k < xs.length → 0 ≤ nth xs k ∧ nth xs k ≤ 1000000) ∧ 1 ≤ isum xs ∧ isum xs ≤ 1000000 ∧ gcdL xs = 1 := by
  simp only [massOk, Bool.and_eq_true, beq_iff_eq] at h
  obtain ⟨⟨⟨⟨h1, h2⟩, h3⟩, h4⟩, h5⟩ := h
  refine ⟨h1, h2, by have := nsets_le h1; omega, fun k hk => inB_iff.1 ((allN_iff _ _).1 h3 k hk), (inB_iff.1 h4).1, (inB_iff.1 h4).2, h5⟩
theorem answersOk_facts {xs : List Int} {n size : Int} (h : answersOk xs n size = true) : (xs.length : Int) = n ∧ ∀ k, k < xs.length → 0 ≤ nth xs k ∧ nth xs k ≤ size - 1 := by
  simp only [answersOk, Bool.and_eq_true, beq_iff_eq] at h
  exact ⟨h.2, fun k hk => inB_iff.1 ((allN_iff _ _).1 h.1 k hk)⟩
end Go.Proofs.YtobeeomeebicnaaDoor
