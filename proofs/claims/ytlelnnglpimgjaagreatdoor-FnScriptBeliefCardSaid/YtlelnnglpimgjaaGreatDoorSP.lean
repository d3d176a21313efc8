/- Worlds in which only some blocks have changed. -/
import Derived.Test.YtlelnnglpimgjaaGreatDoorB0
set_option linter.unusedSimpArgs false
set_option linter.unusedVariables false
namespace Go.Proofs.YtlelnnglpimgjaaGreatDoor
open Go.RowKit
/-- a world in which only blocks from lo to hi have changed, or are new -/
structure Span (lo hi : Nat) (w w' : World) : Prop where
  os : w'.os = w.os
  tape : w'.tape = w.tape
  output : w'.output = w.output
  size : w.heap.size ≤ w'.heap.size
  block : ∀ k, k < w.heap.size → (k < lo ∨ hi ≤ k) → w'.heap[k]? = w.heap[k]?
theorem Span.refl (lo hi : Nat) (w : World) : Span lo hi w w := ⟨rfl, rfl, rfl, Nat.le_refl _, fun _ _ _ => rfl⟩
theorem Span.grown {lo hi : Nat} {w a b : World} {row : Option Nat} (h : Span lo hi w a) (hg : a.grownBy b row) (hr : ∀ k, row = some k → lo ≤ k ∧ k < hi) : Span lo hi w b :=
  ⟨hg.os.trans h.os, hg.tape.trans h.tape, hg.output.trans h.output, Nat.le_trans h.size hg.size, fun k hk hc => (hg.block k (Nat.lt_of_lt_of_le hk h.size) (fun e => by have := hr k e.symm; omega)).trans (h.block k hk hc)⟩
theorem Span.keep {lo hi : Nat} {w w' : World} {b o : Nat} {v : Value} (h : Span lo hi w w') (hc : w.cell? ⟨b, o, none⟩ = some v) (hb : b < lo ∨ hi ≤ b) : w'.cell? ⟨b, o, none⟩ = some v := by
  have hlt := World.block_lt_of_cell? w ⟨b, o, none⟩ hc
  have he := h.block b hlt hb
  rw [← hc]
  unfold World.cell?
  simp only [he]
theorem Span.below {lo hi B : Nat} {w a b : World} (h : Below B w a) (hB : B ≤ a.heap.size) (hs : Span lo hi a b) (hlo : B ≤ lo) : Below B w b :=
  ⟨hs.os.trans h.os, hs.tape.trans h.tape, hs.output.trans h.output, Nat.le_trans h.size hs.size, fun k hk => (hs.block k (by omega) (by omega)).trans (h.block k hk)⟩
theorem Span.row {lo hi base : Nat} {w w' : World} {v : Value} {xs : List Int} (hs : Span lo hi w w') (h : Row w base v xs) (hb : ∀ k, v.ownBlock = some k → k < lo ∨ hi ≤ k) : Row w' base v xs := by
  refine ⟨h.1, ?_⟩
  rcases h.2 with h2 | ⟨g, cap, cur, hv, hg, hh, r⟩
  · exact .inl h2
  · refine .inr ⟨g, cap, cur, hv, hg, ?_, r⟩
    rw [hs.block g (lt_of_block hh) (hb g (by rw [hv]; rfl))]; exact hh
theorem Span.mono {lo hi hi2 : Nat} {w w' : World} (h : Span lo hi w w') (hl : hi ≤ hi2) : Span lo hi2 w w' := ⟨h.os, h.tape, h.output, h.size, fun k hk hc => h.block k hk (by omega)⟩
end Go.Proofs.YtlelnnglpimgjaaGreatDoor
