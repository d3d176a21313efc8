/- Masses moved along orders: isOrder, l1Moves, MoveMass, SwapPairs. -/
import Derived.Test.YtaplpgmkobokhaaS4
set_option linter.unusedSimpArgs false
set_option linter.unusedVariables false
namespace Go.Proofs.Ytaplpgmkobokhaa
open Go.RowKit
theorem run_make_ints (w : World) (n : Nat) (hn : n ≤ 1000000000) : ∃ w', Sem.run Try.prog (Instr.makeSlice 23 (.int .i64 (n : Int)) (.int .i64 (n : Int))) w = .ok (.slice (some ⟨w.heap.size, 0, none⟩) n n) w' ∧
    Row w' w.heap.size (.slice (some ⟨w.heap.size, 0, none⟩) n n) (List.replicate n 0) ∧ Below w.heap.size w w' ∧ w.heap.size < w'.heap.size := by
  obtain ⟨i0, hi, hz0, hz1, hz2⟩ := info_parts info_int
  obtain ⟨w', hrun, r1, r2⟩ := run_make_full (P := Try.prog) w w.heap.size 23 3 i0 (.int .i64 0) 1 Try.underlying23 hi hz0 hz1 .i64 .i64 n (by rw [hz2]; omega) (by unfold maxLen; omega) (Nat.le_refl _)
  refine ⟨w', hrun, ?_, ⟨r2.os, r2.tape, r2.output, r2.size, fun k hk => r2.block k hk (by simp)⟩, (World.ownsRow.lt r1 _ rfl).2⟩
  have e : (madeCells (Value.int IntKind.i64 0).cells (n * 1)).toList = (List.replicate n (0 : Int)).map (Value.int .i64) := by
    simp only [madeCells, Value.cells]
    apply List.ext_getElem
    · simp
    · intro i h1 h2; simp [Nat.mod_one]
  simp only [Row, List.length_replicate]
  rw [← e]; exact r1
theorem upon_make {w : World} {X : Result Value → Prop} (n : Nat) (hn : n ≤ 1000000000) (h : ∀ w', Row w' w.heap.size (.slice (some ⟨w.heap.size, 0, none⟩) n n) (List.replicate n 0) → Below w.heap.size w w' → w.heap.size < w'.heap.size → X (.ok (.slice (some ⟨w.heap.size, 0, none⟩) n n) w')) :
    X (Sem.run Try.prog (Instr.makeSlice 23 (.int .i64 (n : Int)) (.int .i64 (n : Int))) w) := by
  obtain ⟨w2, hrun, hrow, hb2, hz2⟩ := run_make_ints w n hn
  rw [hrun]; exact h w2 hrow hb2 hz2
/-- a mass's box b and its parts' block g were just made -/
structure Made (w w' : World) (b g : Nat) (s : Int) (n : Nat) : Prop where
  row : Row w' w.heap.size (.slice (some ⟨g, 0, none⟩) n n) (List.replicate n 0)
  c0 : w'.cell? ⟨b, 0, none⟩ = some (.int .i64 s)
  c1 : w'.cell? ⟨b, 1, none⟩ = some (.slice (some ⟨g, 0, none⟩) n n)
  ne : b ≠ g
  lo : w.heap.size ≤ b
  below : Below w.heap.size w w'
theorem made_after {w w2 : World} {s : Int} {n g : Nat} (t : TypeId) (hg : g = w.heap.size) (hrow : Row w2 w.drew.heap.size (.slice (some ⟨w.drew.heap.size, 0, none⟩) n n) (List.replicate n 0)) (hb : Below w.drew.heap.size w.drew w2) (hz : w.drew.heap.size < w2.heap.size) :
    Made w (w2.alloc (.cells #[.int .i64 s, .slice (some ⟨g, 0, none⟩) n n] t)) w2.heap.size g s n := by
  subst hg
  refine ⟨hrow.below (below_alloc _ _), by simp, by simp, ?_, Nat.le_of_lt hz, (chain (drew_below w) hb).alloc (Nat.le_of_lt hz) _⟩
  have : w.heap.size < w2.heap.size := hz
  omega
theorem made_before {w w2 : World} {s : Int} {n g : Nat} (hg : g = w.heap.size + 1) {W : World} (hW : W.heap.size = w.heap.size + 1) (hWB : Below w.heap.size w W) (hrow : Row w2 W.heap.size (.slice (some ⟨W.heap.size, 0, none⟩) n n) (List.replicate n 0)) (hb : Below W.heap.size W w2)
    (k0 : ∃ v, w2.cell? ⟨w.heap.size, 0, none⟩ = some v) (k1 : ∃ v, w2.cell? ⟨w.heap.size, 1, none⟩ = some v) :
    Made w ((w2.setCell ⟨w.heap.size, 0, none⟩ (.int .i64 s)).setCell ⟨w.heap.size, 1, none⟩ (.slice (some ⟨g, 0, none⟩) n n)) w.heap.size g s n := by
  subst hg
  obtain ⟨v0, k0⟩ := k0
  obtain ⟨v1, k1⟩ := k1
  rw [hW] at hrow
  have c0 : ((w2.setCell ⟨w.heap.size, 0, none⟩ (.int .i64 s)).setCell ⟨w.heap.size, 1, none⟩ (.slice (some ⟨w.heap.size + 1, 0, none⟩) n n)).cell? ⟨w.heap.size, 0, none⟩ = some (.int .i64 s) := by simp [go_sem, k0]
  have c1 : ((w2.setCell ⟨w.heap.size, 0, none⟩ (.int .i64 s)).setCell ⟨w.heap.size, 1, none⟩ (.slice (some ⟨w.heap.size + 1, 0, none⟩) n n)).cell? ⟨w.heap.size, 1, none⟩ = some (.slice (some ⟨w.heap.size + 1, 0, none⟩) n n) := by simp [go_sem, k0, k1]
  exact ⟨((hrow.setBelow (Nat.lt_succ_self _) _).setBelow (Nat.lt_succ_self _) _).mono (by omega), c0, c1, by omega, Nat.le_refl _, ((hWB.trans (hb.mono (by omega))).setCell (Nat.le_refl _) _).setCell (Nat.le_refl _) _⟩
theorem region_join_made {id : Nat} {ops : Array Oper} {a : Act} {w : World} {Q : Exit → Act → World → Prop} (F : Act → Nat → Nat → Act) (s : Int) (n : Nat)
    (h : (Code.region id ops true).wp Try.prog (fun x a' w' => match x with | .normal => ∃ b g, a' = F a b g ∧ Made w w' b g s n | _ => False) a w)
    (hK : ∀ b g w', Made w w' b g s n → Q .normal (F a b g) w') : (Code.region id ops true).wp Try.prog Q a w :=
  Code.wp_mono (fun e a' w' h => by
    cases e with
    | normal => obtain ⟨b, g, rfl, hb⟩ := h; exact hK b g w' hb
    | _ => exact h.elim) h
theorem ordS_facts {s : Int} {to : List Int} (hs : okSize s = true) (h : ordS s to = true) : (to.length : Int) = s ∧ ∀ k, k < to.length → 0 ≤ nth to k ∧ nth to k ≤ s - 1 := by
  simp only [ordS, Bool.and_eq_true, beq_iff_eq] at h
  refine ⟨h.2, fun k hk => ?_⟩
  have := (allN_iff _ _).1 h.1 k hk
  simp only [ordNew, Bool.and_eq_true] at this
  exact inB_iff.1 this.1
end Go.Proofs.Ytaplpgmkobokhaa
