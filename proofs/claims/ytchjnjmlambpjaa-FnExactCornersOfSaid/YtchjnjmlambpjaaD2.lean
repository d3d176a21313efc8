/- What the reference's drawing functions draw: some value, in new memory. -/
import Derived.Test.YtchjnjmlambpjaaD1
import Derived.Test.YtchjnjmlambpjaaW12
set_option linter.unusedSimpArgs false
set_option linter.unusedVariables false
namespace Go.Proofs.Ytchjnjmlambpjaa
open Go.RowKit
theorem Rd.on {w w' : World} {R P : Nat} (h : Rd w R P) (hb : Below w.heap.size w w') : Rd w' R P := h.below hb h.1
theorem BytesIn.take {w : World} {R : Nat} {ao : Option Addr} {n m : Nat} (h : BytesIn w R ao n) (hm : m ≤ n) : BytesIn w R ao m := by
  refine ⟨by have := h.len; omega, fun h0 => ?_⟩
  obtain ⟨b, off, e, hb, hc⟩ := h.cell (by omega)
  exact ⟨b, off, e, hb, fun k hk => hc k (by omega)⟩
theorem ints_span {w w' : World} {g o n lo hi : Nat} {xs : List Int} (hx : IntsAt w (some ⟨g, o, none⟩) n xs) (hs : Span lo hi w w') (hg : g < lo ∨ hi ≤ g) : IntsAt w' (some ⟨g, o, none⟩) n xs := by
  refine ⟨hx.len, hx.cap, fun hn => ?_⟩
  obtain ⟨b, off, e, hb, hc⟩ := hx.cell hn
  injection e with e; injection e with e1 e2
  subst e1 e2
  exact ⟨g, o, rfl, Nat.lt_of_lt_of_le hb hs.size, fun k hk => hs.keep (hc k hk) hg⟩
theorem Span.keepF {lo hi : Nat} {w w' : World} {b o : Nat} (h : Span lo hi w w') (hc : b < w.heap.size ∧ w.frozen? ⟨b, o, none⟩ = false) (hb : b < lo ∨ hi ≤ b) : b < w'.heap.size ∧ w'.frozen? ⟨b, o, none⟩ = false :=
  ⟨Nat.lt_of_lt_of_le hc.1 h.size, (frozen_block (h.block b hc.1 hb)).trans hc.2⟩
/-- a box of two cells that was laid just before a step of the reader -/
theorem boxS {lo hi : Nat} {w w1 : World} {a b : Value} {t : TypeId} (hs : Span lo hi (w.alloc (.cells #[a, b] t)) w1) (h : hi ≤ w.heap.size) :
    w1.cell? ⟨w.heap.size, 0, none⟩ = some a ∧ w1.cell? ⟨w.heap.size, 1, none⟩ = some b ∧ (w.heap.size < w1.heap.size ∧ w1.frozen? ⟨w.heap.size, 0, none⟩ = false) ∧ (w.heap.size < w1.heap.size ∧ w1.frozen? ⟨w.heap.size, 1, none⟩ = false) ∧ Span lo hi w w1 :=
  ⟨hs.keep (by simp) (.inr h), hs.keep (by simp) (.inr h), hs.keepF ⟨by simp, by simp⟩ (.inr h), hs.keepF ⟨by simp, by simp⟩ (.inr h), (Span.of_below (below_alloc w _)).trans hs⟩
theorem Span.belowKeepF {B : Nat} {w w' : World} {b o : Nat} (h : Below B w w') (hc : b < w.heap.size ∧ w.frozen? ⟨b, o, none⟩ = false) (hb : b < B) : b < w'.heap.size ∧ w'.frozen? ⟨b, o, none⟩ = false :=
  ⟨Nat.lt_of_lt_of_le hc.1 h.size, (frozen_block (h.block b hb)).trans hc.2⟩
theorem ints_cell0 {w : World} {g m j : Nat} {ys : List Int} (hy : IntsAt w (some ⟨g, 0, none⟩) m ys) (hj : j < m) : w.cell? ⟨g, j, none⟩ = some (.int .i64 (nth ys j)) := by
  obtain ⟨b, off, e, hb, hc⟩ := hy.cell (by omega)
  injection e with e; injection e with e1 e2
  subst e1 e2
  have := hc j hj
  rwa [Nat.zero_add] at this
theorem addr_add (g j : Nat) : (⟨g, 0, none⟩ : Addr).add j = ⟨g, j, none⟩ := by unfold Addr.add; split <;> simp_all
theorem l14Open_any (ao : Option Addr) (n c : Nat) (w : World) (hx : BytesIn w w.heap.size ao n) (hnc : n ≤ c) :
    Calls Try.prog 76 #[.slice ao n c] w fun e w' => e = .returned (.pointer (some ⟨w.heap.size, 0, none⟩)) ∧ Rd w' w.heap.size 0 ∧ Below w.heap.size w w' := by
  have hlen := hx.len
  have HX := hid hx
  clear hx
  by_cases hn : 2000 < n
  · have hc2 : 2000 ≤ c := by omega
    go_enter Try.func76, Try.ntmps76
    go_wp2
    go_ret
    exact ⟨rfl, ⟨by simp, ao, 2000, c, 0, by simp, by simp, by simp, Nat.le_refl _, (HX.out.take (by omega)).of_block fun k hk => (below_alloc w _).block k hk⟩, below_alloc w _⟩
  · go_enter Try.func76, Try.ntmps76
    go_wp2
    go_ret
    exact ⟨rfl, ⟨by simp, ao, n, c, 0, by simp, by simp, by simp, Nat.le_refl _, HX.out.of_block fun k hk => (below_alloc w _).block k hk⟩, below_alloc w _⟩
def NumOf (xs : List Int) (v : Value) (_ : World) : Prop := ∃ i, i < xs.length ∧ v = .int .i64 (nth xs i)
set_option maxHeartbeats 400000 in
theorem num_any (R P g n c : Nat) (xs : List Int) (w : World) (hr : Rd w R P) (hP : P ≤ 1000000000) (hx : IntsAt w (some ⟨g, 0, none⟩) n xs) (hg : g ≠ R) (hn : 0 < n) (hn2 : n ≤ 1000) :
    Calls Try.prog 97 #[.pointer (some ⟨R, 0, none⟩), .slice (some ⟨g, 0, none⟩) n c] w (Drew R (P + 1) w (NumOf xs)) := by
  have HL := hid hx.len
  go_enter Try.func97, Try.ntmps97
  go_wp2_with fail
  refine (pick_any R P _ _ hr hP (by omega)).mono ?_; rintro e w1 ⟨v, rfl, ⟨x, rfl, hx0, hx1⟩, hrd, hsp⟩
  obtain ⟨i, rfl⟩ : ∃ i : Nat, x = (i : Int) := ⟨x.toNat, by omega⟩
  have hin : i < n := by omega
  have hi0 : (0 : Int) ≤ (i : Int) := by omega
  have hi1 : (i : Int) < (n : Int) := by omega
  obtain ⟨b, off, e, hb, hb', hck⟩ := (ints_span hx hsp (by omega)).at (Below.refl _ _) hin
  injection e with e; injection e with e1 e2
  subst e1 e2
  rw [Nat.zero_add] at hck
  go_wp2
  go_ret
  exact ⟨_, rfl, ⟨i, by rw [HL.out]; exact hin, rfl⟩, hrd, hsp⟩
theorem Span.on {lo hi : Nat} {w a b : World} (h : Span lo hi w a) (hb : Below w.heap.size a b) : Span lo hi w b :=
  ⟨hb.os.trans h.os, hb.tape.trans h.tape, hb.output.trans h.output, Nat.le_trans h.size hb.size, fun k hk hc => (hb.block k hk).trans (h.block k hk hc)⟩
def AnyFrac (v : Value) (_ : World) : Prop := ∃ a b : Int, v = .agg #[.int .i64 a, .int .i64 b]
/-- a box of two cells -/
structure Bx (w : World) (b : Nat) (v0 v1 : Value) : Prop where
  c0 : w.cell? ⟨b, 0, none⟩ = some v0
  c1 : w.cell? ⟨b, 1, none⟩ = some v1
  f0 : w.frozen? ⟨b, 0, none⟩ = false
  f1 : w.frozen? ⟨b, 1, none⟩ = false
  lt : b < w.heap.size
theorem Bx.of_block {w w' : World} {b : Nat} {v0 v1 : Value} (h : Bx w b v0 v1) (hb : w'.heap[b]? = w.heap[b]?) (hs : w.heap.size ≤ w'.heap.size) : Bx w' b v0 v1 :=
  ⟨(cell_block hb).trans h.c0, (cell_block hb).trans h.c1, (frozen_block hb).trans h.f0, (frozen_block hb).trans h.f1, Nat.lt_of_lt_of_le h.lt hs⟩
theorem Bx.below {w w' : World} {b : Nat} {v0 v1 : Value} (h : Bx w b v0 v1) (hb : Below w.heap.size w w') : Bx w' b v0 v1 := h.of_block (hb.block b h.lt) hb.size
theorem Bx.span {lo hi : Nat} {w w' : World} {b : Nat} {v0 v1 : Value} (h : Bx w b v0 v1) (hs : Span lo hi w w') (hb : b < lo ∨ hi ≤ b) : Bx w' b v0 v1 := h.of_block (hs.block b h.lt hb) hs.size
theorem Bx.grown {w w' : World} {b g : Nat} {v0 v1 : Value} (h : Bx w b v0 v1) (hg : w.grownBy w' (some g)) (hb : b ≠ g) : Bx w' b v0 v1 := h.of_block (hg.block b h.lt (by simpa using hb)) hg.size
theorem Bx.mk2 {w : World} {B : Nat} {v0 v1 : Value} {t : TypeId} (hB : w.heap.size = B) : Bx (w.alloc (.cells #[v0, v1] t)) B v0 v1 := by
  subst hB; exact ⟨by simp, by simp, by simp, by simp, by simp⟩
theorem Rd.grown {w w' : World} {R P g : Nat} (h : Rd w R P) (hg : w.grownBy w' (some g)) (hR : R < g) : Rd w' R P :=
  h.of_block hg.size fun k hk => hg.block k (by have := h.1; omega) (by simp; omega)
theorem Span.grownOn {lo hi g : Nat} {w a b : World} (h : Span lo hi w a) (hg : a.grownBy b (some g)) (hw : w.heap.size ≤ g) : Span lo hi w b :=
  ⟨hg.os.trans h.os, hg.tape.trans h.tape, hg.output.trans h.output, Nat.le_trans h.size hg.size, fun k hk hc => (hg.block k (Nat.lt_of_lt_of_le hk h.size) (by simp; omega)).trans (h.block k hk hc)⟩
theorem own_eq {g n c b : Nat} (e : (Value.slice (some ⟨g, 0, none⟩) n c).ownBlock = some b) : b = g := by
  have e' : some g = some b := e
  injection e' with e'; exact e'.symm
/-- a drawn mass of a question: valid, its parts in memory of the call's own -/
def DrawnMass (s : Int) (base : Nat) (v : Value) (w' : World) : Prop := ∃ p xs, v = .agg #[.int .i64 s, p] ∧ Row w' base p xs ∧ xs.length = nsets s ∧ massOk s xs = true
def DrawnAny (base : Nat) (v : Value) (w' : World) : Prop := ∃ s, okSize s = true ∧ DrawnMass s base v w'
/-- some mass, not always valid -/
def SomeMass (base : Nat) (v : Value) (w' : World) : Prop := ∃ s p xs, v = .agg #[.int .i64 s, p] ∧ Row w' base p xs ∧ xs.length ≤ 17
/-- parts that were drawn -/
def Small (M : Int) (N : Nat) (ps : List Int) : Prop := ∀ j, j < N → 0 ≤ nth ps j ∧ nth ps j ≤ M
theorem Small.zero (N n : Nat) : Small 0 N (List.replicate n 0) := fun j _ => by rw [nth_replicate]; omega
theorem Small.set {M q : Int} {N i : Nat} {ps : List Int} (h : Small M N ps) (h0 : 0 ≤ q) (h1 : q ≤ M) : Small M N (ps.set i q) := fun j hj => by
  rw [nth_set]; split
  · omega
  · exact h j hj
theorem Small.mono {M M' : Int} {N : Nat} {ps : List Int} (h : Small M N ps) (hm : M ≤ M') : Small M' N ps := fun j hj => by have := h j hj; omega
end Go.Proofs.Ytchjnjmlambpjaa
