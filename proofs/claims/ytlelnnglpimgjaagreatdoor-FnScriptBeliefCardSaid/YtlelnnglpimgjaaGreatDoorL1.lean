/- Contracts of the laws' helpers: copies, comparison, marks. -/
import Derived.Test.YtlelnnglpimgjaaGreatDoorW3
set_option linter.unusedSimpArgs false
set_option linter.unusedVariables false
namespace Go.Proofs.YtlelnnglpimgjaaGreatDoor
open Go.RowKit
theorem Row.cellAt {w : World} {base g n c k : Nat} {xs : List Int} (h : Row w base (.slice (some ⟨g, 0, none⟩) n c) xs) (hk : k < n) :
    w.cell? ⟨g, k, none⟩ = some (.int .i64 (nth xs k)) ∧ w.frozen? ⟨g, k, none⟩ = false ∧ xs.length = n := by
  have hl : xs.length = n := by
    rcases h.2 with ⟨h', _⟩ | ⟨g', cap', cur, h', _⟩
    · simp at h'
    · injection h' with _ e _; exact e.symm
  subst hl
  exact ⟨by rw [World.ownsRow.cellAt h k (by omega)]; simp [nth, hk], World.ownsRow.frozenAt h k, rfl⟩
theorem Row.store {w : World} {base g n c k : Nat} {xs : List Int} (h : Row w base (.slice (some ⟨g, 0, none⟩) n c) xs) (hk : k < n) (q : Int) :
    Row (w.setCell ⟨g, k, none⟩ (.int .i64 q)) base (.slice (some ⟨g, 0, none⟩) n c) (xs.set k q) ∧ w.grownBy (w.setCell ⟨g, k, none⟩ (.int .i64 q)) (some g) := by
  obtain ⟨_, _, hl⟩ := h.cellAt hk
  subst hl
  have := World.ownsRow.stored h k (.int .i64 q)
  refine ⟨?_, this.2⟩
  simp only [Row, List.map_set, List.length_set]; exact this.1
theorem boxG {W w1 : World} {a b : Value} {t : TypeId} (g : Nat) (hb : Below (W.alloc (.cells #[a, b] t)).heap.size (W.alloc (.cells #[a, b] t)) w1) (hg : W.heap.size = g) :
    w1.cell? ⟨g, 0, none⟩ = some a ∧ w1.cell? ⟨g, 1, none⟩ = some b ∧ w1.frozen? ⟨g, 0, none⟩ = false ∧ w1.frozen? ⟨g, 1, none⟩ = false := by
  subst hg; obtain ⟨h1, h2, h3, h4, _⟩ := box2f hb; exact ⟨h1, h2, h3, h4⟩
theorem store_gen {w : World} {base g n c k : Nat} {xs : List Int} (h : Row w base (.slice (some ⟨g, 0, none⟩) n c) xs) (hk : k < n) (q : Int) :
    ∃ w', w.setCell ⟨g, k, none⟩ (.int .i64 q) = w' ∧ Row w' base (.slice (some ⟨g, 0, none⟩) n c) (xs.set k q) ∧ w.grownBy w' (some g) := ⟨_, rfl, (h.store hk q).1, (h.store hk q).2⟩
theorem keepG {w1 w2 : World} {b o g : Nat} {v : Value} (hg : w1.grownBy w2 (some g)) (h : w1.cell? ⟨b, o, none⟩ = some v) (hne : b ≠ g) : w2.cell? ⟨b, o, none⟩ = some v := hg.cell h (by simpa using hne)
theorem keepGF {w1 w2 : World} {b o g : Nat} {v : Value} (hg : w1.grownBy w2 (some g)) (h : w1.cell? ⟨b, o, none⟩ = some v) (hne : b ≠ g) (hf : w1.frozen? ⟨b, o, none⟩ = false) : w2.frozen? ⟨b, o, none⟩ = false :=
  (World.frozen?_of_block (hg.block b (World.block_lt_of_cell? w1 ⟨b, o, none⟩ h) (by simpa using hne))).trans hf
theorem belowG {w w1 w2 : World} {B g : Nat} (hB : Below B w w1) (hs : B ≤ w1.heap.size) (hg : w1.grownBy w2 (some g)) (h : B ≤ g) : Below B w w2 := hB.grown hg hs (fun k e => by injection e with e; omega)
theorem Row.len {w : World} {base n c : Nat} {ao : Option Addr} {xs : List Int} (h : Row w base (.slice ao n c) xs) : xs.length = n := by
  rcases h.2 with ⟨h', h0⟩ | ⟨g', cap', cur, h', _⟩
  · injection h' with _ e _; omega
  · injection h' with _ e _; exact e.symm
theorem grownBy_trans {a b c : World} {row : Option Nat} (h : a.grownBy b row) (k : b.grownBy c row) : a.grownBy c row :=
  ⟨k.os.trans h.os, k.tape.trans h.tape, k.output.trans h.output, Nat.le_trans h.size k.size, fun i hi hn => (k.block i (Nat.lt_of_lt_of_le hi h.size) hn).trans (h.block i hi hn)⟩
theorem grownBy_refl (w : World) (row : Option Nat) : w.grownBy w row := ⟨rfl, rfl, rfl, Nat.le_refl _, fun _ _ _ => rfl⟩
theorem grownBy_below {a b : World} (h : Below a.heap.size a b) (row : Option Nat) : a.grownBy b row := ⟨h.os, h.tape, h.output, h.size, fun k hk _ => h.block k hk⟩
theorem below_grownBy {w a b : World} {B : Nat} {row : Option Nat} (h : Below B w a) (hB : B ≤ a.heap.size) (hg : a.grownBy b row) (hr : ∀ k, row = some k → B ≤ k) : Below B w b := h.grown hg hB hr
theorem IntsAt.grown {w w' : World} {ao : Option Addr} {n : Nat} {xs : List Int} {row : Option Nat} (h : IntsAt w ao n xs) (hg : w.grownBy w' row) (hne : ∀ b off, ao = some ⟨b, off, none⟩ → row ≠ some b) : IntsAt w' ao n xs := by
  refine ⟨h.len, h.cap, fun h0 => ?_⟩
  obtain ⟨b, off, e, h1, h2⟩ := h.cell h0
  exact ⟨b, off, e, Nat.lt_of_lt_of_le h1 hg.size, fun k hk => hg.cell (h2 k hk) (fun e2 => hne b off e e2.symm)⟩
/-- make([]int, n) -/
theorem wpList_make_ints {w : World} {ops : Array Oper} {rest : List Oper} {o : Oper} {a : Act} {Q : Exit → Act → World → Prop}
    (hg : o.guard = none) (l c : Operand) (hop : o.op = Op.makeSlice 23 l c) (n : Nat) (L C : Int) (hl : a.eval l = .int .i64 L) (hc : a.eval c = .int .i64 C) (hL : L = (n : Int)) (hC : C = (n : Int)) (hn : n ≤ 1000000000)
    (hK : ∀ w', Row w' w.heap.size (.slice (some ⟨w.heap.size, 0, none⟩) n n) (List.replicate n 0) → Below w.heap.size w w' → w.heap.size < w'.heap.size → wpList Tryz.prog ops Q rest (a.put o.dst (.slice (some ⟨w.heap.size, 0, none⟩) n n)) w') :
    wpList Tryz.prog ops Q (o :: rest) a w := by
  obtain ⟨i0, hi, hz0, hz1, hz2⟩ := info_parts info_int
  refine wpList_make_full w hg l c 23 hop w.heap.size 3 i0 (.int .i64 0) 1 Tryz.underlying23 hi hz0 hz1 .i64 .i64 L C n hl hc hL hC (by rw [hz2]; omega) (by unfold maxLen; omega) (Nat.le_refl _) fun w' h1 h2 => hK w' ?_ ?_ ?_
  · have e : (madeCells (Value.int IntKind.i64 0).cells (n * 1)).toList = (List.replicate n (0 : Int)).map (Value.int .i64) := by
      simp only [madeCells, Value.cells]
      apply List.ext_getElem
      · simp
      · intro i h1 h2; simp [Nat.mod_one]
    simp only [Row, List.length_replicate]
    rw [← e]; exact h1
  · exact ⟨h2.os, h2.tape, h2.output, h2.size, fun k hk => h2.block k hk (by simp)⟩
  · exact (World.ownsRow.lt h1 _ rfl).2
theorem nth_replicate (n k : Nat) : nth (List.replicate n 0) k = 0 := by
  by_cases h : k < n
  · rw [nth_eq _ _ (by simpa using h)]; simp
  · rw [nth_past _ _ (by simp; omega)]
/-- the numbers k, k + 1, .. -/
def marks (k : Int) (n : Nat) : List Int := (List.range n).map fun (i : Nat) => k + (i : Int)
theorem marks_len (k : Int) (n : Nat) : (marks k n).length = n := by simp [marks]
theorem marks_nth (k : Int) (n i : Nat) (h : i < n) : nth (marks k n) i = k + i := by rw [nth_eq _ _ (by simpa [marks] using h)]; simp [marks]
/-- marked up to i -/
def marked (k : Int) (xs : List Int) (i : Nat) : List Int := iter (fun j l => l.set j (k + (j : Int))) xs i
theorem marked_len (k : Int) (xs : List Int) (i : Nat) : (marked k xs i).length = xs.length := by
  induction i with
  | zero => rfl
  | succ i ih => simp only [marked, iter, List.length_set] at *; exact ih
theorem marked_nth (k : Int) (xs : List Int) (i j : Nat) (hj : j < xs.length) : nth (marked k xs i) j = if j < i then k + j else nth xs j := by
  induction i with
  | zero => simp [marked, iter]
  | succ i ih =>
    show nth ((marked k xs i).set i (k + (i : Int))) j = _
    rw [nth_set, ih, marked_len]
    by_cases e : i = j
    · subst e; simp [hj]
    · rw [if_neg (by omega)]; by_cases h : j < i
      · rw [if_pos h, if_pos (by omega)]
      · rw [if_neg h, if_neg (by omega)]
theorem marked_all (k : Int) (xs : List Int) : marked k xs xs.length = marks k xs.length := by
  apply ext_nth
  · rw [marked_len, marks_len]
  · intro j hj
    rw [marked_len] at hj
    rw [marked_nth _ _ _ _ hj, if_pos hj, marks_nth _ _ _ hj]
theorem below_grown {w a b : World} {row : Option Nat} (h : Below w.heap.size w a) (hg : a.grownBy b row) : w.grownBy b row :=
  ⟨hg.os.trans h.os, hg.tape.trans h.tape, hg.output.trans h.output, Nat.le_trans h.size hg.size, fun k hk hn => (hg.block k (Nat.lt_of_lt_of_le hk h.size) hn).trans (h.block k hk)⟩
end Go.Proofs.YtlelnnglpimgjaaGreatDoor
