/- Contracts of the laws' helpers: copies, comparison, marks. -/
import Derived.Test.YtobeeomeebicnaaDoorW3
set_option linter.unusedSimpArgs false
set_option linter.unusedVariables false
namespace Go.Proofs.YtobeeomeebicnaaDoor
open Go.RowKit
theorem Row.cellAt {w : World} {base g n c k : Nat} {xs : List Int} (h : Row w base (.slice (some ⟨g, 0, none⟩) n c) xs) (hk : k < n) :
    w.cell? ⟨g, k, none⟩ = some (.int .i64 (nth xs k)) ∧ w.frozen? ⟨g, k, none⟩ = false ∧ xs.length = n := by
  have hl : xs.length = n := by
    rcases h.2 with ⟨h', _⟩ | ⟨g', cap', cur, h', _⟩
    · simp at h'
    · injection h' with _ e _; exact e.symm
  subst hl
  exact ⟨by rw [World.ownsRow.cellAt h k (by omega)]; simp [nth, hk], World.ownsRow.frozenAt h k, rfl⟩
theorem Row.store {w : World} {base g n c k : Nat} {xs : List Int} (h : Row w base (.slice (some ⟨g, 0, none⟩) n c) xs) (hk : k < n) (q : Int) :
    Row (w.setCell ⟨g, k, none⟩ (.int .i64 q)) base (.slice (some ⟨g, 0, none⟩) n c) (xs.set k q) ∧ w.grownBy (w.setCell ⟨g, k, none⟩ (.int .i64 q)) (some g) := by
  obtain ⟨_, _, hl⟩ := h.cellAt hk
  subst hl
  have := World.ownsRow.stored h k (.int .i64 q)
  refine ⟨?_, this.2⟩
  simp only [Row, List.map_set, List.length_set]; exact this.1
theorem boxG {W w1 : World} {a b : Value} {t : TypeId} (g : Nat) (hb : Below (W.alloc (.cells #[a, b] t)).heap.size (W.alloc (.cells #[a, b] t)) w1) (hg : W.heap.size = g) :
    w1.cell? ⟨g, 0, none⟩ = some a ∧ w1.cell? ⟨g, 1, none⟩ = some b ∧ w1.frozen? ⟨g, 0, none⟩ = false ∧ w1.frozen? ⟨g, 1, none⟩ = false := by
  subst hg; obtain ⟨h1, h2, h3, h4, _⟩ := box2f hb; exact ⟨h1, h2, h3, h4⟩
theorem store_gen {w : World} {base g n c k : Nat} {xs : List Int} (h : Row w base (.slice (some ⟨g, 0, none⟩) n c) xs) (hk : k < n) (q : Int) :
    ∃ w', w.setCell ⟨g, k, none⟩ (.int .i64 q) = w' ∧ Row w' base (.slice (some ⟨g, 0, none⟩) n c) (xs.set k q) ∧ w.grownBy w' (some g) := ⟨_, rfl, (h.store hk q).1, (h.store hk q).2⟩
theorem keepG {w1 w2 : World} {b o g : Nat} {v : Value} (hg : w1.grownBy w2 (some g)) (h : w1.cell? ⟨b, o, none⟩ = some v) (hne : b ≠ g) : w2.cell? ⟨b, o, none⟩ = some v := hg.cell h (by simpa using hne)
theorem keepGF {w1 w2 : World} {b o g : Nat} {v : Value} (hg : w1.grownBy w2 (some g)) (h : w1.cell? ⟨b, o, none⟩ = some v) (hne : b ≠ g) (hf : w1.frozen? ⟨b, o, none⟩ = false) : w2.frozen? ⟨b, o, none⟩ = false :=
  (World.frozen?_of_block (hg.block b (World.block_lt_of_cell? w1 ⟨b, o, none⟩ h) (by simpa using hne))).trans hf
theorem belowG {w w1 w2 : World} {B g : Nat} (hB : Below B w w1) (hs : B ≤ w1.heap.size) (hg : w1.grownBy w2 (some g)) (h : B ≤ g) : Below B w w2 := hB.grown hg hs (fun k e => by injection e with e; omega)
theorem Row.len {w : World} {base n c : Nat} {ao : Option Addr} {xs : List Int} (h : Row w base (.slice ao n c) xs) : xs.length = n := by
  rcases h.2 with ⟨h', h0⟩ | ⟨g', cap', cur, h', _⟩
  · injection h' with _ e _; omega
  · injection h' with _ e _; exact e.symm
theorem grownBy_trans {a b c : World} {row : Option Nat} (h : a.grownBy b row) (k : b.grownBy c row) : a.grownBy c row :=
  ⟨k.os.trans h.os, k.tape.trans h.tape, k.output.trans h.output, Nat.le_trans h.size k.size, fun i hi hn => (k.block i (Nat.lt_of_lt_of_le hi h.size) hn).trans (h.block i hi hn)⟩
theorem grownBy_refl (w : World) (row : Option Nat) : w.grownBy w row := ⟨rfl, rfl, rfl, Nat.le_refl _, fun _ _ _ => rfl⟩
theorem grownBy_below {a b : World} (h : Below a.heap.size a b) (row : Option Nat) : a.grownBy b row := ⟨h.os, h.tape, h.output, h.size, fun k hk _ => h.block k hk⟩
theorem below_grownBy {w a b : World} {B : Nat} {row : Option Nat} (h : Below B w a) (hB : B ≤ a.heap.size) (hg : a.grownBy b row) (hr : ∀ k, row = some k → B ≤ k) : Below B w b := h.grown hg hB hr
theorem IntsAt.grown {w w' : World} {ao : Option Addr} {n : Nat} {xs : List Int} {row : Option Nat} (h : IntsAt w ao n xs) (hg : w.grownBy w' row) (hne : ∀ b off, ao = some ⟨b, off, none⟩ → row ≠ some b) : IntsAt w' ao n xs := by
  refine ⟨h.len, h.cap, fun h0 => ?_⟩
  obtain ⟨b, off, e, h1, h2⟩ := h.cell h0
  exact ⟨b, off, e, Nat.lt_of_lt_of_le h1 hg.size, fun k hk => hg.cell (h2 k hk) (fun e2 => hne b off e e2.symm)⟩
/-- make([]int, n) -/
theorem wpList_make_ints {w : World} {ops : Array Oper} {rest : List Oper} {o : Oper} {a : Act} {Q : Exit → Act → World → Prop}
    (hg : o.guard = none) (l c : Operand) (hop : o.op = Op.makeSlice 22 l c) (n : Nat) (L C : Int) (hl : a.eval l = .int .i64 L) (hc : a.eval c = .int .i64 C) (hL : L = (n : Int)) (hC : C = (n : Int)) (hn : n ≤ 1000000000)
    (hK : ∀ w', Row w' w.heap.size (.slice (some ⟨w.heap.size, 0, none⟩) n n) (List.replicate n 0) → Below w.heap.size w w' → w.heap.size < w'.heap.size → wpList Tryd.prog ops Q rest (a.put o.dst (.slice (some ⟨w.heap.size, 0, none⟩) n n)) w') :
    wpList Tryd.prog ops Q (o :: rest) a w := by
  obtain ⟨i0, hi, hz0, hz1, hz2⟩ := info_parts info_int
  refine wpList_make_full w hg l c 22 hop w.heap.size 3 i0 (.int .i64 0) 1 Tryd.underlying22 hi hz0 hz1 .i64 .i64 L C n hl hc hL hC (by rw [hz2]; omega) (by unfold maxLen; omega) (Nat.le_refl _) fun w' h1 h2 => hK w' ?_ ?_ ?_
  · have e : (madeCells (Value.int IntKind.i64 0).cells (n * 1)).toList = (List.replicate n (0 : Int)).map (Value.int .i64) := by
      simp only [madeCells, Value.cells]
      apply List.ext_getElem
      · simp
      · intro i h1 h2; simp [Nat.mod_one]
    simp only [Row, List.length_replicate]
    rw [← e]; exact h1
  · exact ⟨h2.os, h2.tape, h2.output, h2.size, fun k hk => h2.block k hk (by simp)⟩
  · exact (World.ownsRow.lt h1 _ rfl).2
theorem nth_replicate (n k : Nat) : nth (List.replicate n 0) k = 0 := by
  by_cases h : k < n
  · rw [nth_eq _ _ (by simpa using h)]; simp
  · rw [nth_past _ _ (by simp; omega)]
set_option maxHeartbeats 400000 in
theorem eqIntS_same (ao bo : Option Addr) (n c c' : Nat) (xs : List Int) (w : World) (hx : IntsAt w ao n xs) (hy : IntsAt w bo n xs) :
    Calls Tryd.prog 9 #[.slice ao n c, .slice bo n c'] w fun e w' => e = .returned (.bool true) ∧ Below w.heap.size w w' := by
  have hcap := hx.cap
  have hnn : ((n : Int) != (n : Int)) = false := by simp
  go_enter Tryd.func9, Tryd.ntmps9
  go_wp2
  go_loopw [4, 5] (fun _ i wr => ∃ k : Nat, k ≤ n ∧ i = .int .i64 k ∧ Below w.heap.size w wr) (fun _ i _ => n - (intOf i).toNat)
  case atStart => exact ⟨0, by omega, rfl, Below.refl _ _⟩
  case round =>
    obtain ⟨k, hk, rfl, hB⟩ := hrel
    by_cases hlt : k < n
    · obtain ⟨b, off, rfl, hbs, hbs', hck⟩ := hx.at hB hlt
      obtain ⟨b2, off2, rfl, hbs2, hbs2', hck2⟩ := hy.at hB hlt
      have hk0 : (0 : Int) ≤ (k : Int) := by omega
      have hk1 : (k : Int) < (n : Int) := by omega
      have hb2 : ((nth xs k) != (nth xs k)) = false := by simp
      go_wp2
      refine wp_region_ov (by kernel_rfl) (by kernel_rfl) ?_
      repeat (first | go_big_quiet_step ((fail)) | quiet_step ((fail)))
      refine wpQuiet_nil ?_
      intro _ hw_ov
      obtain ⟨x_ov, hw_ov2⟩ := hw_ov
      subst hw_ov2
      obtain ⟨w1, hw_ov3, hb1⟩ := ov_gen _ x_ov
      rw [hw_ov3]
      clear hw_ov3 x_ov
      have hB1 := chain hB hb1
      go_wp2
      go_roundw
      case rel => first | exact ⟨k + 1, by omega, by go_num, hB1⟩ | exact ⟨_, ⟨k + 1, by omega, by go_num, hB1⟩, rfl⟩ | exact ⟨_, _, ⟨k + 1, by omega, by go_num, hB1⟩, rfl, rfl⟩ | exact ⟨_, _, _, ⟨k + 1, by omega, by go_num, hB1⟩, rfl, rfl, rfl⟩ | exact ⟨_, _, _, _, ⟨k + 1, by omega, by go_num, hB1⟩, rfl, rfl, rfl, rfl⟩ | exact ⟨_, _, _, _, _, ⟨k + 1, by omega, by go_num, hB1⟩, rfl, rfl, rfl, rfl, rfl⟩
      case measure => simp [intOf]; omega
    · go_wp2
      go_ret
      exact ⟨rfl, hB⟩
/-- the numbers k, k + 1, .. -/
def marks (k : Int) (n : Nat) : List Int := (List.range n).map fun (i : Nat) => k + (i : Int)
theorem marks_len (k : Int) (n : Nat) : (marks k n).length = n := by simp [marks]
theorem marks_nth (k : Int) (n i : Nat) (h : i < n) : nth (marks k n) i = k + i := by rw [nth_eq _ _ (by simpa [marks] using h)]; simp [marks]
/-- marked up to i -/
def marked (k : Int) (xs : List Int) (i : Nat) : List Int := iter (fun j l => l.set j (k + (j : Int))) xs i
theorem marked_len (k : Int) (xs : List Int) (i : Nat) : (marked k xs i).length = xs.length := by
  induction i with
  | zero => rfl
  | succ i ih => simp only [marked, iter, List.length_set] at *; exact ih
theorem marked_nth (k : Int) (xs : List Int) (i j : Nat) (hj : j < xs.length) : nth (marked k xs i) j = if j < i then k + j else nth xs j := by
  induction i with
  | zero => simp [marked, iter]
  | succ i ih =>
    show nth ((marked k xs i).set i (k + (i : Int))) j = _
    rw [nth_set, ih, marked_len]
    by_cases e : i = j
    · subst e; simp [hj]
    · rw [if_neg (by omega)]; by_cases h : j < i
      · rw [if_pos h, if_pos (by omega)]
      · rw [if_neg h, if_neg (by omega)]
theorem marked_all (k : Int) (xs : List Int) : marked k xs xs.length = marks k xs.length := by
  apply ext_nth
  · rw [marked_len, marks_len]
  · intro j hj
    rw [marked_len] at hj
    rw [marked_nth _ _ _ _ hj, if_pos hj, marks_nth _ _ _ hj]
set_option maxHeartbeats 400000 in
theorem markIntS_any (v : Value) (xs : List Int) (n : Nat) (q : Int) (base : Nat) (w : World) (hr : Row w base v xs) (hl : xs.length = n) (hn : n ≤ 100000000) (hq0 : 0 ≤ q) (hq : q ≤ 1000000000000) :
    Calls Tryd.prog 12 #[v, .int .i64 q] w fun e w' => e = .returned (.int .i64 (q + n)) ∧ Row w' base v (marks q n) ∧ w.grownBy w' v.ownBlock := by
  have HL := hid hl; clear hl
  by_cases h0 : n = 0
  · subst h0
    obtain ⟨ao, n', c, rfl, hi⟩ := hr.ints
    have hn' : n' = 0 := by have := hi.len; rw [HL.out] at this; exact this.symm
    subst hn'
    have hx0 : xs = [] := List.length_eq_zero_iff.1 HL.out
    go_enter Tryd.func12, Tryd.ntmps12
    go_wp2
    refine wp_loop_rounds 1 ?_
    rw [rounds_succ]
    go_wp2
    go_ret
    exact ⟨ret_int (by simp), by rw [hx0] at hr; simpa [marks] using hr, grownBy_refl _ _⟩
  · obtain ⟨g, c, rfl, hbg, hgs, hi⟩ := hr.form (by rw [HL.out]; omega)
    rw [HL.out]
    rw [HL.out] at hr
    go_enter Tryd.func12, Tryd.ntmps12
    go_wp2
    go_loopw [1, 5] (fun u i wr => ∃ k : Nat, k ≤ n ∧ i = .int .i64 k ∧ u = .int .i64 (q + (k : Int)) ∧ Row wr base (.slice (some ⟨g, 0, none⟩) n c) (marked q xs k) ∧ w.grownBy wr (some g)) (fun _ i _ => n - (intOf i).toNat)
    case atStart => exact ⟨0, by omega, rfl, by simp, hr, grownBy_refl _ _⟩
    case round =>
      obtain ⟨k, hk, rfl, rfl, hrow, hg⟩ := hrel
      by_cases hlt : k < n
      · obtain ⟨hck, hfk, _⟩ := hrow.cellAt hlt
        obtain ⟨hr2, hg2⟩ := hrow.store hlt (q + (k : Int))
        have HG := hid (grownBy_trans hg hg2)
        clear hg2 hg
        go_wp2
        go_roundw
        case rel => first | exact ⟨k + 1, by omega, by go_num, by go_num, hr2, HG.out⟩ | exact ⟨_, ⟨k + 1, by omega, by go_num, by go_num, hr2, HG.out⟩, rfl⟩ | exact ⟨_, _, ⟨k + 1, by omega, by go_num, by go_num, hr2, HG.out⟩, rfl, rfl⟩ | exact ⟨_, _, _, ⟨k + 1, by omega, by go_num, by go_num, hr2, HG.out⟩, rfl, rfl, rfl⟩ | exact ⟨_, _, _, _, ⟨k + 1, by omega, by go_num, by go_num, hr2, HG.out⟩, rfl, rfl, rfl, rfl⟩ | exact ⟨_, _, _, _, _, ⟨k + 1, by omega, by go_num, by go_num, hr2, HG.out⟩, rfl, rfl, rfl, rfl, rfl⟩
        case measure => simp [intOf]; omega
      · have hkn : k = n := by omega
        have HK : Hid (marked q xs k = marks q n) := by rw [Hid, ← HL.out]; rw [← HL.out] at hkn; rw [hkn]; exact marked_all q xs
        have HKn := hid hkn
        clear hkn
        go_wp2
        go_ret
        exact ⟨ret_int (by rw [HKn.out]), by rw [← HK.out]; exact hrow, hg⟩
theorem heldIntS_any (ao : Option Addr) (n c : Nat) (q : Int) (w : World) (hx : IntsAt w ao n (marks q n)) (hn : n ≤ 100000000) (hq0 : 0 ≤ q) (hq : q ≤ 1000000000000) :
    Calls Tryd.prog 13 #[.slice ao n c, .int .i64 q] w fun e w' => e = .returned (.int .i64 (q + n)) ∧ w = w' := by
  have hcap := hx.cap
  go_enter Tryd.func13, Tryd.ntmps13
  go_wp2
  go_loop [1, 4, 5] (fun u _ i => ∃ k : Nat, k ≤ n ∧ i = .int .i64 k ∧ u = .int .i64 (q + (k : Int))) (fun _ _ i => n - (intOf i).toNat)
  case atStart => exact ⟨0, by omega, rfl, by simp⟩
  case round =>
    obtain ⟨k, hk, rfl, rfl⟩ := hrel
    by_cases hlt : k < n
    · obtain ⟨b, off, rfl, hbs, hbs', hck⟩ := hx.at (Below.refl _ _) hlt
      rw [marks_nth _ _ _ hlt] at hck
      have hb2 : ((q + (k : Int)) != (q + (k : Int))) = false := by simp
      go_wp2
      go_round
      case rel => first | exact ⟨k + 1, by omega, by go_num, by go_num⟩ | exact ⟨_, ⟨k + 1, by omega, by go_num, by go_num⟩, rfl⟩ | exact ⟨_, _, ⟨k + 1, by omega, by go_num, by go_num⟩, rfl, rfl⟩ | exact ⟨_, _, _, ⟨k + 1, by omega, by go_num, by go_num⟩, rfl, rfl, rfl⟩ | exact ⟨_, _, _, _, ⟨k + 1, by omega, by go_num, by go_num⟩, rfl, rfl, rfl, rfl⟩ | exact ⟨_, _, _, _, _, ⟨k + 1, by omega, by go_num, by go_num⟩, rfl, rfl, rfl, rfl, rfl⟩
      case measure => simp [intOf]; omega
    · have hkn : k = n := by omega
      have HKn := hid hkn
      clear hkn
      go_wp2
      go_ret
      exact ⟨ret_int (by rw [HKn.out]), rfl⟩
theorem below_grown {w a b : World} {row : Option Nat} (h : Below w.heap.size w a) (hg : a.grownBy b row) : w.grownBy b row :=
  ⟨hg.os.trans h.os, hg.tape.trans h.tape, hg.output.trans h.output, Nat.le_trans h.size hg.size, fun k hk hn => (hg.block k (Nat.lt_of_lt_of_le hk h.size) hn).trans (h.block k hk)⟩
end Go.Proofs.YtobeeomeebicnaaDoor
