/- What the reference's drawing functions draw: some value, in new memory (printed by drawgen.py). -/
import Derived.Test.YtefmlbahmakboaaGreatDoorD4
import Derived.Test.YtefmlbahmakboaaGreatDoorL2
set_option linter.unusedSimpArgs false
set_option linter.unusedVariables false
namespace Go.Proofs.YtefmlbahmakboaaGreatDoor
open Go.RowKit
/-- several integers appended -/
theorem wpList_append_many {w : World} {ops : Array Oper} {rest : List Oper} {o : Oper} {a : Act} {Q : Exit → Act → World → Prop} (hgd : o.guard = none) (s x : Operand)
    (ho : o.op = .call { callee := .builtin .append, args := #[s, x], argTypes := #[23, 23] })
    (base : Nat) (v : Value) (xs : List Int) (n : Nat) (hl : xs.length = n) (hs : a.eval s = v) (hown : Row w base v xs)
    (g m c : Nat) (ys : List Int) (hx : a.eval x = .slice (some ⟨g, 0, none⟩) m c) (hy : IntsAt w (some ⟨g, 0, none⟩) m ys) (hm : 0 < m)
    (hn : n + m < 1000000000) (hbase : base ≤ w.heap.size)
    (h : ∀ g' cap w', Row w' base (.slice (some ⟨g', 0, none⟩) (n + m) cap) (xs ++ ys) → w.grownBy w' v.ownBlock → wpList Tryz.prog ops Q rest (a.put o.dst (.slice (some ⟨g', 0, none⟩) (n + m) cap)) w') :
    wpList Tryz.prog ops Q (o :: rest) a w := by
  obtain ⟨i0, hi, hz0, hz1, hz2⟩ := info_parts info_int
  have hyl := hy.len
  subst hl
  refine wpList_plain hgd fun _ hK => wp_append_lies w s x 23 ho base 3 i0 (.int .i64 0) 1 8 Tryz.underlying23 hi hz0 hz1 hz2 rfl (by decide) v xs.length _ hs hown ⟨g, 0, none⟩ m c (ys.map (Value.int .i64)) hx (by simp [hyl]) ?_ ?_ hm (by unfold maxLen; omega) (by omega) hbase _ rfl fun g' cap w' h1 h2 _ _ => hK _ _ (h g' cap w' ?_ h2)
  · intro j u hj
    have hjl : j < m := by
      have h4 := (List.getElem?_eq_some_iff.1 hj).1
      rw [List.length_map, hyl] at h4; exact h4
    have h3 : (ys.map (Value.int .i64))[j]? = some (.int .i64 (nth ys j)) := by simp [nth, hyl, hjl]
    have h2 : u = .int .i64 (nth ys j) := Option.some.inj (hj.symm.trans h3)
    rw [h2, addr_add]
    exact ints_cell0 hy hjl
  · intro u hu
    simp at hu
    obtain ⟨q, _, rfl⟩ := hu
    rfl
  · simpa [Row, hyl] using h1
/-- a world in which, of the blocks below B that were there, only block R has changed -/
structure SpanB (R B : Nat) (w w' : World) : Prop where
  os : w'.os = w.os
  tape : w'.tape = w.tape
  output : w'.output = w.output
  size : w.heap.size ≤ w'.heap.size
  block : ∀ k, k < w.heap.size → k < B → k ≠ R → w'.heap[k]? = w.heap[k]?
theorem SpanB.refl (R B : Nat) (w : World) : SpanB R B w w := ⟨rfl, rfl, rfl, Nat.le_refl _, fun _ _ _ _ => rfl⟩
theorem SpanB.transS {R B : Nat} {a b c : World} (h : SpanB R B a b) (k : Span R (R + 1) b c) : SpanB R B a c :=
  ⟨k.os.trans h.os, k.tape.trans h.tape, k.output.trans h.output, Nat.le_trans h.size k.size, fun i hi hB hR => (k.block i (Nat.lt_of_lt_of_le hi h.size) (by omega)).trans (h.block i hi hB hR)⟩
theorem SpanB.on {R B : Nat} {w a b : World} (h : SpanB R B w a) (hb : Below w.heap.size a b) : SpanB R B w b :=
  ⟨hb.os.trans h.os, hb.tape.trans h.tape, hb.output.trans h.output, Nat.le_trans h.size hb.size, fun k hk hB hR => (hb.block k hk).trans (h.block k hk hB hR)⟩
theorem SpanB.grownOn {R B g : Nat} {w a b : World} (h : SpanB R B w a) (hg : a.grownBy b (some g)) (hw : B ≤ g) : SpanB R B w b :=
  ⟨hg.os.trans h.os, hg.tape.trans h.tape, hg.output.trans h.output, Nat.le_trans h.size hg.size, fun k hk hB hR => (hg.block k (Nat.lt_of_lt_of_le hk h.size) (by simp; omega)).trans (h.block k hk hB hR)⟩
theorem SpanB.span {R B : Nat} {w a b : World} (h : Span R (R + 1) w a) (k : SpanB R B a b) (hw : w.heap.size ≤ B) : Span R (R + 1) w b :=
  ⟨k.os.trans h.os, k.tape.trans h.tape, k.output.trans h.output, Nat.le_trans h.size k.size, fun i hi hc => (k.block i (Nat.lt_of_lt_of_le hi h.size) (by omega) (by omega)).trans (h.block i hi hc)⟩
theorem Bx.spanB {R B : Nat} {w w' : World} {b : Nat} {v0 v1 : Value} (h : Bx w b v0 v1) (hs : SpanB R B w w') (hb : b < B) (hR : b ≠ R) : Bx w' b v0 v1 := h.of_block (hs.block b h.lt hb hR) hs.size
/-- what l3Bad leaves -/
def DrewB (R P B : Nat) (w : World) (ok : Value → World → Prop) (e : Ending) (w' : World) : Prop := ∃ v, e = .returned v ∧ ok v w' ∧ Rd w' R P ∧ SpanB R B w w'
set_option maxRecDepth 100000 in
set_option maxHeartbeats 4000000 in
theorem l3Bad_any (R P : Nat) (w : World) (s : Int) (B g n c : Nat) (xs : List Int) (hrow : Row w B (.slice (some ⟨g, 0, none⟩) n c) xs) (hBR : R < B) (hn1 : 1 ≤ n) (hn2 : n ≤ 16) (hs0 : -10 ≤ s) (hs1 : s ≤ 10) (hx : Small 1000000 n xs)  (hr : Rd w R P) (hP : P ≤ 600000000) :
    Calls Tryz.prog 84 #[.pointer (some ⟨R, 0, none⟩), .agg #[.int .i64 s, .slice (some ⟨g, 0, none⟩) n c]] w (DrewB R (P + 2) B w (SomeMass B)) := by
  have hR := hr.1
  have hrd := hr
  clear hr
  have hsp := SpanB.refl R B w
  have hlx := hrow.len
  have hg1 : B ≤ g ∧ g < w.heap.size := hrow.block g rfl
  have hvr : ∀ b, (Value.slice (some ⟨g, 0, none⟩) n c).ownBlock = some b → B ≤ b ∧ b = g := fun b e => by have := own_eq e; omega
  have HX := hid hx
  clear hx
  have hnp : (0 : Int) < (n : Int) := by omega
  go_enter Tryz.func84, Tryz.ntmps84
  go_wp2_with fail
  refine (pick_any R _ _ _ (hrd.on (by (repeat (first | exact Below.refl _ _ | assumption | refine Below.alloc ?_ (by first | omega | (simp <;> omega)) _ | refine Below.setCell ?_ (by first | omega | (simp <;> omega)) _ | refine Below.drew ?_ | refine below_drewN ?_)))) (by omega) (by omega)).mono ?_; rintro e w1 ⟨_, rfl, ⟨z, rfl, hz0, hz1⟩, hrdn, hs⟩
  clear hrd
  have hrd := hrdn
  clear hrdn
  have hY1 : w.heap.size + 2 ≤ w1.heap.size := by have := hs.size; simp at this; omega
  have p0 := Span.keep hs (b := w.heap.size) (o := 0) (v := .int .i64 s) (by simp) (by omega)
  have fp0 := Span.keepF hs (b := w.heap.size) (o := 0) ⟨by simp <;> omega, by simp⟩ (by omega)
  have p1 := Span.keep hs (b := w.heap.size) (o := 1) (v := .slice (some ⟨g, 0, none⟩) n c) (by simp) (by omega)
  have fp1 := Span.keepF hs (b := w.heap.size) (o := 1) ⟨by simp <;> omega, by simp⟩ (by omega)
  have r0 := Span.keep hs (b := w.heap.size + 1) (o := 0) (v := .int .i64 0) (by simp) (by omega)
  have fr0 := Span.keepF hs (b := w.heap.size + 1) (o := 0) ⟨by simp <;> omega, by simp⟩ (by omega)
  have r1 := Span.keep hs (b := w.heap.size + 1) (o := 1) (v := .slice none 0 0) (by simp) (by omega)
  have fr1 := Span.keepF hs (b := w.heap.size + 1) (o := 1) ⟨by simp <;> omega, by simp⟩ (by omega)
  have ht : Span R (R + 1) w w1 := Span.trans (Span.of_below (by (repeat (first | exact Below.refl _ _ | assumption | refine Below.alloc ?_ (by first | omega | (simp <;> omega)) _ | refine Below.setCell ?_ (by first | omega | (simp <;> omega)) _ | refine Below.drew ?_ | refine below_drewN ?_)))) hs
  replace hrow := Span.row ht hrow (fun b e => by have := hvr b e; omega)
  replace hsp := hsp.transS ht
  have hZ1 := ht.size
  clear ht hs
  have gfp0 := fp0.2
  have gfp1 := fp1.2
  have gfr0 := fr0.2
  have gfr1 := fr1.2
  by_cases e0 : z = 0
  · subst e0
    have hs2 : IntKind.i64.wrap (s + 1) = s + 1 := IntWalk.i64_in _ (by omega)
    go_wp2_with fail
    refine (num_any R _ _ 5 _ [0, 5, -1, s + 1, 9223372036854775807] _ (hrd.on (by (repeat (first | exact Below.refl _ _ | assumption | refine Below.alloc ?_ (by first | omega | (simp <;> omega)) _ | refine Below.setCell ?_ (by first | omega | (simp <;> omega)) _ | refine Below.drew ?_ | refine below_drewN ?_)))) (by omega) (ints_lit _ _ _ [0, 5, -1, s + 1, 9223372036854775807] _ 5 (by simp) (by simp) rfl (by omega)) (by first | omega | (simp <;> omega)) (by omega) (by omega)).mono ?_; rintro e w2 ⟨_, rfl, ⟨i, hi, rfl⟩, hrdn, hs⟩
    clear hrd
    have hrd := hrdn
    clear hrdn
    have hY2 : w1.heap.size + 1 ≤ w2.heap.size := by have := hs.size; simp at this; omega
    have ht : Span R (R + 1) w1 w2 := Span.trans (Span.of_below (by (repeat (first | exact Below.refl _ _ | assumption | refine Below.alloc ?_ (by first | omega | (simp <;> omega)) _ | refine Below.setCell ?_ (by first | omega | (simp <;> omega)) _ | refine Below.drew ?_ | refine below_drewN ?_)))) hs
    replace p0 := Span.keep ht p0 (by omega)
    replace p1 := Span.keep ht p1 (by omega)
    replace r0 := Span.keep ht r0 (by omega)
    replace r1 := Span.keep ht r1 (by omega)
    replace fp0 := Span.keepF ht fp0 (by omega)
    replace fp1 := Span.keepF ht fp1 (by omega)
    replace fr0 := Span.keepF ht fr0 (by omega)
    replace fr1 := Span.keepF ht fr1 (by omega)
    replace hrow := Span.row ht hrow (fun b e => by have := hvr b e; omega)
    replace hsp := hsp.transS ht
    have hZ2 := ht.size
    clear ht hs
    replace gfp0 := fp0.2
    replace gfp1 := fp1.2
    replace gfr0 := fr0.2
    replace gfr1 := fr1.2
    generalize nth [0, 5, -1, s + 1, 9223372036854775807] i = s2 at *
    go_wp2
    refine bodyPost_ret (v := .agg #[.int .i64 s2, .slice (some ⟨g, 0, none⟩) n c]) (by simp [results, Tryz.results84, go_sem, r0, r1, p0, p1]) rfl ⟨_, rfl, ⟨_, _, _, rfl, ?_, by rw [hlx]; omega⟩, ?_, ?_⟩
    · refine Row.mono (base := B) ?_ (by omega)
      (repeat (first | exact hrow | (refine Row.setBelow ?_ ?_ _; rotate_left; focus (first | (omega) | (simp; done) | (simp; omega))) | (refine Row.setOther ?_ ?_ _; rotate_left; focus (intro h_own; have h_own2 := own_eq h_own; first | (omega) | (simp at h_own2; omega))) | refine Row.below ?_ (below_alloc _ _)))
    · exact (hrd.below (B := R + 1) (by (repeat (first | exact Below.refl _ _ | assumption | refine Below.alloc ?_ (by first | omega | (simp <;> omega)) _ | refine Below.setCell ?_ (by first | omega | (simp <;> omega)) _ | refine Below.drew ?_ | refine below_drewN ?_))) (by omega)).mono (by omega)
    · exact hsp.on (by (repeat (first | exact Below.refl _ _ | assumption | refine Below.alloc ?_ (by first | omega | (simp <;> omega)) _ | refine Below.setCell ?_ (by first | omega | (simp <;> omega)) _ | refine Below.drew ?_ | refine below_drewN ?_)))
  · by_cases e1 : z = 1
    · subst e1
      have pb : Bx w1 w.heap.size _ _ := ⟨p0, p1, gfp0, gfp1, fp0.1⟩
      have rb : Bx w1 (w.heap.size + 1) _ _ := ⟨r0, r1, gfr0, gfr1, fr0.1⟩
      have hix : IntsAt w1 (some ⟨g, 0, none⟩) n xs := by
        obtain ⟨ao, n2, c2, e, hi⟩ := hrow.ints
        injection e with e1 e2 e3; subst e1 e2 e3; exact hi
      clear hrow
      have tok1 : True := trivial
      go_wp2_with (first | (at_builtin; have tk := tok1; refine wpList_append_many rfl _ _ rfl w1.heap.size (.slice (some ⟨w1.heap.size, 0, none⟩) 0 0) [] 0 rfl (by rfl) (World.ownsRow_lit w1 #[] 0 (Nat.le_refl _) (by unfold maxLen; omega) rfl) g n c xs (by rfl) (hix.below (below_alloc w1 _)) (by omega) (by omega) (by simp) ?_; intro g2 c2 w2 hrow2 hgrow; clear tok1 tk; simp only [Nat.zero_add, List.nil_append] at hrow2; have pb2 := (pb.below (below_alloc w1 _)).grown (g := w1.heap.size) hgrow (by omega); have rb2 := (rb.below (below_alloc w1 _)).grown (g := w1.heap.size) hgrow (by omega); have hrd2 := (hrd.on (below_alloc w1 _)).grown (g := w1.heap.size) hgrow (by omega); have hsp2 := (hsp.transS (Span.of_below (below_alloc w1 _))).grownOn (g := w1.heap.size) hgrow (by omega); have hsz2 : w1.heap.size + 1 ≤ w2.heap.size := by have h_g := hgrow.size; simp at h_g; omega) | (at_builtin; refine wpList_append_int rfl _ _ rfl w1.heap.size _ _ n (by simp [hlx]) (by rfl) (hrow2.below (below_alloc w2 _)) _ _ 0 (by rfl) (by simp) (by omega) (by simp; omega) ?_; intro g3 c3 w3 hrow3 hgrow3; have hg2 := hrow2.block g2 rfl; have pb3 := (pb2.below (below_alloc w2 _)).grown (g := g2) hgrow3 (by omega); have rb3 := (rb2.below (below_alloc w2 _)).grown (g := g2) hgrow3 (by omega); have hrd3 := (hrd2.on (below_alloc w2 _)).grown (g := g2) hgrow3 (by omega); have hsp3 := (hsp2.transS (Span.of_below (below_alloc w2 _))).grownOn (g := g2) hgrow3 (by omega); have hg3 := hrow3.block g3 rfl; clear p0 p1 r0 r1 fp0 fp1 fr0 fr1 gfp0 gfp1 gfr0 gfr1; obtain ⟨p0, p1, gfp0, gfp1, hpl⟩ := pb3; obtain ⟨r0, r1, gfr0, gfr1, hrl⟩ := rb3; clear pb rb pb2 rb2 hrd hrd2 hsp hsp2 hgrow3))
      have hrd := hrd3
      have hsp := hsp3
      clear hrd3 hsp3
      refine bodyPost_ret (v := .agg #[.int .i64 s, .slice (some ⟨g3, 0, none⟩) (n + 1) c3]) (by simp [results, Tryz.results84, go_sem, r0, r1, p0, p1]) rfl ⟨_, rfl, ⟨_, _, xs ++ [0], rfl, ?_, ?_⟩, ?_, ?_⟩
      · refine Row.mono (base := w1.heap.size) ?_ (by omega)
        (repeat (first | exact hrow3 | (refine Row.setBelow ?_ ?_ _; rotate_left; focus (first | (omega) | (simp; done) | (simp; omega))) | (refine Row.setOther ?_ ?_ _; rotate_left; focus (intro h_own; have h_own2 := own_eq h_own; first | (omega) | (simp at h_own2; omega))) | refine Row.below ?_ (below_alloc _ _)))
      · rw [List.length_append]; simp only [List.length_cons, List.length_nil]; omega
      · exact (hrd.below (B := R + 1) (by (repeat (first | exact Below.refl _ _ | assumption | refine Below.alloc ?_ (by first | omega | (simp <;> omega)) _ | refine Below.setCell ?_ (by first | omega | (simp <;> omega)) _ | refine Below.drew ?_ | refine below_drewN ?_))) (by omega)).mono (by omega)
      · exact hsp.on (by (repeat (first | exact Below.refl _ _ | assumption | refine Below.alloc ?_ (by first | omega | (simp <;> omega)) _ | refine Below.setCell ?_ (by first | omega | (simp <;> omega)) _ | refine Below.drew ?_ | refine below_drewN ?_)))
    · by_cases e2 : z = 2
      · subst e2
        obtain ⟨c0, d0, _⟩ := hrow.cellAt (show 0 < n by omega)
        have pb : Bx w1 w.heap.size _ _ := ⟨p0, p1, gfp0, gfp1, fp0.1⟩
        have rb : Bx w1 (w.heap.size + 1) _ _ := ⟨r0, r1, gfr0, gfr1, fr0.1⟩
        go_wp2_with fail
        go_region_with (go_at_call 131; refine (num_any R _ _ 3 _ [-1, 1000001, 9223372036854775807] _ (hrd.on (by (repeat (first | exact Below.refl _ _ | assumption | refine Below.alloc ?_ (by first | omega | (simp <;> omega)) _ | refine Below.setCell ?_ (by first | omega | (simp <;> omega)) _ | refine Below.drew ?_ | refine below_drewN ?_)))) (by omega) (IntsAt.below (ints_lit w1 _ 3 [-1, 1000001, 9223372036854775807] w1.heap.size 3 rfl (by simp) rfl (by omega)) (drew_below _)) (by first | omega | (simp <;> omega)) (by omega) (by omega)).mono ?_; rintro e w2 ⟨_, rfl, ⟨i, hi, rfl⟩, hrd2, hs2⟩; have ht : Span R (R + 1) w1 w2 := Span.trans (Span.of_below (by (repeat (first | exact Below.refl _ _ | assumption | refine Below.alloc ?_ (by first | omega | (simp <;> omega)) _ | refine Below.setCell ?_ (by first | omega | (simp <;> omega)) _ | refine Below.drew ?_ | refine below_drewN ?_)))) hs2; have c2 := Span.keep ht c0 (by omega); have d2 := (Span.keepF ht ⟨by omega, d0⟩ (by omega)).2; have p1 := Span.keep ht p1 (by omega))
        all_goals
          replace pb := pb.span ht (by omega)
          replace rb := rb.span ht (by omega)
          replace hrow := Span.row ht hrow (fun b e => by have := own_eq e; omega)
          have hsp2 := hsp.transS ht
          have hsz2 := ht.size
          clear hrd hsp hs2 ht c0 d0
          obtain ⟨w3, hw3, hr3, hg3⟩ := store_gen hrow (show 0 < n by omega) (nth [-1, 1000001, 9223372036854775807] i)
          rw [hw3]
          have pb3 := pb.grown hg3 (by omega)
          have rb3 := rb.grown hg3 (by omega)
          have hrd := hrd2.grown hg3 (by omega)
          have hsp := hsp2.grownOn hg3 (by omega)
          have hsz3 := hg3.size
          have hl3 := hr3.len
          clear hw3 hg3 hrow c2 d2 p0 p1 r0 r1 fp0 fp1 fr0 fr1 gfp0 gfp1 gfr0 gfr1 hrd2 hsp2 pb rb
          obtain ⟨p0, p1, gfp0, gfp1, hpl⟩ := pb3
          obtain ⟨r0, r1, gfr0, gfr1, hrl⟩ := rb3
          go_wp2
          refine bodyPost_ret (v := .agg #[.int .i64 s, .slice (some ⟨g, 0, none⟩) n c]) (by simp [results, Tryz.results84, go_sem, r0, r1, p0, p1]) rfl ⟨_, rfl, ⟨_, _, _, rfl, ?_, by rw [hl3]; omega⟩, ?_, ?_⟩
          · refine Row.mono (base := B) ?_ (by omega)
            (repeat (first | exact hr3 | (refine Row.setBelow ?_ ?_ _; rotate_left; focus (first | (omega) | (simp; done) | (simp; omega))) | (refine Row.setOther ?_ ?_ _; rotate_left; focus (intro h_own; have h_own2 := own_eq h_own; first | (omega) | (simp at h_own2; omega))) | refine Row.below ?_ (below_alloc _ _)))
          · exact (hrd.below (B := R + 1) (by (repeat (first | exact Below.refl _ _ | assumption | refine Below.alloc ?_ (by first | omega | (simp <;> omega)) _ | refine Below.setCell ?_ (by first | omega | (simp <;> omega)) _ | refine Below.drew ?_ | refine below_drewN ?_))) (by omega)).mono (by omega)
          · exact hsp.on (by (repeat (first | exact Below.refl _ _ | assumption | refine Below.alloc ?_ (by first | omega | (simp <;> omega)) _ | refine Below.setCell ?_ (by first | omega | (simp <;> omega)) _ | refine Below.drew ?_ | refine below_drewN ?_)))
      · by_cases e3 : z = 3
        · subst e3
          have pb : Bx w1 w.heap.size _ _ := ⟨p0, p1, gfp0, gfp1, fp0.1⟩
          have rb : Bx w1 (w.heap.size + 1) _ _ := ⟨r0, r1, gfr0, gfr1, fr0.1⟩
          go_wp2
          go_loopw [5] (fun i wr => ∃ (k : Nat) (ps : List Int), k ≤ n ∧ i = .int .i64 k ∧ Small 2000000 n ps ∧ (∀ j, k ≤ j → j < n → nth ps j ≤ 1000000) ∧ Row wr B (.slice (some ⟨g, 0, none⟩) n c) ps ∧ Bx wr w.heap.size (.int .i64 s) (.slice (some ⟨g, 0, none⟩) n c) ∧ Bx wr (w.heap.size + 1) (.int .i64 0) (.slice none 0 0) ∧ Rd wr R (P + 1) ∧ SpanB R B w wr) (fun i _ => n - (intOf i).toNat)
          case atStart => exact ⟨0, xs, by omega, rfl, HX.out.mono (by omega), fun j _ hj => (HX.out j hj).2, hrow, pb, rb, hrd, hsp⟩
          case round =>
            clear p0 p1 r0 r1 fp0 fp1 fr0 fr1 gfp0 gfp1 gfr0 gfr1 pb rb hrow hrd hsp
            obtain ⟨k, ps, hk, rfl, hsm, hup, hrow, pb, rb, hrd, hsp⟩ := hrel
            by_cases hlt : k < n
            · obtain ⟨c0, d0, _⟩ := hrow.cellAt hlt
              have hq := hsm k hlt
              have hq2 := hup k (Nat.le_refl _) hlt
              have hk0 : (0 : Int) ≤ (k : Int) := Int.natCast_nonneg _
              have hk1 : (k : Int) < (n : Int) := Int.ofNat_lt.2 hlt
              obtain ⟨p0, p1, gfp0, gfp1, hpl⟩ := pb
              have HUP := hid hup
              clear hup
              go_wp2_with fail
              refine wp_region_ov_tail 10 (by kernel_rfl) (by kernel_rfl) (fun _ _ _ _ _ h => h) ?_
              simp only [List.take_succ_cons, List.take_zero, List.drop_succ_cons, List.drop_zero]
              repeat (first | go_big_quiet_step ((fail)) | quiet_step ((fail)))
              refine wpQuiet_nil ?_
              intro _ hw_ov
              obtain ⟨x_ov, hw_ov2⟩ := hw_ov
              subst hw_ov2
              obtain ⟨w4, hw_ov3, hb4⟩ := ov_gen _ x_ov
              rw [hw_ov3]
              clear hw_ov3 x_ov
              have hc4 := keep hb4 c0
              have hd4 := keepF hb4 c0 d0
              have pb4 : Bx w4 w.heap.size _ _ := ⟨keep hb4 p0, keep hb4 p1, keepF hb4 p0 gfp0, keepF hb4 p1 gfp1, Nat.lt_of_lt_of_le hpl hb4.size⟩
              have rb4 := rb.below hb4
              have hr4 := hrow.below hb4
              have hrd4 := hrd.on hb4
              have hsp4 := hsp.transS (Span.of_below hb4)
              clear hb4 c0 d0 p0 p1 gfp0 gfp1 hrow hrd hsp rb
              go_wp2_with fail
              obtain ⟨w5, hw5, hr5, hg5⟩ := store_gen hr4 hlt (2 * nth ps k)
              rw [hw5]
              have pb5 := pb4.grown hg5 (by omega)
              have rb5 := rb4.grown hg5 (by omega)
              have hrd5 := hrd4.grown hg5 (by omega)
              have hsp5 := hsp4.grownOn hg5 (by omega)
              have hsm5 := hsm.set (i := k) (show 0 ≤ 2 * nth ps k by omega) (show 2 * nth ps k ≤ 2000000 by omega)
              clear hw5 hg5 hc4 hd4 pb4 rb4 hrd4 hsp4 hr4
              go_wp2
              go_roundw
              case rel => first | exact ⟨k + 1, _, by omega, by go_num, hsm5, fun j h1 h2 => by rw [nth_set, if_neg (by omega)]; exact HUP.out j (by omega) h2, hr5, pb5, rb5, hrd5, hsp5⟩ | exact ⟨_, ⟨k + 1, _, by omega, by go_num, hsm5, fun j h1 h2 => by rw [nth_set, if_neg (by omega)]; exact HUP.out j (by omega) h2, hr5, pb5, rb5, hrd5, hsp5⟩, rfl⟩ | exact ⟨_, _, ⟨k + 1, _, by omega, by go_num, hsm5, fun j h1 h2 => by rw [nth_set, if_neg (by omega)]; exact HUP.out j (by omega) h2, hr5, pb5, rb5, hrd5, hsp5⟩, rfl, rfl⟩ | exact ⟨_, _, _, ⟨k + 1, _, by omega, by go_num, hsm5, fun j h1 h2 => by rw [nth_set, if_neg (by omega)]; exact HUP.out j (by omega) h2, hr5, pb5, rb5, hrd5, hsp5⟩, rfl, rfl, rfl⟩ | exact ⟨_, _, _, _, ⟨k + 1, _, by omega, by go_num, hsm5, fun j h1 h2 => by rw [nth_set, if_neg (by omega)]; exact HUP.out j (by omega) h2, hr5, pb5, rb5, hrd5, hsp5⟩, rfl, rfl, rfl, rfl⟩ | exact ⟨_, _, _, _, _, ⟨k + 1, _, by omega, by go_num, hsm5, fun j h1 h2 => by rw [nth_set, if_neg (by omega)]; exact HUP.out j (by omega) h2, hr5, pb5, rb5, hrd5, hsp5⟩, rfl, rfl, rfl, rfl, rfl⟩
              case measure => simp [intOf]; omega
            · obtain rfl : k = n := by omega
              obtain ⟨p0, p1, gfp0, gfp1, hpl⟩ := pb
              obtain ⟨r0, r1, gfr0, gfr1, hrl⟩ := rb
              have hl3 := hrow.len
              go_wp2
              refine bodyPost_ret (v := .agg #[.int .i64 s, .slice (some ⟨g, 0, none⟩) k c]) (by simp [results, Tryz.results84, go_sem, r0, r1, p0, p1]) rfl ⟨_, rfl, ⟨_, _, _, rfl, ?_, by rw [hl3]; omega⟩, ?_, ?_⟩
              · refine Row.mono (base := B) ?_ (by omega)
                (repeat (first | exact hrow | (refine Row.setBelow ?_ ?_ _; rotate_left; focus (first | (omega) | (simp; done) | (simp; omega))) | (refine Row.setOther ?_ ?_ _; rotate_left; focus (intro h_own; have h_own2 := own_eq h_own; first | (omega) | (simp at h_own2; omega))) | refine Row.below ?_ (below_alloc _ _)))
              · exact (hrd.below (B := R + 1) (by (repeat (first | exact Below.refl _ _ | assumption | refine Below.alloc ?_ (by first | omega | (simp <;> omega)) _ | refine Below.setCell ?_ (by first | omega | (simp <;> omega)) _ | refine Below.drew ?_ | refine below_drewN ?_))) (by omega)).mono (by omega)
              · exact hsp.on (by (repeat (first | exact Below.refl _ _ | assumption | refine Below.alloc ?_ (by first | omega | (simp <;> omega)) _ | refine Below.setCell ?_ (by first | omega | (simp <;> omega)) _ | refine Below.drew ?_ | refine below_drewN ?_)))
        · by_cases e4 : z = 4
          · subst e4
            have pb : Bx w1 w.heap.size _ _ := ⟨p0, p1, gfp0, gfp1, fp0.1⟩
            have rb : Bx w1 (w.heap.size + 1) _ _ := ⟨r0, r1, gfr0, gfr1, fr0.1⟩
            go_wp2_with (at_make; refine wpList_make_ints rfl _ _ rfl n _ _ rfl rfl rfl rfl (by omega) ?_; intro w2 hrow2 hb2 hz2; have pb3 := pb.below hb2; have rb3 := rb.below hb2; have hrd2 := hrd.on hb2; have hsp2 := hsp.transS (Span.of_below hb2); clear p0 p1 r0 r1 fp0 fp1 fr0 fr1 gfp0 gfp1 gfr0 gfr1 pb rb hrow hrd hsp; obtain ⟨p0, p1, gfp0, gfp1, hpl⟩ := pb3; obtain ⟨r0, r1, gfr0, gfr1, hrl⟩ := rb3)
            have hrd := hrd2
            have hsp := hsp2
            clear hrd2 hsp2
            replace hrow2 := hrow2.mono (base' := B) (by omega)
            have hl3 := hrow2.len
            go_wp2
            refine bodyPost_ret (v := .agg #[.int .i64 s, .slice (some ⟨w1.heap.size, 0, none⟩) n n]) (by simp [results, Tryz.results84, go_sem, r0, r1, p0, p1]) rfl ⟨_, rfl, ⟨_, _, _, rfl, ?_, by rw [hl3]; omega⟩, ?_, ?_⟩
            · refine Row.mono (base := B) ?_ (by omega)
              (repeat (first | exact hrow2 | (refine Row.setBelow ?_ ?_ _; rotate_left; focus (first | (omega) | (simp; done) | (simp; omega))) | (refine Row.setOther ?_ ?_ _; rotate_left; focus (intro h_own; have h_own2 := own_eq h_own; first | (omega) | (simp at h_own2; omega))) | refine Row.below ?_ (below_alloc _ _)))
            · exact (hrd.below (B := R + 1) (by (repeat (first | exact Below.refl _ _ | assumption | refine Below.alloc ?_ (by first | omega | (simp <;> omega)) _ | refine Below.setCell ?_ (by first | omega | (simp <;> omega)) _ | refine Below.drew ?_ | refine below_drewN ?_))) (by omega)).mono (by omega)
            · exact hsp.on (by (repeat (first | exact Below.refl _ _ | assumption | refine Below.alloc ?_ (by first | omega | (simp <;> omega)) _ | refine Below.setCell ?_ (by first | omega | (simp <;> omega)) _ | refine Below.drew ?_ | refine below_drewN ?_)))
          · go_wp2
            refine bodyPost_ret (v := .agg #[.int .i64 s, .slice (some ⟨g, 0, none⟩) n c]) (by simp [results, Tryz.results84, go_sem, r0, r1, p0, p1]) rfl ⟨_, rfl, ⟨_, _, _, rfl, ?_, by rw [hlx]; omega⟩, ?_, ?_⟩
            · refine Row.mono (base := B) ?_ (by omega)
              (repeat (first | exact hrow | (refine Row.setBelow ?_ ?_ _; rotate_left; focus (first | (omega) | (simp; done) | (simp; omega))) | (refine Row.setOther ?_ ?_ _; rotate_left; focus (intro h_own; have h_own2 := own_eq h_own; first | (omega) | (simp at h_own2; omega))) | refine Row.below ?_ (below_alloc _ _)))
            · exact (hrd.below (B := R + 1) (by (repeat (first | exact Below.refl _ _ | assumption | refine Below.alloc ?_ (by first | omega | (simp <;> omega)) _ | refine Below.setCell ?_ (by first | omega | (simp <;> omega)) _ | refine Below.drew ?_ | refine below_drewN ?_))) (by omega)).mono (by omega)
            · exact hsp.on (by (repeat (first | exact Below.refl _ _ | assumption | refine Below.alloc ?_ (by first | omega | (simp <;> omega)) _ | refine Below.setCell ?_ (by first | omega | (simp <;> omega)) _ | refine Below.drew ?_ | refine below_drewN ?_)))
end Go.Proofs.YtefmlbahmakboaaGreatDoor
