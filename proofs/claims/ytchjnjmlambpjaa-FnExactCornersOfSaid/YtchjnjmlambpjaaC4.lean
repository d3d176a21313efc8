/- Lists of masses, owned. -/
import Derived.Test.YtchjnjmlambpjaaC0
import Derived.Test.YtchjnjmlambpjaaDR
set_option linter.unusedSimpArgs false
set_option linter.unusedVariables false
namespace Go.Proofs.Ytchjnjmlambpjaa
open Go.RowKit
theorem Span.grown2 {lo hi : Nat} {w a b : World} {row : Option Nat} (h : Span lo hi w a) (hg : a.grownBy b row) (hr : ∀ k, row = some k → (lo ≤ k ∧ k < hi) ∨ w.heap.size ≤ k) : Span lo hi w b :=
  ⟨hg.os.trans h.os, hg.tape.trans h.tape, hg.output.trans h.output, Nat.le_trans h.size hg.size, fun k hk hc => (hg.block k (Nat.lt_of_lt_of_le hk h.size) (fun e => by have := hr k e.symm; omega)).trans (h.block k hk hc)⟩
theorem info_mass : (Try.prog.info? 28).map (fun i => (i.zero, i.size, i.bytes)) = some (some (.agg #[.int .i64 0, .slice none 0 0]), 2, 32) := by kernel_rfl
theorem add_at (g j : Nat) : (⟨g, 0, none⟩ : Addr).add j = ⟨g, j, none⟩ := by unfold Addr.add; split <;> simp_all
/-- v owns a list of n masses (sizes t, parts p), all from block base on; no two parts share a block, none lies in the list's block -/
structure MassesO (w : World) (base : Nat) (v : Value) (n : Nat) (t : Nat → Int) (p : Nat → List Int) : Prop where
  own : ∃ (vals : List Value) (u : Nat → Value), w.ownsRow base 28 2 v n vals ∧ (∀ k, k < n → vals[k * 2]? = some (.int .i64 (t k)) ∧ vals[k * 2 + 1]? = some (u k) ∧ Row w base (u k) (p k) ∧ ∀ b, (u k).ownBlock = some b → v.ownBlock ≠ some b) ∧ ∀ i j, i < j → j < n → ∀ b, (u i).ownBlock = some b → (u j).ownBlock ≠ some b
/-- a slice that reads as a list of masses -/
structure MassesAt (w : World) (ao : Option Addr) (n : Nat) (t : Nat → Int) (p : Nat → List Int) : Prop where
  cap : n ≤ 9223372036854775807
  cell : 0 < n → ∃ b, ao = some ⟨b, 0, none⟩ ∧ b < w.heap.size ∧ ∀ k, k < n → w.cell? ⟨b, k * 2, none⟩ = some (.int .i64 (t k)) ∧ ∃ a' n' c', w.cell? ⟨b, k * 2 + 1, none⟩ = some (.slice a' n' c') ∧ IntsAt w a' n' (p k)
theorem MassesAt.below {w w' : World} {ao n t p} (h : MassesAt w ao n t p) (hb : Below w.heap.size w w') : MassesAt w' ao n t p := by
  refine ⟨h.cap, fun hn => ?_⟩
  obtain ⟨b, rfl, hbs, hc⟩ := h.cell hn
  refine ⟨b, rfl, Nat.lt_of_lt_of_le hbs hb.size, fun k hk => ?_⟩
  obtain ⟨h0, a', n', c', h1, h2⟩ := hc k hk
  exact ⟨(hb.cell (p := ⟨b, k * 2, none⟩) hbs).trans h0, a', n', c', (hb.cell (p := ⟨b, k * 2 + 1, none⟩) hbs).trans h1, h2.below hb⟩
theorem MassesAt.at {w w' : World} {ao n t p} (h : MassesAt w ao n t p) (hb : Below w.heap.size w w') {k : Nat} (hk : k < n) :
    ∃ b a' n' c', ao = some ⟨b, 0, none⟩ ∧ b < w.heap.size ∧ b < w'.heap.size ∧ w'.cell? ⟨b, k * 2, none⟩ = some (.int .i64 (t k)) ∧ w'.cell? ⟨b, k * 2 + 1, none⟩ = some (.slice a' n' c') ∧ IntsAt w' a' n' (p k) := by
  obtain ⟨b, rfl, hbs, hc⟩ := h.cell (by omega)
  obtain ⟨h0, a', n', c', h1, h2⟩ := hc k hk
  exact ⟨b, a', n', c', rfl, hbs, Nat.lt_of_lt_of_le hbs hb.size, (hb.cell (p := ⟨b, k * 2, none⟩) hbs).trans h0, (hb.cell (p := ⟨b, k * 2 + 1, none⟩) hbs).trans h1, h2.below hb⟩
theorem MassesO.block {w : World} {base n : Nat} {v : Value} {t p} (h : MassesO w base v n t p) : ∀ k, v.ownBlock = some k → base ≤ k ∧ k < w.heap.size := by
  obtain ⟨vals, u, h1, _⟩ := h.own
  exact World.ownsRow.lt h1
theorem MassesO.below {w w' : World} {base n : Nat} {v : Value} {t p} (h : MassesO w base v n t p) (hb : Below w.heap.size w w') : MassesO w' base v n t p := by
  have hbl := h.block
  obtain ⟨vals, u, h1, h3, h4⟩ := h.own
  exact ⟨vals, u, owns_below h1 (fun k e => hb.block k (hbl k e).2), fun k hk => by obtain ⟨e0, e1, e2, e3⟩ := h3 k hk; exact ⟨e0, e1, e2.below hb, e3⟩, h4⟩
theorem MassesO.span {w w' : World} {base lo hi n : Nat} {v : Value} {t p} (h : MassesO w base v n t p) (hs : Span lo hi w w') (hb : hi ≤ base) : MassesO w' base v n t p := by
  have hbl := h.block
  obtain ⟨vals, u, h1, h3, h4⟩ := h.own
  exact ⟨vals, u, owns_below h1 (fun k e => hs.block k (hbl k e).2 (by have := (hbl k e).1; omega)), fun k hk => by obtain ⟨e0, e1, e2, e3⟩ := h3 k hk; exact ⟨e0, e1, Span.row hs e2 (fun b e => by have := (e2.block b e).1; omega), e3⟩, h4⟩
/-- an old block grows -/
theorem MassesO.grown {w w' : World} {base n : Nat} {v : Value} {t p} {row : Option Nat} (h : MassesO w base v n t p) (hg : w.grownBy w' row) (hne : ∀ b, row = some b → b < base) : MassesO w' base v n t p := by
  have hbl := h.block
  obtain ⟨vals, u, h1, h3, h4⟩ := h.own
  refine ⟨vals, u, owns_below h1 (fun k e => hg.block k (hbl k e).2 (fun e2 => by have := hne k e2.symm; have := (hbl k e).1; omega)), fun k hk => ?_, h4⟩
  obtain ⟨e0, e1, e2, e3⟩ := h3 k hk
  refine ⟨e0, e1, e2.grown hg ?_, e3⟩
  cases hz : (u k).ownBlock with
  | none => exact .inl rfl
  | some b => exact .inr (fun e => by have := hne b e.symm; have := (e2.block b hz).1; omega)
theorem MassesO.mono {w : World} {base base' n : Nat} {v : Value} {t p} (h : MassesO w base v n t p) (hb : base' ≤ base) : MassesO w base' v n t p := by
  obtain ⟨vals, u, h1, h3, h4⟩ := h.own
  exact ⟨vals, u, ⟨h1.1, h1.2.imp id fun ⟨g, cap, cur, q1, q2, q3⟩ => ⟨g, cap, cur, q1, Nat.le_trans hb q2, q3⟩⟩, fun k hk => by obtain ⟨e0, e1, e2, e3⟩ := h3 k hk; exact ⟨e0, e1, e2.mono hb, e3⟩, h4⟩
theorem MassesO.congr {w : World} {base n : Nat} {v : Value} {t p t' p'} (h : MassesO w base v n t p) (ht : ∀ k, k < n → t' k = t k) (hp : ∀ k, k < n → p' k = p k) : MassesO w base v n t' p' := by
  obtain ⟨vals, u, h1, h3, h4⟩ := h.own
  exact ⟨vals, u, h1, fun k hk => by rw [ht k hk, hp k hk]; exact h3 k hk, h4⟩
theorem MassesO.nil (w : World) (base : Nat) (t p) : MassesO w base (.slice none 0 0) 0 t p := ⟨[], fun _ => undef, ⟨rfl, .inl ⟨rfl, rfl⟩⟩, fun k hk => by omega, fun i j _ hj => by omega⟩
theorem MassesO.lit (w : World) (t p) : MassesO (w.alloc (.cells #[] 28)) w.heap.size (.slice (some ⟨w.heap.size, 0, none⟩) 0 0) 0 t p :=
  ⟨[], fun _ => undef, World.ownsRow_lit w #[] 0 (Nat.le_refl _) (by unfold maxLen; omega) rfl, fun k hk => by omega, fun i j _ hj => by omega⟩
theorem MassesO.form {w : World} {base n : Nat} {v : Value} {t p} (h : MassesO w base v n t p) : ∃ ao c, v = .slice ao n c ∧ MassesAt w ao n t p := by
  obtain ⟨vals, u, h1, h3, _⟩ := h.own
  have hsz : n ≤ maxLen := by
    rcases h1.2 with ⟨_, h0⟩ | ⟨g, cap, cur, hv, hg, hh, hn, hc, _⟩ <;> omega
  rcases h1.2 with ⟨rfl, h0⟩ | ⟨g, cap, cur, rfl, hg, hh, hn, hc, hs, ht⟩
  · exact ⟨none, 0, by rw [h0], by unfold maxLen at hsz; omega, fun h => by omega⟩
  · refine ⟨_, _, rfl, by unfold maxLen at hsz; omega, fun _ => ⟨g, rfl, lt_of_block hh, fun k hk => ?_⟩⟩
    obtain ⟨e0, e1, hr, _⟩ := h3 k hk
    have c0 := World.ownsRow.cells h1 (g := g) rfl (k * 2) _ e0
    have c1 := World.ownsRow.cells h1 (g := g) rfl (k * 2 + 1) _ e1
    obtain ⟨a', n', c', e2, hi⟩ := hr.ints
    rw [add_at] at c0 c1
    exact ⟨c0, a', n', c', by rw [c1, e2], hi⟩
theorem MassesO.form2 {w : World} {base n : Nat} {v : Value} {t p} (h : MassesO w base v n t p) (h0 : 0 < n) : ∃ g c, v = .slice (some ⟨g, 0, none⟩) n c ∧ base ≤ g ∧ g < w.heap.size := by
  obtain ⟨vals, u, h1, _⟩ := h.own
  rcases h1.2 with ⟨rfl, h4⟩ | ⟨g, cap, cur, rfl, hg, hh, hn, hc, hs, ht⟩
  · omega
  · exact ⟨g, cap, rfl, hg, lt_of_block hh⟩
/-- one mass appended, whose parts are newer than the world w0 -/
theorem wpList_append_mass {w : World} {ops : Array Oper} {rest : List Oper} {o : Oper} {a : Act} {Q : Exit → Act → World → Prop} (hgd : o.guard = none) (sv x : Operand)
    (ho : o.op = .call { callee := .builtin .append, args := #[sv, x], argTypes := #[26, 26] })
    (w0 : World) (base : Nat) (v : Value) (s : Int) (pss : List (List Int)) (n : Nat) (hl : pss.length = n) (hs : a.eval sv = v) (h0 : MassesO w0 base v n (fun _ => s) (nthL pss)) (hb0 : Below w0.heap.size w0 w)
    (A c : Nat) (z : Value) (ys : List Int) (hx : a.eval x = .slice (some ⟨A, 0, none⟩) 1 c) (hn0 : w.cell? ⟨A, 0, none⟩ = some (.int .i64 s)) (hn1 : w.cell? ⟨A, 1, none⟩ = some z) (hu : Row w w0.heap.size z ys)
    (hn : n < 1000000) (hbase : base ≤ w0.heap.size)
    (h : ∀ g cap w', MassesO w' base (.slice (some ⟨g, 0, none⟩) (n + 1) cap) (n + 1) (fun _ => s) (nthL (pss ++ [ys])) → w.grownBy w' v.ownBlock → base ≤ g → (v.ownBlock = some g ∨ w.heap.size ≤ g) → wpList Try.prog ops Q rest (a.put o.dst (.slice (some ⟨g, 0, none⟩) (n + 1) cap)) w') :
    wpList Try.prog ops Q (o :: rest) a w := by
  obtain ⟨i0, hi, hz0, hz1, hz2⟩ := info_parts info_mass
  subst hl
  have hbl := h0.block
  have hown := h0.below hb0
  have hbz := hb0.size
  obtain ⟨vals, u, k1, k3, k4⟩ := h0.own
  have h1 : w.ownsRow base 28 2 v pss.length vals := owns_below k1 (fun k e => hb0.block k (hbl k e).2)
  have h3 : ∀ k, k < pss.length → vals[k * 2]? = some (.int .i64 s) ∧ vals[k * 2 + 1]? = some (u k) ∧ Row w base (u k) (nthL pss k) ∧ (∀ b, (u k).ownBlock = some b → v.ownBlock ≠ some b) ∧ ∀ b, (u k).ownBlock = some b → b < w0.heap.size := fun k hk => by
    obtain ⟨e0, e1, e2, e3⟩ := k3 k hk
    exact ⟨e0, e1, e2.below hb0, e3, fun b e => (e2.block b e).2⟩
  have hub : ∀ b, z.ownBlock = some b → v.ownBlock ≠ some b := fun b e e2 => by have := (hu.block b e).1; have := (hbl b e2).2; omega
  have hone : z.oneCell' = true := by obtain ⟨a', n', c', e, _⟩ := hu.ints; subst e; rfl
  refine wpList_plain hgd fun _ hK => wp_append_lies w sv x 26 ho base 28 i0 (.agg #[.int .i64 0, .slice none 0 0]) 2 32 Try.underlying26 hi hz0 hz1 hz2 rfl (by decide) v pss.length vals hs h1 ⟨A, 0, none⟩ 1 c [.int .i64 s, z] hx rfl ?_ ?_ (by decide) (by unfold maxLen; omega) (by omega) (by omega) _ rfl fun g cap w' q1 q2 q3 q4 => hK _ _ (h g cap w' ?_ q2 (by rcases q3 with e | e; exact (hbl g e).1; omega) (by rcases q3 with e | e; exact .inl e; exact .inr (by omega)))
  · intro j u' hj
    match j, hj with
    | 0, hj => simp at hj; subst hj; rw [add_at]; exact hn0
    | 1, hj => simp at hj; subst hj; rw [add_at]; exact hn1
  · intro u' hu'; simp at hu'; rcases hu' with rfl | rfl; rfl; exact hone
  · have key : ∀ y zs, Row w base y zs → (∀ b, y.ownBlock = some b → v.ownBlock ≠ some b) → Row w' base y zs ∧ ∀ b, y.ownBlock = some b → (Value.slice (some ⟨g, 0, none⟩) (pss.length + 1) cap).ownBlock ≠ some b := fun y zs hy hyb => by
      refine ⟨hy.grown q2 ?_, fun b hb e => ?_⟩
      · cases hzo : y.ownBlock with
        | none => exact .inl rfl
        | some b => exact .inr (fun e => hyb b hzo e.symm)
      · have e1 : g = b := by have e' : some g = some b := e; injection e'
        subst e1
        rcases q3 with e2 | e2
        · exact hyb g hb e2
        · have := (hy.block g hb).2; omega
    have hvl : vals.length = pss.length * 2 := h1.1
    refine ⟨vals ++ [.int .i64 s, z], fun k => if k < pss.length then u k else z, q1, fun k hk => ?_, fun i j hij hj b => ?_⟩
    · by_cases hk2 : k < pss.length
      · obtain ⟨e0, e1, e2, e3, _⟩ := h3 k hk2
        rw [List.getElem?_append_left (by omega), List.getElem?_append_left (by omega), nthL_app_lt _ _ hk2]
        simp only [if_pos hk2]
        exact ⟨e0, e1, key _ _ e2 e3⟩
      · obtain rfl : k = pss.length := by omega
        rw [List.getElem?_append_right (by omega), List.getElem?_append_right (by omega), nthL_app_eq, hvl]
        have e1 : pss.length * 2 + 1 - pss.length * 2 = 1 := by omega
        rw [Nat.sub_self, e1]
        simp only [if_neg hk2]
        exact ⟨rfl, rfl, key z _ (hu.mono hbase) hub⟩
    · simp only [if_pos (show i < pss.length by omega)]
      by_cases hj2 : j < pss.length
      · simp only [if_pos hj2]; exact k4 i j hij hj2 b
      · simp only [if_neg hj2]
        intro e1 e2
        have := (h3 i (by omega)).2.2.2.2 b e1
        have := (hu.block b e2).1
        omega
end Go.Proofs.Ytchjnjmlambpjaa
