/- Lists of lists, owned (cut out of D16). -/
import Derived.Test.YtefmlbahmakboaaGreatDoorD2
import Derived.Test.YtefmlbahmakboaaGreatDoorL3
import Derived.Test.YtefmlbahmakboaaGreatDoorW6
set_option linter.unusedSimpArgs false
set_option linter.unusedVariables false
namespace Go.Proofs.YtefmlbahmakboaaGreatDoor
open Go.RowKit
/-- v owns a list of lists, all from block base on; no inner list lies in the outer one's block -/
structure RowsO (w : World) (base : Nat) (v : Value) (xss : List (List Int)) : Prop where
  own : ∃ vals, w.ownsRow base 23 1 v xss.length vals ∧ vals.length = xss.length ∧ ∀ k u, vals[k]? = some u → Row w base u (nthL xss k) ∧ ∀ b, u.ownBlock = some b → v.ownBlock ≠ some b
theorem RowsO.block {w : World} {base : Nat} {v : Value} {xss : List (List Int)} (h : RowsO w base v xss) : ∀ k, v.ownBlock = some k → base ≤ k ∧ k < w.heap.size := by
  obtain ⟨vals, h1, _⟩ := h.own
  exact World.ownsRow.lt h1
theorem owns_below {w w' : World} {base size n : Nat} {e : TypeId} {v : Value} {vals : List Value} (h : w.ownsRow base e size v n vals) (hb : ∀ k, v.ownBlock = some k → w'.heap[k]? = w.heap[k]?) : w'.ownsRow base e size v n vals := by
  refine ⟨h.1, ?_⟩
  rcases h.2 with h2 | ⟨g, cap, cur, hv, hg, hh, r⟩
  · exact .inl h2
  · exact .inr ⟨g, cap, cur, hv, hg, by rw [hb g (by rw [hv]; rfl)]; exact hh, r⟩
theorem RowsO.below {w w' : World} {base : Nat} {v : Value} {xss : List (List Int)} (h : RowsO w base v xss) (hb : Below w.heap.size w w') : RowsO w' base v xss := by
  have hbl := h.block
  obtain ⟨vals, h1, h2, h3⟩ := h.own
  exact ⟨vals, owns_below h1 (fun k e => hb.block k (hbl k e).2), h2, fun k u hu => ⟨(h3 k u hu).1.below hb, (h3 k u hu).2⟩⟩
theorem RowsO.span {w w' : World} {base lo hi : Nat} {v : Value} {xss : List (List Int)} (h : RowsO w base v xss) (hs : Span lo hi w w') (hb : hi ≤ base) : RowsO w' base v xss := by
  have hbl := h.block
  obtain ⟨vals, h1, h2, h3⟩ := h.own
  exact ⟨vals, owns_below h1 (fun k e => hs.block k (hbl k e).2 (by have := (hbl k e).1; omega)), h2, fun k u hu => ⟨Span.row hs (h3 k u hu).1 (fun b e => by have := ((h3 k u hu).1.block b e).1; omega), (h3 k u hu).2⟩⟩
theorem RowsO.mono {w : World} {base base' : Nat} {v : Value} {xss : List (List Int)} (h : RowsO w base v xss) (hb : base' ≤ base) : RowsO w base' v xss := by
  obtain ⟨vals, h1, h2, h3⟩ := h.own
  refine ⟨vals, ⟨h1.1, ?_⟩, h2, fun k u hu => ⟨(h3 k u hu).1.mono hb, (h3 k u hu).2⟩⟩
  rcases h1.2 with h4 | ⟨g, cap, cur, hv, hg, r⟩
  · exact .inl h4
  · exact .inr ⟨g, cap, cur, hv, Nat.le_trans hb hg, r⟩
theorem RowsO.put2 {w : World} {base b : Nat} {v x y : Value} {xss : List (List Int)} (h : RowsO w base v xss) (hb : b < base) : RowsO ((w.setCell ⟨b, 0, none⟩ x).setCell ⟨b, 1, none⟩ y) base v xss := by
  have hbl := h.block
  obtain ⟨vals, h1, h2, h3⟩ := h.own
  refine ⟨vals, owns_below h1 (fun k e => World.setCell2_other _ _ _ _ _ (by have := (hbl k e).1; omega)), h2, fun k u hu => ⟨(h3 k u hu).1.put2 (fun c e => by have := ((h3 k u hu).1.block c e).1; omega), (h3 k u hu).2⟩⟩
theorem RowsO.lit (w : World) : RowsO (w.alloc (.cells #[] 23)) w.heap.size (.slice (some ⟨w.heap.size, 0, none⟩) 0 0) [] :=
  ⟨[], World.ownsRow_lit w #[] 0 (Nat.le_refl _) (by unfold maxLen; omega) rfl, rfl, fun k u hu => by simp at hu⟩
theorem RowsO.form {w : World} {base : Nat} {v : Value} {xss : List (List Int)} (h : RowsO w base v xss) : ∃ ao n c, v = .slice ao n c ∧ n = xss.length ∧ RowsAt w ao n xss := by
  obtain ⟨vals, h1, h2, h3⟩ := h.own
  have hsz : xss.length ≤ maxLen := by
    rcases h1.2 with ⟨_, h0⟩ | ⟨g, cap, cur, hv, hg, hh, hn, hc, _⟩ <;> omega
  rcases h1.2 with ⟨rfl, h0⟩ | ⟨g, cap, cur, rfl, hg, hh, hn, hc, hs, ht⟩
  · exact ⟨none, 0, 0, rfl, h0.symm, h0, by omega, fun h => by omega⟩
  · refine ⟨_, _, _, rfl, rfl, rfl, by unfold maxLen at hsz; omega, fun _ => ⟨g, 0, rfl, lt_of_block hh, fun k hk => ?_⟩⟩
    have hk2 : k < vals.length := by omega
    have hv2 : vals[k]? = some (vals[k]) := List.getElem?_eq_getElem hk2
    have e := World.ownsRow.cells h1 (g := g) rfl k _ hv2
    obtain ⟨a', n', c', e2, hi⟩ := (h3 k _ hv2).1.ints
    have ha : (⟨g, 0, none⟩ : Addr).add k = ⟨g, 0 + k, none⟩ := by unfold Addr.add; split <;> simp_all
    rw [ha] at e
    exact ⟨a', n', c', by rw [e, e2], hi⟩
/-- the first list, as a value -/
theorem RowsO.first {w : World} {base g n c : Nat} {xss : List (List Int)} (h : RowsO w base (.slice (some ⟨g, 0, none⟩) n c) xss) (h0 : 0 < xss.length) : ∃ u, w.cell? ⟨g, 0, none⟩ = some u ∧ Row w base u (nthL xss 0) ∧ ∀ b, u.ownBlock = some b → b ≠ g := by
  obtain ⟨vals, h1, h2, h3⟩ := h.own
  have hk2 : 0 < vals.length := by omega
  have hv2 : vals[0]? = some (vals[0]) := List.getElem?_eq_getElem hk2
  have e := World.ownsRow.cells h1 (g := g) rfl 0 _ hv2
  exact ⟨_, e, (h3 0 _ hv2).1, fun b hb hg => (h3 0 _ hv2).2 b hb (by rw [hg]; rfl)⟩
/-- one list appended -/
theorem wpList_append_row {w : World} {ops : Array Oper} {rest : List Oper} {o : Oper} {a : Act} {Q : Exit → Act → World → Prop} (hgd : o.guard = none) (s x : Operand)
    (ho : o.op = .call { callee := .builtin .append, args := #[s, x], argTypes := #[42, 42] })
    (base : Nat) (v : Value) (xss : List (List Int)) (n : Nat) (hl : xss.length = n) (hs : a.eval s = v) (hown : RowsO w base v xss)
    (ad : Addr) (c : Nat) (u : Value) (ys : List Int) (hx : a.eval x = .slice (some ad) 1 c) (hnew : w.cell? ad = some u) (hu : Row w base u ys) (hub : ∀ b, u.ownBlock = some b → v.ownBlock ≠ some b)
    (hn : n < 1000000) (hbase : base ≤ w.heap.size)
    (h : ∀ g cap w', RowsO w' base (.slice (some ⟨g, 0, none⟩) (n + 1) cap) (xss ++ [ys]) → w.grownBy w' v.ownBlock → base ≤ g → wpList Tryz.prog ops Q rest (a.put o.dst (.slice (some ⟨g, 0, none⟩) (n + 1) cap)) w') :
    wpList Tryz.prog ops Q (o :: rest) a w := by
  obtain ⟨i0, hi, hz0, hz1, hz2⟩ := info_parts info_ints
  subst hl
  have hbl := hown.block
  obtain ⟨vals, h1, h2, h3⟩ := hown.own
  have hone : u.oneCell' = true := by obtain ⟨a', n', c', e, _⟩ := hu.ints; subst e; rfl
  refine wpList_plain hgd fun _ hK => wp_append_lies w s x 42 ho base 23 i0 (.slice none 0 0) 1 24 Tryz.underlying42 hi hz0 hz1 hz2 rfl (by decide) v xss.length vals hs h1 ad 1 c [u] hx rfl ?_ ?_ (by decide) (by unfold maxLen; omega) (by omega) hbase _ rfl fun g cap w' k1 k2 k3 k4 => hK _ _ (h g cap w' ?_ k2 (by rcases k3 with e | e; exact (hbl g e).1; omega))
  · intro j u' hj
    match j, hj with
    | 0, hj => simp at hj; subst hj; simpa [Addr.add] using hnew
  · intro u' hu'; simp at hu'; subst hu'; exact hone
  · have key : ∀ z zs, Row w base z zs → (∀ b, z.ownBlock = some b → v.ownBlock ≠ some b) → Row w' base z zs ∧ ∀ b, z.ownBlock = some b → (Value.slice (some ⟨g, 0, none⟩) (xss.length + 1) cap).ownBlock ≠ some b := fun z zs hz hzb => by
      refine ⟨hz.grown k2 ?_, fun b hb e => ?_⟩
      · cases hzo : z.ownBlock with
        | none => exact .inl rfl
        | some b => exact .inr (fun e => hzb b hzo e.symm)
      · have e1 : g = b := by have e' : some g = some b := e; injection e'
        subst e1
        rcases k3 with e2 | e2
        · exact hzb g hb e2
        · have := (hz.block g hb).2; omega
    refine ⟨vals ++ [u], by rw [List.length_append]; exact k1, by rw [List.length_append, List.length_append, h2]; rfl, fun k z hz => ?_⟩
    by_cases hk : k < vals.length
    · rw [List.getElem?_append_left hk] at hz
      obtain ⟨q1, q2⟩ := h3 k z hz
      have : nthL (xss ++ [ys]) k = nthL xss k := by unfold nthL; rw [List.getD_eq_getElem?_getD, List.getD_eq_getElem?_getD, List.getElem?_append_left (by omega)]
      rw [this]
      exact key z _ q1 q2
    · have hk2 : k = vals.length := by
        have := (List.getElem?_eq_some_iff.1 hz).1
        rw [List.length_append] at this; simp at this; omega
      subst hk2
      rw [List.getElem?_append_right (Nat.le_refl _)] at hz
      simp at hz
      subst hz
      have : nthL (xss ++ [ys]) vals.length = ys := by unfold nthL; rw [List.getD_eq_getElem?_getD, h2, List.getElem?_append_right (Nat.le_refl _)]; simp
      rw [this]
      exact key u _ hu hub
theorem RowsO.form2 {w : World} {base : Nat} {v : Value} {xss : List (List Int)} (h : RowsO w base v xss) (h0 : 0 < xss.length) : ∃ g c, v = .slice (some ⟨g, 0, none⟩) xss.length c ∧ base ≤ g ∧ g < w.heap.size := by
  obtain ⟨vals, h1, h2, h3⟩ := h.own
  rcases h1.2 with ⟨rfl, h4⟩ | ⟨g, cap, cur, rfl, hg, hh, hn, hc, hs, ht⟩
  · omega
  · exact ⟨g, cap, rfl, hg, lt_of_block hh⟩
end Go.Proofs.YtefmlbahmakboaaGreatDoor
