/- The reference's draws for means: l6Normal, NormalMass. -/
import Derived.Test.YtnbjhmghobljaaaD6
import Derived.Test.YtnbjhmghobljaaaD3
set_option linter.unusedSimpArgs false
set_option linter.unusedVariables false
namespace Go.Proofs.Ytnbjhmghobljaaa
open Go.RowKit
set_option maxHeartbeats 1000000 in
theorem l6Normal_any (s : Int) (g n c : Nat) (xs : List Int) (w : World) (hx : IntsAt w (some ⟨g, 0, none⟩) n xs) (hn1 : 1 ≤ n) (hn2 : n ≤ 16) (hb : ∀ k, k < n → 0 ≤ nth xs k ∧ nth xs k ≤ 1000000) :
    Calls Try.prog 114 #[.int .i64 s, .slice (some ⟨g, 0, none⟩) n c] w fun e w' => RetM (mkMass s (xs.set 0 0)) w.heap.size e w' ∧ Below w.heap.size w w' := by
  obtain ⟨w1, hw1⟩ : ∃ w1, w.alloc (.cells #[.int .i64 0, .slice none 0 0] 25) = w1 := ⟨_, rfl⟩
  have hz : w1.heap.size = w.heap.size + 1 := by rw [← hw1]; simp
  have hlit : Row ((w.alloc (.cells #[.int .i64 0, .slice none 0 0] 25)).alloc (.cells #[] 3)) (w.heap.size + 1) (.slice (some ⟨w.heap.size + 1, 0, none⟩) 0 0) [] := by
    rw [hw1, ← hz]; exact World.ownsRow_lit w1 #[] 0 (Nat.le_refl _) (by unfold maxLen; omega) rfl
  have hx1 : IntsAt ((w.alloc (.cells #[.int .i64 0, .slice none 0 0] 25)).alloc (.cells #[] 3)) (some ⟨g, 0, none⟩) n xs := hx.below (by (repeat (first | exact Below.refl _ _ | assumption | refine Below.alloc ?_ (by first | omega | (simp <;> omega)) _ | refine Below.setCell ?_ (by first | omega | (simp <;> omega)) _ | refine Below.drew ?_ | refine below_drewN ?_)))
  have rb : Bx ((w.alloc (.cells #[.int .i64 0, .slice none 0 0] 25)).alloc (.cells #[] 3)) w.heap.size (.int .i64 0) (.slice none 0 0) := (Bx.mk2 rfl).below (below_alloc _ _)
  have hlx := hx.len
  have HB := hid hb
  clear hb hw1 hz w1 hx
  go_enter Try.func114, Try.ntmps114
  go_wp2_with (at_builtin; refine wpList_append_many rfl _ _ rfl (w.heap.size + 1) (.slice (some ⟨w.heap.size + 1, 0, none⟩) 0 0) [] 0 rfl (by rfl) hlit g n c xs (by rfl) hx1 (by omega) (by omega) (by simp) ?_; intro g2 c2 w2 hrow2 hgrow; simp only [Nat.zero_add, List.nil_append] at hrow2; have rb2 := rb.grown (g := w.heap.size + 1) hgrow (by omega); have r0 := rb2.c0; have r1 := rb2.c1; have hB2 := below_grownBy (B := w.heap.size) (show Below w.heap.size w ((w.alloc (.cells #[.int .i64 0, .slice none 0 0] 25)).alloc (.cells #[] 3)) by (repeat (first | exact Below.refl _ _ | assumption | refine Below.alloc ?_ (by first | omega | (simp <;> omega)) _ | refine Below.setCell ?_ (by first | omega | (simp <;> omega)) _ | refine Below.drew ?_ | refine below_drewN ?_))) (by simp; omega) hgrow (fun b e => by have := own_eq e; omega); obtain ⟨c0, d0, _⟩ := hrow2.cellAt (show 0 < n by omega); clear hgrow rb hlit hx1)
  obtain ⟨w3, hw3, hr3, hg3⟩ := store_gen hrow2 (show 0 < n by omega) 0
  rw [hw3]
  have hgb := hrow2.block g2 rfl
  have hB3 := belowG hB2 hB2.size hg3 (by omega)
  have rb3 := rb2.grown hg3 (by omega)
  have hz3 := rb3.lt
  obtain ⟨h10, h11, f20, f21, _⟩ := rb3
  clear hw3 hg3 hrow2 c0 d0 r0 r1 rb2 hB2
  obtain ⟨ao', n', c', e', hi⟩ := hr3.ints
  injection e' with e1 e2 e3
  subst e1 e2 e3
  go_wp2_with fail
  refine (l3Made_any s _ _ _ (xs.set 0 0) _ hi hn2 (fun k hk => by have := HB.out k hk; rw [nth_set]; split <;> omega)).mono ?_; rintro e w5 ⟨⟨v, rfl, hr5⟩, hb5⟩
  obtain ⟨a5, n5, c5, rfl, hi5⟩ := hr5.ints
  replace f20 := keepF hb5 h10 f20
  replace f21 := keepF hb5 h11 f21
  replace h10 := keep hb5 h10
  replace h11 := keep hb5 h11
  have hB5 := chain hB3 hb5
  have hz5 := hb5.size
  clear hb5
  go_wp2
  refine bodyPost_ret (v := .tuple #[.agg #[.int .i64 (mkMass s (xs.set 0 0)).size, .slice a5 n5 c5], .bool (mkMass s (xs.set 0 0)).ok]) (by simp [results, Try.results114, go_sem, h10, h11, f20, f21]) rfl ⟨?_, ?_⟩
  · exact ⟨_, rfl, (((hr5.mono (base' := w.heap.size + 1) (by omega)).setBelow (by simp) _).setBelow (by simp) _).mono (by omega)⟩
  · (repeat (first | exact Below.refl _ _ | assumption | refine Below.alloc ?_ (by first | omega | (simp <;> omega)) _ | refine Below.setCell ?_ (by first | omega | (simp <;> omega)) _ | refine Below.drew ?_ | refine below_drewN ?_))
set_option maxHeartbeats 1000000 in
theorem specNormalMass_any (s : Int) (g n c : Nat) (xs : List Int) (w : World) (hx : IntsAt w (some ⟨g, 0, none⟩) n xs) (hm : massOk s xs = true) :
    Calls Try.prog 73 #[.agg #[.int .i64 s, .slice (some ⟨g, 0, none⟩) n c]] w fun e w' => RetM (mkMass s (xs.set 0 0)) w.heap.size e w' ∧ Below w.heap.size w w' := by
  obtain ⟨hs, hl, h16, hb, _⟩ := massOk_facts hm
  have hN := nsets_le hs
  have hlx := hx.len
  have HB : Hid (∀ k, k < n → 0 ≤ nth xs k ∧ nth xs k ≤ 1000000) := fun k hk => hb k (by omega)
  clear hb
  go_enter Try.func73, Try.ntmps73
  go_wp2_with fail
  refine (MassValid_any _ _ _ _ xs _ (hx.below (by (repeat (first | exact Below.refl _ _ | assumption | refine Below.alloc ?_ (by first | omega | (simp <;> omega)) _ | refine Below.setCell ?_ (by first | omega | (simp <;> omega)) _ | refine Below.drew ?_ | refine below_drewN ?_))))).mono ?_; rw [hm]; rintro e w1 ⟨rfl, hb1⟩
  obtain ⟨h10, h11, f20, f21⟩ := boxG (w.heap.size + 1) hb1 (by simp)
  have p0 := keep hb1 (a := ⟨w.heap.size, 0, none⟩) (v := .int .i64 s) (by simp)
  have p1 := keep hb1 (a := ⟨w.heap.size, 1, none⟩) (v := .slice (some ⟨g, 0, none⟩) n c) (by simp)
  have hz1 : w.heap.size + 1 < w1.heap.size := by have := hb1.size; simp at this; omega
  have hB1 : Below w.heap.size w w1 := Below.trans (by (repeat (first | exact Below.refl _ _ | assumption | refine Below.alloc ?_ (by simp <;> omega) _ | refine Below.setCell ?_ (by simp <;> omega) _ | refine Below.drew ?_ | refine below_drewN ?_))) (hb1.mono (by simp <;> omega))
  clear hb1
  go_wp2_with fail
  refine (l6Normal_any s g n c xs _ (hx.below hB1) (by omega) (by omega) HB.out).mono ?_; rintro e w5 ⟨⟨v, rfl, hr5⟩, hb5⟩
  obtain ⟨a5, n5, c5, rfl, hi5⟩ := hr5.ints
  replace f20 := keepF hb5 h10 f20
  replace f21 := keepF hb5 h11 f21
  replace h10 := keep hb5 h10
  replace h11 := keep hb5 h11
  have hB5 := chain hB1 hb5
  have hz5 := hb5.size
  clear hb5
  go_wp2
  refine bodyPost_ret (v := .tuple #[.agg #[.int .i64 (mkMass s (xs.set 0 0)).size, .slice a5 n5 c5], .bool (mkMass s (xs.set 0 0)).ok]) (by simp [results, Try.results73, go_sem, h10, h11, f20, f21]) rfl ⟨?_, ?_⟩
  · exact ⟨_, rfl, (((hr5.mono (base' := w.heap.size + 1 + 1) (by omega)).setBelow (by simp) _).setBelow (by simp) _).mono (by omega)⟩
  · (repeat (first | exact Below.refl _ _ | assumption | refine Below.alloc ?_ (by first | omega | (simp <;> omega)) _ | refine Below.setCell ?_ (by first | omega | (simp <;> omega)) _ | refine Below.drew ?_ | refine below_drewN ?_))
end Go.Proofs.Ytnbjhmghobljaaa
