/- What the reference's drawing functions draw: some value, in new memory (printed by drawgen.py). -/
import Derived.Test.YtaplpgmkobokhaaD4
set_option linter.unusedSimpArgs false
set_option linter.unusedVariables false
namespace Go.Proofs.Ytaplpgmkobokhaa
open Go.RowKit
theorem some_size {i : Nat} (hi : i < [3, 2, 3, 1, 4, 3].length) : okSize (nth [3, 2, 3, 1, 4, 3] i) = true := by
  have h : i = 0 ∨ i = 1 ∨ i = 2 ∨ i = 3 ∨ i = 4 ∨ i = 5 := by simp at hi; omega
  rcases h with rfl | rfl | rfl | rfl | rfl | rfl <;> decide
set_option maxRecDepth 100000 in
set_option maxHeartbeats 1000000 in
theorem l3Some_any (R P : Nat) (w : World) (hr : Rd w R P) (hP : P ≤ 400000000) :
    Calls Try.prog 77 #[.pointer (some ⟨R, 0, none⟩)] w (Drew R (P + 41) w (DrawnAny w.heap.size)) := by
  have hR := hr.1
  have hrd := hr
  clear hr
  have hsp := Span.refl R (R + 1) w
  go_enter Try.func77, Try.ntmps77
  go_wp2_with fail
  refine (num_any R _ _ 6 _ [3, 2, 3, 1, 4, 3] _ (hrd.on (by (repeat (first | exact Below.refl _ _ | assumption | refine Below.alloc ?_ (by first | omega | (simp <;> omega)) _ | refine Below.setCell ?_ (by first | omega | (simp <;> omega)) _ | refine Below.drew ?_ | refine below_drewN ?_)))) (by omega) (ints_lit _ _ _ [3, 2, 3, 1, 4, 3] _ 6 (by simp) (by simp) rfl (by omega)) (by first | omega | (simp <;> omega)) (by omega) (by omega)).mono ?_; rintro e w1 ⟨_, rfl, ⟨i, hi, rfl⟩, hrdn, hs⟩
  clear hrd
  have hrd := hrdn
  clear hrdn
  have hY1 : w.heap.size + 2 ≤ w1.heap.size := by have := hs.size; simp at this; omega
  have r0 := Span.keep hs (b := w.heap.size) (o := 0) (v := .int .i64 0) (by simp) (by omega)
  have fr0 := Span.keepF hs (b := w.heap.size) (o := 0) ⟨by simp <;> omega, by simp⟩ (by omega)
  have r1 := Span.keep hs (b := w.heap.size) (o := 1) (v := .slice none 0 0) (by simp) (by omega)
  have fr1 := Span.keepF hs (b := w.heap.size) (o := 1) ⟨by simp <;> omega, by simp⟩ (by omega)
  have ht : Span R (R + 1) w w1 := Span.trans (Span.of_below (by (repeat (first | exact Below.refl _ _ | assumption | refine Below.alloc ?_ (by first | omega | (simp <;> omega)) _ | refine Below.setCell ?_ (by first | omega | (simp <;> omega)) _ | refine Below.drew ?_ | refine below_drewN ?_)))) hs
  replace hsp := hsp.trans ht
  have hZ1 := ht.size
  clear ht hs
  have gfr0 := fr0.2
  have gfr1 := fr1.2
  have hsz := some_size hi
  generalize nth [3, 2, 3, 1, 4, 3] i = s at *
  go_wp2_with fail
  refine (l3Draw_any R _ s _ hrd (by omega) hsz).mono ?_; rintro e w2 ⟨_, rfl, ⟨p, xs, rfl, hrm, hl, hok⟩, hrdn, hs⟩
  clear hrd
  have hrd := hrdn
  clear hrdn
  have ht : Span R (R + 1) w1 w2 := hs
  replace r0 := Span.keep ht r0 (by omega)
  replace r1 := Span.keep ht r1 (by omega)
  replace fr0 := Span.keepF ht fr0 (by omega)
  replace fr1 := Span.keepF ht fr1 (by omega)
  replace hsp := hsp.trans ht
  have hZ2 := ht.size
  clear ht hs
  replace gfr0 := fr0.2
  replace gfr1 := fr1.2
  obtain ⟨am, nm, cm, rfl, him⟩ := hrm.ints
  clear him
  have hvm : ∀ b, (Value.slice am nm cm).ownBlock = some b → w1.heap.size ≤ b := fun b e => (hrm.block b e).1
  go_wp2
  refine bodyPost_ret (v := .agg #[.int .i64 s, .slice am nm cm]) (by simp [results, Try.results77, go_sem, r0, r1]) rfl ⟨_, rfl, ⟨s, hsz, _, _, rfl, ?_, hl, hok⟩, ?_, ?_⟩
  · refine Row.mono (base := w1.heap.size) ?_ (by omega)
    (repeat (first | exact hrm | (refine Row.setBelow ?_ ?_ _; rotate_left; focus (first | (omega) | (simp; done) | (simp; omega))) | (refine Row.setOther ?_ ?_ _; rotate_left; focus (intro h_own; have h_own2 := own_eq h_own; first | (omega) | (simp at h_own2; omega))) | refine Row.below ?_ (below_alloc _ _)))
  · exact (hrd.below (B := R + 1) (by (repeat (first | exact Below.refl _ _ | assumption | refine Below.alloc ?_ (by first | omega | (simp <;> omega)) _ | refine Below.setCell ?_ (by first | omega | (simp <;> omega)) _ | refine Below.drew ?_ | refine below_drewN ?_))) (by omega)).mono (by omega)
  · exact hsp.on (by (repeat (first | exact Below.refl _ _ | assumption | refine Below.alloc ?_ (by first | omega | (simp <;> omega)) _ | refine Below.setCell ?_ (by first | omega | (simp <;> omega)) _ | refine Below.drew ?_ | refine below_drewN ?_)))
end Go.Proofs.Ytaplpgmkobokhaa
