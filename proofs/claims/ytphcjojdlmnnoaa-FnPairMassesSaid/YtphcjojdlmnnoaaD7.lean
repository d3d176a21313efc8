/- The reference's draws of a whole law's arguments: rules. -/
import Derived.Test.YtphcjojdlmnnoaaD3
set_option linter.unusedSimpArgs false
set_option linter.unusedVariables false
namespace Go.Proofs.Ytphcjojdlmnnoaa
open Go.RowKit
theorem BytesIn.on {w w' : World} {R R' : Nat} {ao : Option Addr} {n : Nat} (h : BytesIn w R ao n) (hb : Below R w w') (hR : R ≤ R') : BytesIn w' R' ao n := by
  refine ⟨h.len, fun hn => ?_⟩
  obtain ⟨b, off, e, hbR, hc⟩ := h.cell hn
  refine ⟨b, off, e, by omega, fun k hk => ?_⟩
  obtain ⟨v, h0, h1, hv⟩ := hc k hk
  exact ⟨v, h0, h1, (cell_block (hb.block b hbR)).trans hv⟩
theorem l14OpenR_any (ao : Option Addr) (n c R : Nat) (w : World) (hR : w.heap.size = R) (hx : BytesIn w R ao n) (hnc : n ≤ c) :
    Calls Try.prog 40 #[.slice ao n c] w fun e w' => e = .returned (.pointer (some ⟨R, 0, none⟩)) ∧ Rd w' R 0 ∧ Below R w w' := by
  subst hR; exact l14Open_any ao n c w hx hnc
set_option maxRecDepth 100000 in
set_option maxHeartbeats 1000000 in
theorem DrawRuleMass_any (ao : Option Addr) (n c : Nat) (w : World) (hx : BytesIn w w.heap.size ao n) (hnc : n ≤ c) :
    Calls Try.prog 8 #[.slice ao n c] w fun e w' => (∃ x y nu de : Int, e = .returned (.tuple #[.int .i64 x, .int .i64 y, .agg #[.int .i64 nu, .int .i64 de]])) ∧ Below w.heap.size w w' := by
  obtain ⟨R, hRe⟩ : ∃ R, w.heap.size + 1 = R := ⟨_, rfl⟩
  have HX := hid hx
  clear hx
  go_enter Try.func8, Try.ntmps8
  go_wp2_with fail
  refine (l14OpenR_any ao n c R _ (by simp; exact hRe) (HX.out.on (below_alloc w _) (by omega)) hnc).mono ?_; rintro e w1 ⟨rfl, hrd, hb⟩
  have hz : R ≤ w1.heap.size := by have := hb.size; simp at this; omega
  have r0 := hb.cell (p := ⟨w.heap.size, 0, none⟩) (by simp; omega)
  have r1 := hb.cell (p := ⟨w.heap.size, 1, none⟩) (by simp; omega)
  have fr0 := hb.frozen (p := ⟨w.heap.size, 0, none⟩) (by simp; omega)
  have fr1 := hb.frozen (p := ⟨w.heap.size, 1, none⟩) (by simp; omega)
  simp at r0 r1 fr0 fr1
  have hB : Below w.heap.size w w1 := (below_alloc w _).trans (hb.mono (by omega))
  have hR1 := hrd.1
  clear hb
  go_wp2_with fail
  refine (num_any R _ _ 8 _ [0, 1, 0, 1, 0, 1, 2, -1] _ (hrd.on (by (repeat (first | exact Below.refl _ _ | assumption | refine Below.alloc ?_ (by first | omega | (simp <;> omega)) _ | refine Below.setCell ?_ (by first | omega | (simp <;> omega)) _ | refine Below.drew ?_ | refine below_drewN ?_)))) (by omega) (ints_lit w1 _ 3 [0, 1, 0, 1, 0, 1, 2, -1] w1.heap.size 8 rfl (by simp) rfl (by omega)) (by omega) (by omega) (by omega)).mono ?_; rintro e w2 ⟨_, rfl, ⟨i, hi, rfl⟩, hrd2, hs⟩
  generalize nth [0, 1, 0, 1, 0, 1, 2, -1] i = x
  have ht : Span R (R + 1) w1 w2 := Span.trans (Span.of_below (by (repeat (first | exact Below.refl _ _ | assumption | refine Below.alloc ?_ (by first | omega | (simp <;> omega)) _ | refine Below.setCell ?_ (by first | omega | (simp <;> omega)) _ | refine Below.drew ?_ | refine below_drewN ?_)))) hs
  have gr0 := (Span.keepF ht ⟨by omega, fr0⟩ (by omega)).2
  have gr1 := (Span.keepF ht ⟨by omega, fr1⟩ (by omega)).2
  replace r0 := Span.keep ht r0 (by omega)
  replace r1 := Span.keep ht r1 (by omega)
  replace hB := Span.below hB hB.size ht (by omega)
  have hz2 := ht.size
  clear hs ht hrd fr0 fr1
  go_wp2_with fail
  refine (num_any R _ _ 8 _ [0, 1, 0, 1, 0, 1, 2, -1] _ (hrd2.on (by (repeat (first | exact Below.refl _ _ | assumption | refine Below.alloc ?_ (by first | omega | (simp <;> omega)) _ | refine Below.setCell ?_ (by first | omega | (simp <;> omega)) _ | refine Below.drew ?_ | refine below_drewN ?_)))) (by omega) (ints_lit w2 _ 3 [0, 1, 0, 1, 0, 1, 2, -1] w2.heap.size 8 rfl (by simp) rfl (by omega)) (by omega) (by omega) (by omega)).mono ?_; rintro e w3 ⟨_, rfl, ⟨j, hj, rfl⟩, hrd3, hs⟩
  generalize nth [0, 1, 0, 1, 0, 1, 2, -1] j = y
  have ht : Span R (R + 1) w2 w3 := Span.trans (Span.of_below (by (repeat (first | exact Below.refl _ _ | assumption | refine Below.alloc ?_ (by first | omega | (simp <;> omega)) _ | refine Below.setCell ?_ (by first | omega | (simp <;> omega)) _ | refine Below.drew ?_ | refine below_drewN ?_)))) hs
  have fr0 := (Span.keepF ht ⟨by omega, gr0⟩ (by omega)).2
  have fr1 := (Span.keepF ht ⟨by omega, gr1⟩ (by omega)).2
  replace r0 := Span.keep ht r0 (by omega)
  replace r1 := Span.keep ht r1 (by omega)
  replace hB := Span.below hB hB.size ht (by omega)
  have hz3 := ht.size
  clear hs ht hrd2 gr0 gr1
  go_wp2_with fail
  refine (l3Part_any R _ _ hrd3 (by omega)).mono ?_; rintro e w4 ⟨_, rfl, ⟨nu, de, rfl⟩, hrd4, ht⟩
  have gr0 := (Span.keepF ht ⟨by omega, fr0⟩ (by omega)).2
  have gr1 := (Span.keepF ht ⟨by omega, fr1⟩ (by omega)).2
  replace r0 := Span.keep ht r0 (by omega)
  replace r1 := Span.keep ht r1 (by omega)
  replace hB := Span.below hB hB.size ht (by omega)
  have hz4 := ht.size
  clear ht hrd3 fr0 fr1
  go_wp2
  refine bodyPost_ret (v := .tuple #[.int .i64 x, .int .i64 y, .agg #[.int .i64 nu, .int .i64 de]]) (by simp [results, Try.results8, go_sem, r0, r1]) rfl ⟨⟨_, _, _, _, rfl⟩, ?_⟩
  (repeat (first | exact Below.refl _ _ | assumption | refine Below.alloc ?_ (by first | omega | (simp <;> omega)) _ | refine Below.setCell ?_ (by first | omega | (simp <;> omega)) _ | refine Below.drew ?_ | refine below_drewN ?_))
end Go.Proofs.Ytphcjojdlmnnoaa
