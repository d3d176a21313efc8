/- What the reference's drawing functions draw: some value, in new memory (printed by drawgen.py). -/
import Derived.Test.YtaplpgmkobokhaaD18
import Derived.Test.YtaplpgmkobokhaaD3
set_option linter.unusedSimpArgs false
set_option linter.unusedVariables false
namespace Go.Proofs.Ytaplpgmkobokhaa
open Go.RowKit
set_option maxRecDepth 100000 in
set_option maxHeartbeats 2000000 in
theorem DrawBetweenAct_any (ao : Option Addr) (n c : Nat) (w : World) (hx : BytesIn w w.heap.size ao n) (hnc : n ≤ c) :
    Calls Try.prog 29 #[.slice ao n c] w fun e w' => (∃ s p xs q xss nu de, e = .returned (.tuple #[.agg #[.int .i64 s, p], q, .agg #[.int .i64 nu, .int .i64 de]]) ∧ Row w' w.heap.size p xs ∧ xs.length ≤ 17 ∧ RowsO w' w.heap.size q xss ∧ xss.length ≤ 9 ∧ Short xss) ∧ Below w.heap.size w w' := by
  obtain ⟨R, hRe⟩ : ∃ R, w.heap.size + 1 + 1 = R := ⟨_, rfl⟩
  have HX := hid hx
  clear hx
  go_enter Try.func29, Try.ntmps29
  go_wp2_with fail
  refine (l14OpenR_any ao n c R _ (by simp; exact hRe) (HX.out.on (by (repeat (first | exact Below.refl _ _ | assumption | refine Below.alloc ?_ (by first | omega | (simp <;> omega)) _ | refine Below.setCell ?_ (by first | omega | (simp <;> omega)) _ | refine Below.drew ?_ | refine below_drewN ?_))) (by omega)) hnc).mono ?_; rintro e w1 ⟨rfl, hrd, hb⟩
  have hz : R ≤ w1.heap.size := by have := hb.size; simp at this; omega
  have r0 := hb.cell (p := ⟨w.heap.size, 0, none⟩) (by simp; omega)
  have r1 := hb.cell (p := ⟨w.heap.size, 1, none⟩) (by simp; omega)
  have fr0 := hb.frozen (p := ⟨w.heap.size, 0, none⟩) (by simp; omega)
  have fr1 := hb.frozen (p := ⟨w.heap.size, 1, none⟩) (by simp; omega)
  have q0 := hb.cell (p := ⟨w.heap.size + 1, 0, none⟩) (by simp; omega)
  have q1 := hb.cell (p := ⟨w.heap.size + 1, 1, none⟩) (by simp; omega)
  have fq0 := hb.frozen (p := ⟨w.heap.size + 1, 0, none⟩) (by simp; omega)
  have fq1 := hb.frozen (p := ⟨w.heap.size + 1, 1, none⟩) (by simp; omega)
  simp at r0 r1 fr0 fr1 q0 q1 fq0 fq1
  have hB : Below w.heap.size w w1 := Below.trans (by (repeat (first | exact Below.refl _ _ | assumption | refine Below.alloc ?_ (by first | omega | (simp <;> omega)) _ | refine Below.setCell ?_ (by first | omega | (simp <;> omega)) _ | refine Below.drew ?_ | refine below_drewN ?_))) (hb.mono (by omega))
  have hR1 := hrd.1
  have rb : Bx w1 w.heap.size (.int .i64 0) (.slice none 0 0) := ⟨r0, r1, fr0, fr1, by omega⟩
  have qb : Bx w1 (w.heap.size + 1) (.int .i64 0) (.int .i64 0) := ⟨q0, q1, fq0, fq1, by omega⟩
  have hRl : w.heap.size + 1 < R := by omega
  clear hb r0 r1 fr0 fr1 q0 q1 fq0 fq1 hRe HX
  go_wp2_with fail
  refine (l12Case_any R _ _ hrd (by omega)).mono ?_; rintro e w2 ⟨_, rfl, ⟨s, p, xs, q, xss, rfl, hr, hl, hr2, hl2, hsh⟩, hrd2, ht⟩
  obtain ⟨am, nm, cm, rfl, him⟩ := hr.ints
  obtain ⟨aq, nq, cq, rfl, hnq, hiq⟩ := hr2.form
  subst hnq
  clear him hiq
  replace rb := rb.span ht (by omega)
  replace qb := qb.span ht (by omega)
  replace hB := Span.below hB hB.size ht (by omega)
  have hz2 := ht.size
  have hvm : ∀ b, (Value.slice am nm cm).ownBlock = some b → w1.heap.size ≤ b := fun b e => (hr.block b e).1
  clear ht hrd
  go_wp2
  obtain ⟨w3, hw3⟩ : ∃ W, w2.alloc (.cells #[.int .i64 s, .slice am nm cm] 25) = W := ⟨_, rfl⟩
  rw [hw3]
  have hd : Below w2.heap.size w2 w3 := by rw [← hw3]; (repeat (first | exact Below.refl _ _ | assumption | refine Below.alloc ?_ (by first | omega | (simp <;> omega)) _ | refine Below.setCell ?_ (by first | omega | (simp <;> omega)) _ | refine Below.drew ?_ | refine below_drewN ?_))
  have m0 : w3.cell? ⟨w2.heap.size, 0, none⟩ = some (.int .i64 s) := by rw [← hw3]; simp
  have m1 : w3.cell? ⟨w2.heap.size, 1, none⟩ = some (.slice am nm cm) := by rw [← hw3]; simp
  have hN : w2.heap.size + 1 = w3.heap.size := by rw [← hw3]; simp
  have hrd := hrd2.on hd
  replace rb := rb.below hd
  replace qb := qb.below hd
  replace hr := hr.below hd
  replace hr2 := hr2.below hd
  replace hB := hB.trans (hd.mono (by omega))
  clear hd hw3 hrd2
  have hmx : w2.heap.size < w3.heap.size := by omega
  have hS3 : w3.cell? ⟨w2.heap.size, 0, none⟩ = some (.int .i64 s) ∧ w3.cell? ⟨w2.heap.size, 1, none⟩ = some (.slice am nm cm) ∧ w3.heap.size ≤ w3.heap.size := ⟨m0, m1, Nat.le_refl _⟩
  obtain ⟨r0, r1, fr0, fr1, hrl⟩ := rb
  obtain ⟨q0, q1, fq0, fq1, hql⟩ := qb
  go_region_held3 (fun w' => w'.cell? ⟨w2.heap.size, 0, none⟩ = some (.int .i64 s) ∧ w'.cell? ⟨w2.heap.size, 1, none⟩ = some (.slice am nm cm) ∧ w3.heap.size ≤ w'.heap.size) (first | ((repeat (first | (with_reducible assumption) | (with_reducible refine kept2_set ?_ _ _ (by simp <;> omega)) | (with_reducible refine kept2_alloc hmx ?_ _) | (with_reducible refine kept2_drew ?_))); done)) (first | (go_at_call 70; refine (l3Part_any R _ w3.drew (hrd.on (by (repeat (first | exact Below.refl _ _ | assumption | refine Below.alloc ?_ (by first | omega | (simp <;> omega)) _ | refine Below.setCell ?_ (by first | omega | (simp <;> omega)) _ | refine Below.drew ?_ | refine below_drewN ?_)))) (by omega)).mono ?_; rintro e wy ⟨_, rfl, ⟨nu, de, rfl⟩, hrdy, hsy⟩; have ht : Span R (R + 1) w3 wy := Span.trans (Span.of_below (by (repeat (first | exact Below.refl _ _ | assumption | refine Below.alloc ?_ (by first | omega | (simp <;> omega)) _ | refine Below.setCell ?_ (by first | omega | (simp <;> omega)) _ | refine Below.drew ?_ | refine below_drewN ?_)))) hsy; have hSy := kept2_span hS3 ht (by omega); have k0 := hSy.1; have k1 := hSy.2.1; have ksz := hSy.2.2; have hrmy := Span.row ht hr (fun b e => by have := hvm b e; omega); have hrqy := hr2.span ht (by omega); have rby := (show Bx w3 w.heap.size _ _ from ⟨r0, r1, fr0, fr1, hrl⟩).span ht (by omega); have qby := (show Bx w3 (w.heap.size + 1) _ _ from ⟨q0, q1, fq0, fq1, hql⟩).span ht (by omega); have s0 := rby.c0; have s1 := rby.c1; have s2 := rby.f0; have s3 := rby.f1; have s4 := rby.lt; have u0 := qby.c0; have u1 := qby.c1; have u2 := qby.f0; have u3 := qby.f1; have u4 := qby.lt; have hBy := Span.below hB hB.size ht (by omega)))
  have rb2 := (rby.put2 (.int .i64 s) (.slice am nm cm)).of_block (World.setCell2_other _ (w.heap.size + 1) _ (.int .i64 nu) (.int .i64 de) (by omega)) (by simp)
  have qb2 := (qby.of_block (World.setCell2_other _ w.heap.size _ (.int .i64 s) (.slice am nm cm) (by omega)) (by simp)).put2 (.int .i64 nu) (.int .i64 de)
  have hr3 := ((hrmy.mono (base' := w.heap.size + 1 + 1) (by omega)).put2 (b := w.heap.size) (x := .int .i64 s) (y := .slice am nm cm) (fun k e => by have := hvm k e; omega)).put2 (b := w.heap.size + 1) (x := .int .i64 nu) (y := .int .i64 de) (fun k e => by have := hvm k e; omega)
  have hq3 := ((hrqy.mono (base' := w.heap.size + 1 + 1) (by omega)).put2 (b := w.heap.size) (x := .int .i64 s) (y := .slice am nm cm) (by omega)).put2 (b := w.heap.size + 1) (x := .int .i64 nu) (y := .int .i64 de) (by omega)
  have r20 := rb2.c0
  have r21 := rb2.c1
  have q20 := qb2.c0
  have q21 := qb2.c1
  clear hS3 m0 m1 k0 k1 hSy hrd r0 r1 fr0 fr1 q0 q1 fq0 fq1 hr hr2
  go_wp2
  refine bodyPost_ret (v := .tuple #[.agg #[.int .i64 s, .slice am nm cm], .slice aq xss.length cq, .agg #[.int .i64 nu, .int .i64 de]]) (by simp [results, Try.results29, go_sem, r20, r21, q20, q21]) rfl ⟨⟨_, _, xs, _, xss, _, _, rfl, hr3.mono (by omega), hl, hq3.mono (by omega), hl2, hsh⟩, ?_⟩
  (repeat (first | exact Below.refl _ _ | assumption | refine Below.alloc ?_ (by first | omega | (simp <;> omega)) _ | refine Below.setCell ?_ (by first | omega | (simp <;> omega)) _ | refine Below.drew ?_ | refine below_drewN ?_))
end Go.Proofs.Ytaplpgmkobokhaa
