/- What the reference's drawing functions draw: some value, in new memory (printed by drawgen.py). -/
import Derived.Test.YtchjnjmlambpjaaD16
set_option linter.unusedSimpArgs false
set_option linter.unusedVariables false
namespace Go.Proofs.Ytchjnjmlambpjaa
open Go.RowKit
set_option maxRecDepth 100000 in
set_option maxHeartbeats 4000000 in
theorem DrawRegretOf_any (ao : Option Addr) (n c : Nat) (w : World) (hx : BytesIn w w.heap.size ao n) (hnc : n ≤ c) :
    Calls Try.prog 46 #[.slice ao n c] w fun e w' => (∃ s p xs q xss kk, e = .returned (.tuple #[.agg #[.int .i64 s, p], q, .int .i64 kk]) ∧ Row w' w.heap.size p xs ∧ xs.length ≤ 17 ∧ RowsO w' w.heap.size q xss ∧ xss.length ≤ 9 ∧ Short xss) ∧ Below w.heap.size w w' := by
  obtain ⟨R, hRe⟩ : ∃ R, w.heap.size + 1 = R := ⟨_, rfl⟩
  have HX := hid hx
  clear hx
  go_enter Try.func46, Try.ntmps46
  go_wp2_with fail
  refine (l14OpenR_any ao n c R _ (by simp; exact hRe) (HX.out.on (below_alloc w _) (by omega)) hnc).mono ?_; rintro e w1 ⟨rfl, hrd, hb⟩
  have hz : R ≤ w1.heap.size := by have := hb.size; simp at this; omega
  have r0 := hb.cell (p := ⟨w.heap.size, 0, none⟩) (by simp; omega)
  have r1 := hb.cell (p := ⟨w.heap.size, 1, none⟩) (by simp; omega)
  have fr0 := hb.frozen (p := ⟨w.heap.size, 0, none⟩) (by simp; omega)
  have fr1 := hb.frozen (p := ⟨w.heap.size, 1, none⟩) (by simp; omega)
  simp at r0 r1 fr0 fr1
  have hB : Below w.heap.size w w1 := (below_alloc w _).trans (hb.mono (by omega))
  have hR1 := hrd.1
  clear hb
  go_wp2_with fail
  refine (l12Case_any R _ _ hrd (by omega)).mono ?_; rintro e w2 ⟨_, rfl, ⟨s, p, xs, q, xss, rfl, hr, hl, hr2, hl2, hsh⟩, hrd2, ht⟩
  obtain ⟨am, nm, cm, rfl, him⟩ := hr.ints
  obtain ⟨aq, nq, cq, rfl, hnq, hiq⟩ := hr2.form
  subst hnq
  clear him hiq
  have rb : Bx w2 w.heap.size _ _ := (show Bx w1 w.heap.size _ _ from ⟨r0, r1, fr0, fr1, by omega⟩).span ht (by omega)
  replace hB := Span.below hB hB.size ht (by omega)
  have hz2 := ht.size
  have hvm : ∀ b, (Value.slice am nm cm).ownBlock = some b → w1.heap.size ≤ b := fun b e => (hr.block b e).1
  clear ht hrd r0 r1 fr0 fr1
  go_wp2
  obtain ⟨w3, hw3⟩ : ∃ W, w2.alloc (.cells #[.int .i64 s, .slice am nm cm] 28) = W := ⟨_, rfl⟩
  rw [hw3]
  have hd : Below w2.heap.size w2 w3 := by rw [← hw3]; (repeat (first | exact Below.refl _ _ | assumption | refine Below.alloc ?_ (by first | omega | (simp <;> omega)) _ | refine Below.setCell ?_ (by first | omega | (simp <;> omega)) _ | refine Below.drew ?_ | refine below_drewN ?_))
  have m0 : w3.cell? ⟨w2.heap.size, 0, none⟩ = some (.int .i64 s) := by rw [← hw3]; simp
  have m1 : w3.cell? ⟨w2.heap.size, 1, none⟩ = some (.slice am nm cm) := by rw [← hw3]; simp
  have hN : w2.heap.size + 1 = w3.heap.size := by rw [← hw3]; simp
  have hrd := hrd2.on hd
  replace rb := rb.below hd
  replace hr := hr.below hd
  replace hr2 := hr2.below hd
  replace hB := hB.trans (hd.mono (by omega))
  clear hd hw3 hrd2
  have hmx : w2.heap.size < w3.heap.size := by omega
  have hS3 : w3.cell? ⟨w2.heap.size, 0, none⟩ = some (.int .i64 s) ∧ w3.cell? ⟨w2.heap.size, 1, none⟩ = some (.slice am nm cm) ∧ w3.heap.size ≤ w3.heap.size := ⟨m0, m1, Nat.le_refl _⟩
  obtain ⟨r0, r1, fr0, fr1, hrl⟩ := rb
  go_region_held3 (fun w' => w'.cell? ⟨w2.heap.size, 0, none⟩ = some (.int .i64 s) ∧ w'.cell? ⟨w2.heap.size, 1, none⟩ = some (.slice am nm cm) ∧ w3.heap.size ≤ w'.heap.size) (first | ((repeat (first | (with_reducible assumption) | (with_reducible refine kept2_set ?_ _ _ (by simp <;> omega)) | (with_reducible refine kept2_alloc hmx ?_ _) | (with_reducible refine kept2_drew ?_))); done)) (first | (go_at_call 97; refine (num_any R _ _ 6 _ [0, 1, 0, 2, -1, 8] _ (hrd.on (by (repeat (first | exact Below.refl _ _ | assumption | refine Below.alloc ?_ (by first | omega | (simp <;> omega)) _ | refine Below.setCell ?_ (by first | omega | (simp <;> omega)) _ | refine Below.drew ?_ | refine below_drewN ?_)))) (by omega) (IntsAt.below (ints_lit w3 _ 3 [0, 1, 0, 2, -1, 8] w3.heap.size 6 rfl (by simp) rfl (by omega)) (drew_below _)) (by first | omega | (simp <;> omega)) (by omega) (by omega)).mono ?_; rintro e wy ⟨_, rfl, ⟨i0, hi0, rfl⟩, hrdy, hsy⟩; have ht : Span R (R + 1) w3 wy := Span.trans (Span.of_below (by (repeat (first | exact Below.refl _ _ | assumption | refine Below.alloc ?_ (by first | omega | (simp <;> omega)) _ | refine Below.setCell ?_ (by first | omega | (simp <;> omega)) _ | refine Below.drew ?_ | refine below_drewN ?_)))) hsy; have hSy := kept2_span hS3 ht (by omega); have k0 := hSy.1; have k1 := hSy.2.1; have ksz := hSy.2.2; have hrmy := Span.row ht hr (fun b e => by have := hvm b e; omega); have hrqy := hr2.span ht (by omega); have rby := (show Bx w3 w.heap.size _ _ from ⟨r0, r1, fr0, fr1, hrl⟩).span ht (by omega); have s0 := rby.c0; have s1 := rby.c1; have s2 := rby.f0; have s3 := rby.f1; have s4 := rby.lt; have hBy := Span.below hB hB.size ht (by omega)))
  all_goals (
    have rb2 := rby.put2 (.int .i64 s) (.slice am nm cm)
    have r20 := rb2.c0
    have r21 := rb2.c1
    have hr3 := (hrmy.mono (base' := w.heap.size + 1) (by omega)).put2 (b := w.heap.size) (x := .int .i64 s) (y := .slice am nm cm) (fun k e => by have := hvm k e; omega)
    have hq3 := (hrqy.mono (base' := w.heap.size + 1) (by omega)).put2 (b := w.heap.size) (x := .int .i64 s) (y := .slice am nm cm) (by omega)
    clear hS3 m0 m1 k0 k1 hSy hrd r0 r1 fr0 fr1 hr hr2
    go_wp2
    refine bodyPost_ret (v := .tuple #[.agg #[.int .i64 s, .slice am nm cm], .slice aq xss.length cq, .int .i64 (nth [0, 1, 0, 2, -1, 8] i0)]) (by simp [results, Try.results46, go_sem, r20, r21]) rfl ⟨⟨_, _, xs, _, xss, _, rfl, hr3.mono (by omega), hl, hq3.mono (by omega), hl2, hsh⟩, ?_⟩
    (repeat (first | exact Below.refl _ _ | assumption | refine Below.alloc ?_ (by first | omega | (simp <;> omega)) _ | refine Below.setCell ?_ (by first | omega | (simp <;> omega)) _ | refine Below.drew ?_ | refine below_drewN ?_)))
set_option maxRecDepth 100000 in
set_option maxHeartbeats 1000000 in
theorem DrawUnbeatenActs_any (ao : Option Addr) (n c : Nat) (w : World) (hx : BytesIn w w.heap.size ao n) (hnc : n ≤ c) :
    Calls Try.prog 58 #[.slice ao n c] w fun e w' => (∃ s p xs q xss, e = .returned (.tuple #[.agg #[.int .i64 s, p], q]) ∧ Row w' w.heap.size p xs ∧ xs.length ≤ 17 ∧ RowsO w' w.heap.size q xss ∧ xss.length ≤ 9 ∧ Short xss) ∧ Below w.heap.size w w' := by
  obtain ⟨R, hRe⟩ : ∃ R, w.heap.size + 1 = R := ⟨_, rfl⟩
  have HX := hid hx
  clear hx
  go_enter Try.func58, Try.ntmps58
  go_wp2_with fail
  refine (l14OpenR_any ao n c R _ (by simp; exact hRe) (HX.out.on (below_alloc w _) (by omega)) hnc).mono ?_; rintro e w1 ⟨rfl, hrd, hb⟩
  have hz : R ≤ w1.heap.size := by have := hb.size; simp at this; omega
  have r0 := hb.cell (p := ⟨w.heap.size, 0, none⟩) (by simp; omega)
  have r1 := hb.cell (p := ⟨w.heap.size, 1, none⟩) (by simp; omega)
  have fr0 := hb.frozen (p := ⟨w.heap.size, 0, none⟩) (by simp; omega)
  have fr1 := hb.frozen (p := ⟨w.heap.size, 1, none⟩) (by simp; omega)
  simp at r0 r1 fr0 fr1
  have hB : Below w.heap.size w w1 := (below_alloc w _).trans (hb.mono (by omega))
  have hR1 := hrd.1
  clear hb
  go_wp2_with fail
  refine (l12Case_any R _ _ hrd (by omega)).mono ?_; rintro e w2 ⟨_, rfl, ⟨s, p, xs, q, xss, rfl, hr, hl, hr2, hl2, hsh⟩, hrd2, ht⟩
  obtain ⟨a2, n2, c2, rfl, hi2⟩ := hr.ints
  obtain ⟨a3, n3, c3, rfl, hn3, hi3⟩ := hr2.form
  subst hn3
  have gr0 := (Span.keepF ht ⟨by omega, fr0⟩ (by omega)).2
  have gr1 := (Span.keepF ht ⟨by omega, fr1⟩ (by omega)).2
  replace r0 := Span.keep ht r0 (by omega)
  replace r1 := Span.keep ht r1 (by omega)
  replace hB := Span.below hB hB.size ht (by omega)
  have hz2 := ht.size
  replace hr : Row w2 (w.heap.size + 1) (.slice a2 n2 c2) xs := hr.mono (by omega)
  replace hr2 : RowsO w2 (w.heap.size + 1) (.slice a3 xss.length c3) xss := hr2.mono (by omega)
  clear ht hrd fr0 fr1
  go_wp2
  refine bodyPost_ret (v := .tuple #[.agg #[.int .i64 s, .slice a2 n2 c2], .slice a3 xss.length c3]) (by simp [results, Try.results58, go_sem, r0, r1]) rfl ⟨⟨_, _, xs, _, xss, rfl, ?_, hl, ?_, hl2, hsh⟩, ?_⟩
  · refine Row.mono (base := w.heap.size + 1) ?_ (by omega)
    (repeat (first | exact hr | (refine Row.setBelow ?_ ?_ _; rotate_left; focus (first | (omega) | (simp; done) | (simp; omega))) | (refine Row.setOther ?_ ?_ _; rotate_left; focus (intro h_own; have h_own2 := own_eq h_own; first | (omega) | (simp at h_own2; omega))) | refine Row.below ?_ (below_alloc _ _)))
  · exact (hr2.put2 (b := w.heap.size) (by omega)).mono (by omega)
  · (repeat (first | exact Below.refl _ _ | assumption | refine Below.alloc ?_ (by first | omega | (simp <;> omega)) _ | refine Below.setCell ?_ (by first | omega | (simp <;> omega)) _ | refine Below.drew ?_ | refine below_drewN ?_))
end Go.Proofs.Ytchjnjmlambpjaa
