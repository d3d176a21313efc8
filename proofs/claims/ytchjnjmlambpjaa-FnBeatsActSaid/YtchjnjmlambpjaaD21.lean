/- What the reference's drawing functions draw: some value, in new memory (printed by drawgen.py). -/
import Derived.Test.YtchjnjmlambpjaaD13
set_option linter.unusedSimpArgs false
set_option linter.unusedVariables false
namespace Go.Proofs.Ytchjnjmlambpjaa
open Go.RowKit
set_option maxRecDepth 100000 in
set_option maxHeartbeats 4000000 in
theorem DrawBeatsAct_any (ao : Option Addr) (n c : Nat) (w : World) (hx : BytesIn w w.heap.size ao n) (hnc : n ≤ c) :
    Calls Try.prog 42 #[.slice ao n c] w fun e w' => (∃ s p xs q f z g, e = .returned (.tuple #[.agg #[.int .i64 s, p], q, z]) ∧ Row w' w.heap.size p xs ∧ xs.length ≤ 17 ∧ Row w' w.heap.size q f ∧ f.length ≤ 6 ∧ Row w' w.heap.size z g ∧ g.length ≤ 6) ∧ Below w.heap.size w w' := by
  obtain ⟨R, hRe⟩ : ∃ R, w.heap.size + 1 = R := ⟨_, rfl⟩
  have HX := hid hx
  clear hx
  go_enter Try.func42, Try.ntmps42
  go_wp2_with fail
  refine (l14OpenR_any ao n c R _ (by simp; exact hRe) (HX.out.on (below_alloc w _) (by omega)) hnc).mono ?_; rintro e w1 ⟨rfl, hrd, hb⟩
  have hz : R ≤ w1.heap.size := by have := hb.size; simp at this; omega
  have r0 := hb.cell (p := ⟨w.heap.size, 0, none⟩) (by simp; omega)
  have r1 := hb.cell (p := ⟨w.heap.size, 1, none⟩) (by simp; omega)
  have fr0 := hb.frozen (p := ⟨w.heap.size, 0, none⟩) (by simp; omega)
  have fr1 := hb.frozen (p := ⟨w.heap.size, 1, none⟩) (by simp; omega)
  simp at r0 r1 fr0 fr1
  have hB : Below w.heap.size w w1 := (below_alloc w _).trans (hb.mono (by omega))
  have hR1 := hrd.1
  clear hb
  go_wp2_with fail
  refine (l10Normal_any R _ _ hrd (by omega)).mono ?_; rintro e w2 ⟨_, rfl, ⟨s, p, xs, rfl, hr, hl⟩, hrd2, ht⟩
  obtain ⟨am, nm, cm, rfl, him⟩ := hr.ints
  clear him
  have rb : Bx w2 w.heap.size _ _ := (show Bx w1 w.heap.size _ _ from ⟨r0, r1, fr0, fr1, by omega⟩).span ht (by omega)
  replace hB := Span.below hB hB.size ht (by omega)
  have hz2 := ht.size
  have hvm : ∀ b, (Value.slice am nm cm).ownBlock = some b → w1.heap.size ≤ b := fun b e => (hr.block b e).1
  clear ht hrd r0 r1 fr0 fr1
  obtain ⟨w3, hw3⟩ : ∃ W, w2.alloc (.cells #[.int .i64 s, .slice am nm cm] 28) = W := ⟨_, rfl⟩
  have hd : Below w2.heap.size w2 w3 := by rw [← hw3]; (repeat (first | exact Below.refl _ _ | assumption | refine Below.alloc ?_ (by first | omega | (simp <;> omega)) _ | refine Below.setCell ?_ (by first | omega | (simp <;> omega)) _ | refine Below.drew ?_ | refine below_drewN ?_))
  have m0 : w3.cell? ⟨w2.heap.size, 0, none⟩ = some (.int .i64 s) := by rw [← hw3]; simp
  have m1 : w3.cell? ⟨w2.heap.size, 1, none⟩ = some (.slice am nm cm) := by rw [← hw3]; simp
  have hN : w2.heap.size + 1 = w3.heap.size := by rw [← hw3]; simp
  have hrd := hrd2.on hd
  replace rb := rb.below hd
  replace hr := hr.below hd
  replace hB := hB.trans (hd.mono (by omega))
  clear hd hrd2
  have hmx : w2.heap.size < w3.heap.size := by omega
  rcases (show s < 0 ∨ (0 ≤ s ∧ s ≤ 5) ∨ 5 < s by omega) with hs | ⟨hs, hs5⟩ | hs
  · have hs2 : ¬ 0 < s := by omega
    go_wp2_with fail
    clear hw3
    refine (l10List_any R _ 0 w3 hrd (by omega) (by omega)).mono ?_; rintro e w4 ⟨vx, rfl, ⟨ys, hrx, hlx⟩, hrd4, ht⟩
    obtain ⟨ax, nx, cx, rfl, hix⟩ := hrx.ints
    clear hix
    have hvx : ∀ b, (Value.slice ax nx cx).ownBlock = some b → w3.heap.size ≤ b := fun b e => (hrx.block b e).1
    replace m0 := Span.keep ht m0 (by omega)
    replace m1 := Span.keep ht m1 (by omega)
    replace hr := Span.row ht hr (fun b e => by have := hvm b e; omega)
    replace rb := rb.span ht (by omega)
    replace hB := Span.below hB hB.size ht (by omega)
    have hz4 := ht.size
    clear ht hrd
    have hS3 : w4.cell? ⟨w2.heap.size, 0, none⟩ = some (.int .i64 s) ∧ w4.cell? ⟨w2.heap.size, 1, none⟩ = some (.slice am nm cm) ∧ w4.heap.size ≤ w4.heap.size := ⟨m0, m1, Nat.le_refl _⟩
    obtain ⟨r0, r1, fr0, fr1, hrl⟩ := rb
    go_wp2
    replace hs2 : ¬ 0 < s := by omega
    go_region_held3 (fun w' => w'.cell? ⟨w2.heap.size, 0, none⟩ = some (.int .i64 s) ∧ w'.cell? ⟨w2.heap.size, 1, none⟩ = some (.slice am nm cm) ∧ w4.heap.size ≤ w'.heap.size) (first | ((repeat (first | (with_reducible assumption) | (with_reducible refine kept2_set ?_ _ _ (by simp <;> omega)) | (with_reducible refine kept2_alloc hmx ?_ _) | (with_reducible refine kept2_drew ?_))); done)) (first | (go_at_call 92; refine (l10List_any R _ 0 w4.drew (hrd4.on (by (repeat (first | exact Below.refl _ _ | assumption | refine Below.alloc ?_ (by first | omega | (simp <;> omega)) _ | refine Below.setCell ?_ (by first | omega | (simp <;> omega)) _ | refine Below.drew ?_ | refine below_drewN ?_)))) (by omega) (by omega)).mono ?_; rintro e wy ⟨vy, rfl, ⟨zs, hry, hly⟩, hrdy, hsy⟩; have ht : Span R (R + 1) w4 wy := Span.trans (Span.of_below (by (repeat (first | exact Below.refl _ _ | assumption | refine Below.alloc ?_ (by first | omega | (simp <;> omega)) _ | refine Below.setCell ?_ (by first | omega | (simp <;> omega)) _ | refine Below.drew ?_ | refine below_drewN ?_)))) hsy; have hSy := kept2_span hS3 ht (by omega); have k0 := hSy.1; have k1 := hSy.2.1; have ksz := hSy.2.2; have hrmy := Span.row ht hr (fun b e => by have := hvm b e; omega); have hrxy := Span.row ht hrx (fun b e => by have := hvx b e; omega); have rby := (show Bx w4 w.heap.size _ _ from ⟨r0, r1, fr0, fr1, hrl⟩).span ht (by omega); have s0 := rby.c0; have s1 := rby.c1; have s2 := rby.f0; have s3 := rby.f1; have s4 := rby.lt; have hBy := Span.below hB hB.size ht (by omega)))
    have hvy := hry.block
    have rb2 := rby.put2 (.int .i64 s) (.slice am nm cm)
    have r20 := rb2.c0
    have r21 := rb2.c1
    have hr3 := (hrmy.mono (base' := w.heap.size + 1) (by omega)).put2 (b := w.heap.size) (x := .int .i64 s) (y := .slice am nm cm) (fun k e => by have := hvm k e; omega)
    have hx3 := (hrxy.mono (base' := w.heap.size + 1) (by omega)).put2 (b := w.heap.size) (x := .int .i64 s) (y := .slice am nm cm) (fun k e => by have := hvx k e; omega)
    have hy3 := (hry.mono (base' := w.heap.size + 1) (by first | omega | (simp <;> omega))).put2 (b := w.heap.size) (x := .int .i64 s) (y := .slice am nm cm) (fun k e => by have := (hvy k e).1; first | omega | (simp at this; omega))
    clear hS3 m0 m1 k0 k1 hSy r0 r1 fr0 fr1 hr hrx
    go_wp2
    refine bodyPost_ret (v := .tuple #[.agg #[.int .i64 s, .slice am nm cm], .slice ax nx cx, vy]) (by simp [results, Try.results42, go_sem, r20, r21]) rfl ⟨⟨_, _, xs, _, ys, _, zs, rfl, hr3.mono (by omega), hl, hx3.mono (by omega), hlx, hy3.mono (by omega), hly⟩, ?_⟩
    (repeat (first | exact Below.refl _ _ | assumption | refine Below.alloc ?_ (by first | omega | (simp <;> omega)) _ | refine Below.setCell ?_ (by first | omega | (simp <;> omega)) _ | refine Below.drew ?_ | refine below_drewN ?_))
  · obtain ⟨sz, rfl⟩ : ∃ sz : Nat, s = (sz : Int) := ⟨s.toNat, by omega⟩
    have hs2 : ¬ 5 < (sz : Int) := by omega
    have hs3 : ¬ (sz : Int) < 0 := by omega
    go_wp2_with fail
    clear hw3
    refine (l10List_any R _ sz w3 hrd (by omega) (by omega)).mono ?_; rintro e w4 ⟨vx, rfl, ⟨ys, hrx, hlx⟩, hrd4, ht⟩
    obtain ⟨ax, nx, cx, rfl, hix⟩ := hrx.ints
    clear hix
    have hvx : ∀ b, (Value.slice ax nx cx).ownBlock = some b → w3.heap.size ≤ b := fun b e => (hrx.block b e).1
    replace m0 := Span.keep ht m0 (by omega)
    replace m1 := Span.keep ht m1 (by omega)
    replace hr := Span.row ht hr (fun b e => by have := hvm b e; omega)
    replace rb := rb.span ht (by omega)
    replace hB := Span.below hB hB.size ht (by omega)
    have hz4 := ht.size
    clear ht hrd
    have hS3 : w4.cell? ⟨w2.heap.size, 0, none⟩ = some (.int .i64 (sz : Int)) ∧ w4.cell? ⟨w2.heap.size, 1, none⟩ = some (.slice am nm cm) ∧ w4.heap.size ≤ w4.heap.size := ⟨m0, m1, Nat.le_refl _⟩
    obtain ⟨r0, r1, fr0, fr1, hrl⟩ := rb
    go_wp2
    have hs6 : ¬ 5 < (sz : Int) := by omega
    have hs7 : ¬ (sz : Int) < 0 := by omega
    go_region_held3 (fun w' => w'.cell? ⟨w2.heap.size, 0, none⟩ = some (.int .i64 (sz : Int)) ∧ w'.cell? ⟨w2.heap.size, 1, none⟩ = some (.slice am nm cm) ∧ w4.heap.size ≤ w'.heap.size) (first | ((repeat (first | (with_reducible assumption) | (with_reducible refine kept2_set ?_ _ _ (by simp <;> omega)) | (with_reducible refine kept2_alloc hmx ?_ _) | (with_reducible refine kept2_drew ?_))); done)) (first | (go_at_call 92; refine (l10List_any R _ sz w4.drew (hrd4.on (by (repeat (first | exact Below.refl _ _ | assumption | refine Below.alloc ?_ (by first | omega | (simp <;> omega)) _ | refine Below.setCell ?_ (by first | omega | (simp <;> omega)) _ | refine Below.drew ?_ | refine below_drewN ?_)))) (by omega) (by omega)).mono ?_; rintro e wy ⟨vy, rfl, ⟨zs, hry, hly⟩, hrdy, hsy⟩; have ht : Span R (R + 1) w4 wy := Span.trans (Span.of_below (by (repeat (first | exact Below.refl _ _ | assumption | refine Below.alloc ?_ (by first | omega | (simp <;> omega)) _ | refine Below.setCell ?_ (by first | omega | (simp <;> omega)) _ | refine Below.drew ?_ | refine below_drewN ?_)))) hsy; have hSy := kept2_span hS3 ht (by omega); have k0 := hSy.1; have k1 := hSy.2.1; have ksz := hSy.2.2; have hrmy := Span.row ht hr (fun b e => by have := hvm b e; omega); have hrxy := Span.row ht hrx (fun b e => by have := hvx b e; omega); have rby := (show Bx w4 w.heap.size _ _ from ⟨r0, r1, fr0, fr1, hrl⟩).span ht (by omega); have s0 := rby.c0; have s1 := rby.c1; have s2 := rby.f0; have s3 := rby.f1; have s4 := rby.lt; have hBy := Span.below hB hB.size ht (by omega)))
    have hvy := hry.block
    have rb2 := rby.put2 (.int .i64 (sz : Int)) (.slice am nm cm)
    have r20 := rb2.c0
    have r21 := rb2.c1
    have hr3 := (hrmy.mono (base' := w.heap.size + 1) (by omega)).put2 (b := w.heap.size) (x := .int .i64 (sz : Int)) (y := .slice am nm cm) (fun k e => by have := hvm k e; omega)
    have hx3 := (hrxy.mono (base' := w.heap.size + 1) (by omega)).put2 (b := w.heap.size) (x := .int .i64 (sz : Int)) (y := .slice am nm cm) (fun k e => by have := hvx k e; omega)
    have hy3 := (hry.mono (base' := w.heap.size + 1) (by first | omega | (simp <;> omega))).put2 (b := w.heap.size) (x := .int .i64 (sz : Int)) (y := .slice am nm cm) (fun k e => by have := (hvy k e).1; first | omega | (simp at this; omega))
    clear hS3 m0 m1 k0 k1 hSy r0 r1 fr0 fr1 hr hrx
    go_wp2
    refine bodyPost_ret (v := .tuple #[.agg #[.int .i64 (sz : Int), .slice am nm cm], .slice ax nx cx, vy]) (by simp [results, Try.results42, go_sem, r20, r21]) rfl ⟨⟨_, _, xs, _, ys, _, zs, rfl, hr3.mono (by omega), hl, hx3.mono (by omega), hlx, hy3.mono (by omega), hly⟩, ?_⟩
    (repeat (first | exact Below.refl _ _ | assumption | refine Below.alloc ?_ (by first | omega | (simp <;> omega)) _ | refine Below.setCell ?_ (by first | omega | (simp <;> omega)) _ | refine Below.drew ?_ | refine below_drewN ?_))
  · have hs2 : ¬ s < 0 := by omega
    go_wp2_with fail
    clear hw3
    refine (l10List_any R _ 5 w3 hrd (by omega) (by omega)).mono ?_; rintro e w4 ⟨vx, rfl, ⟨ys, hrx, hlx⟩, hrd4, ht⟩
    obtain ⟨ax, nx, cx, rfl, hix⟩ := hrx.ints
    clear hix
    have hvx : ∀ b, (Value.slice ax nx cx).ownBlock = some b → w3.heap.size ≤ b := fun b e => (hrx.block b e).1
    replace m0 := Span.keep ht m0 (by omega)
    replace m1 := Span.keep ht m1 (by omega)
    replace hr := Span.row ht hr (fun b e => by have := hvm b e; omega)
    replace rb := rb.span ht (by omega)
    replace hB := Span.below hB hB.size ht (by omega)
    have hz4 := ht.size
    clear ht hrd
    have hS3 : w4.cell? ⟨w2.heap.size, 0, none⟩ = some (.int .i64 s) ∧ w4.cell? ⟨w2.heap.size, 1, none⟩ = some (.slice am nm cm) ∧ w4.heap.size ≤ w4.heap.size := ⟨m0, m1, Nat.le_refl _⟩
    obtain ⟨r0, r1, fr0, fr1, hrl⟩ := rb
    go_wp2
    have hs6 : ¬ s < 0 := by omega
    have hs7 : 5 < s := by omega
    go_region_held3 (fun w' => w'.cell? ⟨w2.heap.size, 0, none⟩ = some (.int .i64 s) ∧ w'.cell? ⟨w2.heap.size, 1, none⟩ = some (.slice am nm cm) ∧ w4.heap.size ≤ w'.heap.size) (first | ((repeat (first | (with_reducible assumption) | (with_reducible refine kept2_set ?_ _ _ (by simp <;> omega)) | (with_reducible refine kept2_alloc hmx ?_ _) | (with_reducible refine kept2_drew ?_))); done)) (first | (go_at_call 92; refine (l10List_any R _ 5 w4.drew (hrd4.on (by (repeat (first | exact Below.refl _ _ | assumption | refine Below.alloc ?_ (by first | omega | (simp <;> omega)) _ | refine Below.setCell ?_ (by first | omega | (simp <;> omega)) _ | refine Below.drew ?_ | refine below_drewN ?_)))) (by omega) (by omega)).mono ?_; rintro e wy ⟨vy, rfl, ⟨zs, hry, hly⟩, hrdy, hsy⟩; have ht : Span R (R + 1) w4 wy := Span.trans (Span.of_below (by (repeat (first | exact Below.refl _ _ | assumption | refine Below.alloc ?_ (by first | omega | (simp <;> omega)) _ | refine Below.setCell ?_ (by first | omega | (simp <;> omega)) _ | refine Below.drew ?_ | refine below_drewN ?_)))) hsy; have hSy := kept2_span hS3 ht (by omega); have k0 := hSy.1; have k1 := hSy.2.1; have ksz := hSy.2.2; have hrmy := Span.row ht hr (fun b e => by have := hvm b e; omega); have hrxy := Span.row ht hrx (fun b e => by have := hvx b e; omega); have rby := (show Bx w4 w.heap.size _ _ from ⟨r0, r1, fr0, fr1, hrl⟩).span ht (by omega); have s0 := rby.c0; have s1 := rby.c1; have s2 := rby.f0; have s3 := rby.f1; have s4 := rby.lt; have hBy := Span.below hB hB.size ht (by omega)))
    have hvy := hry.block
    have rb2 := rby.put2 (.int .i64 s) (.slice am nm cm)
    have r20 := rb2.c0
    have r21 := rb2.c1
    have hr3 := (hrmy.mono (base' := w.heap.size + 1) (by omega)).put2 (b := w.heap.size) (x := .int .i64 s) (y := .slice am nm cm) (fun k e => by have := hvm k e; omega)
    have hx3 := (hrxy.mono (base' := w.heap.size + 1) (by omega)).put2 (b := w.heap.size) (x := .int .i64 s) (y := .slice am nm cm) (fun k e => by have := hvx k e; omega)
    have hy3 := (hry.mono (base' := w.heap.size + 1) (by first | omega | (simp <;> omega))).put2 (b := w.heap.size) (x := .int .i64 s) (y := .slice am nm cm) (fun k e => by have := (hvy k e).1; first | omega | (simp at this; omega))
    clear hS3 m0 m1 k0 k1 hSy r0 r1 fr0 fr1 hr hrx
    go_wp2
    refine bodyPost_ret (v := .tuple #[.agg #[.int .i64 s, .slice am nm cm], .slice ax nx cx, vy]) (by simp [results, Try.results42, go_sem, r20, r21]) rfl ⟨⟨_, _, xs, _, ys, _, zs, rfl, hr3.mono (by omega), hl, hx3.mono (by omega), hlx, hy3.mono (by omega), hly⟩, ?_⟩
    (repeat (first | exact Below.refl _ _ | assumption | refine Below.alloc ?_ (by first | omega | (simp <;> omega)) _ | refine Below.setCell ?_ (by first | omega | (simp <;> omega)) _ | refine Below.drew ?_ | refine below_drewN ?_))
end Go.Proofs.Ytchjnjmlambpjaa
