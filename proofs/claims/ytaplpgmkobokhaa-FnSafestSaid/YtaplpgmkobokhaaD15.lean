/- What the reference's drawing functions draw: some value, in new memory (printed by drawgen.py). -/
import Derived.Test.YtaplpgmkobokhaaD14
import Derived.Deep.RegionHeld3
set_option linter.unusedSimpArgs false
set_option linter.unusedVariables false
namespace Go.Proofs.Ytaplpgmkobokhaa
open Go.RowKit
/-- a drawn mass and a drawn list -/
def SomeWith (base : Nat) (v : Value) (w' : World) : Prop := ∃ s p xs q ys, v = .tuple #[.agg #[.int .i64 s, p], q] ∧ Row w' base p xs ∧ xs.length ≤ 17 ∧ Row w' base q ys ∧ ys.length ≤ 6
set_option maxRecDepth 100000 in
set_option maxHeartbeats 4000000 in
theorem l10With_any (R P : Nat) (w : World) (hr : Rd w R P) (hP : P ≤ 330000000) :
    Calls Try.prog 50 #[.pointer (some ⟨R, 0, none⟩)] w (Drew R (P + 100) w (SomeWith w.heap.size)) := by
  have hR := hr.1
  have hrd := hr
  clear hr
  have hsp := Span.refl R (R + 1) w
  go_enter Try.func50, Try.ntmps50
  go_wp2_with fail
  refine (l10Normal_any R _ _ (hrd.on (by (repeat (first | exact Below.refl _ _ | assumption | refine Below.alloc ?_ (by first | omega | (simp <;> omega)) _ | refine Below.setCell ?_ (by first | omega | (simp <;> omega)) _ | refine Below.drew ?_ | refine below_drewN ?_)))) (by omega)).mono ?_; rintro e w1 ⟨_, rfl, ⟨s, p, xs, rfl, hrm, hlm⟩, hrdn, hs⟩
  clear hrd
  have hrd := hrdn
  clear hrdn
  have hY1 : w.heap.size + 1 ≤ w1.heap.size := by have := hs.size; simp at this; omega
  have r0 := Span.keep hs (b := w.heap.size) (o := 0) (v := .int .i64 0) (by simp) (by omega)
  have fr0 := Span.keepF hs (b := w.heap.size) (o := 0) ⟨by simp <;> omega, by simp⟩ (by omega)
  have r1 := Span.keep hs (b := w.heap.size) (o := 1) (v := .slice none 0 0) (by simp) (by omega)
  have fr1 := Span.keepF hs (b := w.heap.size) (o := 1) ⟨by simp <;> omega, by simp⟩ (by omega)
  have ht : Span R (R + 1) w w1 := Span.trans (Span.of_below (by (repeat (first | exact Below.refl _ _ | assumption | refine Below.alloc ?_ (by first | omega | (simp <;> omega)) _ | refine Below.setCell ?_ (by first | omega | (simp <;> omega)) _ | refine Below.drew ?_ | refine below_drewN ?_)))) hs
  replace hsp := hsp.trans ht
  have hZ1 := ht.size
  clear ht hs
  have gfr0 := fr0.2
  have gfr1 := fr1.2
  replace hrm : Row w1 (w.heap.size + 1) p xs := hrm.mono (by simp)
  obtain ⟨am, nm, cm, rfl, him⟩ := hrm.ints
  clear him
  have hvm : ∀ b, (Value.slice am nm cm).ownBlock = some b → w.heap.size + 1 ≤ b := fun b e => (hrm.block b e).1
  go_wp2
  obtain ⟨w3, hw3⟩ : ∃ W, w1.alloc (.cells #[.int .i64 s, .slice am nm cm] 25) = W := ⟨_, rfl⟩
  rw [hw3]
  have hd : Below w1.heap.size w1 w3 := by rw [← hw3]; (repeat (first | exact Below.refl _ _ | assumption | refine Below.alloc ?_ (by first | omega | (simp <;> omega)) _ | refine Below.setCell ?_ (by first | omega | (simp <;> omega)) _ | refine Below.drew ?_ | refine below_drewN ?_))
  have m0 : w3.cell? ⟨w1.heap.size, 0, none⟩ = some (.int .i64 s) := by rw [← hw3]; simp
  have m1 : w3.cell? ⟨w1.heap.size, 1, none⟩ = some (.slice am nm cm) := by rw [← hw3]; simp
  have hN : w1.heap.size + 1 = w3.heap.size := by rw [← hw3]; simp
  replace hrm := hrm.below hd
  replace hrd := hrd.on hd
  replace hsp := hsp.trans (Span.of_below hd)
  have rb : Bx w3 w.heap.size _ _ := (show Bx w1 w.heap.size _ _ from ⟨r0, r1, gfr0, gfr1, fr0.1⟩).below hd
  clear hd hw3 r0 r1 fr0 fr1 gfr0 gfr1
  have hmx : w1.heap.size < w3.heap.size := by omega
  have hS3 : w3.cell? ⟨w1.heap.size, 0, none⟩ = some (.int .i64 s) ∧ w3.cell? ⟨w1.heap.size, 1, none⟩ = some (.slice am nm cm) ∧ w3.heap.size ≤ w3.heap.size := ⟨m0, m1, Nat.le_refl _⟩
  rcases (show s < 0 ∨ (0 ≤ s ∧ s ≤ 5) ∨ 5 < s by omega) with hs | ⟨hs, hs5⟩ | hs
  · have hs2 : ¬ 0 < s := by omega
    go_region_held3 (fun w' => w'.cell? ⟨w1.heap.size, 0, none⟩ = some (.int .i64 s) ∧ w'.cell? ⟨w1.heap.size, 1, none⟩ = some (.slice am nm cm) ∧ w3.heap.size ≤ w'.heap.size) (first | ((repeat (first | (with_reducible assumption) | (with_reducible refine kept2_set ?_ _ _ (by simp <;> omega)) | (with_reducible refine kept2_alloc hmx ?_ _) | (with_reducible refine kept2_drew ?_))); done)) (first | (go_at_call 89; refine (l10List_any R _ 0 w3.drew (hrd.on (by (repeat (first | exact Below.refl _ _ | assumption | refine Below.alloc ?_ (by first | omega | (simp <;> omega)) _ | refine Below.setCell ?_ (by first | omega | (simp <;> omega)) _ | refine Below.drew ?_ | refine below_drewN ?_)))) (by omega) (by omega)).mono ?_; rintro e wy ⟨vy, rfl, ⟨ys, hry, hly⟩, hrdy, hsy⟩; have ht : Span R (R + 1) w3 wy := Span.trans (Span.of_below (by (repeat (first | exact Below.refl _ _ | assumption | refine Below.alloc ?_ (by first | omega | (simp <;> omega)) _ | refine Below.setCell ?_ (by first | omega | (simp <;> omega)) _ | refine Below.drew ?_ | refine below_drewN ?_)))) hsy; have hSy := kept2_span hS3 ht (by omega); have k0 := hSy.1; have k1 := hSy.2.1; have ksz := hSy.2.2; have hrmy := Span.row ht hrm (fun b e => by have := hvm b e; omega); have rby := rb.span ht (by omega); have hspy := hsp.trans ht; have s0 := rby.c0; have s1 := rby.c1; have s2 := rby.f0; have s3 := rby.f1; have s4 := rby.lt))
    have hvy := hry.block
    have rb2 := rby.put2 (.int .i64 s) (.slice am nm cm)
    have r20 := rb2.c0
    have r21 := rb2.c1
    have hr2 := (hrmy.mono (base' := w.heap.size + 1) (by omega)).put2 (b := w.heap.size) (x := .int .i64 s) (y := .slice am nm cm) (fun k e => by have := hvm k e; omega)
    have hy2 := (hry.mono (base' := w.heap.size + 1) (by first | omega | (simp <;> omega))).put2 (b := w.heap.size) (x := .int .i64 s) (y := .slice am nm cm) (fun k e => by have := (hvy k e).1; first | omega | (simp at this; omega))
    clear hS3 m0 m1 k0 k1 hSy hrd hsp rb hrm
    go_wp2
    refine bodyPost_ret (v := .tuple #[.agg #[.int .i64 s, .slice am nm cm], vy]) (by simp [results, Try.results50, go_sem, r20, r21]) rfl ⟨_, rfl, ⟨_, _, xs, _, ys, rfl, hr2.mono (by omega), hlm, hy2.mono (by omega), hly⟩, ?_, ?_⟩
    · exact (hrdy.below (B := R + 1) (by (repeat (first | exact Below.refl _ _ | assumption | refine Below.alloc ?_ (by first | omega | (simp <;> omega)) _ | refine Below.setCell ?_ (by first | omega | (simp <;> omega)) _ | refine Below.drew ?_ | refine below_drewN ?_))) (by omega)).mono (by omega)
    · exact hspy.on (by (repeat (first | exact Below.refl _ _ | assumption | refine Below.alloc ?_ (by first | omega | (simp <;> omega)) _ | refine Below.setCell ?_ (by first | omega | (simp <;> omega)) _ | refine Below.drew ?_ | refine below_drewN ?_)))
  · obtain ⟨sz, rfl⟩ : ∃ sz : Nat, s = (sz : Int) := ⟨s.toNat, by omega⟩
    have hs2 : ¬ 5 < (sz : Int) := by omega
    have hs3 : ¬ (sz : Int) < 0 := by omega
    go_region_held3 (fun w' => w'.cell? ⟨w1.heap.size, 0, none⟩ = some (.int .i64 (sz : Int)) ∧ w'.cell? ⟨w1.heap.size, 1, none⟩ = some (.slice am nm cm) ∧ w3.heap.size ≤ w'.heap.size) (first | ((repeat (first | (with_reducible assumption) | (with_reducible refine kept2_set ?_ _ _ (by simp <;> omega)) | (with_reducible refine kept2_alloc hmx ?_ _) | (with_reducible refine kept2_drew ?_))); done)) (first | (go_at_call 89; refine (l10List_any R _ sz w3.drew (hrd.on (by (repeat (first | exact Below.refl _ _ | assumption | refine Below.alloc ?_ (by first | omega | (simp <;> omega)) _ | refine Below.setCell ?_ (by first | omega | (simp <;> omega)) _ | refine Below.drew ?_ | refine below_drewN ?_)))) (by omega) (by omega)).mono ?_; rintro e wy ⟨vy, rfl, ⟨ys, hry, hly⟩, hrdy, hsy⟩; have ht : Span R (R + 1) w3 wy := Span.trans (Span.of_below (by (repeat (first | exact Below.refl _ _ | assumption | refine Below.alloc ?_ (by first | omega | (simp <;> omega)) _ | refine Below.setCell ?_ (by first | omega | (simp <;> omega)) _ | refine Below.drew ?_ | refine below_drewN ?_)))) hsy; have hSy := kept2_span hS3 ht (by omega); have k0 := hSy.1; have k1 := hSy.2.1; have ksz := hSy.2.2; have hrmy := Span.row ht hrm (fun b e => by have := hvm b e; omega); have rby := rb.span ht (by omega); have hspy := hsp.trans ht; have s0 := rby.c0; have s1 := rby.c1; have s2 := rby.f0; have s3 := rby.f1; have s4 := rby.lt))
    have hvy := hry.block
    have rb2 := rby.put2 (.int .i64 (sz : Int)) (.slice am nm cm)
    have r20 := rb2.c0
    have r21 := rb2.c1
    have hr2 := (hrmy.mono (base' := w.heap.size + 1) (by omega)).put2 (b := w.heap.size) (x := .int .i64 (sz : Int)) (y := .slice am nm cm) (fun k e => by have := hvm k e; omega)
    have hy2 := (hry.mono (base' := w.heap.size + 1) (by first | omega | (simp <;> omega))).put2 (b := w.heap.size) (x := .int .i64 (sz : Int)) (y := .slice am nm cm) (fun k e => by have := (hvy k e).1; first | omega | (simp at this; omega))
    clear hS3 m0 m1 k0 k1 hSy hrd hsp rb hrm
    go_wp2
    refine bodyPost_ret (v := .tuple #[.agg #[.int .i64 (sz : Int), .slice am nm cm], vy]) (by simp [results, Try.results50, go_sem, r20, r21]) rfl ⟨_, rfl, ⟨_, _, xs, _, ys, rfl, hr2.mono (by omega), hlm, hy2.mono (by omega), hly⟩, ?_, ?_⟩
    · exact (hrdy.below (B := R + 1) (by (repeat (first | exact Below.refl _ _ | assumption | refine Below.alloc ?_ (by first | omega | (simp <;> omega)) _ | refine Below.setCell ?_ (by first | omega | (simp <;> omega)) _ | refine Below.drew ?_ | refine below_drewN ?_))) (by omega)).mono (by omega)
    · exact hspy.on (by (repeat (first | exact Below.refl _ _ | assumption | refine Below.alloc ?_ (by first | omega | (simp <;> omega)) _ | refine Below.setCell ?_ (by first | omega | (simp <;> omega)) _ | refine Below.drew ?_ | refine below_drewN ?_)))
  · have hs2 : ¬ s < 0 := by omega
    go_region_held3 (fun w' => w'.cell? ⟨w1.heap.size, 0, none⟩ = some (.int .i64 s) ∧ w'.cell? ⟨w1.heap.size, 1, none⟩ = some (.slice am nm cm) ∧ w3.heap.size ≤ w'.heap.size) (first | ((repeat (first | (with_reducible assumption) | (with_reducible refine kept2_set ?_ _ _ (by simp <;> omega)) | (with_reducible refine kept2_alloc hmx ?_ _) | (with_reducible refine kept2_drew ?_))); done)) (first | (go_at_call 89; refine (l10List_any R _ 5 w3.drew (hrd.on (by (repeat (first | exact Below.refl _ _ | assumption | refine Below.alloc ?_ (by first | omega | (simp <;> omega)) _ | refine Below.setCell ?_ (by first | omega | (simp <;> omega)) _ | refine Below.drew ?_ | refine below_drewN ?_)))) (by omega) (by omega)).mono ?_; rintro e wy ⟨vy, rfl, ⟨ys, hry, hly⟩, hrdy, hsy⟩; have ht : Span R (R + 1) w3 wy := Span.trans (Span.of_below (by (repeat (first | exact Below.refl _ _ | assumption | refine Below.alloc ?_ (by first | omega | (simp <;> omega)) _ | refine Below.setCell ?_ (by first | omega | (simp <;> omega)) _ | refine Below.drew ?_ | refine below_drewN ?_)))) hsy; have hSy := kept2_span hS3 ht (by omega); have k0 := hSy.1; have k1 := hSy.2.1; have ksz := hSy.2.2; have hrmy := Span.row ht hrm (fun b e => by have := hvm b e; omega); have rby := rb.span ht (by omega); have hspy := hsp.trans ht; have s0 := rby.c0; have s1 := rby.c1; have s2 := rby.f0; have s3 := rby.f1; have s4 := rby.lt))
    have hvy := hry.block
    have rb2 := rby.put2 (.int .i64 s) (.slice am nm cm)
    have r20 := rb2.c0
    have r21 := rb2.c1
    have hr2 := (hrmy.mono (base' := w.heap.size + 1) (by omega)).put2 (b := w.heap.size) (x := .int .i64 s) (y := .slice am nm cm) (fun k e => by have := hvm k e; omega)
    have hy2 := (hry.mono (base' := w.heap.size + 1) (by first | omega | (simp <;> omega))).put2 (b := w.heap.size) (x := .int .i64 s) (y := .slice am nm cm) (fun k e => by have := (hvy k e).1; first | omega | (simp at this; omega))
    clear hS3 m0 m1 k0 k1 hSy hrd hsp rb hrm
    go_wp2
    refine bodyPost_ret (v := .tuple #[.agg #[.int .i64 s, .slice am nm cm], vy]) (by simp [results, Try.results50, go_sem, r20, r21]) rfl ⟨_, rfl, ⟨_, _, xs, _, ys, rfl, hr2.mono (by omega), hlm, hy2.mono (by omega), hly⟩, ?_, ?_⟩
    · exact (hrdy.below (B := R + 1) (by (repeat (first | exact Below.refl _ _ | assumption | refine Below.alloc ?_ (by first | omega | (simp <;> omega)) _ | refine Below.setCell ?_ (by first | omega | (simp <;> omega)) _ | refine Below.drew ?_ | refine below_drewN ?_))) (by omega)).mono (by omega)
    · exact hspy.on (by (repeat (first | exact Below.refl _ _ | assumption | refine Below.alloc ?_ (by first | omega | (simp <;> omega)) _ | refine Below.setCell ?_ (by first | omega | (simp <;> omega)) _ | refine Below.drew ?_ | refine below_drewN ?_)))
set_option maxRecDepth 100000 in
set_option maxHeartbeats 1000000 in
theorem DrawHighestMean_any (ao : Option Addr) (n c : Nat) (w : World) (hx : BytesIn w w.heap.size ao n) (hnc : n ≤ c) :
    Calls Try.prog 15 #[.slice ao n c] w fun e w' => (∃ s p xs q ys, e = .returned (.tuple #[.agg #[.int .i64 s, p], q]) ∧ Row w' w.heap.size p xs ∧ xs.length ≤ 17 ∧ Row w' w.heap.size q ys ∧ ys.length ≤ 6) ∧ Below w.heap.size w w' := by
  obtain ⟨R, hRe⟩ : ∃ R, w.heap.size + 1 = R := ⟨_, rfl⟩
  have HX := hid hx
  clear hx
  go_enter Try.func15, Try.ntmps15
  go_wp2_with fail
  refine (l14OpenR_any ao n c R _ (by simp; exact hRe) (HX.out.on (below_alloc w _) (by omega)) hnc).mono ?_; rintro e w1 ⟨rfl, hrd, hb⟩
  have hz : R ≤ w1.heap.size := by have := hb.size; simp at this; omega
  have r0 := hb.cell (p := ⟨w.heap.size, 0, none⟩) (by simp; omega)
  have r1 := hb.cell (p := ⟨w.heap.size, 1, none⟩) (by simp; omega)
  have fr0 := hb.frozen (p := ⟨w.heap.size, 0, none⟩) (by simp; omega)
  have fr1 := hb.frozen (p := ⟨w.heap.size, 1, none⟩) (by simp; omega)
  simp at r0 r1 fr0 fr1
  have hB : Below w.heap.size w w1 := (below_alloc w _).trans (hb.mono (by omega))
  have hR1 := hrd.1
  clear hb
  go_wp2_with fail
  refine (l10With_any R _ _ hrd (by omega)).mono ?_; rintro e w2 ⟨_, rfl, ⟨s, p, xs, q, ys, rfl, hr, hl, hr2, hl2⟩, hrd2, ht⟩
  obtain ⟨a2, n2, c2, rfl, hi2⟩ := hr.ints
  obtain ⟨a3, n3, c3, rfl, hi3⟩ := hr2.ints
  have gr0 := (Span.keepF ht ⟨by omega, fr0⟩ (by omega)).2
  have gr1 := (Span.keepF ht ⟨by omega, fr1⟩ (by omega)).2
  replace r0 := Span.keep ht r0 (by omega)
  replace r1 := Span.keep ht r1 (by omega)
  replace hB := Span.below hB hB.size ht (by omega)
  have hz2 := ht.size
  replace hr : Row w2 (w.heap.size + 1) (.slice a2 n2 c2) xs := hr.mono (by omega)
  replace hr2 : Row w2 (w.heap.size + 1) (.slice a3 n3 c3) ys := hr2.mono (by omega)
  clear ht hrd fr0 fr1
  go_wp2
  refine bodyPost_ret (v := .tuple #[.agg #[.int .i64 s, .slice a2 n2 c2], .slice a3 n3 c3]) (by simp [results, Try.results15, go_sem, r0, r1]) rfl ⟨⟨_, _, xs, _, ys, rfl, ?_, hl, ?_, hl2⟩, ?_⟩
  · refine Row.mono (base := w.heap.size + 1) ?_ (by omega)
    (repeat (first | exact hr | (refine Row.setBelow ?_ ?_ _; rotate_left; focus (first | (omega) | (simp; done) | (simp; omega))) | (refine Row.setOther ?_ ?_ _; rotate_left; focus (intro h_own; have h_own2 := own_eq h_own; first | (omega) | (simp at h_own2; omega))) | refine Row.below ?_ (below_alloc _ _)))
  · refine Row.mono (base := w.heap.size + 1) ?_ (by omega)
    (repeat (first | exact hr2 | (refine Row.setBelow ?_ ?_ _; rotate_left; focus (first | (omega) | (simp; done) | (simp; omega))) | (refine Row.setOther ?_ ?_ _; rotate_left; focus (intro h_own; have h_own2 := own_eq h_own; first | (omega) | (simp at h_own2; omega))) | refine Row.below ?_ (below_alloc _ _)))
  · (repeat (first | exact Below.refl _ _ | assumption | refine Below.alloc ?_ (by first | omega | (simp <;> omega)) _ | refine Below.setCell ?_ (by first | omega | (simp <;> omega)) _ | refine Below.drew ?_ | refine below_drewN ?_))
end Go.Proofs.Ytaplpgmkobokhaa
