/- What the reference's drawing functions draw: some value, in new memory (printed by drawgen.py). The reference's draws of a whole law's arguments: rules. -/
import Derived.Test.YtdkgomlpadeleaaGreatDoorD2
set_option linter.unusedSimpArgs false
set_option linter.unusedVariables false
namespace Go.Proofs.YtdkgomlpadeleaaGreatDoor
open Go.RowKit
set_option maxRecDepth 100000 in
set_option maxHeartbeats 1000000 in
theorem l2Some_any (R P : Nat) (w : World) (hr : Rd w R P) (hP : P ≤ 900000000) :
    Calls Tryz.prog 106 #[.pointer (some ⟨R, 0, none⟩)] w (Drew R (P + 5) w (AnyFrac)) := by
  have hR := hr.1
  have hrd := hr
  clear hr
  have hsp := Span.refl R (R + 1) w
  go_enter Tryz.func106, Tryz.ntmps106
  go_wp2_with fail
  refine (pick_any R _ _ _ (hrd.on (by (repeat (first | exact Below.refl _ _ | assumption | refine Below.alloc ?_ (by first | omega | (simp <;> omega)) _ | refine Below.setCell ?_ (by first | omega | (simp <;> omega)) _ | refine Below.drew ?_ | refine below_drewN ?_)))) (by omega) (by omega)).mono ?_; rintro e w1 ⟨_, rfl, ⟨x, rfl, hx0, hx1⟩, hrdn, hs⟩
  clear hrd
  have hrd := hrdn
  clear hrdn
  have hY1 : w.heap.size + 1 ≤ w1.heap.size := by have := hs.size; simp at this; omega
  have r0 := Span.keep hs (b := w.heap.size) (o := 0) (v := .int .i64 0) (by simp) (by omega)
  have fr0 := Span.keepF hs (b := w.heap.size) (o := 0) ⟨by simp <;> omega, by simp⟩ (by omega)
  have r1 := Span.keep hs (b := w.heap.size) (o := 1) (v := .int .i64 0) (by simp) (by omega)
  have fr1 := Span.keepF hs (b := w.heap.size) (o := 1) ⟨by simp <;> omega, by simp⟩ (by omega)
  have ht : Span R (R + 1) w w1 := Span.trans (Span.of_below (by (repeat (first | exact Below.refl _ _ | assumption | refine Below.alloc ?_ (by first | omega | (simp <;> omega)) _ | refine Below.setCell ?_ (by first | omega | (simp <;> omega)) _ | refine Below.drew ?_ | refine below_drewN ?_)))) hs
  replace hsp := hsp.trans ht
  have hZ1 := ht.size
  clear ht hs
  have gfr0 := fr0.2
  have gfr1 := fr1.2
  go_wp2_with fail
  refine (pick_any R _ _ _ hrd (by omega) (by omega)).mono ?_; rintro e w2 ⟨_, rfl, ⟨y, rfl, hy0, hy1⟩, hrdn, hs⟩
  clear hrd
  have hrd := hrdn
  clear hrdn
  have ht : Span R (R + 1) w1 w2 := hs
  replace r0 := Span.keep ht r0 (by omega)
  replace r1 := Span.keep ht r1 (by omega)
  replace fr0 := Span.keepF ht fr0 (by omega)
  replace fr1 := Span.keepF ht fr1 (by omega)
  replace hsp := hsp.trans ht
  have hZ2 := ht.size
  clear ht hs
  replace gfr0 := fr0.2
  replace gfr1 := fr1.2
  go_wp2_with fail
  refine (l2Made_any _ _ _ (by omega) (by omega) (by omega) (by omega) (by omega)).mono ?_; rintro e w3 ⟨rfl, hb⟩
  have ht : Below w2.heap.size w2 w3 := hb
  replace r0 := keep ht r0
  replace r1 := keep ht r1
  replace fr0 := Span.belowKeepF ht fr0 (by omega)
  replace fr1 := Span.belowKeepF ht fr1 (by omega)
  replace hrd := hrd.on ht
  replace hsp := hsp.trans (Span.of_below ht)
  have hZ3 := ht.size
  clear ht hb
  replace gfr0 := fr0.2
  replace gfr1 := fr1.2
  generalize (redF (x - 4) (1 + y)).num = nu
  generalize (redF (x - 4) (1 + y)).den = de
  generalize (redF (x - 4) (1 + y)).ok = o
  go_wp2_with fail
  refine (pick_any R _ _ _ (hrd.on (by (repeat (first | exact Below.refl _ _ | assumption | refine Below.alloc ?_ (by first | omega | (simp <;> omega)) _ | refine Below.setCell ?_ (by first | omega | (simp <;> omega)) _ | refine Below.drew ?_ | refine below_drewN ?_)))) (by omega) (by omega)).mono ?_; rintro e w4 ⟨_, rfl, ⟨z, rfl, hz0, hz1⟩, hrdn, hs⟩
  clear hrd
  have hrd := hrdn
  clear hrdn
  have hY4 : w3.heap.size + 1 ≤ w4.heap.size := by have := hs.size; simp at this; omega
  have q0 := Span.keep hs (b := w3.heap.size) (o := 0) (v := .int .i64 nu) (by simp) (by omega)
  have fq0 := Span.keepF hs (b := w3.heap.size) (o := 0) ⟨by simp <;> omega, by simp⟩ (by omega)
  have q1 := Span.keep hs (b := w3.heap.size) (o := 1) (v := .int .i64 de) (by simp) (by omega)
  have fq1 := Span.keepF hs (b := w3.heap.size) (o := 1) ⟨by simp <;> omega, by simp⟩ (by omega)
  have ht : Span R (R + 1) w3 w4 := Span.trans (Span.of_below (by (repeat (first | exact Below.refl _ _ | assumption | refine Below.alloc ?_ (by first | omega | (simp <;> omega)) _ | refine Below.setCell ?_ (by first | omega | (simp <;> omega)) _ | refine Below.drew ?_ | refine below_drewN ?_)))) hs
  replace r0 := Span.keep ht r0 (by omega)
  replace r1 := Span.keep ht r1 (by omega)
  replace fr0 := Span.keepF ht fr0 (by omega)
  replace fr1 := Span.keepF ht fr1 (by omega)
  replace hsp := hsp.trans ht
  have hZ4 := ht.size
  clear ht hs
  have gfq0 := fq0.2
  have gfq1 := fq1.2
  replace gfr0 := fr0.2
  replace gfr1 := fr1.2
  have hne : ¬ w.heap.size = w3.heap.size := by omega
  have hne' : ¬ w3.heap.size = w.heap.size := by omega
  by_cases e0 : z = 0
  · subst e0
    go_wp2_with fail
    refine (num_any R _ _ 2 _ [1000000000, -999999999] _ (hrd.on (by (repeat (first | exact Below.refl _ _ | assumption | refine Below.alloc ?_ (by first | omega | (simp <;> omega)) _ | refine Below.setCell ?_ (by first | omega | (simp <;> omega)) _ | refine Below.drew ?_ | refine below_drewN ?_)))) (by omega) (ints_lit _ _ _ [1000000000, -999999999] _ 2 (by simp) (by simp) rfl (by omega)) (by first | omega | (simp <;> omega)) (by omega) (by omega)).mono ?_; rintro e w5 ⟨_, rfl, ⟨i, hi, rfl⟩, hrdn, hs⟩
    clear hrd
    have hrd := hrdn
    clear hrdn
    have hY5 : w4.heap.size + 1 ≤ w5.heap.size := by have := hs.size; simp at this; omega
    have ht : Span R (R + 1) w4 w5 := Span.trans (Span.of_below (by (repeat (first | exact Below.refl _ _ | assumption | refine Below.alloc ?_ (by first | omega | (simp <;> omega)) _ | refine Below.setCell ?_ (by first | omega | (simp <;> omega)) _ | refine Below.drew ?_ | refine below_drewN ?_)))) hs
    replace r0 := Span.keep ht r0 (by omega)
    replace r1 := Span.keep ht r1 (by omega)
    replace q0 := Span.keep ht q0 (by omega)
    replace q1 := Span.keep ht q1 (by omega)
    replace fr0 := Span.keepF ht fr0 (by omega)
    replace fr1 := Span.keepF ht fr1 (by omega)
    replace fq0 := Span.keepF ht fq0 (by omega)
    replace fq1 := Span.keepF ht fq1 (by omega)
    replace hsp := hsp.trans ht
    have hZ5 := ht.size
    clear ht hs
    replace gfr0 := fr0.2
    replace gfr1 := fr1.2
    replace gfq0 := fq0.2
    replace gfq1 := fq1.2
    go_wp2
    refine bodyPost_ret (v := .agg #[.int .i64 (nth [1000000000, -999999999] i), .int .i64 1]) (by simp [results, Tryz.results106, go_sem, r0, r1, q0, q1]) rfl ⟨_, rfl, ⟨_, _, rfl⟩, ?_, ?_⟩
    · exact (hrd.below (B := R + 1) (by (repeat (first | exact Below.refl _ _ | assumption | refine Below.alloc ?_ (by first | omega | (simp <;> omega)) _ | refine Below.setCell ?_ (by first | omega | (simp <;> omega)) _ | refine Below.drew ?_ | refine below_drewN ?_))) (by omega)).mono (by omega)
    · exact hsp.on (by (repeat (first | exact Below.refl _ _ | assumption | refine Below.alloc ?_ (by first | omega | (simp <;> omega)) _ | refine Below.setCell ?_ (by first | omega | (simp <;> omega)) _ | refine Below.drew ?_ | refine below_drewN ?_)))
  · by_cases e1 : z = 1
    · subst e1
      go_wp2
      refine bodyPost_ret (v := .agg #[.int .i64 1, .int .i64 999999999]) (by simp [results, Tryz.results106, go_sem, r0, r1, q0, q1]) rfl ⟨_, rfl, ⟨_, _, rfl⟩, ?_, ?_⟩
      · exact (hrd.below (B := R + 1) (by (repeat (first | exact Below.refl _ _ | assumption | refine Below.alloc ?_ (by first | omega | (simp <;> omega)) _ | refine Below.setCell ?_ (by first | omega | (simp <;> omega)) _ | refine Below.drew ?_ | refine below_drewN ?_))) (by omega)).mono (by omega)
      · exact hsp.on (by (repeat (first | exact Below.refl _ _ | assumption | refine Below.alloc ?_ (by first | omega | (simp <;> omega)) _ | refine Below.setCell ?_ (by first | omega | (simp <;> omega)) _ | refine Below.drew ?_ | refine below_drewN ?_)))
    · go_wp2
      refine bodyPost_ret (v := .agg #[.int .i64 nu, .int .i64 de]) (by simp [results, Tryz.results106, go_sem, r0, r1, q0, q1]) rfl ⟨_, rfl, ⟨_, _, rfl⟩, ?_, ?_⟩
      · exact (hrd.below (B := R + 1) (by (repeat (first | exact Below.refl _ _ | assumption | refine Below.alloc ?_ (by first | omega | (simp <;> omega)) _ | refine Below.setCell ?_ (by first | omega | (simp <;> omega)) _ | refine Below.drew ?_ | refine below_drewN ?_))) (by omega)).mono (by omega)
      · exact hsp.on (by (repeat (first | exact Below.refl _ _ | assumption | refine Below.alloc ?_ (by first | omega | (simp <;> omega)) _ | refine Below.setCell ?_ (by first | omega | (simp <;> omega)) _ | refine Below.drew ?_ | refine below_drewN ?_)))
set_option maxRecDepth 100000 in
set_option maxHeartbeats 1000000 in
theorem l2Open_any (R P : Nat) (w : World) (hr : Rd w R P) (hP : P ≤ 800000000) :
    Calls Tryz.prog 55 #[.pointer (some ⟨R, 0, none⟩)] w (Drew R (P + 9) w (AnyFrac)) := by
  have hR := hr.1
  have hrd := hr
  clear hr
  have hsp := Span.refl R (R + 1) w
  go_enter Tryz.func55, Tryz.ntmps55
  go_wp2_with fail
  refine (l2Some_any R _ _ (hrd.on (by (repeat (first | exact Below.refl _ _ | assumption | refine Below.alloc ?_ (by first | omega | (simp <;> omega)) _ | refine Below.setCell ?_ (by first | omega | (simp <;> omega)) _ | refine Below.drew ?_ | refine below_drewN ?_)))) (by omega)).mono ?_; rintro e w1 ⟨_, rfl, ⟨nu, de, rfl⟩, hrdn, hs⟩
  clear hrd
  have hrd := hrdn
  clear hrdn
  have hY1 : w.heap.size + 1 ≤ w1.heap.size := by have := hs.size; simp at this; omega
  have r0 := Span.keep hs (b := w.heap.size) (o := 0) (v := .int .i64 0) (by simp) (by omega)
  have fr0 := Span.keepF hs (b := w.heap.size) (o := 0) ⟨by simp <;> omega, by simp⟩ (by omega)
  have r1 := Span.keep hs (b := w.heap.size) (o := 1) (v := .int .i64 0) (by simp) (by omega)
  have fr1 := Span.keepF hs (b := w.heap.size) (o := 1) ⟨by simp <;> omega, by simp⟩ (by omega)
  have ht : Span R (R + 1) w w1 := Span.trans (Span.of_below (by (repeat (first | exact Below.refl _ _ | assumption | refine Below.alloc ?_ (by first | omega | (simp <;> omega)) _ | refine Below.setCell ?_ (by first | omega | (simp <;> omega)) _ | refine Below.drew ?_ | refine below_drewN ?_)))) hs
  replace hsp := hsp.trans ht
  have hZ1 := ht.size
  clear ht hs
  have gfr0 := fr0.2
  have gfr1 := fr1.2
  go_wp2_with fail
  refine (pick_any R _ _ _ (hrd.on (by (repeat (first | exact Below.refl _ _ | assumption | refine Below.alloc ?_ (by first | omega | (simp <;> omega)) _ | refine Below.setCell ?_ (by first | omega | (simp <;> omega)) _ | refine Below.drew ?_ | refine below_drewN ?_)))) (by omega) (by omega)).mono ?_; rintro e w2 ⟨_, rfl, ⟨z, rfl, hz0, hz1⟩, hrdn, hs⟩
  clear hrd
  have hrd := hrdn
  clear hrdn
  have hY2 : w1.heap.size + 1 ≤ w2.heap.size := by have := hs.size; simp at this; omega
  have q0 := Span.keep hs (b := w1.heap.size) (o := 0) (v := .int .i64 nu) (by simp) (by omega)
  have fq0 := Span.keepF hs (b := w1.heap.size) (o := 0) ⟨by simp <;> omega, by simp⟩ (by omega)
  have q1 := Span.keep hs (b := w1.heap.size) (o := 1) (v := .int .i64 de) (by simp) (by omega)
  have fq1 := Span.keepF hs (b := w1.heap.size) (o := 1) ⟨by simp <;> omega, by simp⟩ (by omega)
  have ht : Span R (R + 1) w1 w2 := Span.trans (Span.of_below (by (repeat (first | exact Below.refl _ _ | assumption | refine Below.alloc ?_ (by first | omega | (simp <;> omega)) _ | refine Below.setCell ?_ (by first | omega | (simp <;> omega)) _ | refine Below.drew ?_ | refine below_drewN ?_)))) hs
  replace r0 := Span.keep ht r0 (by omega)
  replace r1 := Span.keep ht r1 (by omega)
  replace fr0 := Span.keepF ht fr0 (by omega)
  replace fr1 := Span.keepF ht fr1 (by omega)
  replace hsp := hsp.trans ht
  have hZ2 := ht.size
  clear ht hs
  have gfq0 := fq0.2
  have gfq1 := fq1.2
  replace gfr0 := fr0.2
  replace gfr1 := fr1.2
  have hne : ¬ w.heap.size = w1.heap.size := by omega
  have hne' : ¬ w1.heap.size = w.heap.size := by omega
  by_cases e0 : z = 0
  · subst e0
    go_wp2_with fail
    refine (num_any R _ _ 3 _ [0, -1, 1000000001] _ (hrd.on (by (repeat (first | exact Below.refl _ _ | assumption | refine Below.alloc ?_ (by first | omega | (simp <;> omega)) _ | refine Below.setCell ?_ (by first | omega | (simp <;> omega)) _ | refine Below.drew ?_ | refine below_drewN ?_)))) (by omega) (ints_lit _ _ _ [0, -1, 1000000001] _ 3 (by simp) (by simp) rfl (by omega)) (by first | omega | (simp <;> omega)) (by omega) (by omega)).mono ?_; rintro e w3 ⟨_, rfl, ⟨i, hi, rfl⟩, hrdn, hs⟩
    clear hrd
    have hrd := hrdn
    clear hrdn
    have hY3 : w2.heap.size + 1 ≤ w3.heap.size := by have := hs.size; simp at this; omega
    have ht : Span R (R + 1) w2 w3 := Span.trans (Span.of_below (by (repeat (first | exact Below.refl _ _ | assumption | refine Below.alloc ?_ (by first | omega | (simp <;> omega)) _ | refine Below.setCell ?_ (by first | omega | (simp <;> omega)) _ | refine Below.drew ?_ | refine below_drewN ?_)))) hs
    replace r0 := Span.keep ht r0 (by omega)
    replace r1 := Span.keep ht r1 (by omega)
    replace q0 := Span.keep ht q0 (by omega)
    replace q1 := Span.keep ht q1 (by omega)
    replace fr0 := Span.keepF ht fr0 (by omega)
    replace fr1 := Span.keepF ht fr1 (by omega)
    replace fq0 := Span.keepF ht fq0 (by omega)
    replace fq1 := Span.keepF ht fq1 (by omega)
    replace hsp := hsp.trans ht
    have hZ3 := ht.size
    clear ht hs
    replace gfr0 := fr0.2
    replace gfr1 := fr1.2
    replace gfq0 := fq0.2
    replace gfq1 := fq1.2
    go_wp2
    refine bodyPost_ret (v := .agg #[.int .i64 nu, .int .i64 (nth [0, -1, 1000000001] i)]) (by simp [results, Tryz.results55, go_sem, r0, r1, q0, q1]) rfl ⟨_, rfl, ⟨_, _, rfl⟩, ?_, ?_⟩
    · exact (hrd.below (B := R + 1) (by (repeat (first | exact Below.refl _ _ | assumption | refine Below.alloc ?_ (by first | omega | (simp <;> omega)) _ | refine Below.setCell ?_ (by first | omega | (simp <;> omega)) _ | refine Below.drew ?_ | refine below_drewN ?_))) (by omega)).mono (by omega)
    · exact hsp.on (by (repeat (first | exact Below.refl _ _ | assumption | refine Below.alloc ?_ (by first | omega | (simp <;> omega)) _ | refine Below.setCell ?_ (by first | omega | (simp <;> omega)) _ | refine Below.drew ?_ | refine below_drewN ?_)))
  · by_cases e1 : z = 1
    · subst e1
      go_wp2_with fail
      refine (pick_any R _ _ _ hrd (by omega) (by omega)).mono ?_; rintro e w3 ⟨_, rfl, ⟨y, rfl, hy0, hy1⟩, hrdn, hs⟩
      clear hrd
      have hrd := hrdn
      clear hrdn
      have ht : Span R (R + 1) w2 w3 := hs
      replace r0 := Span.keep ht r0 (by omega)
      replace r1 := Span.keep ht r1 (by omega)
      replace q0 := Span.keep ht q0 (by omega)
      replace q1 := Span.keep ht q1 (by omega)
      replace fr0 := Span.keepF ht fr0 (by omega)
      replace fr1 := Span.keepF ht fr1 (by omega)
      replace fq0 := Span.keepF ht fq0 (by omega)
      replace fq1 := Span.keepF ht fq1 (by omega)
      replace hsp := hsp.trans ht
      have hZ3 := ht.size
      clear ht hs
      replace gfr0 := fr0.2
      replace gfr1 := fr1.2
      replace gfq0 := fq0.2
      replace gfq1 := fq1.2
      go_wp2
      refine bodyPost_ret (v := .agg #[.int .i64 (2 * (1 + y)), .int .i64 2]) (by simp [results, Tryz.results55, go_sem, r0, r1, q0, q1]) rfl ⟨_, rfl, ⟨_, _, rfl⟩, ?_, ?_⟩
      · exact (hrd.below (B := R + 1) (by (repeat (first | exact Below.refl _ _ | assumption | refine Below.alloc ?_ (by first | omega | (simp <;> omega)) _ | refine Below.setCell ?_ (by first | omega | (simp <;> omega)) _ | refine Below.drew ?_ | refine below_drewN ?_))) (by omega)).mono (by omega)
      · exact hsp.on (by (repeat (first | exact Below.refl _ _ | assumption | refine Below.alloc ?_ (by first | omega | (simp <;> omega)) _ | refine Below.setCell ?_ (by first | omega | (simp <;> omega)) _ | refine Below.drew ?_ | refine below_drewN ?_)))
    · by_cases e2 : z = 2
      · subst e2
        go_wp2_with fail
        refine (num_any R _ _ 2 _ [1000000001, -9223372036854775808] _ (hrd.on (by (repeat (first | exact Below.refl _ _ | assumption | refine Below.alloc ?_ (by first | omega | (simp <;> omega)) _ | refine Below.setCell ?_ (by first | omega | (simp <;> omega)) _ | refine Below.drew ?_ | refine below_drewN ?_)))) (by omega) (ints_lit _ _ _ [1000000001, -9223372036854775808] _ 2 (by simp) (by simp) rfl (by omega)) (by first | omega | (simp <;> omega)) (by omega) (by omega)).mono ?_; rintro e w3 ⟨_, rfl, ⟨i, hi, rfl⟩, hrdn, hs⟩
        clear hrd
        have hrd := hrdn
        clear hrdn
        have hY3 : w2.heap.size + 1 ≤ w3.heap.size := by have := hs.size; simp at this; omega
        have ht : Span R (R + 1) w2 w3 := Span.trans (Span.of_below (by (repeat (first | exact Below.refl _ _ | assumption | refine Below.alloc ?_ (by first | omega | (simp <;> omega)) _ | refine Below.setCell ?_ (by first | omega | (simp <;> omega)) _ | refine Below.drew ?_ | refine below_drewN ?_)))) hs
        replace r0 := Span.keep ht r0 (by omega)
        replace r1 := Span.keep ht r1 (by omega)
        replace q0 := Span.keep ht q0 (by omega)
        replace q1 := Span.keep ht q1 (by omega)
        replace fr0 := Span.keepF ht fr0 (by omega)
        replace fr1 := Span.keepF ht fr1 (by omega)
        replace fq0 := Span.keepF ht fq0 (by omega)
        replace fq1 := Span.keepF ht fq1 (by omega)
        replace hsp := hsp.trans ht
        have hZ3 := ht.size
        clear ht hs
        replace gfr0 := fr0.2
        replace gfr1 := fr1.2
        replace gfq0 := fq0.2
        replace gfq1 := fq1.2
        go_wp2
        refine bodyPost_ret (v := .agg #[.int .i64 (nth [1000000001, -9223372036854775808] i), .int .i64 de]) (by simp [results, Tryz.results55, go_sem, r0, r1, q0, q1]) rfl ⟨_, rfl, ⟨_, _, rfl⟩, ?_, ?_⟩
        · exact (hrd.below (B := R + 1) (by (repeat (first | exact Below.refl _ _ | assumption | refine Below.alloc ?_ (by first | omega | (simp <;> omega)) _ | refine Below.setCell ?_ (by first | omega | (simp <;> omega)) _ | refine Below.drew ?_ | refine below_drewN ?_))) (by omega)).mono (by omega)
        · exact hsp.on (by (repeat (first | exact Below.refl _ _ | assumption | refine Below.alloc ?_ (by first | omega | (simp <;> omega)) _ | refine Below.setCell ?_ (by first | omega | (simp <;> omega)) _ | refine Below.drew ?_ | refine below_drewN ?_)))
      · go_wp2
        refine bodyPost_ret (v := .agg #[.int .i64 nu, .int .i64 de]) (by simp [results, Tryz.results55, go_sem, r0, r1, q0, q1]) rfl ⟨_, rfl, ⟨_, _, rfl⟩, ?_, ?_⟩
        · exact (hrd.below (B := R + 1) (by (repeat (first | exact Below.refl _ _ | assumption | refine Below.alloc ?_ (by first | omega | (simp <;> omega)) _ | refine Below.setCell ?_ (by first | omega | (simp <;> omega)) _ | refine Below.drew ?_ | refine below_drewN ?_))) (by omega)).mono (by omega)
        · exact hsp.on (by (repeat (first | exact Below.refl _ _ | assumption | refine Below.alloc ?_ (by first | omega | (simp <;> omega)) _ | refine Below.setCell ?_ (by first | omega | (simp <;> omega)) _ | refine Below.drew ?_ | refine below_drewN ?_)))
set_option maxRecDepth 100000 in
set_option maxHeartbeats 1000000 in
theorem l3Part_any (R P : Nat) (w : World) (hr : Rd w R P) (hP : P ≤ 700000000) :
    Calls Tryz.prog 23 #[.pointer (some ⟨R, 0, none⟩)] w (Drew R (P + 20) w (AnyFrac)) := by
  have hR := hr.1
  have hrd := hr
  clear hr
  have hsp := Span.refl R (R + 1) w
  go_enter Tryz.func23, Tryz.ntmps23
  go_wp2_with fail
  refine (pick_any R _ _ _ (hrd.on (by (repeat (first | exact Below.refl _ _ | assumption | refine Below.alloc ?_ (by first | omega | (simp <;> omega)) _ | refine Below.setCell ?_ (by first | omega | (simp <;> omega)) _ | refine Below.drew ?_ | refine below_drewN ?_)))) (by omega) (by omega)).mono ?_; rintro e w1 ⟨_, rfl, ⟨x, rfl, hx0, hx1⟩, hrdn, hs⟩
  clear hrd
  have hrd := hrdn
  clear hrdn
  have hY1 : w.heap.size + 1 ≤ w1.heap.size := by have := hs.size; simp at this; omega
  have r0 := Span.keep hs (b := w.heap.size) (o := 0) (v := .int .i64 0) (by simp) (by omega)
  have fr0 := Span.keepF hs (b := w.heap.size) (o := 0) ⟨by simp <;> omega, by simp⟩ (by omega)
  have r1 := Span.keep hs (b := w.heap.size) (o := 1) (v := .int .i64 0) (by simp) (by omega)
  have fr1 := Span.keepF hs (b := w.heap.size) (o := 1) ⟨by simp <;> omega, by simp⟩ (by omega)
  have ht : Span R (R + 1) w w1 := Span.trans (Span.of_below (by (repeat (first | exact Below.refl _ _ | assumption | refine Below.alloc ?_ (by first | omega | (simp <;> omega)) _ | refine Below.setCell ?_ (by first | omega | (simp <;> omega)) _ | refine Below.drew ?_ | refine below_drewN ?_)))) hs
  replace hsp := hsp.trans ht
  have hZ1 := ht.size
  clear ht hs
  have gfr0 := fr0.2
  have gfr1 := fr1.2
  by_cases e0 : x = 0
  · subst e0
    go_wp2_with fail
    refine (l2Open_any R _ _ hrd (by omega)).mono ?_; rintro e w2 ⟨_, rfl, ⟨nu, de, rfl⟩, hrdn, hs⟩
    clear hrd
    have hrd := hrdn
    clear hrdn
    have ht : Span R (R + 1) w1 w2 := hs
    replace r0 := Span.keep ht r0 (by omega)
    replace r1 := Span.keep ht r1 (by omega)
    replace fr0 := Span.keepF ht fr0 (by omega)
    replace fr1 := Span.keepF ht fr1 (by omega)
    replace hsp := hsp.trans ht
    have hZ2 := ht.size
    clear ht hs
    replace gfr0 := fr0.2
    replace gfr1 := fr1.2
    go_wp2
    refine bodyPost_ret (v := .agg #[.int .i64 nu, .int .i64 de]) (by simp [results, Tryz.results23, go_sem, r0, r1]) rfl ⟨_, rfl, ⟨_, _, rfl⟩, ?_, ?_⟩
    · exact (hrd.below (B := R + 1) (by (repeat (first | exact Below.refl _ _ | assumption | refine Below.alloc ?_ (by first | omega | (simp <;> omega)) _ | refine Below.setCell ?_ (by first | omega | (simp <;> omega)) _ | refine Below.drew ?_ | refine below_drewN ?_))) (by omega)).mono (by omega)
    · exact hsp.on (by (repeat (first | exact Below.refl _ _ | assumption | refine Below.alloc ?_ (by first | omega | (simp <;> omega)) _ | refine Below.setCell ?_ (by first | omega | (simp <;> omega)) _ | refine Below.drew ?_ | refine below_drewN ?_)))
  · go_wp2_with fail
    refine (pick_any R _ _ _ hrd (by omega) (by omega)).mono ?_; rintro e w2 ⟨_, rfl, ⟨y, rfl, hy0, hy1⟩, hrdn, hs⟩
    clear hrd
    have hrd := hrdn
    clear hrdn
    have ht : Span R (R + 1) w1 w2 := hs
    replace r0 := Span.keep ht r0 (by omega)
    replace r1 := Span.keep ht r1 (by omega)
    replace fr0 := Span.keepF ht fr0 (by omega)
    replace fr1 := Span.keepF ht fr1 (by omega)
    replace hsp := hsp.trans ht
    have hZ2 := ht.size
    clear ht hs
    replace gfr0 := fr0.2
    replace gfr1 := fr1.2
    go_wp2_with fail
    refine (pick_any R _ _ _ hrd (by omega) (by omega)).mono ?_; rintro e w3 ⟨_, rfl, ⟨z, rfl, hz0, hz1⟩, hrdn, hs⟩
    clear hrd
    have hrd := hrdn
    clear hrdn
    have ht : Span R (R + 1) w2 w3 := hs
    replace r0 := Span.keep ht r0 (by omega)
    replace r1 := Span.keep ht r1 (by omega)
    replace fr0 := Span.keepF ht fr0 (by omega)
    replace fr1 := Span.keepF ht fr1 (by omega)
    replace hsp := hsp.trans ht
    have hZ3 := ht.size
    clear ht hs
    replace gfr0 := fr0.2
    replace gfr1 := fr1.2
    go_wp2_with fail
    refine (l2Made_any _ _ _ (by omega) (by omega) (by omega) (by omega) (by omega)).mono ?_; rintro e w4 ⟨rfl, hb⟩
    have ht : Below w3.heap.size w3 w4 := hb
    replace r0 := keep ht r0
    replace r1 := keep ht r1
    replace fr0 := Span.belowKeepF ht fr0 (by omega)
    replace fr1 := Span.belowKeepF ht fr1 (by omega)
    replace hrd := hrd.on ht
    replace hsp := hsp.trans (Span.of_below ht)
    have hZ4 := ht.size
    clear ht hb
    replace gfr0 := fr0.2
    replace gfr1 := fr1.2
    generalize (redF z (1 + y)).num = nu
    generalize (redF z (1 + y)).den = de
    generalize (redF z (1 + y)).ok = o
    have hne : ¬ w.heap.size = w4.heap.size := by omega
    have hne' : ¬ w4.heap.size = w.heap.size := by omega
    have gz := fr0.1
    go_wp2
    refine bodyPost_ret (v := .agg #[.int .i64 nu, .int .i64 de]) (by simp [results, Tryz.results23, go_sem, r0, r1, gz, World.cell?_alloc_lt]) rfl ⟨_, rfl, ⟨_, _, rfl⟩, ?_, ?_⟩
    · exact (hrd.below (B := R + 1) (by (repeat (first | exact Below.refl _ _ | assumption | refine Below.alloc ?_ (by first | omega | (simp <;> omega)) _ | refine Below.setCell ?_ (by first | omega | (simp <;> omega)) _ | refine Below.drew ?_ | refine below_drewN ?_))) (by omega)).mono (by omega)
    · exact hsp.on (by (repeat (first | exact Below.refl _ _ | assumption | refine Below.alloc ?_ (by first | omega | (simp <;> omega)) _ | refine Below.setCell ?_ (by first | omega | (simp <;> omega)) _ | refine Below.drew ?_ | refine below_drewN ?_)))
theorem BytesIn.on {w w' : World} {R R' : Nat} {ao : Option Addr} {n : Nat} (h : BytesIn w R ao n) (hb : Below R w w') (hR : R ≤ R') : BytesIn w' R' ao n := by
  refine ⟨h.len, fun hn => ?_⟩
  obtain ⟨b, off, e, hbR, hc⟩ := h.cell hn
  refine ⟨b, off, e, by omega, fun k hk => ?_⟩
  obtain ⟨v, h0, h1, hv⟩ := hc k hk
  exact ⟨v, h0, h1, (cell_block (hb.block b hbR)).trans hv⟩
theorem l14OpenR_any (ao : Option Addr) (n c R : Nat) (w : World) (hR : w.heap.size = R) (hx : BytesIn w R ao n) (hnc : n ≤ c) :
    Calls Tryz.prog 19 #[.slice ao n c] w fun e w' => e = .returned (.pointer (some ⟨R, 0, none⟩)) ∧ Rd w' R 0 ∧ Below R w w' := by
  subst hR; exact l14Open_any ao n c w hx hnc
end Go.Proofs.YtdkgomlpadeleaaGreatDoor
