/- What the reference's drawing functions draw: some value, in new memory (printed by drawgen.py). What the reference's drawing functions draw: some value, in new memory (printed by drawgen.py). What the reference's drawing functions draw: some value, in new memory (printed by drawgen.py). -/
import Derived.Test.YtdkgomlpadeleaaGreatDoorD8
import Derived.Test.YtdkgomlpadeleaaGreatDoorK2
import Derived.Test.YtdkgomlpadeleaaGreatDoorS10
import Derived.Deep.RegionHeld3
import Derived.Test.YtdkgomlpadeleaaGreatDoorN1
set_option linter.unusedSimpArgs false
set_option linter.unusedVariables false
namespace Go.Proofs.YtdkgomlpadeleaaGreatDoor
open Go.RowKit
theorem pairM_len17 (s : Int) (xs : List Int) (u : Int) (ys : List Int) : (pairM s xs u ys).parts.length ≤ 17 := by
  unfold pairM; split
  · have := togM_len (fun a b => a &&& b) (extendM false s xs).size (extendM false s xs).parts (extendM true u ys).size (extendM true u ys).parts; omega
  · simp [MR.no]
set_option maxRecDepth 100000 in
set_option maxHeartbeats 2000000 in
theorem l11Some_any (R P : Nat) (w : World) (hr : Rd w R P) (hP : P ≤ 200000000) :
    Calls Tryz.prog 24 #[.pointer (some ⟨R, 0, none⟩)] w (Drew R (P + 200) w (SomeMass w.heap.size)) := by
  have hR := hr.1
  have hrd := hr
  clear hr
  have hsp := Span.refl R (R + 1) w
  go_enter Tryz.func24, Tryz.ntmps24
  go_wp2_with fail
  refine (pick_any R _ _ _ (hrd.on (by (repeat (first | exact Below.refl _ _ | assumption | refine Below.alloc ?_ (by first | omega | (simp <;> omega)) _ | refine Below.setCell ?_ (by first | omega | (simp <;> omega)) _ | refine Below.drew ?_ | refine below_drewN ?_)))) (by omega) (by omega)).mono ?_; rintro e w1 ⟨_, rfl, ⟨x, rfl, hx0, hx1⟩, hrdn, hs⟩
  clear hrd
  have hrd := hrdn
  clear hrdn
  have hY1 : w.heap.size + 1 ≤ w1.heap.size := by have := hs.size; simp at this; omega
  have r0 := Span.keep hs (b := w.heap.size) (o := 0) (v := .int .i64 0) (by simp) (by omega)
  have fr0 := Span.keepF hs (b := w.heap.size) (o := 0) ⟨by simp <;> omega, by simp⟩ (by omega)
  have r1 := Span.keep hs (b := w.heap.size) (o := 1) (v := .slice none 0 0) (by simp) (by omega)
  have fr1 := Span.keepF hs (b := w.heap.size) (o := 1) ⟨by simp <;> omega, by simp⟩ (by omega)
  have ht : Span R (R + 1) w w1 := Span.trans (Span.of_below (by (repeat (first | exact Below.refl _ _ | assumption | refine Below.alloc ?_ (by first | omega | (simp <;> omega)) _ | refine Below.setCell ?_ (by first | omega | (simp <;> omega)) _ | refine Below.drew ?_ | refine below_drewN ?_)))) hs
  replace hsp := hsp.trans ht
  have hZ1 := ht.size
  clear ht hs
  have gfr0 := fr0.2
  have gfr1 := fr1.2
  by_cases e0 : x = 0
  · subst e0
    go_wp2_with fail
    refine (l3Draw_any R _ 2 _ hrd (by omega) (by decide)).mono ?_; rintro e w2 ⟨_, rfl, ⟨p, xs, rfl, hrm, hl, hok⟩, hrdn, hs⟩
    clear hrd
    have hrd := hrdn
    clear hrdn
    have ht : Span R (R + 1) w1 w2 := hs
    replace r0 := Span.keep ht r0 (by omega)
    replace r1 := Span.keep ht r1 (by omega)
    replace fr0 := Span.keepF ht fr0 (by omega)
    replace fr1 := Span.keepF ht fr1 (by omega)
    replace hsp := hsp.trans ht
    have hZ2 := ht.size
    clear ht hs
    replace gfr0 := fr0.2
    replace gfr1 := fr1.2
    obtain ⟨am, nm, cm, rfl, him⟩ := hrm.ints
    clear him
    have hvm : ∀ b, (Value.slice am nm cm).ownBlock = some b → w1.heap.size ≤ b := fun b e => (hrm.block b e).1
    go_wp2
    obtain ⟨w3, hw3⟩ : ∃ W, w2.alloc (.cells #[.int .i64 2, .slice am nm cm] 25) = W := ⟨_, rfl⟩
    rw [hw3]
    have hd : Below w2.heap.size w2 w3 := by rw [← hw3]; (repeat (first | exact Below.refl _ _ | assumption | refine Below.alloc ?_ (by first | omega | (simp <;> omega)) _ | refine Below.setCell ?_ (by first | omega | (simp <;> omega)) _ | refine Below.drew ?_ | refine below_drewN ?_))
    have m0 : w3.cell? ⟨w2.heap.size, 0, none⟩ = some (.int .i64 2) := by rw [← hw3]; simp
    have m1 : w3.cell? ⟨w2.heap.size, 1, none⟩ = some (.slice am nm cm) := by rw [← hw3]; simp
    have hN : w2.heap.size + 1 = w3.heap.size := by rw [← hw3]; simp
    replace hrm := hrm.below hd
    replace hrd := hrd.on hd
    replace hsp := hsp.trans (Span.of_below hd)
    have rb : Bx w3 w.heap.size _ _ := (show Bx w2 w.heap.size _ _ from ⟨r0, r1, gfr0, gfr1, fr0.1⟩).below hd
    clear hd hw3 r0 r1 fr0 fr1 gfr0 gfr1
    have hmx : w2.heap.size < w3.heap.size := by omega
    refine wp_region_joinF (ι := Value × Value × Bool × Nat) (fun a i => (Act.put (Act.put (Act.put (Act.put (Act.put (Act.put (Act.put (Act.put (Act.put a (some 12) (.agg #[.int .i64 2, .slice am nm cm])) (some 13) (.pointer (some ⟨R, 0, none⟩))) (some 14) (i.1)) (some 15) (.tuple #[i.2.1, .bool i.2.2.1])) (some 11) (.tuple #[i.2.1, .bool i.2.2.1])) (some 16) (i.2.1)) (some 17) (.bool i.2.2.1)) (some 4) (.pointer (some ⟨i.2.2.2, 0, none⟩))) (some 5) (.bool i.2.2.1))) (fun i W => (∃ z a n c zs, i.2.1 = .agg #[.int .i64 z, .slice a n c] ∧ Row W (w.heap.size + 1) (.slice a n c) zs ∧ zs.length ≤ 17 ∧ Bx W i.2.2.2 (.int .i64 z) (.slice a n c)) ∧ w2.heap.size < i.2.2.2 ∧ Bx W w.heap.size (.int .i64 0) (.slice none 0 0) ∧ Rd W R (P + 100) ∧ Span R (R + 1) w W) ?_ ?_
    · have hS3 : w3.cell? ⟨w2.heap.size, 0, none⟩ = some (.int .i64 2) ∧ w3.cell? ⟨w2.heap.size, 1, none⟩ = some (.slice am nm cm) ∧ w3.heap.size ≤ w3.heap.size := ⟨m0, m1, Nat.le_refl _⟩
      go_region_held3 (fun w' => w'.cell? ⟨w2.heap.size, 0, none⟩ = some (.int .i64 2) ∧ w'.cell? ⟨w2.heap.size, 1, none⟩ = some (.slice am nm cm) ∧ w3.heap.size ≤ w'.heap.size) (first | ((repeat (first | (with_reducible assumption) | (with_reducible refine kept2_set ?_ _ _ (by simp <;> omega)) | (with_reducible refine kept2_alloc hmx ?_ _) | (with_reducible refine kept2_drew ?_))); done)) (first | (go_at_call 52; refine (l3Draw_any R _ 2 w3.drew (hrd.on (by (repeat (first | exact Below.refl _ _ | assumption | refine Below.alloc ?_ (by first | omega | (simp <;> omega)) _ | refine Below.setCell ?_ (by first | omega | (simp <;> omega)) _ | refine Below.drew ?_ | refine below_drewN ?_)))) (by omega) (by decide)).mono ?_; rintro e wy ⟨_, rfl, ⟨py, ys, rfl, hry, hly, hoky⟩, hrdy, hsy⟩; obtain ⟨ay, ny, cy, rfl, hiy⟩ := hry.ints; have ht : Span R (R + 1) w3 wy := Span.trans (Span.of_below (by (repeat (first | exact Below.refl _ _ | assumption | refine Below.alloc ?_ (by first | omega | (simp <;> omega)) _ | refine Below.setCell ?_ (by first | omega | (simp <;> omega)) _ | refine Below.drew ?_ | refine below_drewN ?_)))) hsy; have hSy := kept2_span hS3 ht (by omega); have k0 := hSy.1; have k1 := hSy.2.1; have ksz := hSy.2.2; have hrmy := Span.row ht hrm (fun b e => by have := hvm b e; omega); have rby := rb.span ht (by omega); have hspy := hsp.trans ht) | (go_at_call 52; refine (l3Draw_any R _ 2 (w3.alloc (.cells #[.int .i64 0, .slice none 0 0] 25)).drew (hrd.on (by (repeat (first | exact Below.refl _ _ | assumption | refine Below.alloc ?_ (by first | omega | (simp <;> omega)) _ | refine Below.setCell ?_ (by first | omega | (simp <;> omega)) _ | refine Below.drew ?_ | refine below_drewN ?_)))) (by omega) (by decide)).mono ?_; rintro e wy ⟨_, rfl, ⟨py, ys, rfl, hry, hly, hoky⟩, hrdy, hsy⟩; obtain ⟨ay, ny, cy, rfl, hiy⟩ := hry.ints; have ht : Span R (R + 1) w3 wy := Span.trans (Span.of_below (by (repeat (first | exact Below.refl _ _ | assumption | refine Below.alloc ?_ (by first | omega | (simp <;> omega)) _ | refine Below.setCell ?_ (by first | omega | (simp <;> omega)) _ | refine Below.drew ?_ | refine below_drewN ?_)))) hsy; have hSy := kept2_span hS3 ht (by omega); have k0 := hSy.1; have k1 := hSy.2.1; have ksz := hSy.2.2; have hrmy := Span.row ht hrm (fun b e => by have := hvm b e; omega); have rby := rb.span ht (by omega); have hspy := hsp.trans ht; have kb0 := Span.keep hsy (b := w3.heap.size) (o := 0) (v := .int .i64 0) (by simp) (by omega); have kb1 := Span.keep hsy (b := w3.heap.size) (o := 1) (v := .slice none 0 0) (by simp) (by omega); have kf0 := (Span.keepF hsy (b := w3.heap.size) (o := 0) ⟨by simp, by simp⟩ (by omega)).2; have kf1 := (Span.keepF hsy (b := w3.heap.size) (o := 1) ⟨by simp, by simp⟩ (by omega)).2; have hlz : w3.heap.size < wy.heap.size := (by have h_z := hsy.size; simp at h_z; omega)) | (go_at_call 57; refine (specPairMasses_any 2 2 _ _ _ _ _ _ xs ys wy (hrmy.view.below (by (repeat (first | exact Below.refl _ _ | assumption | refine Below.alloc ?_ (by first | omega | (simp <;> omega)) _ | refine Below.setCell ?_ (by first | omega | (simp <;> omega)) _ | refine Below.drew ?_ | refine below_drewN ?_)))) (hry.view.below (by (repeat (first | exact Below.refl _ _ | assumption | refine Below.alloc ?_ (by first | omega | (simp <;> omega)) _ | refine Below.setCell ?_ (by first | omega | (simp <;> omega)) _ | refine Below.drew ?_ | refine below_drewN ?_))))).mono ?_; rintro e wz ⟨⟨vz, rfl, hrz⟩, hbz⟩; have hlz17 := pairM_len17 2 xs 2 ys; obtain ⟨az, nz, cz, rfl, hiz⟩ := hrz.ints; have hdz : Below wy.heap.size wy wz := Below.trans (by (repeat (first | exact Below.refl _ _ | assumption | refine Below.alloc ?_ (by first | omega | (simp <;> omega)) _ | refine Below.setCell ?_ (by first | omega | (simp <;> omega)) _ | refine Below.drew ?_ | refine below_drewN ?_))) (hbz.mono (by simp <;> omega)); have hSz := kept2_below hSy hdz; have z0 := hSz.1; have z1 := hSz.2.1; have hzsz := hSz.2.2; have hzy := hdz.size; have rbz := rby.below hdz; have hrdz := hrdy.on hdz; have hspz := hspy.on (hdz.mono (by omega)); generalize (pairM 2 xs 2 ys).ok = oz at *; generalize (pairM 2 xs 2 ys).size = sz at *; generalize (pairM 2 xs 2 ys).parts = zs at *; have hvz : ∀ b, (Value.slice az nz cz).ownBlock = some b → w3.heap.size < b := (fun b e => (by have h_q := (hrz.block b e).1; omega)); have bxz : Bx wz w3.heap.size _ _ := (show Bx wy w3.heap.size _ _ from ⟨kb0, kb1, kf0, kf1, hlz⟩).below hdz; have b0 := bxz.c0; have b1 := bxz.c1; have b2 := bxz.f0; have b3 := bxz.f1; have b4 := bxz.lt) | (go_at_call 57; refine (specPairMasses_any 2 2 _ _ _ _ _ _ xs ys (wy.alloc (.cells #[.int .i64 0, .slice none 0 0] 25)) (hrmy.view.below (by (repeat (first | exact Below.refl _ _ | assumption | refine Below.alloc ?_ (by first | omega | (simp <;> omega)) _ | refine Below.setCell ?_ (by first | omega | (simp <;> omega)) _ | refine Below.drew ?_ | refine below_drewN ?_)))) (hry.view.below (by (repeat (first | exact Below.refl _ _ | assumption | refine Below.alloc ?_ (by first | omega | (simp <;> omega)) _ | refine Below.setCell ?_ (by first | omega | (simp <;> omega)) _ | refine Below.drew ?_ | refine below_drewN ?_))))).mono ?_; rintro e wz ⟨⟨vz, rfl, hrz⟩, hbz⟩; have hlz17 := pairM_len17 2 xs 2 ys; obtain ⟨az, nz, cz, rfl, hiz⟩ := hrz.ints; have hdz : Below wy.heap.size wy wz := Below.trans (by (repeat (first | exact Below.refl _ _ | assumption | refine Below.alloc ?_ (by first | omega | (simp <;> omega)) _ | refine Below.setCell ?_ (by first | omega | (simp <;> omega)) _ | refine Below.drew ?_ | refine below_drewN ?_))) (hbz.mono (by simp <;> omega)); have hSz := kept2_below hSy hdz; have z0 := hSz.1; have z1 := hSz.2.1; have hzsz := hSz.2.2; have hzy := hdz.size; have rbz := rby.below hdz; have hrdz := hrdy.on hdz; have hspz := hspy.on (hdz.mono (by omega)); generalize (pairM 2 xs 2 ys).ok = oz at *; generalize (pairM 2 xs 2 ys).size = sz at *; generalize (pairM 2 xs 2 ys).parts = zs at *; have hnb : wy.heap.size < wz.heap.size := (by have h_z := hbz.size; simp at h_z; omega); have hvz : ∀ b, (Value.slice az nz cz).ownBlock = some b → wy.heap.size < b := (fun b e => (by have h_q := (hrz.block b e).1; simp at h_q; omega)); have bxz : Bx wz wy.heap.size _ _ := ⟨keep hbz (a := ⟨wy.heap.size, 0, none⟩) (v := .int .i64 0) (by simp), keep hbz (a := ⟨wy.heap.size, 1, none⟩) (v := .slice none 0 0) (by simp), keepF hbz (a := ⟨wy.heap.size, 0, none⟩) (v := .int .i64 0) (by simp) (by simp), keepF hbz (a := ⟨wy.heap.size, 1, none⟩) (v := .slice none 0 0) (by simp) (by simp), hnb⟩; have b0 := bxz.c0; have b1 := bxz.c1; have b2 := bxz.f0; have b3 := bxz.f1; have b4 := bxz.lt) | (go_at_call 57; refine (specPairMasses_any 2 2 _ _ _ _ _ _ xs ys wy (hrmy.view.below (by (repeat (first | exact Below.refl _ _ | assumption | refine Below.alloc ?_ (by first | omega | (simp <;> omega)) _ | refine Below.setCell ?_ (by first | omega | (simp <;> omega)) _ | refine Below.drew ?_ | refine below_drewN ?_)))) (hry.view.below (by (repeat (first | exact Below.refl _ _ | assumption | refine Below.alloc ?_ (by first | omega | (simp <;> omega)) _ | refine Below.setCell ?_ (by first | omega | (simp <;> omega)) _ | refine Below.drew ?_ | refine below_drewN ?_))))).mono ?_; rintro e wz ⟨⟨vz, rfl, hrz⟩, hbz⟩; have hlz17 := pairM_len17 2 xs 2 ys; obtain ⟨az, nz, cz, rfl, hiz⟩ := hrz.ints; have hdz : Below wy.heap.size wy wz := Below.trans (by (repeat (first | exact Below.refl _ _ | assumption | refine Below.alloc ?_ (by first | omega | (simp <;> omega)) _ | refine Below.setCell ?_ (by first | omega | (simp <;> omega)) _ | refine Below.drew ?_ | refine below_drewN ?_))) (hbz.mono (by simp <;> omega)); have hSz := kept2_below hSy hdz; have z0 := hSz.1; have z1 := hSz.2.1; have hzsz := hSz.2.2; have hzy := hdz.size; have rbz := rby.below hdz; have hrdz := hrdy.on hdz; have hspz := hspy.on (hdz.mono (by omega)); generalize (pairM 2 xs 2 ys).ok = oz at *; generalize (pairM 2 xs 2 ys).size = sz at *; generalize (pairM 2 xs 2 ys).parts = zs at *))
      · refine ⟨(.agg #[.int .i64 2, .slice ay ny cy], .agg #[.int .i64 sz, .slice az nz cz], oz, wz.heap.size), by simp [Act.put], ⟨_, _, _, _, _, rfl, (hrz.mono (by omega)).below (below_alloc _ _), hlz17, Bx.mk2 rfl⟩, (show w2.heap.size < wz.heap.size by omega), rbz.below (below_alloc _ _), (hrdz.on (below_alloc _ _)).mono (by omega), hspz.on (by (repeat (first | exact Below.refl _ _ | assumption | refine Below.alloc ?_ (by first | omega | (simp <;> omega)) _ | refine Below.setCell ?_ (by first | omega | (simp <;> omega)) _ | refine Below.drew ?_ | refine below_drewN ?_)))⟩
      · refine ⟨(.agg #[.int .i64 2, .slice ay ny cy], .agg #[.int .i64 sz, .slice az nz cz], oz, wy.heap.size), by simp [Act.put], ⟨_, _, _, _, _, rfl, ((hrz.mono (by first | omega | (simp <;> omega))).setOther (fun e => by have := hvz _ e; simp at this) _).setOther (fun e => by have := hvz _ e; simp at this) _, hlz17, bxz.put2 _ _⟩, (show w2.heap.size < wy.heap.size by omega), rbz.of_block (World.setCell2_other _ _ _ _ _ (by omega)) (by simp), ?_, hspz.on (by (repeat (first | exact Below.refl _ _ | assumption | refine Below.alloc ?_ (by first | omega | (simp <;> omega)) _ | refine Below.setCell ?_ (by first | omega | (simp <;> omega)) _ | refine Below.drew ?_ | refine below_drewN ?_)))⟩
        exact (hrdz.below (B := R + 1) (by (repeat (first | exact Below.refl _ _ | assumption | refine Below.alloc ?_ (by first | omega | (simp <;> omega)) _ | refine Below.setCell ?_ (by first | omega | (simp <;> omega)) _ | refine Below.drew ?_ | refine below_drewN ?_))) (by omega)).mono (by omega)
      · refine ⟨(.agg #[.int .i64 2, .slice ay ny cy], .agg #[.int .i64 sz, .slice az nz cz], oz, w3.heap.size), by simp [Act.put], ⟨_, _, _, _, _, rfl, ((hrz.mono (by first | omega | (simp <;> omega))).setOther (fun e => by have := hvz _ e; simp at this) _).setOther (fun e => by have := hvz _ e; simp at this) _, hlz17, bxz.put2 _ _⟩, (show w2.heap.size < w3.heap.size by omega), rbz.of_block (World.setCell2_other _ _ _ _ _ (by omega)) (by simp), ?_, hspz.on (by (repeat (first | exact Below.refl _ _ | assumption | refine Below.alloc ?_ (by first | omega | (simp <;> omega)) _ | refine Below.setCell ?_ (by first | omega | (simp <;> omega)) _ | refine Below.drew ?_ | refine below_drewN ?_)))⟩
        exact (hrdz.below (B := R + 1) (by (repeat (first | exact Below.refl _ _ | assumption | refine Below.alloc ?_ (by first | omega | (simp <;> omega)) _ | refine Below.setCell ?_ (by first | omega | (simp <;> omega)) _ | refine Below.drew ?_ | refine below_drewN ?_))) (by omega)).mono (by omega)
    · rintro ⟨vy, vz, oz, bz⟩ w4 ⟨⟨z, az, nz, cz, zs, e, hrz, hlz, hbz⟩, hlt, rb, hrd, hsp⟩
      simp only at e hbz hlt
      subst e
      obtain ⟨r0, r1, gfr0, gfr1, hrl⟩ := rb
      obtain ⟨b0, b1, -, -, -⟩ := hbz
      have hZ4 := hsp.size
      have fr0 := And.intro hrl gfr0
      have fr1 := And.intro hrl gfr1
      clear hrm m0 m1 hmx
      cases oz
      · go_wp2_with fail
        refine (l11Draw_any R _ 4 (by decide) _ hrd (by omega)).mono ?_; rintro e w5 ⟨_, rfl, ⟨sb, p, xb, rfl, hrb, hlb⟩, hrdn, hs⟩
        clear hrd
        have hrd := hrdn
        clear hrdn
        have ht : Span R (R + 1) w4 w5 := hs
        replace r0 := Span.keep ht r0 (by omega)
        replace r1 := Span.keep ht r1 (by omega)
        replace fr0 := Span.keepF ht fr0 (by omega)
        replace fr1 := Span.keepF ht fr1 (by omega)
        replace hsp := hsp.trans ht
        have hZ5 := ht.size
        clear ht hs
        replace gfr0 := fr0.2
        replace gfr1 := fr1.2
        obtain ⟨ab, nb, cb, rfl, hib⟩ := hrb.ints
        clear hib
        replace hrb : Row w5 (w.heap.size + 1) (.slice ab nb cb) xb := hrb.mono (by omega)
        go_wp2
        refine bodyPost_ret (v := .agg #[.int .i64 sb, .slice ab nb cb]) (by simp [results, Tryz.results24, go_sem, r0, r1]) rfl ⟨_, rfl, ⟨_, _, xb, rfl, ?_, hlb⟩, ?_, ?_⟩
        · refine Row.mono (base := w.heap.size + 1) ?_ (by omega)
          (repeat (first | exact hrb | (refine Row.setBelow ?_ ?_ _; rotate_left; focus (first | (omega) | (simp; done) | (simp; omega))) | (refine Row.setOther ?_ ?_ _; rotate_left; focus (intro h_own; have h_own2 := own_eq h_own; first | (omega) | (simp at h_own2; omega))) | refine Row.below ?_ (below_alloc _ _)))
        · exact (hrd.below (B := R + 1) (by (repeat (first | exact Below.refl _ _ | assumption | refine Below.alloc ?_ (by first | omega | (simp <;> omega)) _ | refine Below.setCell ?_ (by first | omega | (simp <;> omega)) _ | refine Below.drew ?_ | refine below_drewN ?_))) (by omega)).mono (by omega)
        · exact hsp.on (by (repeat (first | exact Below.refl _ _ | assumption | refine Below.alloc ?_ (by first | omega | (simp <;> omega)) _ | refine Below.setCell ?_ (by first | omega | (simp <;> omega)) _ | refine Below.drew ?_ | refine below_drewN ?_)))
      · go_wp2
        refine bodyPost_ret (v := .agg #[.int .i64 z, .slice az nz cz]) (by simp [results, Tryz.results24, go_sem, r0, r1, b0, b1]) rfl ⟨_, rfl, ⟨_, _, zs, rfl, ?_, hlz⟩, ?_, ?_⟩
        · refine Row.mono (base := w.heap.size + 1) ?_ (by omega)
          (repeat (first | exact hrz | (refine Row.setBelow ?_ ?_ _; rotate_left; focus (first | (omega) | (simp; done) | (simp; omega))) | (refine Row.setOther ?_ ?_ _; rotate_left; focus (intro h_own; have h_own2 := own_eq h_own; first | (omega) | (simp at h_own2; omega))) | refine Row.below ?_ (below_alloc _ _)))
        · exact (hrd.below (B := R + 1) (by (repeat (first | exact Below.refl _ _ | assumption | refine Below.alloc ?_ (by first | omega | (simp <;> omega)) _ | refine Below.setCell ?_ (by first | omega | (simp <;> omega)) _ | refine Below.drew ?_ | refine below_drewN ?_))) (by omega)).mono (by omega)
        · exact hsp.on (by (repeat (first | exact Below.refl _ _ | assumption | refine Below.alloc ?_ (by first | omega | (simp <;> omega)) _ | refine Below.setCell ?_ (by first | omega | (simp <;> omega)) _ | refine Below.drew ?_ | refine below_drewN ?_)))
  · go_wp2_with fail
    refine (l11Draw_any R _ 4 (by decide) _ hrd (by omega)).mono ?_; rintro e w2 ⟨_, rfl, ⟨sb, p, xb, rfl, hrb, hlb⟩, hrdn, hs⟩
    clear hrd
    have hrd := hrdn
    clear hrdn
    have ht : Span R (R + 1) w1 w2 := hs
    replace r0 := Span.keep ht r0 (by omega)
    replace r1 := Span.keep ht r1 (by omega)
    replace fr0 := Span.keepF ht fr0 (by omega)
    replace fr1 := Span.keepF ht fr1 (by omega)
    replace hsp := hsp.trans ht
    have hZ2 := ht.size
    clear ht hs
    replace gfr0 := fr0.2
    replace gfr1 := fr1.2
    obtain ⟨ab, nb, cb, rfl, hib⟩ := hrb.ints
    clear hib
    replace hrb : Row w2 (w.heap.size + 1) (.slice ab nb cb) xb := hrb.mono (by omega)
    go_wp2
    refine bodyPost_ret (v := .agg #[.int .i64 sb, .slice ab nb cb]) (by simp [results, Tryz.results24, go_sem, r0, r1]) rfl ⟨_, rfl, ⟨_, _, xb, rfl, ?_, hlb⟩, ?_, ?_⟩
    · refine Row.mono (base := w.heap.size + 1) ?_ (by omega)
      (repeat (first | exact hrb | (refine Row.setBelow ?_ ?_ _; rotate_left; focus (first | (omega) | (simp; done) | (simp; omega))) | (refine Row.setOther ?_ ?_ _; rotate_left; focus (intro h_own; have h_own2 := own_eq h_own; first | (omega) | (simp at h_own2; omega))) | refine Row.below ?_ (below_alloc _ _)))
    · exact (hrd.below (B := R + 1) (by (repeat (first | exact Below.refl _ _ | assumption | refine Below.alloc ?_ (by first | omega | (simp <;> omega)) _ | refine Below.setCell ?_ (by first | omega | (simp <;> omega)) _ | refine Below.drew ?_ | refine below_drewN ?_))) (by omega)).mono (by omega)
    · exact hsp.on (by (repeat (first | exact Below.refl _ _ | assumption | refine Below.alloc ?_ (by first | omega | (simp <;> omega)) _ | refine Below.setCell ?_ (by first | omega | (simp <;> omega)) _ | refine Below.drew ?_ | refine below_drewN ?_)))
theorem kept4_set {b d i j k l : Nat} {u v x y : Value} {w : World} (h : w.cell? ⟨b, i, none⟩ = some u ∧ w.cell? ⟨b, j, none⟩ = some v ∧ w.cell? ⟨d, k, none⟩ = some x ∧ w.cell? ⟨d, l, none⟩ = some y) (a : Addr) (z : Value) (ha : a.block ≠ b ∧ a.block ≠ d) : (w.setCell a z).cell? ⟨b, i, none⟩ = some u ∧ (w.setCell a z).cell? ⟨b, j, none⟩ = some v ∧ (w.setCell a z).cell? ⟨d, k, none⟩ = some x ∧ (w.setCell a z).cell? ⟨d, l, none⟩ = some y := by
  obtain ⟨h1, h2, h3, h4⟩ := h
  refine ⟨?_, ?_, ?_, ?_⟩
  · rw [World.cell?_setCell_other _ _ _ _ (by rintro rfl; exact ha.1 rfl)]; exact h1
  · rw [World.cell?_setCell_other _ _ _ _ (by rintro rfl; exact ha.1 rfl)]; exact h2
  · rw [World.cell?_setCell_other _ _ _ _ (by rintro rfl; exact ha.2 rfl)]; exact h3
  · rw [World.cell?_setCell_other _ _ _ _ (by rintro rfl; exact ha.2 rfl)]; exact h4
theorem kept4_drew {b d i j k l : Nat} {u v x y : Value} {w : World} (h : w.cell? ⟨b, i, none⟩ = some u ∧ w.cell? ⟨b, j, none⟩ = some v ∧ w.cell? ⟨d, k, none⟩ = some x ∧ w.cell? ⟨d, l, none⟩ = some y) : w.drew.cell? ⟨b, i, none⟩ = some u ∧ w.drew.cell? ⟨b, j, none⟩ = some v ∧ w.drew.cell? ⟨d, k, none⟩ = some x ∧ w.drew.cell? ⟨d, l, none⟩ = some y := h
theorem ruleM_len17 (x y nu de : Int) : (ruleM x y nu de).parts.length ≤ 17 := by
  unfold ruleM; split
  · unfold simpleM; split
    · have h1 := mkMass_len 4 (simpleParts (nsets 4) ((15 : Int) - 2 ^ (2 * x + 1 - y).toNat).toNat nu de)
      have h2 : (simpleParts (nsets 4) ((15 : Int) - 2 ^ (2 * x + 1 - y).toNat).toNat nu de).length = 16 := by rw [simpleParts_len, ns4]
      omega
    · simp [MR.no]
  · simp [MR.no]
set_option maxRecDepth 100000 in
set_option maxHeartbeats 4000000 in
theorem DrawPassOn_any (ao : Option Addr) (n c : Nat) (w : World) (hx : BytesIn w w.heap.size ao n) (hnc : n ≤ c) :
    Calls Tryz.prog 5 #[.slice ao n c] w fun e w' => (∃ s p xs t q ys, e = .returned (.tuple #[.agg #[.int .i64 s, p], .agg #[.int .i64 t, q]]) ∧ Row w' w.heap.size p xs ∧ xs.length ≤ 17 ∧ Row w' w.heap.size q ys ∧ ys.length ≤ 17) ∧ Below w.heap.size w w' := by
  obtain ⟨R, hRe⟩ : ∃ R, w.heap.size + 1 + 1 = R := ⟨_, rfl⟩
  have HX := hid hx
  clear hx
  go_enter Tryz.func5, Tryz.ntmps5
  go_wp2_with fail
  refine (l14OpenR_any ao n c R _ (by simp; exact hRe) (HX.out.on (by (repeat (first | exact Below.refl _ _ | assumption | refine Below.alloc ?_ (by first | omega | (simp <;> omega)) _ | refine Below.setCell ?_ (by first | omega | (simp <;> omega)) _ | refine Below.drew ?_ | refine below_drewN ?_))) (by omega)) hnc).mono ?_; rintro e w1 ⟨rfl, hrd, hb⟩
  have hz : R ≤ w1.heap.size := by have := hb.size; simp at this; omega
  have r0 := hb.cell (p := ⟨w.heap.size, 0, none⟩) (by simp; omega)
  have r1 := hb.cell (p := ⟨w.heap.size, 1, none⟩) (by simp; omega)
  have fr0 := hb.frozen (p := ⟨w.heap.size, 0, none⟩) (by simp; omega)
  have fr1 := hb.frozen (p := ⟨w.heap.size, 1, none⟩) (by simp; omega)
  have q0 := hb.cell (p := ⟨w.heap.size + 1, 0, none⟩) (by simp; omega)
  have q1 := hb.cell (p := ⟨w.heap.size + 1, 1, none⟩) (by simp; omega)
  have fq0 := hb.frozen (p := ⟨w.heap.size + 1, 0, none⟩) (by simp; omega)
  have fq1 := hb.frozen (p := ⟨w.heap.size + 1, 1, none⟩) (by simp; omega)
  simp at r0 r1 fr0 fr1 q0 q1 fq0 fq1
  have hB : Below w.heap.size w w1 := Below.trans (by (repeat (first | exact Below.refl _ _ | assumption | refine Below.alloc ?_ (by first | omega | (simp <;> omega)) _ | refine Below.setCell ?_ (by first | omega | (simp <;> omega)) _ | refine Below.drew ?_ | refine below_drewN ?_))) (hb.mono (by omega))
  have hR1 := hrd.1
  have rb : Bx w1 w.heap.size (.int .i64 0) (.slice none 0 0) := ⟨r0, r1, fr0, fr1, by omega⟩
  have qb : Bx w1 (w.heap.size + 1) (.int .i64 0) (.slice none 0 0) := ⟨q0, q1, fq0, fq1, by omega⟩
  have hRl : w.heap.size + 1 < R := by omega
  clear hb r0 r1 fr0 fr1 q0 q1 fq0 fq1 hRe HX
  obtain ⟨r0, r1, gfr0, gfr1, hrl⟩ := rb
  obtain ⟨q0, q1, gfq0, gfq1, hql⟩ := qb
  have fr0 := And.intro hrl gfr0
  have fr1 := And.intro hrl gfr1
  have fq0 := And.intro hql gfq0
  have fq1 := And.intro hql gfq1
  clear hrl hql
  have hsp := Span.refl R (R + 1) w1
  go_wp2_with fail
  refine (l11Draw_any R _ 2 (by decide) _ hrd (by omega)).mono ?_; rintro e w2 ⟨_, rfl, ⟨s, p, xs, rfl, hrm, hl⟩, hrdn, hs⟩
  clear hrd
  have hrd := hrdn
  clear hrdn
  have ht : Span R (R + 1) w1 w2 := hs
  replace r0 := Span.keep ht r0 (by omega)
  replace r1 := Span.keep ht r1 (by omega)
  replace q0 := Span.keep ht q0 (by omega)
  replace q1 := Span.keep ht q1 (by omega)
  replace fr0 := Span.keepF ht fr0 (by omega)
  replace fr1 := Span.keepF ht fr1 (by omega)
  replace fq0 := Span.keepF ht fq0 (by omega)
  replace fq1 := Span.keepF ht fq1 (by omega)
  replace hsp := hsp.trans ht
  have hZ2 := ht.size
  clear ht hs
  replace gfr0 := fr0.2
  replace gfr1 := fr1.2
  replace gfq0 := fq0.2
  replace gfq1 := fq1.2
  obtain ⟨am, nm, cm, rfl, him⟩ := hrm.ints
  clear him
  have hvm : ∀ b, (Value.slice am nm cm).ownBlock = some b → w1.heap.size ≤ b := fun b e => (hrm.block b e).1
  go_wp2_with fail
  refine (pick_any R _ _ _ (hrd.on (by (repeat (first | exact Below.refl _ _ | assumption | refine Below.alloc ?_ (by first | omega | (simp <;> omega)) _ | refine Below.setCell ?_ (by first | omega | (simp <;> omega)) _ | refine Below.drew ?_ | refine below_drewN ?_)))) (by omega) (by omega)).mono ?_; rintro e w3 ⟨_, rfl, ⟨x, rfl, hx0, hx1⟩, hrdn, hs⟩
  clear hrd
  have hrd := hrdn
  clear hrdn
  have hY3 : w2.heap.size + 1 ≤ w3.heap.size := by have := hs.size; simp at this; omega
  have m0 := Span.keep hs (b := w2.heap.size) (o := 0) (v := .int .i64 s) (by simp) (by omega)
  have fm0 := Span.keepF hs (b := w2.heap.size) (o := 0) ⟨by simp <;> omega, by simp⟩ (by omega)
  have m1 := Span.keep hs (b := w2.heap.size) (o := 1) (v := .slice am nm cm) (by simp) (by omega)
  have fm1 := Span.keepF hs (b := w2.heap.size) (o := 1) ⟨by simp <;> omega, by simp⟩ (by omega)
  have ht : Span R (R + 1) w2 w3 := Span.trans (Span.of_below (by (repeat (first | exact Below.refl _ _ | assumption | refine Below.alloc ?_ (by first | omega | (simp <;> omega)) _ | refine Below.setCell ?_ (by first | omega | (simp <;> omega)) _ | refine Below.drew ?_ | refine below_drewN ?_)))) hs
  replace r0 := Span.keep ht r0 (by omega)
  replace r1 := Span.keep ht r1 (by omega)
  replace q0 := Span.keep ht q0 (by omega)
  replace q1 := Span.keep ht q1 (by omega)
  replace fr0 := Span.keepF ht fr0 (by omega)
  replace fr1 := Span.keepF ht fr1 (by omega)
  replace fq0 := Span.keepF ht fq0 (by omega)
  replace fq1 := Span.keepF ht fq1 (by omega)
  replace hrm := Span.row ht hrm (fun b e => by have := hvm b e; omega)
  replace hsp := hsp.trans ht
  have hZ3 := ht.size
  clear ht hs
  have gfm0 := fm0.2
  have gfm1 := fm1.2
  replace gfr0 := fr0.2
  replace gfr1 := fr1.2
  replace gfq0 := fq0.2
  replace gfq1 := fq1.2
  go_wp2_with fail
  refine (pick_any R _ _ _ hrd (by omega) (by omega)).mono ?_; rintro e w4 ⟨_, rfl, ⟨y, rfl, hy0, hy1⟩, hrdn, hs⟩
  clear hrd
  have hrd := hrdn
  clear hrdn
  have ht : Span R (R + 1) w3 w4 := hs
  replace r0 := Span.keep ht r0 (by omega)
  replace r1 := Span.keep ht r1 (by omega)
  replace q0 := Span.keep ht q0 (by omega)
  replace q1 := Span.keep ht q1 (by omega)
  replace m0 := Span.keep ht m0 (by omega)
  replace m1 := Span.keep ht m1 (by omega)
  replace fr0 := Span.keepF ht fr0 (by omega)
  replace fr1 := Span.keepF ht fr1 (by omega)
  replace fq0 := Span.keepF ht fq0 (by omega)
  replace fq1 := Span.keepF ht fq1 (by omega)
  replace fm0 := Span.keepF ht fm0 (by omega)
  replace fm1 := Span.keepF ht fm1 (by omega)
  replace hrm := Span.row ht hrm (fun b e => by have := hvm b e; omega)
  replace hsp := hsp.trans ht
  have hZ4 := ht.size
  clear ht hs
  replace gfr0 := fr0.2
  replace gfr1 := fr1.2
  replace gfq0 := fq0.2
  replace gfq1 := fq1.2
  replace gfm0 := fm0.2
  replace gfm1 := fm1.2
  go_wp2_with fail
  refine (l3Part_any R _ _ hrd (by omega)).mono ?_; rintro e w5 ⟨_, rfl, ⟨nu, de, rfl⟩, hrdn, hs⟩
  clear hrd
  have hrd := hrdn
  clear hrdn
  have ht : Span R (R + 1) w4 w5 := hs
  replace r0 := Span.keep ht r0 (by omega)
  replace r1 := Span.keep ht r1 (by omega)
  replace q0 := Span.keep ht q0 (by omega)
  replace q1 := Span.keep ht q1 (by omega)
  replace m0 := Span.keep ht m0 (by omega)
  replace m1 := Span.keep ht m1 (by omega)
  replace fr0 := Span.keepF ht fr0 (by omega)
  replace fr1 := Span.keepF ht fr1 (by omega)
  replace fq0 := Span.keepF ht fq0 (by omega)
  replace fq1 := Span.keepF ht fq1 (by omega)
  replace fm0 := Span.keepF ht fm0 (by omega)
  replace fm1 := Span.keepF ht fm1 (by omega)
  replace hrm := Span.row ht hrm (fun b e => by have := hvm b e; omega)
  replace hsp := hsp.trans ht
  have hZ5 := ht.size
  clear ht hs
  replace gfr0 := fr0.2
  replace gfr1 := fr1.2
  replace gfq0 := fq0.2
  replace gfq1 := fq1.2
  replace gfm0 := fm0.2
  replace gfm1 := fm1.2
  go_wp2_with fail
  refine (specRuleMass_any x y nu de _).mono ?_; rintro e w6 ⟨⟨vk, rfl, hrk⟩, hb⟩
  have ht : Below w5.heap.size w5 w6 := hb
  replace r0 := keep ht r0
  replace r1 := keep ht r1
  replace q0 := keep ht q0
  replace q1 := keep ht q1
  replace m0 := keep ht m0
  replace m1 := keep ht m1
  replace fr0 := Span.belowKeepF ht fr0 (by omega)
  replace fr1 := Span.belowKeepF ht fr1 (by omega)
  replace fq0 := Span.belowKeepF ht fq0 (by omega)
  replace fq1 := Span.belowKeepF ht fq1 (by omega)
  replace fm0 := Span.belowKeepF ht fm0 (by omega)
  replace fm1 := Span.belowKeepF ht fm1 (by omega)
  replace hrm := hrm.below ht
  replace hrd := hrd.on ht
  replace hsp := hsp.trans (Span.of_below ht)
  have hZ6 := ht.size
  clear ht hb
  replace gfr0 := fr0.2
  replace gfr1 := fr1.2
  replace gfq0 := fq0.2
  replace gfq1 := fq1.2
  replace gfm0 := fm0.2
  replace gfm1 := fm1.2
  have hlk := ruleM_len17 x y nu de
  generalize (ruleM x y nu de).ok = ok at *
  generalize (ruleM x y nu de).size = sk at *
  generalize (ruleM x y nu de).parts = ks at *
  obtain ⟨ak, nk, ck, rfl, hik⟩ := hrk.ints
  clear hik
  have hvk : ∀ b, (Value.slice ak nk ck).ownBlock = some b → w5.heap.size ≤ b := fun b e => (hrk.block b e).1
  cases ok
  · have rb : Bx _ w.heap.size _ _ := ⟨r0, r1, gfr0, gfr1, fr0.1⟩
    have qb : Bx _ (w.heap.size + 1) _ _ := ⟨q0, q1, gfq0, gfq1, fq0.1⟩
    go_wp2
    obtain ⟨w7, hw7⟩ : ∃ W, w6.alloc (.cells #[.int .i64 sk, .slice ak nk ck] 25) = W := ⟨_, rfl⟩
    rw [hw7]
    have hd : Below w6.heap.size w6 w7 := by rw [← hw7]; (repeat (first | exact Below.refl _ _ | assumption | refine Below.alloc ?_ (by first | omega | (simp <;> omega)) _ | refine Below.setCell ?_ (by first | omega | (simp <;> omega)) _ | refine Below.drew ?_ | refine below_drewN ?_))
    replace m0 := keep hd m0
    replace m1 := keep hd m1
    replace hrm := hrm.below hd
    replace hrd := hrd.on hd
    replace hsp := hsp.trans (Span.of_below hd)
    replace rb := rb.below hd
    replace qb := qb.below hd
    have hzl := hd.size
    clear hd hw7 r0 r1 q0 q1 gfr0 gfr1 gfq0 gfq1 fr0 fr1 fq0 fq1
    obtain ⟨r0, r1, gfr0, gfr1, hrl⟩ := rb
    obtain ⟨q0, q1, gfq0, gfq1, hql⟩ := qb
    have rb : Bx _ w.heap.size _ _ := ⟨r0, r1, gfr0, gfr1, hrl⟩
    have qb : Bx _ (w.heap.size + 1) _ _ := ⟨q0, q1, gfq0, gfq1, hql⟩
    have hB3 := Span.below hB hB.size hsp (by omega)
    have hmx : w2.heap.size < w7.heap.size := World.block_lt_of_cell? _ _ m0
    have hS3 : w7.cell? ⟨w2.heap.size, 0, none⟩ = some (.int .i64 s) ∧ w7.cell? ⟨w2.heap.size, 1, none⟩ = some (.slice am nm cm) ∧ w7.heap.size ≤ w7.heap.size := ⟨m0, m1, Nat.le_refl _⟩
    refine wp_region_joinF (ι := Value) (fun a i => Act.put (Act.put (Act.put a (some 30) (.agg #[.int .i64 s, .slice am nm cm])) (some 31) (.pointer (some ⟨R, 0, none⟩))) (some 32) i) (fun i W => ∃ t ay ny cy ys, i = .agg #[.int .i64 t, .slice ay ny cy] ∧ Row W (w.heap.size + 1 + 1) (.slice am nm cm) xs ∧ Row W (w.heap.size + 1 + 1) (.slice ay ny cy) ys ∧ ys.length ≤ 17 ∧ Bx W w.heap.size (.int .i64 s) (.slice am nm cm) ∧ Bx W (w.heap.size + 1) (.int .i64 t) (.slice ay ny cy) ∧ Below w.heap.size w W) ?_ ?_
    · go_region_held3 (fun w' => w'.cell? ⟨w2.heap.size, 0, none⟩ = some (.int .i64 s) ∧ w'.cell? ⟨w2.heap.size, 1, none⟩ = some (.slice am nm cm) ∧ w7.heap.size ≤ w'.heap.size) (first | ((repeat (first | (with_reducible assumption) | (with_reducible refine kept2_set ?_ _ _ (by simp <;> omega)) | (with_reducible refine kept2_alloc hmx ?_ _) | (with_reducible refine kept2_drew ?_))); done)) (first | (go_at_call 24; refine (l11Some_any R _ w7.drew (hrd.on (by (repeat (first | exact Below.refl _ _ | assumption | refine Below.alloc ?_ (by first | omega | (simp <;> omega)) _ | refine Below.setCell ?_ (by first | omega | (simp <;> omega)) _ | refine Below.drew ?_ | refine below_drewN ?_)))) (by omega)).mono ?_; rintro e wy ⟨_, rfl, ⟨t, py, ys, rfl, hry, hly⟩, hrdy, hsy⟩; obtain ⟨ay, ny, cy, rfl, hiy⟩ := hry.ints; have ht : Span R (R + 1) w7 wy := Span.trans (Span.of_below (by (repeat (first | exact Below.refl _ _ | assumption | refine Below.alloc ?_ (by first | omega | (simp <;> omega)) _ | refine Below.setCell ?_ (by first | omega | (simp <;> omega)) _ | refine Below.drew ?_ | refine below_drewN ?_)))) hsy; have hSy := kept2_span hS3 ht (by omega); have k0 := hSy.1; have k1 := hSy.2.1; have ksz := hSy.2.2; have hrmy := Span.row ht hrm (fun b e => by have := hvm b e; omega); have rby := rb.span ht (by omega); have qby := qb.span ht (by omega); have s0 := rby.c0; have s1 := rby.c1; have s2 := rby.f0; have s3 := rby.f1; have s4 := rby.lt; have u0 := qby.c0; have u1 := qby.c1; have u2 := qby.f0; have u3 := qby.f1; have u4 := qby.lt; have hBy := Span.below hB3 hB3.size ht (by omega)))
      have hvy : ∀ b, (Value.slice ay ny cy).ownBlock = some b → w7.heap.size ≤ b := fun b e => (hry.block b e).1
      refine ⟨_, rfl, t, ay, ny, cy, ys, rfl, ?_, ?_, hly, ?_, ?_, by (repeat (first | exact Below.refl _ _ | assumption | refine Below.alloc ?_ (by first | omega | (simp <;> omega)) _ | refine Below.setCell ?_ (by first | omega | (simp <;> omega)) _ | refine Below.drew ?_ | refine below_drewN ?_))⟩
      · exact ((hrmy.mono (by omega)).put2 (fun k e => by have := hvm k e; omega)).put2 (fun k e => by have := hvm k e; omega)
      · exact ((hry.mono (by first | omega | (simp <;> omega))).put2 (fun k e => by have := hvy k e; omega)).put2 (fun k e => by have := hvy k e; omega)
      · exact (rby.put2 _ _).of_block (World.setCell2_other _ _ _ _ _ (by omega)) (by simp)
      · exact (qby.of_block (World.setCell2_other _ _ _ _ _ (by omega)) (by simp)).put2 _ _
    · rintro i wz ⟨t, ay, ny, cy, ys, rfl, hrm, hry, hly, rb, qb, hB4⟩
      clear hS3 m0 m1 hmx r0 r1 gfr0 gfr1 q0 q1 gfq0 gfq1 hrd
      obtain ⟨r0, r1, fr0, fr1, hrl4⟩ := rb
      obtain ⟨q0, q1, fq0, fq1, hql4⟩ := qb
      go_wp2
      refine bodyPost_ret (v := .tuple #[.agg #[.int .i64 s, .slice am nm cm], .agg #[.int .i64 t, .slice ay ny cy]]) (by simp [results, Tryz.results5, go_sem, r0, r1, q0, q1]) rfl ⟨⟨_, _, xs, _, _, ys, rfl, ?_, hl, ?_, hly⟩, ?_⟩
      · exact (hrm.below (by (repeat (first | exact Below.refl _ _ | assumption | refine Below.alloc ?_ (by first | omega | (simp <;> omega)) _ | refine Below.setCell ?_ (by first | omega | (simp <;> omega)) _ | refine Below.drew ?_ | refine below_drewN ?_)))).mono (by omega)
      · exact (hry.below (by (repeat (first | exact Below.refl _ _ | assumption | refine Below.alloc ?_ (by first | omega | (simp <;> omega)) _ | refine Below.setCell ?_ (by first | omega | (simp <;> omega)) _ | refine Below.drew ?_ | refine below_drewN ?_)))).mono (by omega)
      · (repeat (first | exact Below.refl _ _ | assumption | refine Below.alloc ?_ (by first | omega | (simp <;> omega)) _ | refine Below.setCell ?_ (by first | omega | (simp <;> omega)) _ | refine Below.drew ?_ | refine below_drewN ?_))
  · go_wp2_with fail
    refine (pick_any R _ _ _ (hrd.on (by (repeat (first | exact Below.refl _ _ | assumption | refine Below.alloc ?_ (by first | omega | (simp <;> omega)) _ | refine Below.setCell ?_ (by first | omega | (simp <;> omega)) _ | refine Below.drew ?_ | refine below_drewN ?_)))) (by omega) (by omega)).mono ?_; rintro e w7 ⟨_, rfl, ⟨z, rfl, hz0, hz1⟩, hrdn, hs⟩
    clear hrd
    have hrd := hrdn
    clear hrdn
    have hY7 : w6.heap.size + 1 ≤ w7.heap.size := by have := hs.size; simp at this; omega
    have k0 := Span.keep hs (b := w6.heap.size) (o := 0) (v := .int .i64 sk) (by simp) (by omega)
    have fk0 := Span.keepF hs (b := w6.heap.size) (o := 0) ⟨by simp <;> omega, by simp⟩ (by omega)
    have k1 := Span.keep hs (b := w6.heap.size) (o := 1) (v := .slice ak nk ck) (by simp) (by omega)
    have fk1 := Span.keepF hs (b := w6.heap.size) (o := 1) ⟨by simp <;> omega, by simp⟩ (by omega)
    have ht : Span R (R + 1) w6 w7 := Span.trans (Span.of_below (by (repeat (first | exact Below.refl _ _ | assumption | refine Below.alloc ?_ (by first | omega | (simp <;> omega)) _ | refine Below.setCell ?_ (by first | omega | (simp <;> omega)) _ | refine Below.drew ?_ | refine below_drewN ?_)))) hs
    replace r0 := Span.keep ht r0 (by omega)
    replace r1 := Span.keep ht r1 (by omega)
    replace q0 := Span.keep ht q0 (by omega)
    replace q1 := Span.keep ht q1 (by omega)
    replace m0 := Span.keep ht m0 (by omega)
    replace m1 := Span.keep ht m1 (by omega)
    replace fr0 := Span.keepF ht fr0 (by omega)
    replace fr1 := Span.keepF ht fr1 (by omega)
    replace fq0 := Span.keepF ht fq0 (by omega)
    replace fq1 := Span.keepF ht fq1 (by omega)
    replace fm0 := Span.keepF ht fm0 (by omega)
    replace fm1 := Span.keepF ht fm1 (by omega)
    replace hrm := Span.row ht hrm (fun b e => by have := hvm b e; omega)
    replace hrk := Span.row ht hrk (fun b e => by have := hvk b e; omega)
    replace hsp := hsp.trans ht
    have hZ7 := ht.size
    clear ht hs
    have gfk0 := fk0.2
    have gfk1 := fk1.2
    replace gfr0 := fr0.2
    replace gfr1 := fr1.2
    replace gfq0 := fq0.2
    replace gfq1 := fq1.2
    replace gfm0 := fm0.2
    replace gfm1 := fm1.2
    by_cases e0 : z = 0
    · subst e0
      have rb : Bx _ w.heap.size _ _ := ⟨r0, r1, gfr0, gfr1, fr0.1⟩
      have qb : Bx _ (w.heap.size + 1) _ _ := ⟨q0, q1, gfq0, gfq1, fq0.1⟩
      have hB3 := Span.below hB hB.size hsp (by omega)
      clear r0 r1 gfr0 gfr1 q0 q1 gfq0 gfq1 fr0 fr1 fq0 fq1
      obtain ⟨r0, r1, gfr0, gfr1, hrl⟩ := rb
      obtain ⟨q0, q1, gfq0, gfq1, hql⟩ := qb
      have rb : Bx _ w.heap.size _ _ := ⟨r0, r1, gfr0, gfr1, hrl⟩
      have qb : Bx _ (w.heap.size + 1) _ _ := ⟨q0, q1, gfq0, gfq1, hql⟩
      go_wp2_with fail
      have hS4 := And.intro m0 (And.intro m1 (And.intro k0 k1))
      go_region_held3 (fun w' => w'.cell? ⟨w2.heap.size, 0, none⟩ = some (.int .i64 s) ∧ w'.cell? ⟨w2.heap.size, 1, none⟩ = some (.slice am nm cm) ∧ w'.cell? ⟨w6.heap.size, 0, none⟩ = some (.int .i64 sk) ∧ w'.cell? ⟨w6.heap.size, 1, none⟩ = some (.slice ak nk ck)) (first | ((repeat (first | (with_reducible assumption) | (with_reducible refine kept4_set ?_ _ _ (by simp <;> omega)) | (with_reducible refine kept4_drew ?_))); done)) (first | fail)
      clear m0 m1 k0 k1 hrd hsp hS4
      have rb2 := (rb.put2 (.int .i64 s) (.slice am nm cm)).of_block (World.setCell2_other _ (w.heap.size + 1) _ (.int .i64 sk) (.slice ak nk ck) (by omega)) (by simp)
      have qb2 := (qb.of_block (World.setCell2_other _ w.heap.size _ (.int .i64 s) (.slice am nm cm) (by omega)) (by simp)).put2 (.int .i64 sk) (.slice ak nk ck)
      replace hrm := ((hrm.mono (base' := w.heap.size + 1 + 1) (by omega)).put2 (b := w.heap.size) (x := .int .i64 s) (y := .slice am nm cm) (fun k e => by have := hvm k e; omega)).put2 (b := w.heap.size + 1) (x := .int .i64 sk) (y := .slice ak nk ck) (fun k e => by have := hvm k e; omega)
      replace hrk := ((hrk.mono (base' := w.heap.size + 1 + 1) (by omega)).put2 (b := w.heap.size) (x := .int .i64 s) (y := .slice am nm cm) (fun k e => by have := hvk k e; omega)).put2 (b := w.heap.size + 1) (x := .int .i64 sk) (y := .slice ak nk ck) (fun k e => by have := hvk k e; omega)
      have r20 := rb2.c0
      have r21 := rb2.c1
      have q20 := qb2.c0
      have q21 := qb2.c1
      go_wp2
      refine bodyPost_ret (v := .tuple #[.agg #[.int .i64 s, .slice am nm cm], .agg #[.int .i64 sk, .slice ak nk ck]]) (by simp [results, Tryz.results5, go_sem, r20, r21, q20, q21]) rfl ⟨⟨_, _, xs, _, _, ks, rfl, ?_, hl, ?_, hlk⟩, ?_⟩
      · exact hrm.mono (by omega)
      · exact hrk.mono (by omega)
      · (repeat (first | exact Below.refl _ _ | assumption | refine Below.alloc ?_ (by first | omega | (simp <;> omega)) _ | refine Below.setCell ?_ (by first | omega | (simp <;> omega)) _ | refine Below.drew ?_ | refine below_drewN ?_))
    · have hz0 : (z == 0) = false := by simpa using e0
      have rb : Bx _ w.heap.size _ _ := ⟨r0, r1, gfr0, gfr1, fr0.1⟩
      have qb : Bx _ (w.heap.size + 1) _ _ := ⟨q0, q1, gfq0, gfq1, fq0.1⟩
      go_wp2
      have hB3 := Span.below hB hB.size hsp (by omega)
      have hmx : w2.heap.size < w7.heap.size := World.block_lt_of_cell? _ _ m0
      have hS3 : w7.cell? ⟨w2.heap.size, 0, none⟩ = some (.int .i64 s) ∧ w7.cell? ⟨w2.heap.size, 1, none⟩ = some (.slice am nm cm) ∧ w7.heap.size ≤ w7.heap.size := ⟨m0, m1, Nat.le_refl _⟩
      refine wp_region_joinF (ι := Value) (fun a i => Act.put (Act.put (Act.put a (some 30) (.agg #[.int .i64 s, .slice am nm cm])) (some 31) (.pointer (some ⟨R, 0, none⟩))) (some 32) i) (fun i W => ∃ t ay ny cy ys, i = .agg #[.int .i64 t, .slice ay ny cy] ∧ Row W (w.heap.size + 1 + 1) (.slice am nm cm) xs ∧ Row W (w.heap.size + 1 + 1) (.slice ay ny cy) ys ∧ ys.length ≤ 17 ∧ Bx W w.heap.size (.int .i64 s) (.slice am nm cm) ∧ Bx W (w.heap.size + 1) (.int .i64 t) (.slice ay ny cy) ∧ Below w.heap.size w W) ?_ ?_
      · go_region_held3 (fun w' => w'.cell? ⟨w2.heap.size, 0, none⟩ = some (.int .i64 s) ∧ w'.cell? ⟨w2.heap.size, 1, none⟩ = some (.slice am nm cm) ∧ w7.heap.size ≤ w'.heap.size) (first | ((repeat (first | (with_reducible assumption) | (with_reducible refine kept2_set ?_ _ _ (by simp <;> omega)) | (with_reducible refine kept2_alloc hmx ?_ _) | (with_reducible refine kept2_drew ?_))); done)) (first | (go_at_call 24; refine (l11Some_any R _ w7.drew (hrd.on (by (repeat (first | exact Below.refl _ _ | assumption | refine Below.alloc ?_ (by first | omega | (simp <;> omega)) _ | refine Below.setCell ?_ (by first | omega | (simp <;> omega)) _ | refine Below.drew ?_ | refine below_drewN ?_)))) (by omega)).mono ?_; rintro e wy ⟨_, rfl, ⟨t, py, ys, rfl, hry, hly⟩, hrdy, hsy⟩; obtain ⟨ay, ny, cy, rfl, hiy⟩ := hry.ints; have ht : Span R (R + 1) w7 wy := Span.trans (Span.of_below (by (repeat (first | exact Below.refl _ _ | assumption | refine Below.alloc ?_ (by first | omega | (simp <;> omega)) _ | refine Below.setCell ?_ (by first | omega | (simp <;> omega)) _ | refine Below.drew ?_ | refine below_drewN ?_)))) hsy; have hSy := kept2_span hS3 ht (by omega); have k0 := hSy.1; have k1 := hSy.2.1; have ksz := hSy.2.2; have hrmy := Span.row ht hrm (fun b e => by have := hvm b e; omega); have rby := rb.span ht (by omega); have qby := qb.span ht (by omega); have s0 := rby.c0; have s1 := rby.c1; have s2 := rby.f0; have s3 := rby.f1; have s4 := rby.lt; have u0 := qby.c0; have u1 := qby.c1; have u2 := qby.f0; have u3 := qby.f1; have u4 := qby.lt; have hBy := Span.below hB3 hB3.size ht (by omega)))
        have hvy : ∀ b, (Value.slice ay ny cy).ownBlock = some b → w7.heap.size ≤ b := fun b e => (hry.block b e).1
        refine ⟨_, rfl, t, ay, ny, cy, ys, rfl, ?_, ?_, hly, ?_, ?_, by (repeat (first | exact Below.refl _ _ | assumption | refine Below.alloc ?_ (by first | omega | (simp <;> omega)) _ | refine Below.setCell ?_ (by first | omega | (simp <;> omega)) _ | refine Below.drew ?_ | refine below_drewN ?_))⟩
        · exact ((hrmy.mono (by omega)).put2 (fun k e => by have := hvm k e; omega)).put2 (fun k e => by have := hvm k e; omega)
        · exact ((hry.mono (by first | omega | (simp <;> omega))).put2 (fun k e => by have := hvy k e; omega)).put2 (fun k e => by have := hvy k e; omega)
        · exact (rby.put2 _ _).of_block (World.setCell2_other _ _ _ _ _ (by omega)) (by simp)
        · exact (qby.of_block (World.setCell2_other _ _ _ _ _ (by omega)) (by simp)).put2 _ _
      · rintro i wz ⟨t, ay, ny, cy, ys, rfl, hrm, hry, hly, rb, qb, hB4⟩
        clear hS3 m0 m1 hmx r0 r1 gfr0 gfr1 q0 q1 gfq0 gfq1 hrd
        obtain ⟨r0, r1, fr0, fr1, hrl4⟩ := rb
        obtain ⟨q0, q1, fq0, fq1, hql4⟩ := qb
        go_wp2
        refine bodyPost_ret (v := .tuple #[.agg #[.int .i64 s, .slice am nm cm], .agg #[.int .i64 t, .slice ay ny cy]]) (by simp [results, Tryz.results5, go_sem, r0, r1, q0, q1]) rfl ⟨⟨_, _, xs, _, _, ys, rfl, ?_, hl, ?_, hly⟩, ?_⟩
        · exact (hrm.below (by (repeat (first | exact Below.refl _ _ | assumption | refine Below.alloc ?_ (by first | omega | (simp <;> omega)) _ | refine Below.setCell ?_ (by first | omega | (simp <;> omega)) _ | refine Below.drew ?_ | refine below_drewN ?_)))).mono (by omega)
        · exact (hry.below (by (repeat (first | exact Below.refl _ _ | assumption | refine Below.alloc ?_ (by first | omega | (simp <;> omega)) _ | refine Below.setCell ?_ (by first | omega | (simp <;> omega)) _ | refine Below.drew ?_ | refine below_drewN ?_)))).mono (by omega)
        · (repeat (first | exact Below.refl _ _ | assumption | refine Below.alloc ?_ (by first | omega | (simp <;> omega)) _ | refine Below.setCell ?_ (by first | omega | (simp <;> omega)) _ | refine Below.drew ?_ | refine below_drewN ?_))
end Go.Proofs.YtdkgomlpadeleaaGreatDoor
