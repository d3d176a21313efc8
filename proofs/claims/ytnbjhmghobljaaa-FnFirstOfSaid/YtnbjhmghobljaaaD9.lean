/- What the reference's drawing functions draw: some value, in new memory (printed by drawgen.py). -/
import Derived.Test.YtnbjhmghobljaaaD8
import Derived.Test.YtnbjhmghobljaaaK2
import Derived.Test.YtnbjhmghobljaaaS10
import Derived.Deep.RegionHeld3
set_option linter.unusedSimpArgs false
set_option linter.unusedVariables false
namespace Go.Proofs.Ytnbjhmghobljaaa
open Go.RowKit
theorem pairM_len17 (s : Int) (xs : List Int) (u : Int) (ys : List Int) : (pairM s xs u ys).parts.length ≤ 17 := by
  unfold pairM; split
  · have := togM_len (fun a b => a &&& b) (extendM false s xs).size (extendM false s xs).parts (extendM true u ys).size (extendM true u ys).parts; omega
  · simp [MR.no]
set_option maxRecDepth 100000 in
set_option maxHeartbeats 2000000 in
theorem l11Some_any (R P : Nat) (w : World) (hr : Rd w R P) (hP : P ≤ 200000000) :
    Calls Try.prog 62 #[.pointer (some ⟨R, 0, none⟩)] w (Drew R (P + 200) w (SomeMass w.heap.size)) := by
  have hR := hr.1
  have hrd := hr
  clear hr
  have hsp := Span.refl R (R + 1) w
  go_enter Try.func62, Try.ntmps62
  go_wp2_with fail
  refine (pick_any R _ _ _ (hrd.on (by (repeat (first | exact Below.refl _ _ | assumption | refine Below.alloc ?_ (by first | omega | (simp <;> omega)) _ | refine Below.setCell ?_ (by first | omega | (simp <;> omega)) _ | refine Below.drew ?_ | refine below_drewN ?_)))) (by omega) (by omega)).mono ?_; rintro e w1 ⟨_, rfl, ⟨x, rfl, hx0, hx1⟩, hrdn, hs⟩
  clear hrd
  have hrd := hrdn
  clear hrdn
  have hY1 : w.heap.size + 1 ≤ w1.heap.size := by have := hs.size; simp at this; omega
  have r0 := Span.keep hs (b := w.heap.size) (o := 0) (v := .int .i64 0) (by simp) (by omega)
  have fr0 := Span.keepF hs (b := w.heap.size) (o := 0) ⟨by simp <;> omega, by simp⟩ (by omega)
  have r1 := Span.keep hs (b := w.heap.size) (o := 1) (v := .slice none 0 0) (by simp) (by omega)
  have fr1 := Span.keepF hs (b := w.heap.size) (o := 1) ⟨by simp <;> omega, by simp⟩ (by omega)
  have ht : Span R (R + 1) w w1 := Span.trans (Span.of_below (by (repeat (first | exact Below.refl _ _ | assumption | refine Below.alloc ?_ (by first | omega | (simp <;> omega)) _ | refine Below.setCell ?_ (by first | omega | (simp <;> omega)) _ | refine Below.drew ?_ | refine below_drewN ?_)))) hs
  replace hsp := hsp.trans ht
  have hZ1 := ht.size
  clear ht hs
  have gfr0 := fr0.2
  have gfr1 := fr1.2
  by_cases e0 : x = 0
  · subst e0
    go_wp2_with fail
    refine (l3Draw_any R _ 2 _ hrd (by omega) (by decide)).mono ?_; rintro e w2 ⟨_, rfl, ⟨p, xs, rfl, hrm, hl, hok⟩, hrdn, hs⟩
    clear hrd
    have hrd := hrdn
    clear hrdn
    have ht : Span R (R + 1) w1 w2 := hs
    replace r0 := Span.keep ht r0 (by omega)
    replace r1 := Span.keep ht r1 (by omega)
    replace fr0 := Span.keepF ht fr0 (by omega)
    replace fr1 := Span.keepF ht fr1 (by omega)
    replace hsp := hsp.trans ht
    have hZ2 := ht.size
    clear ht hs
    replace gfr0 := fr0.2
    replace gfr1 := fr1.2
    obtain ⟨am, nm, cm, rfl, him⟩ := hrm.ints
    clear him
    have hvm : ∀ b, (Value.slice am nm cm).ownBlock = some b → w1.heap.size ≤ b := fun b e => (hrm.block b e).1
    go_wp2
    obtain ⟨w3, hw3⟩ : ∃ W, w2.alloc (.cells #[.int .i64 2, .slice am nm cm] 25) = W := ⟨_, rfl⟩
    rw [hw3]
    have hd : Below w2.heap.size w2 w3 := by rw [← hw3]; (repeat (first | exact Below.refl _ _ | assumption | refine Below.alloc ?_ (by first | omega | (simp <;> omega)) _ | refine Below.setCell ?_ (by first | omega | (simp <;> omega)) _ | refine Below.drew ?_ | refine below_drewN ?_))
    have m0 : w3.cell? ⟨w2.heap.size, 0, none⟩ = some (.int .i64 2) := by rw [← hw3]; simp
    have m1 : w3.cell? ⟨w2.heap.size, 1, none⟩ = some (.slice am nm cm) := by rw [← hw3]; simp
    have hN : w2.heap.size + 1 = w3.heap.size := by rw [← hw3]; simp
    replace hrm := hrm.below hd
    replace hrd := hrd.on hd
    replace hsp := hsp.trans (Span.of_below hd)
    have rb : Bx w3 w.heap.size _ _ := (show Bx w2 w.heap.size _ _ from ⟨r0, r1, gfr0, gfr1, fr0.1⟩).below hd
    clear hd hw3 r0 r1 fr0 fr1 gfr0 gfr1
    have hmx : w2.heap.size < w3.heap.size := by omega
    refine wp_region_joinF (ι := Value × Value × Bool × Nat) (fun a i => (Act.put (Act.put (Act.put (Act.put (Act.put (Act.put (Act.put (Act.put (Act.put a (some 12) (.agg #[.int .i64 2, .slice am nm cm])) (some 13) (.pointer (some ⟨R, 0, none⟩))) (some 14) (i.1)) (some 15) (.tuple #[i.2.1, .bool i.2.2.1])) (some 11) (.tuple #[i.2.1, .bool i.2.2.1])) (some 16) (i.2.1)) (some 17) (.bool i.2.2.1)) (some 4) (.pointer (some ⟨i.2.2.2, 0, none⟩))) (some 5) (.bool i.2.2.1))) (fun i W => (∃ z a n c zs, i.2.1 = .agg #[.int .i64 z, .slice a n c] ∧ Row W (w.heap.size + 1) (.slice a n c) zs ∧ zs.length ≤ 17 ∧ Bx W i.2.2.2 (.int .i64 z) (.slice a n c)) ∧ w2.heap.size < i.2.2.2 ∧ Bx W w.heap.size (.int .i64 0) (.slice none 0 0) ∧ Rd W R (P + 100) ∧ Span R (R + 1) w W) ?_ ?_
    · have hS3 : w3.cell? ⟨w2.heap.size, 0, none⟩ = some (.int .i64 2) ∧ w3.cell? ⟨w2.heap.size, 1, none⟩ = some (.slice am nm cm) ∧ w3.heap.size ≤ w3.heap.size := ⟨m0, m1, Nat.le_refl _⟩
      go_region_held3 (fun w' => w'.cell? ⟨w2.heap.size, 0, none⟩ = some (.int .i64 2) ∧ w'.cell? ⟨w2.heap.size, 1, none⟩ = some (.slice am nm cm) ∧ w3.heap.size ≤ w'.heap.size) (first | ((repeat (first | (with_reducible assumption) | (with_reducible refine kept2_set ?_ _ _ (by simp <;> omega)) | (with_reducible refine kept2_alloc hmx ?_ _) | (with_reducible refine kept2_drew ?_))); done)) (first | (go_at_call 52; refine (l3Draw_any R _ 2 w3.drew (hrd.on (by (repeat (first | exact Below.refl _ _ | assumption | refine Below.alloc ?_ (by first | omega | (simp <;> omega)) _ | refine Below.setCell ?_ (by first | omega | (simp <;> omega)) _ | refine Below.drew ?_ | refine below_drewN ?_)))) (by omega) (by decide)).mono ?_; rintro e wy ⟨_, rfl, ⟨py, ys, rfl, hry, hly, hoky⟩, hrdy, hsy⟩; obtain ⟨ay, ny, cy, rfl, hiy⟩ := hry.ints; have ht : Span R (R + 1) w3 wy := Span.trans (Span.of_below (by (repeat (first | exact Below.refl _ _ | assumption | refine Below.alloc ?_ (by first | omega | (simp <;> omega)) _ | refine Below.setCell ?_ (by first | omega | (simp <;> omega)) _ | refine Below.drew ?_ | refine below_drewN ?_)))) hsy; have hSy := kept2_span hS3 ht (by omega); have k0 := hSy.1; have k1 := hSy.2.1; have ksz := hSy.2.2; have hrmy := Span.row ht hrm (fun b e => by have := hvm b e; omega); have rby := rb.span ht (by omega); have hspy := hsp.trans ht) | (go_at_call 52; refine (l3Draw_any R _ 2 (w3.alloc (.cells #[.int .i64 0, .slice none 0 0] 25)).drew (hrd.on (by (repeat (first | exact Below.refl _ _ | assumption | refine Below.alloc ?_ (by first | omega | (simp <;> omega)) _ | refine Below.setCell ?_ (by first | omega | (simp <;> omega)) _ | refine Below.drew ?_ | refine below_drewN ?_)))) (by omega) (by decide)).mono ?_; rintro e wy ⟨_, rfl, ⟨py, ys, rfl, hry, hly, hoky⟩, hrdy, hsy⟩; obtain ⟨ay, ny, cy, rfl, hiy⟩ := hry.ints; have ht : Span R (R + 1) w3 wy := Span.trans (Span.of_below (by (repeat (first | exact Below.refl _ _ | assumption | refine Below.alloc ?_ (by first | omega | (simp <;> omega)) _ | refine Below.setCell ?_ (by first | omega | (simp <;> omega)) _ | refine Below.drew ?_ | refine below_drewN ?_)))) hsy; have hSy := kept2_span hS3 ht (by omega); have k0 := hSy.1; have k1 := hSy.2.1; have ksz := hSy.2.2; have hrmy := Span.row ht hrm (fun b e => by have := hvm b e; omega); have rby := rb.span ht (by omega); have hspy := hsp.trans ht; have kb0 := Span.keep hsy (b := w3.heap.size) (o := 0) (v := .int .i64 0) (by simp) (by omega); have kb1 := Span.keep hsy (b := w3.heap.size) (o := 1) (v := .slice none 0 0) (by simp) (by omega); have kf0 := (Span.keepF hsy (b := w3.heap.size) (o := 0) ⟨by simp, by simp⟩ (by omega)).2; have kf1 := (Span.keepF hsy (b := w3.heap.size) (o := 1) ⟨by simp, by simp⟩ (by omega)).2; have hlz : w3.heap.size < wy.heap.size := (by have h_z := hsy.size; simp at h_z; omega)) | (go_at_call 103; refine (specPairMasses_any 2 2 _ _ _ _ _ _ xs ys wy (hrmy.view.below (by (repeat (first | exact Below.refl _ _ | assumption | refine Below.alloc ?_ (by first | omega | (simp <;> omega)) _ | refine Below.setCell ?_ (by first | omega | (simp <;> omega)) _ | refine Below.drew ?_ | refine below_drewN ?_)))) (hry.view.below (by (repeat (first | exact Below.refl _ _ | assumption | refine Below.alloc ?_ (by first | omega | (simp <;> omega)) _ | refine Below.setCell ?_ (by first | omega | (simp <;> omega)) _ | refine Below.drew ?_ | refine below_drewN ?_))))).mono ?_; rintro e wz ⟨⟨vz, rfl, hrz⟩, hbz⟩; have hlz17 := pairM_len17 2 xs 2 ys; obtain ⟨az, nz, cz, rfl, hiz⟩ := hrz.ints; have hdz : Below wy.heap.size wy wz := Below.trans (by (repeat (first | exact Below.refl _ _ | assumption | refine Below.alloc ?_ (by first | omega | (simp <;> omega)) _ | refine Below.setCell ?_ (by first | omega | (simp <;> omega)) _ | refine Below.drew ?_ | refine below_drewN ?_))) (hbz.mono (by simp <;> omega)); have hSz := kept2_below hSy hdz; have z0 := hSz.1; have z1 := hSz.2.1; have hzsz := hSz.2.2; have hzy := hdz.size; have rbz := rby.below hdz; have hrdz := hrdy.on hdz; have hspz := hspy.on (hdz.mono (by omega)); generalize (pairM 2 xs 2 ys).ok = oz at *; generalize (pairM 2 xs 2 ys).size = sz at *; generalize (pairM 2 xs 2 ys).parts = zs at *; have hvz : ∀ b, (Value.slice az nz cz).ownBlock = some b → w3.heap.size < b := (fun b e => (by have h_q := (hrz.block b e).1; omega)); have bxz : Bx wz w3.heap.size _ _ := (show Bx wy w3.heap.size _ _ from ⟨kb0, kb1, kf0, kf1, hlz⟩).below hdz; have b0 := bxz.c0; have b1 := bxz.c1; have b2 := bxz.f0; have b3 := bxz.f1; have b4 := bxz.lt) | (go_at_call 103; refine (specPairMasses_any 2 2 _ _ _ _ _ _ xs ys (wy.alloc (.cells #[.int .i64 0, .slice none 0 0] 25)) (hrmy.view.below (by (repeat (first | exact Below.refl _ _ | assumption | refine Below.alloc ?_ (by first | omega | (simp <;> omega)) _ | refine Below.setCell ?_ (by first | omega | (simp <;> omega)) _ | refine Below.drew ?_ | refine below_drewN ?_)))) (hry.view.below (by (repeat (first | exact Below.refl _ _ | assumption | refine Below.alloc ?_ (by first | omega | (simp <;> omega)) _ | refine Below.setCell ?_ (by first | omega | (simp <;> omega)) _ | refine Below.drew ?_ | refine below_drewN ?_))))).mono ?_; rintro e wz ⟨⟨vz, rfl, hrz⟩, hbz⟩; have hlz17 := pairM_len17 2 xs 2 ys; obtain ⟨az, nz, cz, rfl, hiz⟩ := hrz.ints; have hdz : Below wy.heap.size wy wz := Below.trans (by (repeat (first | exact Below.refl _ _ | assumption | refine Below.alloc ?_ (by first | omega | (simp <;> omega)) _ | refine Below.setCell ?_ (by first | omega | (simp <;> omega)) _ | refine Below.drew ?_ | refine below_drewN ?_))) (hbz.mono (by simp <;> omega)); have hSz := kept2_below hSy hdz; have z0 := hSz.1; have z1 := hSz.2.1; have hzsz := hSz.2.2; have hzy := hdz.size; have rbz := rby.below hdz; have hrdz := hrdy.on hdz; have hspz := hspy.on (hdz.mono (by omega)); generalize (pairM 2 xs 2 ys).ok = oz at *; generalize (pairM 2 xs 2 ys).size = sz at *; generalize (pairM 2 xs 2 ys).parts = zs at *; have hnb : wy.heap.size < wz.heap.size := (by have h_z := hbz.size; simp at h_z; omega); have hvz : ∀ b, (Value.slice az nz cz).ownBlock = some b → wy.heap.size < b := (fun b e => (by have h_q := (hrz.block b e).1; simp at h_q; omega)); have bxz : Bx wz wy.heap.size _ _ := ⟨keep hbz (a := ⟨wy.heap.size, 0, none⟩) (v := .int .i64 0) (by simp), keep hbz (a := ⟨wy.heap.size, 1, none⟩) (v := .slice none 0 0) (by simp), keepF hbz (a := ⟨wy.heap.size, 0, none⟩) (v := .int .i64 0) (by simp) (by simp), keepF hbz (a := ⟨wy.heap.size, 1, none⟩) (v := .slice none 0 0) (by simp) (by simp), hnb⟩; have b0 := bxz.c0; have b1 := bxz.c1; have b2 := bxz.f0; have b3 := bxz.f1; have b4 := bxz.lt) | (go_at_call 103; refine (specPairMasses_any 2 2 _ _ _ _ _ _ xs ys wy (hrmy.view.below (by (repeat (first | exact Below.refl _ _ | assumption | refine Below.alloc ?_ (by first | omega | (simp <;> omega)) _ | refine Below.setCell ?_ (by first | omega | (simp <;> omega)) _ | refine Below.drew ?_ | refine below_drewN ?_)))) (hry.view.below (by (repeat (first | exact Below.refl _ _ | assumption | refine Below.alloc ?_ (by first | omega | (simp <;> omega)) _ | refine Below.setCell ?_ (by first | omega | (simp <;> omega)) _ | refine Below.drew ?_ | refine below_drewN ?_))))).mono ?_; rintro e wz ⟨⟨vz, rfl, hrz⟩, hbz⟩; have hlz17 := pairM_len17 2 xs 2 ys; obtain ⟨az, nz, cz, rfl, hiz⟩ := hrz.ints; have hdz : Below wy.heap.size wy wz := Below.trans (by (repeat (first | exact Below.refl _ _ | assumption | refine Below.alloc ?_ (by first | omega | (simp <;> omega)) _ | refine Below.setCell ?_ (by first | omega | (simp <;> omega)) _ | refine Below.drew ?_ | refine below_drewN ?_))) (hbz.mono (by simp <;> omega)); have hSz := kept2_below hSy hdz; have z0 := hSz.1; have z1 := hSz.2.1; have hzsz := hSz.2.2; have hzy := hdz.size; have rbz := rby.below hdz; have hrdz := hrdy.on hdz; have hspz := hspy.on (hdz.mono (by omega)); generalize (pairM 2 xs 2 ys).ok = oz at *; generalize (pairM 2 xs 2 ys).size = sz at *; generalize (pairM 2 xs 2 ys).parts = zs at *))
      · refine ⟨(.agg #[.int .i64 2, .slice ay ny cy], .agg #[.int .i64 sz, .slice az nz cz], oz, wz.heap.size), by simp [Act.put], ⟨_, _, _, _, _, rfl, (hrz.mono (by omega)).below (below_alloc _ _), hlz17, Bx.mk2 rfl⟩, (show w2.heap.size < wz.heap.size by omega), rbz.below (below_alloc _ _), (hrdz.on (below_alloc _ _)).mono (by omega), hspz.on (by (repeat (first | exact Below.refl _ _ | assumption | refine Below.alloc ?_ (by first | omega | (simp <;> omega)) _ | refine Below.setCell ?_ (by first | omega | (simp <;> omega)) _ | refine Below.drew ?_ | refine below_drewN ?_)))⟩
      · refine ⟨(.agg #[.int .i64 2, .slice ay ny cy], .agg #[.int .i64 sz, .slice az nz cz], oz, wy.heap.size), by simp [Act.put], ⟨_, _, _, _, _, rfl, ((hrz.mono (by first | omega | (simp <;> omega))).setOther (fun e => by have := hvz _ e; simp at this) _).setOther (fun e => by have := hvz _ e; simp at this) _, hlz17, bxz.put2 _ _⟩, (show w2.heap.size < wy.heap.size by omega), rbz.of_block (World.setCell2_other _ _ _ _ _ (by omega)) (by simp), ?_, hspz.on (by (repeat (first | exact Below.refl _ _ | assumption | refine Below.alloc ?_ (by first | omega | (simp <;> omega)) _ | refine Below.setCell ?_ (by first | omega | (simp <;> omega)) _ | refine Below.drew ?_ | refine below_drewN ?_)))⟩
        exact (hrdz.below (B := R + 1) (by (repeat (first | exact Below.refl _ _ | assumption | refine Below.alloc ?_ (by first | omega | (simp <;> omega)) _ | refine Below.setCell ?_ (by first | omega | (simp <;> omega)) _ | refine Below.drew ?_ | refine below_drewN ?_))) (by omega)).mono (by omega)
      · refine ⟨(.agg #[.int .i64 2, .slice ay ny cy], .agg #[.int .i64 sz, .slice az nz cz], oz, w3.heap.size), by simp [Act.put], ⟨_, _, _, _, _, rfl, ((hrz.mono (by first | omega | (simp <;> omega))).setOther (fun e => by have := hvz _ e; simp at this) _).setOther (fun e => by have := hvz _ e; simp at this) _, hlz17, bxz.put2 _ _⟩, (show w2.heap.size < w3.heap.size by omega), rbz.of_block (World.setCell2_other _ _ _ _ _ (by omega)) (by simp), ?_, hspz.on (by (repeat (first | exact Below.refl _ _ | assumption | refine Below.alloc ?_ (by first | omega | (simp <;> omega)) _ | refine Below.setCell ?_ (by first | omega | (simp <;> omega)) _ | refine Below.drew ?_ | refine below_drewN ?_)))⟩
        exact (hrdz.below (B := R + 1) (by (repeat (first | exact Below.refl _ _ | assumption | refine Below.alloc ?_ (by first | omega | (simp <;> omega)) _ | refine Below.setCell ?_ (by first | omega | (simp <;> omega)) _ | refine Below.drew ?_ | refine below_drewN ?_))) (by omega)).mono (by omega)
    · rintro ⟨vy, vz, oz, bz⟩ w4 ⟨⟨z, az, nz, cz, zs, e, hrz, hlz, hbz⟩, hlt, rb, hrd, hsp⟩
      simp only at e hbz hlt
      subst e
      obtain ⟨r0, r1, gfr0, gfr1, hrl⟩ := rb
      obtain ⟨b0, b1, -, -, -⟩ := hbz
      have hZ4 := hsp.size
      have fr0 := And.intro hrl gfr0
      have fr1 := And.intro hrl gfr1
      clear hrm m0 m1 hmx
      cases oz
      · go_wp2_with fail
        refine (l11Draw_any R _ 4 (by decide) _ hrd (by omega)).mono ?_; rintro e w5 ⟨_, rfl, ⟨sb, p, xb, rfl, hrb, hlb⟩, hrdn, hs⟩
        clear hrd
        have hrd := hrdn
        clear hrdn
        have ht : Span R (R + 1) w4 w5 := hs
        replace r0 := Span.keep ht r0 (by omega)
        replace r1 := Span.keep ht r1 (by omega)
        replace fr0 := Span.keepF ht fr0 (by omega)
        replace fr1 := Span.keepF ht fr1 (by omega)
        replace hsp := hsp.trans ht
        have hZ5 := ht.size
        clear ht hs
        replace gfr0 := fr0.2
        replace gfr1 := fr1.2
        obtain ⟨ab, nb, cb, rfl, hib⟩ := hrb.ints
        clear hib
        replace hrb : Row w5 (w.heap.size + 1) (.slice ab nb cb) xb := hrb.mono (by omega)
        go_wp2
        refine bodyPost_ret (v := .agg #[.int .i64 sb, .slice ab nb cb]) (by simp [results, Try.results62, go_sem, r0, r1]) rfl ⟨_, rfl, ⟨_, _, xb, rfl, ?_, hlb⟩, ?_, ?_⟩
        · refine Row.mono (base := w.heap.size + 1) ?_ (by omega)
          (repeat (first | exact hrb | (refine Row.setBelow ?_ ?_ _; rotate_left; focus (first | (omega) | (simp; done) | (simp; omega))) | (refine Row.setOther ?_ ?_ _; rotate_left; focus (intro h_own; have h_own2 := own_eq h_own; first | (omega) | (simp at h_own2; omega))) | refine Row.below ?_ (below_alloc _ _)))
        · exact (hrd.below (B := R + 1) (by (repeat (first | exact Below.refl _ _ | assumption | refine Below.alloc ?_ (by first | omega | (simp <;> omega)) _ | refine Below.setCell ?_ (by first | omega | (simp <;> omega)) _ | refine Below.drew ?_ | refine below_drewN ?_))) (by omega)).mono (by omega)
        · exact hsp.on (by (repeat (first | exact Below.refl _ _ | assumption | refine Below.alloc ?_ (by first | omega | (simp <;> omega)) _ | refine Below.setCell ?_ (by first | omega | (simp <;> omega)) _ | refine Below.drew ?_ | refine below_drewN ?_)))
      · go_wp2
        refine bodyPost_ret (v := .agg #[.int .i64 z, .slice az nz cz]) (by simp [results, Try.results62, go_sem, r0, r1, b0, b1]) rfl ⟨_, rfl, ⟨_, _, zs, rfl, ?_, hlz⟩, ?_, ?_⟩
        · refine Row.mono (base := w.heap.size + 1) ?_ (by omega)
          (repeat (first | exact hrz | (refine Row.setBelow ?_ ?_ _; rotate_left; focus (first | (omega) | (simp; done) | (simp; omega))) | (refine Row.setOther ?_ ?_ _; rotate_left; focus (intro h_own; have h_own2 := own_eq h_own; first | (omega) | (simp at h_own2; omega))) | refine Row.below ?_ (below_alloc _ _)))
        · exact (hrd.below (B := R + 1) (by (repeat (first | exact Below.refl _ _ | assumption | refine Below.alloc ?_ (by first | omega | (simp <;> omega)) _ | refine Below.setCell ?_ (by first | omega | (simp <;> omega)) _ | refine Below.drew ?_ | refine below_drewN ?_))) (by omega)).mono (by omega)
        · exact hsp.on (by (repeat (first | exact Below.refl _ _ | assumption | refine Below.alloc ?_ (by first | omega | (simp <;> omega)) _ | refine Below.setCell ?_ (by first | omega | (simp <;> omega)) _ | refine Below.drew ?_ | refine below_drewN ?_)))
  · go_wp2_with fail
    refine (l11Draw_any R _ 4 (by decide) _ hrd (by omega)).mono ?_; rintro e w2 ⟨_, rfl, ⟨sb, p, xb, rfl, hrb, hlb⟩, hrdn, hs⟩
    clear hrd
    have hrd := hrdn
    clear hrdn
    have ht : Span R (R + 1) w1 w2 := hs
    replace r0 := Span.keep ht r0 (by omega)
    replace r1 := Span.keep ht r1 (by omega)
    replace fr0 := Span.keepF ht fr0 (by omega)
    replace fr1 := Span.keepF ht fr1 (by omega)
    replace hsp := hsp.trans ht
    have hZ2 := ht.size
    clear ht hs
    replace gfr0 := fr0.2
    replace gfr1 := fr1.2
    obtain ⟨ab, nb, cb, rfl, hib⟩ := hrb.ints
    clear hib
    replace hrb : Row w2 (w.heap.size + 1) (.slice ab nb cb) xb := hrb.mono (by omega)
    go_wp2
    refine bodyPost_ret (v := .agg #[.int .i64 sb, .slice ab nb cb]) (by simp [results, Try.results62, go_sem, r0, r1]) rfl ⟨_, rfl, ⟨_, _, xb, rfl, ?_, hlb⟩, ?_, ?_⟩
    · refine Row.mono (base := w.heap.size + 1) ?_ (by omega)
      (repeat (first | exact hrb | (refine Row.setBelow ?_ ?_ _; rotate_left; focus (first | (omega) | (simp; done) | (simp; omega))) | (refine Row.setOther ?_ ?_ _; rotate_left; focus (intro h_own; have h_own2 := own_eq h_own; first | (omega) | (simp at h_own2; omega))) | refine Row.below ?_ (below_alloc _ _)))
    · exact (hrd.below (B := R + 1) (by (repeat (first | exact Below.refl _ _ | assumption | refine Below.alloc ?_ (by first | omega | (simp <;> omega)) _ | refine Below.setCell ?_ (by first | omega | (simp <;> omega)) _ | refine Below.drew ?_ | refine below_drewN ?_))) (by omega)).mono (by omega)
    · exact hsp.on (by (repeat (first | exact Below.refl _ _ | assumption | refine Below.alloc ?_ (by first | omega | (simp <;> omega)) _ | refine Below.setCell ?_ (by first | omega | (simp <;> omega)) _ | refine Below.drew ?_ | refine below_drewN ?_)))
end Go.Proofs.Ytnbjhmghobljaaa
