/- The law that the program's PassOn is the reference's: its walk (printed by lawgen.py). -/
import Derived.Test.YtmmlfjohknfbmaaX1
import Derived.Test.YtmmlfjohknfbmaaS10
import Derived.Test.YtmmlfjohknfbmaaL6
set_option linter.unusedSimpArgs false
set_option linter.unusedVariables false
namespace Go.Proofs.Ytmmlfjohknfbmaa
open Go.RowKit
set_option maxRecDepth 20000 in
set_option maxHeartbeats 16000000 in
theorem FnExactPassOn_walk (sm : Int) (om : Option Addr) (nm cm : Nat) (xm : List Int) (sk : Int) (ok : Option Addr) (nk ck : Nat) (xk : List Int) (w : World) (hxm : IntsAt w om nm xm) (hxk : IntsAt w ok nk xk) :
    Calls Try.prog 13 #[.agg #[.int .i64 sm, .slice om nm cm], .agg #[.int .i64 sk, .slice ok nk ck]] w fun e w' => e = .returned (.bool true) ∧ Below w.heap.size w w' := by
  have hcapm := hxm.cap
  obtain rfl := hxm.len
  have hcapk := hxk.cap
  obtain rfl := hxk.len
  by_cases hlem : 1048576 - (xm.length : Int) < 0
  · go_enter Try.func13, Try.ntmps13
    have hB := Below.refl w.heap.size w
    go_wp2_with fail
    refine (szMass_any sm om _ cm (1048576) _ (by omega) (by omega) hcapm).mono ?_; rw [show leaves (1048576) xm.length = -1 from by simp only [leaves]; rw [if_pos (by omega)]]; rintro e w1 ⟨rfl, hb⟩
    have hpm0 := keep hb (a := ⟨w.heap.size, 0, none⟩) (v := .int .i64 sm) (by simp)
    have hpm1 := keep hb (a := ⟨w.heap.size, 1, none⟩) (v := .slice om xm.length cm) (by simp)
    have hz1 : w.heap.size < w1.heap.size := by have := World.block_lt_of_cell? w1 _ hpm0; simpa using this
    have hpk0 := keep hb (a := ⟨w.heap.size + 1, 0, none⟩) (v := .int .i64 sk) (by simp)
    have hpk1 := keep hb (a := ⟨w.heap.size + 1, 1, none⟩) (v := .slice ok xk.length ck) (by simp)
    have hz2 : w.heap.size + 1 < w1.heap.size := by have := World.block_lt_of_cell? w1 _ hpk0; simpa using this
    have hd : Below w.heap.size w w1 := Below.trans (by (repeat (first | exact Below.refl _ _ | assumption | refine Below.alloc ?_ (by simp <;> omega) _ | refine Below.setCell ?_ (by simp <;> omega) _ | refine Below.drew ?_ | refine below_drewN ?_))) (hb.mono (by simp <;> omega))
    replace hB := chain hB hd
    have hs1 := hd.size
    clear hb hd
    go_wp2
    go_ret
    exact ⟨rfl, hB⟩
  · have hLEm : 0 ≤ 1048576 - (xm.length : Int) := by omega
    by_cases hlek : 1048576 - (xm.length : Int) - (xk.length : Int) < 0
    · go_enter Try.func13, Try.ntmps13
      have hB := Below.refl w.heap.size w
      go_wp2_with fail
      refine (szMass_any sm om _ cm (1048576) _ (by omega) (by omega) hcapm).mono ?_; rw [show leaves (1048576) xm.length = 1048576 - (xm.length : Int) from by simp only [leaves]; rw [if_neg (by omega)]]; rintro e w1 ⟨rfl, hb⟩
      have hpm0 := keep hb (a := ⟨w.heap.size, 0, none⟩) (v := .int .i64 sm) (by simp)
      have hpm1 := keep hb (a := ⟨w.heap.size, 1, none⟩) (v := .slice om xm.length cm) (by simp)
      have hz1 : w.heap.size < w1.heap.size := by have := World.block_lt_of_cell? w1 _ hpm0; simpa using this
      have hpk0 := keep hb (a := ⟨w.heap.size + 1, 0, none⟩) (v := .int .i64 sk) (by simp)
      have hpk1 := keep hb (a := ⟨w.heap.size + 1, 1, none⟩) (v := .slice ok xk.length ck) (by simp)
      have hz2 : w.heap.size + 1 < w1.heap.size := by have := World.block_lt_of_cell? w1 _ hpk0; simpa using this
      have hd : Below w.heap.size w w1 := Below.trans (by (repeat (first | exact Below.refl _ _ | assumption | refine Below.alloc ?_ (by simp <;> omega) _ | refine Below.setCell ?_ (by simp <;> omega) _ | refine Below.drew ?_ | refine below_drewN ?_))) (hb.mono (by simp <;> omega))
      replace hB := chain hB hd
      have hs1 := hd.size
      clear hb hd
      go_wp2_with fail
      refine (szMass_any sk ok _ ck (1048576 - (xm.length : Int)) _ (by omega) (by omega) hcapk).mono ?_; rw [show leaves (1048576 - (xm.length : Int)) xk.length = -1 from by simp only [leaves]; rw [if_pos (by omega)]]; rintro e w2 ⟨rfl, hb⟩
      have hd := hb
      replace hpm0 := keep hd hpm0
      replace hpm1 := keep hd hpm1
      replace hpk0 := keep hd hpk0
      replace hpk1 := keep hd hpk1
      replace hB := chain hB hd
      have hs2 := hd.size
      clear hb hd
      go_wp2
      go_ret
      exact ⟨rfl, hB⟩
    · have hLEk : 0 ≤ 1048576 - (xm.length : Int) - (xk.length : Int) := by omega
      have hnm : xm.length ≤ 100000000 := by omega
      have hnk : xk.length ≤ 100000000 := by omega
      have hlen : (passM sm xm sk xk).parts.length ≤ 100000000 := passM_len _ _ _ _
      clear hlem
      clear hlek
      go_enter Try.func13, Try.ntmps13
      have hB := Below.refl w.heap.size w
      have hXm := hxm
      have hXk := hxk
      go_wp2_with fail
      refine (szMass_any sm om _ cm (1048576) _ (by omega) (by omega) hcapm).mono ?_; rw [show leaves (1048576) xm.length = 1048576 - (xm.length : Int) from by simp only [leaves]; rw [if_neg (by omega)]]; rintro e w1 ⟨rfl, hb⟩
      have hpm0 := keep hb (a := ⟨w.heap.size, 0, none⟩) (v := .int .i64 sm) (by simp)
      have hpm1 := keep hb (a := ⟨w.heap.size, 1, none⟩) (v := .slice om xm.length cm) (by simp)
      have hz1 : w.heap.size < w1.heap.size := by have := World.block_lt_of_cell? w1 _ hpm0; simpa using this
      have hpk0 := keep hb (a := ⟨w.heap.size + 1, 0, none⟩) (v := .int .i64 sk) (by simp)
      have hpk1 := keep hb (a := ⟨w.heap.size + 1, 1, none⟩) (v := .slice ok xk.length ck) (by simp)
      have hz2 : w.heap.size + 1 < w1.heap.size := by have := World.block_lt_of_cell? w1 _ hpk0; simpa using this
      have hd : Below w.heap.size w w1 := Below.trans (by (repeat (first | exact Below.refl _ _ | assumption | refine Below.alloc ?_ (by simp <;> omega) _ | refine Below.setCell ?_ (by simp <;> omega) _ | refine Below.drew ?_ | refine below_drewN ?_))) (hb.mono (by simp <;> omega))
      replace hB := chain hB hd
      replace hXm := hxm.below hB
      replace hXk := hxk.below hB
      have hs1 := hd.size
      clear hb hd
      go_wp2_with fail
      refine (szMass_any sk ok _ ck (1048576 - (xm.length : Int)) _ (by omega) (by omega) hcapk).mono ?_; rw [show leaves (1048576 - (xm.length : Int)) xk.length = 1048576 - (xm.length : Int) - (xk.length : Int) from by simp only [leaves]; rw [if_neg (by omega)]]; rintro e w2 ⟨rfl, hb⟩
      have hd := hb
      replace hpm0 := keep hd hpm0
      replace hpm1 := keep hd hpm1
      replace hpk0 := keep hd hpk0
      replace hpk1 := keep hd hpk1
      replace hB := chain hB hd
      replace hXm := hxm.below hB
      replace hXk := hxk.below hB
      have hs2 := hd.size
      clear hb hd
      go_wp2_with fail
      have e1W : ¬ w2.heap.size = w.heap.size := by omega
      have e2W : ¬ w2.heap.size = w.heap.size + 1 := by omega
      refine wp_region_joinF (ι := Value × Value × Option Addr × Nat × Nat × Nat) (fun a i => ((((((((((a.put (some 28) (.agg #[.int .i64 sm, .slice om xm.length cm])).put (some 29) i.1).put (some 30) (.agg #[.int .i64 sk, .slice ok xk.length ck])).put (some 31) i.2.1).put (some 32) (.tuple #[.agg #[.int .i64 (passM sm xm sk xk).size, .slice i.2.2.1 i.2.2.2.1 i.2.2.2.2.1], .bool (passM sm xm sk xk).ok])).put (some 27) (.tuple #[.agg #[.int .i64 (passM sm xm sk xk).size, .slice i.2.2.1 i.2.2.2.1 i.2.2.2.2.1], .bool (passM sm xm sk xk).ok])).put (some 33) (.agg #[.int .i64 (passM sm xm sk xk).size, .slice i.2.2.1 i.2.2.2.1 i.2.2.2.2.1])).put (some 34) (.bool (passM sm xm sk xk).ok)).put (some 6) (.pointer (some ⟨i.2.2.2.2.2, 0, none⟩))).put (some 7) (.bool (passM sm xm sk xk).ok))) (fun i w' => Below w2.heap.size w2 w' ∧ w2.heap.size ≤ i.2.2.2.2.2 ∧ w'.cell? ⟨i.2.2.2.2.2, 0, none⟩ = some (.int .i64 (passM sm xm sk xk).size) ∧ w'.cell? ⟨i.2.2.2.2.2, 1, none⟩ = some (.slice i.2.2.1 i.2.2.2.1 i.2.2.2.2.1) ∧ Row w' w2.heap.size (.slice i.2.2.1 i.2.2.2.1 i.2.2.2.2.1) (passM sm xm sk xk).parts) ?_ ?_
      · go_region_held3 (fun w' => w'.cell? ⟨w.heap.size, 0, none⟩ = some (.int .i64 sm) ∧ w'.cell? ⟨w.heap.size, 1, none⟩ = some (.slice om xm.length cm) ∧ w'.cell? ⟨w.heap.size + 1, 0, none⟩ = some (.int .i64 sk) ∧ w'.cell? ⟨w.heap.size + 1, 1, none⟩ = some (.slice ok xk.length ck)) (first | (refine ⟨by assumption, by assumption, by assumption, by assumption⟩; done) | (refine ⟨by simp [*], by simp [*], by simp [*], by simp [*]⟩; done) | go_keep) (first | (go_at_call 17; ((with_reducible refine (toMass_any sm om _ cm xm _ ?_ hnm).mono ?_)); exact hXm.below (by (repeat (first | exact Below.refl _ _ | assumption | refine Below.alloc ?_ (by first | omega | (simp <;> omega)) _ | refine Below.setCell ?_ (by first | omega | (simp <;> omega)) _ | refine Below.drew ?_ | refine below_drewN ?_))); rintro e wm ⟨vm, rfl, hrwm, hb⟩; obtain ⟨awm, mwm, dwm, rfl, hiwm⟩ := hrwm.ints; obtain rfl := hiwm.len; have hdwm : Below w2.heap.size w2 wm := Below.trans (by (repeat (first | exact Below.refl _ _ | assumption | refine Below.alloc ?_ (by first | omega | (simp <;> omega)) _ | refine Below.setCell ?_ (by first | omega | (simp <;> omega)) _ | refine Below.drew ?_ | refine below_drewN ?_))) (hb.mono (by first | omega | (simp <;> omega))); have hszwm := hdwm.size; (first | (have hlt := World.block_lt_of_cell? _ _ i0; (dsimp only at hlt); replace j0 := keepF hb i0 j0; replace j1 := keepF hb i1 j1; replace i0 := keep hb i0; replace i1 := keep hb i1) | (((with_reducible have hA := box2f hb)); obtain ⟨i0, i1, j0, j1, _⟩ := hA; (try simp only [heap_drew] at i0 i1 j0 j1)) | (((with_reducible have hA := box2f (undrew hb))); obtain ⟨i0, i1, j0, j1, _⟩ := hA) | skip); (try (have hwnwm : Below wn.heap.size wn wm := Below.trans (by (repeat (first | exact Below.refl _ _ | assumption | refine Below.alloc ?_ (by first | omega | (simp <;> omega)) _ | refine Below.setCell ?_ (by first | omega | (simp <;> omega)) _ | refine Below.drew ?_ | refine below_drewN ?_))) (hb.mono (by first | omega | (simp <;> omega))); have hswnwm := hwnwm.size)); have e1wm : ¬ wm.heap.size = w.heap.size := (by omega); have e2wm : ¬ wm.heap.size = w.heap.size + 1 := (by omega); have k0 := keep hdwm hpm0; have k1 := keep hdwm hpm1; have k2 := keep hdwm hpk0; have k3 := keep hdwm hpk1) | (go_at_call 17; ((with_reducible refine (toMass_any sk ok _ ck xk _ ?_ hnk).mono ?_)); exact hXk.below (by (repeat (first | exact Below.refl _ _ | assumption | refine Below.alloc ?_ (by first | omega | (simp <;> omega)) _ | refine Below.setCell ?_ (by first | omega | (simp <;> omega)) _ | refine Below.drew ?_ | refine below_drewN ?_))); rintro e wn ⟨vn, rfl, hrwn, hb⟩; obtain ⟨awn, mwn, dwn, rfl, hiwn⟩ := hrwn.ints; obtain rfl := hiwn.len; have hdwn : Below w2.heap.size w2 wn := Below.trans (by (repeat (first | exact Below.refl _ _ | assumption | refine Below.alloc ?_ (by first | omega | (simp <;> omega)) _ | refine Below.setCell ?_ (by first | omega | (simp <;> omega)) _ | refine Below.drew ?_ | refine below_drewN ?_))) (hb.mono (by first | omega | (simp <;> omega))); have hszwn := hdwn.size; (first | (have hlt := World.block_lt_of_cell? _ _ i0; (dsimp only at hlt); replace j0 := keepF hb i0 j0; replace j1 := keepF hb i1 j1; replace i0 := keep hb i0; replace i1 := keep hb i1) | (((with_reducible have hA := box2f hb)); obtain ⟨i0, i1, j0, j1, _⟩ := hA; (try simp only [heap_drew] at i0 i1 j0 j1)) | (((with_reducible have hA := box2f (undrew hb))); obtain ⟨i0, i1, j0, j1, _⟩ := hA) | skip); (try (have hwmwn : Below wm.heap.size wm wn := Below.trans (by (repeat (first | exact Below.refl _ _ | assumption | refine Below.alloc ?_ (by first | omega | (simp <;> omega)) _ | refine Below.setCell ?_ (by first | omega | (simp <;> omega)) _ | refine Below.drew ?_ | refine below_drewN ?_))) (hb.mono (by first | omega | (simp <;> omega))); have hswmwn := hwmwn.size)); have e1wn : ¬ wn.heap.size = w.heap.size := (by omega); have e2wn : ¬ wn.heap.size = w.heap.size + 1 := (by omega); have k0 := keep hdwn hpm0; have k1 := keep hdwn hpm1; have k2 := keep hdwn hpk0; have k3 := keep hdwn hpk1) | (go_at_call 50; ((with_reducible refine (specPassOn_any sm sk _ _ _ _ _ _ xm xk _ ?_ ?_).mono ?_)); exact hiwm.below (by (repeat (first | exact Below.refl _ _ | assumption | refine Below.alloc ?_ (by first | omega | (simp <;> omega)) _ | refine Below.setCell ?_ (by first | omega | (simp <;> omega)) _ | refine Below.drew ?_ | refine below_drewN ?_))); exact hiwn.below (by (repeat (first | exact Below.refl _ _ | assumption | refine Below.alloc ?_ (by first | omega | (simp <;> omega)) _ | refine Below.setCell ?_ (by first | omega | (simp <;> omega)) _ | refine Below.drew ?_ | refine below_drewN ?_))); rintro e wz ⟨⟨vz, rfl, hrwz⟩, hb⟩; obtain ⟨awz, mwz, dwz, rfl, hiwz⟩ := hrwz.ints; have hdwz : Below w2.heap.size w2 wz := Below.trans (by (repeat (first | exact Below.refl _ _ | assumption | refine Below.alloc ?_ (by first | omega | (simp <;> omega)) _ | refine Below.setCell ?_ (by first | omega | (simp <;> omega)) _ | refine Below.drew ?_ | refine below_drewN ?_))) (hb.mono (by first | omega | (simp <;> omega))); have hszwz := hdwz.size; have hszb := hb.size; (first | (have hlt := World.block_lt_of_cell? _ _ i0; (dsimp only at hlt); replace j0 := keepF hb i0 j0; replace j1 := keepF hb i1 j1; replace i0 := keep hb i0; replace i1 := keep hb i1) | (((with_reducible have hA := box2f hb)); obtain ⟨i0, i1, j0, j1, _⟩ := hA; (try simp only [heap_drew] at i0 i1 j0 j1)) | (((with_reducible have hA := box2f (undrew hb))); obtain ⟨i0, i1, j0, j1, _⟩ := hA) | skip); have e1wz : ¬ wz.heap.size = w.heap.size := (by omega); have e2wz : ¬ wz.heap.size = w.heap.size + 1 := (by omega); have k0 := keep hdwz hpm0; have k1 := keep hdwz hpm1; have k2 := keep hdwz hpk0; have k3 := keep hdwz hpk1))
        all_goals first | (refine ⟨⟨.agg #[.int .i64 sm, .slice awm xm.length dwm], .agg #[.int .i64 sk, .slice awn xk.length dwn], awz, mwz, dwz, w2.heap.size⟩, ?_, ?_⟩; (focus (simp [Act.put]; done)); dsimp only) | (refine ⟨⟨.agg #[.int .i64 sm, .slice awm xm.length dwm], .agg #[.int .i64 sk, .slice awn xk.length dwn], awz, mwz, dwz, wm.heap.size⟩, ?_, ?_⟩; (focus (simp [Act.put]; done)); dsimp only) | (refine ⟨⟨.agg #[.int .i64 sm, .slice awm xm.length dwm], .agg #[.int .i64 sk, .slice awn xk.length dwn], awz, mwz, dwz, wn.heap.size⟩, ?_, ?_⟩; (focus (simp [Act.put]; done)); dsimp only) | (refine ⟨⟨.agg #[.int .i64 sm, .slice awm xm.length dwm], .agg #[.int .i64 sk, .slice awn xk.length dwn], awz, mwz, dwz, wz.heap.size⟩, ?_, ?_⟩; (focus (simp [Act.put]; done)); dsimp only)
        all_goals
          refine ⟨?_, ?_, ?_, ?_, ?_⟩
          · (repeat (first | exact Below.refl _ _ | assumption | refine Below.alloc ?_ (by first | omega | (simp <;> omega)) _ | refine Below.setCell ?_ (by first | omega | (simp <;> omega)) _ | refine Below.drew ?_ | refine below_drewN ?_))
          · first | omega | exact Nat.le_refl _
          · first | (simp; done) | (simp [go_sem, i0, i1]; done)
          · first | (simp; done) | (simp [go_sem, i0, i1]; done)
          · first | exact (hrwz.below (below_alloc _ _)).mono (by first | omega | (simp <;> omega)) | exact ((hrwz.setBelow (by first | (simp; omega) | (simp; done) | (dsimp only; omega)) _).setBelow (by first | (simp; omega) | (simp; done) | (dsimp only; omega)) _).mono (by first | omega | (simp <;> omega))
      rintro ⟨vAW, vBW, aW, mW, dW, BW⟩ w3 ⟨hb, hloW, hqW0, hqW1, hrW⟩
      obtain rfl := hrW.len
      have hiW : IntsAt w3 aW (passM sm xm sk xk).parts.length (passM sm xm sk xk).parts := by obtain ⟨_, _, _, e, hi⟩ := hrW.ints; injection e with e1 e2 e3; subst e1 e2 e3; exact hi
      have hvW : ∀ b, (Value.slice aW (passM sm xm sk xk).parts.length dW).ownBlock = some b → w2.heap.size ≤ b ∧ b < w3.heap.size := fun b e => hrW.block b e
      have hhiW : BW < w3.heap.size := by have := World.block_lt_of_cell? _ _ hqW0; simpa using this
      change Below w2.heap.size w2 w3 at hb
      change w2.heap.size ≤ BW at hloW
      change w3.cell? ⟨BW, 0, none⟩ = _ at hqW0
      change w3.cell? ⟨BW, 1, none⟩ = _ at hqW1
      have hd := hb
      replace hpm0 := keep hd hpm0
      replace hpm1 := keep hd hpm1
      replace hpk0 := keep hd hpk0
      replace hpk1 := keep hd hpk1
      replace hB := chain hB hd
      replace hXm := hxm.below hB
      replace hXk := hxk.below hB
      have hs3 := hd.size
      clear hb hd
      have hi0W := hiW
      have hC := Below.refl w3.heap.size w3
      clear hrW hvW
      go_wp2_with fail
      refine (toMass_any sm om _ cm xm _ (hXm.below (by (repeat (first | exact Below.refl _ _ | assumption | refine Below.alloc ?_ (by simp <;> omega) _ | refine Below.setCell ?_ (by simp <;> omega) _ | refine Below.drew ?_ | refine below_drewN ?_)))) hnm).mono ?_; rintro e w4 ⟨v, rfl, hrXm, hb⟩
      obtain ⟨aXm, mXm, dXm, rfl, hiXm⟩ := hrXm.ints
      obtain rfl := hiXm.len
      have hvXm : ∀ b, (Value.slice aXm xm.length dXm).ownBlock = some b → w3.heap.size ≤ b ∧ b < w4.heap.size := fun b e => by have := hrXm.block b e; first | omega | (simp at this; omega)
      have hd := hb
      replace hpm0 := keep hd hpm0
      replace hpm1 := keep hd hpm1
      replace hpk0 := keep hd hpk0
      replace hpk1 := keep hd hpk1
      replace hqW0 := keep hd hqW0
      replace hqW1 := keep hd hqW1
      replace hB := chain hB hd
      replace hXm := hxm.below hB
      replace hXk := hxk.below hB
      replace hC := chain hC hd
      replace hiW := hi0W.below hC
      have hs4 := hd.size
      clear hb hd
      go_wp2_with fail
      refine (toMass_any sk ok _ ck xk _ (hXk.below (by (repeat (first | exact Below.refl _ _ | assumption | refine Below.alloc ?_ (by simp <;> omega) _ | refine Below.setCell ?_ (by simp <;> omega) _ | refine Below.drew ?_ | refine below_drewN ?_)))) hnk).mono ?_; rintro e w5 ⟨v, rfl, hrXk, hb⟩
      obtain ⟨aXk, mXk, dXk, rfl, hiXk⟩ := hrXk.ints
      obtain rfl := hiXk.len
      have hvXk : ∀ b, (Value.slice aXk xk.length dXk).ownBlock = some b → w4.heap.size + 1 ≤ b ∧ b < w5.heap.size := fun b e => by have := hrXk.block b e; first | omega | (simp at this; omega)
      have hxm0 := keep hb (a := ⟨w4.heap.size, 0, none⟩) (v := .int .i64 sm) (by simp)
      have hxm1 := keep hb (a := ⟨w4.heap.size, 1, none⟩) (v := .slice aXm xm.length dXm) (by simp)
      have hz3 : w4.heap.size < w5.heap.size := by have := World.block_lt_of_cell? w5 _ hxm0; simpa using this
      have hd : Below w4.heap.size w4 w5 := Below.trans (by (repeat (first | exact Below.refl _ _ | assumption | refine Below.alloc ?_ (by simp <;> omega) _ | refine Below.setCell ?_ (by simp <;> omega) _ | refine Below.drew ?_ | refine below_drewN ?_))) (hb.mono (by simp <;> omega))
      replace hpm0 := keep hd hpm0
      replace hpm1 := keep hd hpm1
      replace hpk0 := keep hd hpk0
      replace hpk1 := keep hd hpk1
      replace hqW0 := keep hd hqW0
      replace hqW1 := keep hd hqW1
      replace hrXm := hrXm.below hd
      replace hiXm := hiXm.below hd
      replace hB := chain hB hd
      replace hXm := hxm.below hB
      replace hXk := hxk.below hB
      replace hC := chain hC hd
      replace hiW := hi0W.below hC
      have hs5 := hd.size
      clear hb hd
      go_wp2_with fail
      refine (PassOn_any sm sk _ _ _ _ _ _ xm xk _ (hiXm.below (by (repeat (first | exact Below.refl _ _ | assumption | refine Below.alloc ?_ (by simp <;> omega) _ | refine Below.setCell ?_ (by simp <;> omega) _ | refine Below.drew ?_ | refine below_drewN ?_)))) (hiXk.below (by (repeat (first | exact Below.refl _ _ | assumption | refine Below.alloc ?_ (by simp <;> omega) _ | refine Below.setCell ?_ (by simp <;> omega) _ | refine Below.drew ?_ | refine below_drewN ?_))))).mono ?_; rintro e w6 ⟨⟨v, rfl, hrG⟩, hb⟩
      obtain ⟨aG, mG, dG, rfl, hiG⟩ := hrG.ints
      obtain rfl := hiG.len
      have hvG : ∀ b, (Value.slice aG (passM sm xm sk xk).parts.length dG).ownBlock = some b → w5.heap.size + 1 ≤ b ∧ b < w6.heap.size := fun b e => by have := hrG.block b e; first | omega | (simp at this; omega)
      have hxk0 := keep hb (a := ⟨w5.heap.size, 0, none⟩) (v := .int .i64 sk) (by simp)
      have hxk1 := keep hb (a := ⟨w5.heap.size, 1, none⟩) (v := .slice aXk xk.length dXk) (by simp)
      have hz4 : w5.heap.size < w6.heap.size := by have := World.block_lt_of_cell? w6 _ hxk0; simpa using this
      have hd : Below w5.heap.size w5 w6 := Below.trans (by (repeat (first | exact Below.refl _ _ | assumption | refine Below.alloc ?_ (by simp <;> omega) _ | refine Below.setCell ?_ (by simp <;> omega) _ | refine Below.drew ?_ | refine below_drewN ?_))) (hb.mono (by simp <;> omega))
      replace hpm0 := keep hd hpm0
      replace hpm1 := keep hd hpm1
      replace hpk0 := keep hd hpk0
      replace hpk1 := keep hd hpk1
      replace hqW0 := keep hd hqW0
      replace hqW1 := keep hd hqW1
      replace hxm0 := keep hd hxm0
      replace hxm1 := keep hd hxm1
      replace hrXm := hrXm.below hd
      replace hrXk := hrXk.below hd
      replace hiXm := hiXm.below hd
      replace hiXk := hiXk.below hd
      replace hB := chain hB hd
      replace hXm := hxm.below hB
      replace hXk := hxk.below hB
      replace hC := chain hC hd
      replace hiW := hi0W.below hC
      have hs6 := hd.size
      clear hb hd
      go_wp2_with fail
      refine (eqMass_same _ _ _ _ _ _ _ _ (hiG.below (by (repeat (first | exact Below.refl _ _ | assumption | refine Below.alloc ?_ (by simp <;> omega) _ | refine Below.setCell ?_ (by simp <;> omega) _ | refine Below.drew ?_ | refine below_drewN ?_)))) (hiW.below (by (repeat (first | exact Below.refl _ _ | assumption | refine Below.alloc ?_ (by simp <;> omega) _ | refine Below.setCell ?_ (by simp <;> omega) _ | refine Below.drew ?_ | refine below_drewN ?_))))).mono ?_; rintro e w7 ⟨rfl, hb⟩
      have hqG0 := keep hb (a := ⟨w6.heap.size, 0, none⟩) (v := .int .i64 (passM sm xm sk xk).size) (by simp)
      have hqG1 := keep hb (a := ⟨w6.heap.size, 1, none⟩) (v := .slice aG (passM sm xm sk xk).parts.length dG) (by simp)
      have hz5 : w6.heap.size < w7.heap.size := by have := World.block_lt_of_cell? w7 _ hqG0; simpa using this
      have hd : Below w6.heap.size w6 w7 := Below.trans (by (repeat (first | exact Below.refl _ _ | assumption | refine Below.alloc ?_ (by simp <;> omega) _ | refine Below.setCell ?_ (by simp <;> omega) _ | refine Below.drew ?_ | refine below_drewN ?_))) (hb.mono (by simp <;> omega))
      replace hpm0 := keep hd hpm0
      replace hpm1 := keep hd hpm1
      replace hpk0 := keep hd hpk0
      replace hpk1 := keep hd hpk1
      replace hqW0 := keep hd hqW0
      replace hqW1 := keep hd hqW1
      replace hxm0 := keep hd hxm0
      replace hxm1 := keep hd hxm1
      replace hxk0 := keep hd hxk0
      replace hxk1 := keep hd hxk1
      replace hrXm := hrXm.below hd
      replace hrXk := hrXk.below hd
      replace hrG := hrG.below hd
      replace hiXm := hiXm.below hd
      replace hiXk := hiXk.below hd
      replace hiG := hiG.below hd
      replace hB := chain hB hd
      replace hXm := hxm.below hB
      replace hXk := hxk.below hB
      replace hC := chain hC hd
      replace hiW := hi0W.below hC
      have hs7 := hd.size
      clear hb hd
      go_wp2_with fail
      refine wp_region_join 54 55 56 57 58 (.agg #[.int .i64 sm, .slice aXm xm.length dXm]) (.agg #[.int .i64 sm, .slice om xm.length cm]) ?_ ?_
      · go_region_held3 (fun w' => w'.cell? ⟨w4.heap.size, 0, none⟩ = some (.int .i64 sm) ∧ w'.cell? ⟨w4.heap.size, 1, none⟩ = some (.slice aXm xm.length dXm) ∧ w'.cell? ⟨w.heap.size, 0, none⟩ = some (.int .i64 sm) ∧ w'.cell? ⟨w.heap.size, 1, none⟩ = some (.slice om xm.length cm)) (first | (refine ⟨by assumption, by assumption, by assumption, by assumption⟩; done) | (refine ⟨by simp [*], by simp [*], by simp [*], by simp [*]⟩; done) | go_keep) (first | (go_at_call 17; ((with_reducible refine (toMass_any sm om _ cm xm _ ?_ hnm).mono ?_)); exact hXm.below (drew_below _); rintro e wa ⟨v, rfl, hrE, hba⟩; obtain ⟨aE, mE, dE, rfl, hiE⟩ := hrE.ints; obtain rfl := hiE.len; have hda := chain (drew_below _) hba; have k0 := keep hda hxm0; have k1 := keep hda hxm1; have k2 := keep hda hpm0; have k3 := keep hda hpm1) | (go_at_call 19; ((with_reducible refine (eqMass_same _ _ _ _ _ _ xm _ ?_ ?_).mono ?_)); exact hiXm.below hda; exact hiE; rintro e wb ⟨rfl, hbb⟩; have hdb := chain hda hbb; have k0 := keep hdb hxm0; have k1 := keep hdb hxm1; have k2 := keep hdb hpm0; have k3 := keep hdb hpm1))
        all_goals exact ⟨_, rfl, chain hda hbb⟩
      intro vE w8 hb
      have hd := hb
      replace hpm0 := keep hd hpm0
      replace hpm1 := keep hd hpm1
      replace hpk0 := keep hd hpk0
      replace hpk1 := keep hd hpk1
      replace hqW0 := keep hd hqW0
      replace hqW1 := keep hd hqW1
      replace hxm0 := keep hd hxm0
      replace hxm1 := keep hd hxm1
      replace hxk0 := keep hd hxk0
      replace hxk1 := keep hd hxk1
      replace hqG0 := keep hd hqG0
      replace hqG1 := keep hd hqG1
      replace hrXm := hrXm.below hd
      replace hrXk := hrXk.below hd
      replace hrG := hrG.below hd
      replace hiXm := hiXm.below hd
      replace hiXk := hiXk.below hd
      replace hiG := hiG.below hd
      replace hB := chain hB hd
      replace hXm := hxm.below hB
      replace hXk := hxk.below hB
      replace hC := chain hC hd
      replace hiW := hi0W.below hC
      have hs8 := hd.size
      clear hb hd
      go_wp2_with fail
      refine wp_region_join 59 60 61 62 63 (.agg #[.int .i64 sk, .slice aXk xk.length dXk]) (.agg #[.int .i64 sk, .slice ok xk.length ck]) ?_ ?_
      · go_region_held3 (fun w' => w'.cell? ⟨w5.heap.size, 0, none⟩ = some (.int .i64 sk) ∧ w'.cell? ⟨w5.heap.size, 1, none⟩ = some (.slice aXk xk.length dXk) ∧ w'.cell? ⟨w.heap.size + 1, 0, none⟩ = some (.int .i64 sk) ∧ w'.cell? ⟨w.heap.size + 1, 1, none⟩ = some (.slice ok xk.length ck)) (first | (refine ⟨by assumption, by assumption, by assumption, by assumption⟩; done) | (refine ⟨by simp [*], by simp [*], by simp [*], by simp [*]⟩; done) | go_keep) (first | (go_at_call 17; ((with_reducible refine (toMass_any sk ok _ ck xk _ ?_ hnk).mono ?_)); exact hXk.below (drew_below _); rintro e wa ⟨v, rfl, hrE, hba⟩; obtain ⟨aE, mE, dE, rfl, hiE⟩ := hrE.ints; obtain rfl := hiE.len; have hda := chain (drew_below _) hba; have k0 := keep hda hxk0; have k1 := keep hda hxk1; have k2 := keep hda hpk0; have k3 := keep hda hpk1) | (go_at_call 19; ((with_reducible refine (eqMass_same _ _ _ _ _ _ xk _ ?_ ?_).mono ?_)); exact hiXk.below hda; exact hiE; rintro e wb ⟨rfl, hbb⟩; have hdb := chain hda hbb; have k0 := keep hdb hxk0; have k1 := keep hdb hxk1; have k2 := keep hdb hpk0; have k3 := keep hdb hpk1))
        all_goals exact ⟨_, rfl, chain hda hbb⟩
      intro vE w9 hb
      have hd := hb
      replace hpm0 := keep hd hpm0
      replace hpm1 := keep hd hpm1
      replace hpk0 := keep hd hpk0
      replace hpk1 := keep hd hpk1
      replace hqW0 := keep hd hqW0
      replace hqW1 := keep hd hqW1
      replace hxm0 := keep hd hxm0
      replace hxm1 := keep hd hxm1
      replace hxk0 := keep hd hxk0
      replace hxk1 := keep hd hxk1
      replace hqG0 := keep hd hqG0
      replace hqG1 := keep hd hqG1
      replace hrXm := hrXm.below hd
      replace hrXk := hrXk.below hd
      replace hrG := hrG.below hd
      replace hiXm := hiXm.below hd
      replace hiXk := hiXk.below hd
      replace hiG := hiG.below hd
      replace hB := chain hB hd
      replace hXm := hxm.below hB
      replace hXk := hxk.below hB
      replace hC := chain hC hd
      replace hiW := hi0W.below hC
      have hs9 := hd.size
      clear hb hd
      clear hiG
      clear hiXm
      clear hiXk
      (try go_simp); (repeat (first | go_skip | go_guarded | go_step | go_upon))
      refine (markMass_any _ _ _ _ (1) _ _ (hrXm) rfl hnm (by omega) (by omega)).mono ?_; rintro e w10 ⟨rfl, hm, hg⟩
      clear hm
      replace hpm0 := keepO hg hpm0 (fun e => by have := hvXm _ e.symm; omega)
      replace hpm1 := keepO hg hpm1 (fun e => by have := hvXm _ e.symm; omega)
      replace hpk0 := keepO hg hpk0 (fun e => by have := hvXm _ e.symm; omega)
      replace hpk1 := keepO hg hpk1 (fun e => by have := hvXm _ e.symm; omega)
      replace hqW0 := keepO hg hqW0 (fun e => by have := hvXm _ e.symm; omega)
      replace hqW1 := keepO hg hqW1 (fun e => by have := hvXm _ e.symm; omega)
      replace hxm0 := keepO hg hxm0 (fun e => by have := hvXm _ e.symm; omega)
      replace hxm1 := keepO hg hxm1 (fun e => by have := hvXm _ e.symm; omega)
      replace hxk0 := keepO hg hxk0 (fun e => by have := hvXm _ e.symm; omega)
      replace hxk1 := keepO hg hxk1 (fun e => by have := hvXm _ e.symm; omega)
      replace hqG0 := keepO hg hqG0 (fun e => by have := hvXm _ e.symm; omega)
      replace hqG1 := keepO hg hqG1 (fun e => by have := hvXm _ e.symm; omega)
      replace hrXk := Row.apart hrXk hg (fun b e b2 e2 => by have := hvXk b e; have := hvXm b2 e2; omega)
      replace hrG := Row.apart hrG hg (fun b e b2 e2 => by have := hvG b e; have := hvXm b2 e2; omega)
      replace hB := below_grownBy hB hB.size hg (fun k e => by have := hvXm k e; omega)
      replace hXm := hxm.below hB
      replace hXk := hxk.below hB
      replace hC := below_grownBy hC hC.size hg (fun k e => by have := hvXm k e; omega)
      replace hiW := hi0W.below hC
      have hs10 := hg.size
      clear hg
      clear hrXm hvXm
      have hnnm : (0 : Int) ≤ (xm.length : Int) := by omega
      (try go_simp); (repeat (first | go_skip | go_guarded | go_step | go_upon))
      refine (markMass_any _ _ _ _ (1 + (xm.length : Int)) _ _ (hrXk) rfl hnk (by omega) (by omega)).mono ?_; rintro e w11 ⟨rfl, hm, hg⟩
      clear hm
      replace hpm0 := keepO hg hpm0 (fun e => by have := hvXk _ e.symm; omega)
      replace hpm1 := keepO hg hpm1 (fun e => by have := hvXk _ e.symm; omega)
      replace hpk0 := keepO hg hpk0 (fun e => by have := hvXk _ e.symm; omega)
      replace hpk1 := keepO hg hpk1 (fun e => by have := hvXk _ e.symm; omega)
      replace hqW0 := keepO hg hqW0 (fun e => by have := hvXk _ e.symm; omega)
      replace hqW1 := keepO hg hqW1 (fun e => by have := hvXk _ e.symm; omega)
      replace hxm0 := keepO hg hxm0 (fun e => by have := hvXk _ e.symm; omega)
      replace hxm1 := keepO hg hxm1 (fun e => by have := hvXk _ e.symm; omega)
      replace hxk0 := keepO hg hxk0 (fun e => by have := hvXk _ e.symm; omega)
      replace hxk1 := keepO hg hxk1 (fun e => by have := hvXk _ e.symm; omega)
      replace hqG0 := keepO hg hqG0 (fun e => by have := hvXk _ e.symm; omega)
      replace hqG1 := keepO hg hqG1 (fun e => by have := hvXk _ e.symm; omega)
      replace hrG := Row.apart hrG hg (fun b e b2 e2 => by have := hvG b e; have := hvXk b2 e2; omega)
      replace hB := below_grownBy hB hB.size hg (fun k e => by have := hvXk k e; omega)
      replace hXm := hxm.below hB
      replace hXk := hxk.below hB
      replace hC := below_grownBy hC hC.size hg (fun k e => by have := hvXk k e; omega)
      replace hiW := hi0W.below hC
      have hs11 := hg.size
      clear hg
      clear hrXk hvXk
      have hnnk : (0 : Int) ≤ (xk.length : Int) := by omega
      obtain ⟨aH, nH, cH, eH, hiG⟩ := hrG.ints
      injection eH with e1 e2 e3
      subst e1 e2 e3
      (try go_simp); (repeat (first | go_skip | go_guarded | go_step | go_upon))
      refine (eqMass_same _ _ _ _ _ _ _ _ (hiG.below (by (repeat (first | exact Below.refl _ _ | assumption | refine Below.alloc ?_ (by simp <;> omega) _ | refine Below.setCell ?_ (by simp <;> omega) _ | refine Below.drew ?_ | refine below_drewN ?_)))) (hiW.below (by (repeat (first | exact Below.refl _ _ | assumption | refine Below.alloc ?_ (by simp <;> omega) _ | refine Below.setCell ?_ (by simp <;> omega) _ | refine Below.drew ?_ | refine below_drewN ?_))))).mono ?_; rintro e w12 ⟨rfl, hb⟩
      have hd := hb
      replace hpm0 := keep hd hpm0
      replace hpm1 := keep hd hpm1
      replace hpk0 := keep hd hpk0
      replace hpk1 := keep hd hpk1
      replace hqW0 := keep hd hqW0
      replace hqW1 := keep hd hqW1
      replace hxm0 := keep hd hxm0
      replace hxm1 := keep hd hxm1
      replace hxk0 := keep hd hxk0
      replace hxk1 := keep hd hxk1
      replace hqG0 := keep hd hqG0
      replace hqG1 := keep hd hqG1
      replace hrG := hrG.below hd
      replace hiG := hiG.below hd
      replace hB := chain hB hd
      replace hXm := hxm.below hB
      replace hXk := hxk.below hB
      replace hC := chain hC hd
      replace hiW := hi0W.below hC
      have hs12 := hd.size
      clear hb hd
      clear hiG
      (try go_simp); (repeat (first | go_skip | go_guarded | go_step | go_upon))
      refine (markMass_any _ _ _ _ 1 _ _ hrG rfl hlen (by omega) (by omega)).mono ?_; rintro e w13 ⟨rfl, hm, hg⟩
      replace hpm0 := keepO hg hpm0 (fun e => by have := hvG _ e.symm; omega)
      replace hpm1 := keepO hg hpm1 (fun e => by have := hvG _ e.symm; omega)
      replace hpk0 := keepO hg hpk0 (fun e => by have := hvG _ e.symm; omega)
      replace hpk1 := keepO hg hpk1 (fun e => by have := hvG _ e.symm; omega)
      replace hqW0 := keepO hg hqW0 (fun e => by have := hvG _ e.symm; omega)
      replace hqW1 := keepO hg hqW1 (fun e => by have := hvG _ e.symm; omega)
      replace hxm0 := keepO hg hxm0 (fun e => by have := hvG _ e.symm; omega)
      replace hxm1 := keepO hg hxm1 (fun e => by have := hvG _ e.symm; omega)
      replace hxk0 := keepO hg hxk0 (fun e => by have := hvG _ e.symm; omega)
      replace hxk1 := keepO hg hxk1 (fun e => by have := hvG _ e.symm; omega)
      replace hqG0 := keepO hg hqG0 (fun e => by have := hvG _ e.symm; omega)
      replace hqG1 := keepO hg hqG1 (fun e => by have := hvG _ e.symm; omega)
      replace hB := below_grownBy hB hB.size hg (fun k e => by have := hvG k e; omega)
      replace hXm := hxm.below hB
      replace hXk := hxk.below hB
      replace hC := below_grownBy hC hC.size hg (fun k e => by have := hvG k e; omega)
      replace hiW := hi0W.below hC
      have hs13 := hg.size
      clear hg
      clear hrG hvG
      obtain ⟨aH, nH, cH, eH, hk⟩ := hm.ints
      injection eH with e1 e2 e3
      subst e1 e2 e3
      clear hm
      have hn0 : (0 : Int) ≤ ((passM sm xm sk xk).parts.length : Int) := by omega
      (try go_simp); (repeat (first | go_skip | go_guarded | go_step | go_upon))
      refine (heldMass_any _ _ _ _ 1 _ (hk.below (by (repeat (first | exact Below.refl _ _ | assumption | refine Below.alloc ?_ (by simp <;> omega) _ | refine Below.setCell ?_ (by simp <;> omega) _ | refine Below.drew ?_ | refine below_drewN ?_)))) hlen (by omega) (by omega)).mono ?_; rintro e w14 ⟨rfl, hb⟩
      have hd := hb
      replace hpm0 := keep hd hpm0
      replace hpm1 := keep hd hpm1
      replace hpk0 := keep hd hpk0
      replace hpk1 := keep hd hpk1
      replace hqW0 := keep hd hqW0
      replace hqW1 := keep hd hqW1
      replace hxm0 := keep hd hxm0
      replace hxm1 := keep hd hxm1
      replace hxk0 := keep hd hxk0
      replace hxk1 := keep hd hxk1
      replace hqG0 := keep hd hqG0
      replace hqG1 := keep hd hqG1
      replace hk := hk.below hd
      replace hB := chain hB hd
      replace hXm := hxm.below hB
      replace hXk := hxk.below hB
      replace hC := chain hC hd
      replace hiW := hi0W.below hC
      have hs14 := hd.size
      clear hb hd
      (try go_simp); (repeat (first | go_skip | go_guarded | go_step | go_upon))
      have e1W : ¬ w14.heap.size = w.heap.size := by omega
      have e2W : ¬ w14.heap.size = w.heap.size + 1 := by omega
      refine wp_region_joinF (ι := Value × Value × Option Addr × Nat × Nat × Nat) (fun a i => ((((((((((a.put (some 95) (.agg #[.int .i64 sm, .slice om xm.length cm])).put (some 96) i.1).put (some 97) (.agg #[.int .i64 sk, .slice ok xk.length ck])).put (some 98) i.2.1).put (some 99) (.tuple #[.agg #[.int .i64 (passM sm xm sk xk).size, .slice i.2.2.1 i.2.2.2.1 i.2.2.2.2.1], .bool (passM sm xm sk xk).ok])).put (some 94) (.tuple #[.agg #[.int .i64 (passM sm xm sk xk).size, .slice i.2.2.1 i.2.2.2.1 i.2.2.2.2.1], .bool (passM sm xm sk xk).ok])).put (some 100) (.agg #[.int .i64 (passM sm xm sk xk).size, .slice i.2.2.1 i.2.2.2.1 i.2.2.2.2.1])).put (some 101) (.bool (passM sm xm sk xk).ok)).put (some 15) (.pointer (some ⟨i.2.2.2.2.2, 0, none⟩))).put (some 16) (.bool (passM sm xm sk xk).ok))) (fun i w' => Below w14.heap.size w14 w' ∧ w14.heap.size ≤ i.2.2.2.2.2 ∧ w'.cell? ⟨i.2.2.2.2.2, 0, none⟩ = some (.int .i64 (passM sm xm sk xk).size) ∧ w'.cell? ⟨i.2.2.2.2.2, 1, none⟩ = some (.slice i.2.2.1 i.2.2.2.1 i.2.2.2.2.1) ∧ Row w' w14.heap.size (.slice i.2.2.1 i.2.2.2.1 i.2.2.2.2.1) (passM sm xm sk xk).parts) ?_ ?_
      · go_region_held3 (fun w' => w'.cell? ⟨w.heap.size, 0, none⟩ = some (.int .i64 sm) ∧ w'.cell? ⟨w.heap.size, 1, none⟩ = some (.slice om xm.length cm) ∧ w'.cell? ⟨w.heap.size + 1, 0, none⟩ = some (.int .i64 sk) ∧ w'.cell? ⟨w.heap.size + 1, 1, none⟩ = some (.slice ok xk.length ck)) (first | (refine ⟨by assumption, by assumption, by assumption, by assumption⟩; done) | (refine ⟨by simp [*], by simp [*], by simp [*], by simp [*]⟩; done) | go_keep) (first | (go_at_call 17; ((with_reducible refine (toMass_any sm om _ cm xm _ ?_ hnm).mono ?_)); exact hXm.below (by (repeat (first | exact Below.refl _ _ | assumption | refine Below.alloc ?_ (by first | omega | (simp <;> omega)) _ | refine Below.setCell ?_ (by first | omega | (simp <;> omega)) _ | refine Below.drew ?_ | refine below_drewN ?_))); rintro e wm ⟨vm, rfl, hrwm, hb⟩; obtain ⟨awm, mwm, dwm, rfl, hiwm⟩ := hrwm.ints; obtain rfl := hiwm.len; have hdwm : Below w14.heap.size w14 wm := Below.trans (by (repeat (first | exact Below.refl _ _ | assumption | refine Below.alloc ?_ (by first | omega | (simp <;> omega)) _ | refine Below.setCell ?_ (by first | omega | (simp <;> omega)) _ | refine Below.drew ?_ | refine below_drewN ?_))) (hb.mono (by first | omega | (simp <;> omega))); have hszwm := hdwm.size; (first | (have hlt := World.block_lt_of_cell? _ _ i0; (dsimp only at hlt); replace j0 := keepF hb i0 j0; replace j1 := keepF hb i1 j1; replace i0 := keep hb i0; replace i1 := keep hb i1) | (((with_reducible have hA := box2f hb)); obtain ⟨i0, i1, j0, j1, _⟩ := hA; (try simp only [heap_drew] at i0 i1 j0 j1)) | (((with_reducible have hA := box2f (undrew hb))); obtain ⟨i0, i1, j0, j1, _⟩ := hA) | skip); (try (have hwnwm : Below wn.heap.size wn wm := Below.trans (by (repeat (first | exact Below.refl _ _ | assumption | refine Below.alloc ?_ (by first | omega | (simp <;> omega)) _ | refine Below.setCell ?_ (by first | omega | (simp <;> omega)) _ | refine Below.drew ?_ | refine below_drewN ?_))) (hb.mono (by first | omega | (simp <;> omega))); have hswnwm := hwnwm.size)); have e1wm : ¬ wm.heap.size = w.heap.size := (by omega); have e2wm : ¬ wm.heap.size = w.heap.size + 1 := (by omega); have k0 := keep hdwm hpm0; have k1 := keep hdwm hpm1; have k2 := keep hdwm hpk0; have k3 := keep hdwm hpk1) | (go_at_call 17; ((with_reducible refine (toMass_any sk ok _ ck xk _ ?_ hnk).mono ?_)); exact hXk.below (by (repeat (first | exact Below.refl _ _ | assumption | refine Below.alloc ?_ (by first | omega | (simp <;> omega)) _ | refine Below.setCell ?_ (by first | omega | (simp <;> omega)) _ | refine Below.drew ?_ | refine below_drewN ?_))); rintro e wn ⟨vn, rfl, hrwn, hb⟩; obtain ⟨awn, mwn, dwn, rfl, hiwn⟩ := hrwn.ints; obtain rfl := hiwn.len; have hdwn : Below w14.heap.size w14 wn := Below.trans (by (repeat (first | exact Below.refl _ _ | assumption | refine Below.alloc ?_ (by first | omega | (simp <;> omega)) _ | refine Below.setCell ?_ (by first | omega | (simp <;> omega)) _ | refine Below.drew ?_ | refine below_drewN ?_))) (hb.mono (by first | omega | (simp <;> omega))); have hszwn := hdwn.size; (first | (have hlt := World.block_lt_of_cell? _ _ i0; (dsimp only at hlt); replace j0 := keepF hb i0 j0; replace j1 := keepF hb i1 j1; replace i0 := keep hb i0; replace i1 := keep hb i1) | (((with_reducible have hA := box2f hb)); obtain ⟨i0, i1, j0, j1, _⟩ := hA; (try simp only [heap_drew] at i0 i1 j0 j1)) | (((with_reducible have hA := box2f (undrew hb))); obtain ⟨i0, i1, j0, j1, _⟩ := hA) | skip); (try (have hwmwn : Below wm.heap.size wm wn := Below.trans (by (repeat (first | exact Below.refl _ _ | assumption | refine Below.alloc ?_ (by first | omega | (simp <;> omega)) _ | refine Below.setCell ?_ (by first | omega | (simp <;> omega)) _ | refine Below.drew ?_ | refine below_drewN ?_))) (hb.mono (by first | omega | (simp <;> omega))); have hswmwn := hwmwn.size)); have e1wn : ¬ wn.heap.size = w.heap.size := (by omega); have e2wn : ¬ wn.heap.size = w.heap.size + 1 := (by omega); have k0 := keep hdwn hpm0; have k1 := keep hdwn hpm1; have k2 := keep hdwn hpk0; have k3 := keep hdwn hpk1) | (go_at_call 51; ((with_reducible refine (PassOn_any sm sk _ _ _ _ _ _ xm xk _ ?_ ?_).mono ?_)); exact hiwm.below (by (repeat (first | exact Below.refl _ _ | assumption | refine Below.alloc ?_ (by first | omega | (simp <;> omega)) _ | refine Below.setCell ?_ (by first | omega | (simp <;> omega)) _ | refine Below.drew ?_ | refine below_drewN ?_))); exact hiwn.below (by (repeat (first | exact Below.refl _ _ | assumption | refine Below.alloc ?_ (by first | omega | (simp <;> omega)) _ | refine Below.setCell ?_ (by first | omega | (simp <;> omega)) _ | refine Below.drew ?_ | refine below_drewN ?_))); rintro e wz ⟨⟨vz, rfl, hrwz⟩, hb⟩; obtain ⟨awz, mwz, dwz, rfl, hiwz⟩ := hrwz.ints; have hdwz : Below w14.heap.size w14 wz := Below.trans (by (repeat (first | exact Below.refl _ _ | assumption | refine Below.alloc ?_ (by first | omega | (simp <;> omega)) _ | refine Below.setCell ?_ (by first | omega | (simp <;> omega)) _ | refine Below.drew ?_ | refine below_drewN ?_))) (hb.mono (by first | omega | (simp <;> omega))); have hszwz := hdwz.size; have hszb := hb.size; (first | (have hlt := World.block_lt_of_cell? _ _ i0; (dsimp only at hlt); replace j0 := keepF hb i0 j0; replace j1 := keepF hb i1 j1; replace i0 := keep hb i0; replace i1 := keep hb i1) | (((with_reducible have hA := box2f hb)); obtain ⟨i0, i1, j0, j1, _⟩ := hA; (try simp only [heap_drew] at i0 i1 j0 j1)) | (((with_reducible have hA := box2f (undrew hb))); obtain ⟨i0, i1, j0, j1, _⟩ := hA) | skip); have e1wz : ¬ wz.heap.size = w.heap.size := (by omega); have e2wz : ¬ wz.heap.size = w.heap.size + 1 := (by omega); have k0 := keep hdwz hpm0; have k1 := keep hdwz hpm1; have k2 := keep hdwz hpk0; have k3 := keep hdwz hpk1))
        all_goals first | (refine ⟨⟨.agg #[.int .i64 sm, .slice awm xm.length dwm], .agg #[.int .i64 sk, .slice awn xk.length dwn], awz, mwz, dwz, w14.heap.size⟩, ?_, ?_⟩; (focus (simp [Act.put]; done)); dsimp only) | (refine ⟨⟨.agg #[.int .i64 sm, .slice awm xm.length dwm], .agg #[.int .i64 sk, .slice awn xk.length dwn], awz, mwz, dwz, wm.heap.size⟩, ?_, ?_⟩; (focus (simp [Act.put]; done)); dsimp only) | (refine ⟨⟨.agg #[.int .i64 sm, .slice awm xm.length dwm], .agg #[.int .i64 sk, .slice awn xk.length dwn], awz, mwz, dwz, wn.heap.size⟩, ?_, ?_⟩; (focus (simp [Act.put]; done)); dsimp only) | (refine ⟨⟨.agg #[.int .i64 sm, .slice awm xm.length dwm], .agg #[.int .i64 sk, .slice awn xk.length dwn], awz, mwz, dwz, wz.heap.size⟩, ?_, ?_⟩; (focus (simp [Act.put]; done)); dsimp only)
        all_goals
          refine ⟨?_, ?_, ?_, ?_, ?_⟩
          · (repeat (first | exact Below.refl _ _ | assumption | refine Below.alloc ?_ (by first | omega | (simp <;> omega)) _ | refine Below.setCell ?_ (by first | omega | (simp <;> omega)) _ | refine Below.drew ?_ | refine below_drewN ?_))
          · first | omega | exact Nat.le_refl _
          · first | (simp; done) | (simp [go_sem, i0, i1]; done)
          · first | (simp; done) | (simp [go_sem, i0, i1]; done)
          · first | exact (hrwz.below (below_alloc _ _)).mono (by first | omega | (simp <;> omega)) | exact ((hrwz.setBelow (by first | (simp; omega) | (simp; done) | (dsimp only; omega)) _).setBelow (by first | (simp; omega) | (simp; done) | (dsimp only; omega)) _).mono (by first | omega | (simp <;> omega))
      rintro ⟨vAZ, vBZ, aZ, mZ, dZ, BZ⟩ w15 ⟨hb, hloZ, hqZ0, hqZ1, hrZ⟩
      obtain rfl := hrZ.len
      have hiZ : IntsAt w15 aZ (passM sm xm sk xk).parts.length (passM sm xm sk xk).parts := by obtain ⟨_, _, _, e, hi⟩ := hrZ.ints; injection e with e1 e2 e3; subst e1 e2 e3; exact hi
      have hvZ : ∀ b, (Value.slice aZ (passM sm xm sk xk).parts.length dZ).ownBlock = some b → w14.heap.size ≤ b ∧ b < w15.heap.size := fun b e => hrZ.block b e
      have hhiZ : BZ < w15.heap.size := by have := World.block_lt_of_cell? _ _ hqZ0; simpa using this
      change Below w14.heap.size w14 w15 at hb
      change w14.heap.size ≤ BZ at hloZ
      change w15.cell? ⟨BZ, 0, none⟩ = _ at hqZ0
      change w15.cell? ⟨BZ, 1, none⟩ = _ at hqZ1
      have hd := hb
      replace hpm0 := keep hd hpm0
      replace hpm1 := keep hd hpm1
      replace hpk0 := keep hd hpk0
      replace hpk1 := keep hd hpk1
      replace hqW0 := keep hd hqW0
      replace hqW1 := keep hd hqW1
      replace hxm0 := keep hd hxm0
      replace hxm1 := keep hd hxm1
      replace hxk0 := keep hd hxk0
      replace hxk1 := keep hd hxk1
      replace hqG0 := keep hd hqG0
      replace hqG1 := keep hd hqG1
      replace hk := hk.below hd
      replace hB := chain hB hd
      replace hXm := hxm.below hB
      replace hXk := hxk.below hB
      replace hC := chain hC hd
      replace hiW := hi0W.below hC
      have hs15 := hd.size
      clear hb hd
      (try go_simp); (repeat (first | go_skip | go_guarded | go_step | go_upon))
      refine (eqMass_same _ _ _ _ _ _ _ _ (hiZ.below (by (repeat (first | exact Below.refl _ _ | assumption | refine Below.alloc ?_ (by simp <;> omega) _ | refine Below.setCell ?_ (by simp <;> omega) _ | refine Below.drew ?_ | refine below_drewN ?_)))) (hiW.below (by (repeat (first | exact Below.refl _ _ | assumption | refine Below.alloc ?_ (by simp <;> omega) _ | refine Below.setCell ?_ (by simp <;> omega) _ | refine Below.drew ?_ | refine below_drewN ?_))))).mono ?_; rintro e w16 ⟨rfl, hb⟩
      have hd := hb
      replace hpm0 := keep hd hpm0
      replace hpm1 := keep hd hpm1
      replace hpk0 := keep hd hpk0
      replace hpk1 := keep hd hpk1
      replace hqW0 := keep hd hqW0
      replace hqW1 := keep hd hqW1
      replace hxm0 := keep hd hxm0
      replace hxm1 := keep hd hxm1
      replace hxk0 := keep hd hxk0
      replace hxk1 := keep hd hxk1
      replace hqG0 := keep hd hqG0
      replace hqG1 := keep hd hqG1
      replace hqZ0 := keep hd hqZ0
      replace hqZ1 := keep hd hqZ1
      replace hrZ := hrZ.below hd
      replace hk := hk.below hd
      replace hiZ := hiZ.below hd
      replace hB := chain hB hd
      replace hXm := hxm.below hB
      replace hXk := hxk.below hB
      replace hC := chain hC hd
      replace hiW := hi0W.below hC
      have hs16 := hd.size
      clear hb hd
      (try go_simp); (repeat (first | go_skip | go_guarded | go_step | go_upon))
      refine (heldMass_any _ _ _ _ 1 _ (hk.below (by (repeat (first | exact Below.refl _ _ | assumption | refine Below.alloc ?_ (by simp <;> omega) _ | refine Below.setCell ?_ (by simp <;> omega) _ | refine Below.drew ?_ | refine below_drewN ?_)))) hlen (by omega) (by omega)).mono ?_; rintro e w17 ⟨rfl, hb⟩
      have hd := hb
      replace hpm0 := keep hd hpm0
      replace hpm1 := keep hd hpm1
      replace hpk0 := keep hd hpk0
      replace hpk1 := keep hd hpk1
      replace hqW0 := keep hd hqW0
      replace hqW1 := keep hd hqW1
      replace hxm0 := keep hd hxm0
      replace hxm1 := keep hd hxm1
      replace hxk0 := keep hd hxk0
      replace hxk1 := keep hd hxk1
      replace hqG0 := keep hd hqG0
      replace hqG1 := keep hd hqG1
      replace hqZ0 := keep hd hqZ0
      replace hqZ1 := keep hd hqZ1
      replace hrZ := hrZ.below hd
      replace hk := hk.below hd
      replace hiZ := hiZ.below hd
      replace hB := chain hB hd
      replace hXm := hxm.below hB
      replace hXk := hxk.below hB
      replace hC := chain hC hd
      replace hiW := hi0W.below hC
      have hs17 := hd.size
      clear hb hd
      go_wp2
      go_ret
      exact ⟨rfl, hB⟩
end Go.Proofs.Ytmmlfjohknfbmaa
