/- What the reference's drawing functions draw: some value, in new memory (printed by drawgen.py). -/
import Derived.Test.YtefmlbahmakboaaGreatDoorD13
import Derived.Test.YtefmlbahmakboaaGreatDoorDR
import Derived.Test.YtefmlbahmakboaaGreatDoorW6
import Derived.Deep.RegionHeld3
set_option linter.unusedSimpArgs false
set_option linter.unusedVariables false
namespace Go.Proofs.YtefmlbahmakboaaGreatDoor
open Go.RowKit
def Short (xss : List (List Int)) : Prop := ∀ k, k < xss.length → (nthL xss k).length ≤ 6
theorem Short.app {xss : List (List Int)} {ys : List Int} (h : Short xss) (hy : ys.length ≤ 6) : Short (xss ++ [ys]) := fun k hk => by
  rw [List.length_append] at hk
  simp at hk
  by_cases e : k < xss.length
  · have : nthL (xss ++ [ys]) k = nthL xss k := by unfold nthL; rw [List.getD_eq_getElem?_getD, List.getD_eq_getElem?_getD, List.getElem?_append_left e]
    rw [this]; exact h k e
  · obtain rfl : k = xss.length := by omega
    have : nthL (xss ++ [ys]) xss.length = ys := by unfold nthL; rw [List.getD_eq_getElem?_getD, List.getElem?_append_right (Nat.le_refl _)]; simp
    rw [this]; exact hy
def SomeActs (base : Nat) (v : Value) (w' : World) : Prop := ∃ xss, RowsO w' base v xss ∧ xss.length ≤ 9 ∧ Short xss
theorem grown_read {R P base : Nat} {w0 w w' : World} {v : Value} {o : Obj} (hrd : Rd w R P) (hsp : Span R (R + 1) w0 w) (hR : R < base) (hb0 : w0.heap.size ≤ base) (hb : base ≤ w.heap.size) (hv : ∀ k, v.ownBlock = some k → base ≤ k) (hg : (w.alloc o).grownBy w' v.ownBlock) : Rd w' R P ∧ Span R (R + 1) w0 w' := by
  have H1 := below_grownBy (B := base) (show Below base w (w.alloc o) from (below_alloc w o).mono hb) (by simp; omega) hg (fun b e => hv b e)
  exact ⟨hrd.below H1 hR, hsp.on (H1.mono hb0)⟩
set_option maxRecDepth 100000 in
set_option maxHeartbeats 8000000 in
theorem l12Acts_any (R P : Nat) (s : Int) (am : Option Addr) (nm cm : Nat) (w : World) (hr : Rd w R P) (hP : P ≤ 330000000) :
    Calls Tryz.prog 109 #[.pointer (some ⟨R, 0, none⟩), .agg #[.int .i64 s, .slice am nm cm]] w (Drew R (P + 110) w (SomeActs w.heap.size)) := by
  have hR := hr.1
  have hlit : RowsO ((w.alloc (.cells #[.int .i64 s, .slice am nm cm] 25)).alloc (.cells #[] 23)) (w.heap.size + 1) (.slice (some ⟨w.heap.size + 1, 0, none⟩) 0 0) [] := by
    have h := RowsO.lit (w.alloc (.cells #[.int .i64 s, .slice am nm cm] 25))
    simpa using h
  have hB0 : Below w.heap.size w ((w.alloc (.cells #[.int .i64 s, .slice am nm cm] 25)).alloc (.cells #[] 23)) := by (repeat (first | exact Below.refl _ _ | assumption | refine Below.alloc ?_ (by first | omega | (simp <;> omega)) _ | refine Below.setCell ?_ (by first | omega | (simp <;> omega)) _ | refine Below.drew ?_ | refine below_drewN ?_))
  have hm0 : ((w.alloc (.cells #[.int .i64 s, .slice am nm cm] 25)).alloc (.cells #[] 23)).cell? ⟨w.heap.size, 0, none⟩ = some (.int .i64 s) := by simp
  go_enter Tryz.func109, Tryz.ntmps109
  go_wp2_with fail
  obtain ⟨w1, hw1⟩ : ∃ q, (w.alloc (.cells #[.int .i64 s, .slice am nm cm] 25)).alloc (.cells #[] 23) = q := ⟨_, rfl⟩
  have hz1 : w1.heap.size = w.heap.size + 2 := by rw [← hw1]; simp
  rw [hw1]
  rw [hw1] at hlit hB0 hm0
  clear hw1
  refine (pick_any R _ _ _ (hr.on hB0) (by omega) (by omega)).mono ?_; rintro e w2 ⟨_, rfl, ⟨x, rfl, hx0, hx1⟩, hrd2, hs⟩
  obtain ⟨k0, rfl⟩ : ∃ k : Nat, x = (k : Int) := ⟨x.toNat, by omega⟩
  have hlit2 := hlit.span hs (by omega)
  have hm2 := Span.keep hs hm0 (by omega)
  have hz2 := hs.size
  have hsp2 := (Span.of_below hB0).trans hs
  have hadd : IntKind.i64.wrap (1 + (k0 : Int)) = ((k0 + 1 : Nat) : Int) := by rw [IntWalk.i64_in _ (by omega)]; omega
  have hrd2' := hrd2.mono (show P + 1 ≤ P + 100 - 20 * (k0 + 1) by omega)
  clear hlit hm0 hs hrd2 hB0
  go_wp2
  go_loopw [5, 6] (fun o i wr => ∃ (k : Nat) (v : Value) (xss : List (List Int)), k ≤ 4 ∧ i = .int .i64 k ∧ o = v ∧ RowsO wr (w.heap.size + 1) v xss ∧ xss.length + k ≤ 4 ∧ 1 ≤ xss.length + k ∧ Short xss ∧ Rd wr R (P + 100 - 20 * k) ∧ Span R (R + 1) w wr ∧ wr.cell? ⟨w.heap.size, 0, none⟩ = some (.int .i64 s)) (fun _ i _ => (intOf i).toNat)
  case atStart => exact ⟨k0 + 1, _, [], by omega, rfl, rfl, hlit2, by simp; omega, by simp, fun k hk => by simp at hk, hrd2', hsp2, hm2⟩
  case round =>
    clear hlit2 hm2 hsp2 hrd2' hadd
    obtain ⟨k, v, xss, hk, rfl, rfl, hown, hl4, hl1, hsh, hrd, hsp, hm⟩ := hrel
    have hzr := hsp.size
    have hms := World.block_lt_of_cell? _ _ hm
    have hms' : w.heap.size < wr.heap.size := hms
    have hvb := hown.block
    by_cases hlt : 0 < k
    · have hk0 : (0 : Int) < (k : Int) := by omega
      have hsub : IntKind.i64.wrap ((k : Int) - 1) = ((k - 1 : Nat) : Int) := by rw [IntWalk.i64_in _ (by omega)]; omega
      have HK : Hid (k - 1 < k) := by show k - 1 < k; omega
      rcases (show s < 0 ∨ (0 ≤ s ∧ s ≤ 5) ∨ 5 < s by omega) with hs | ⟨hs, hs5⟩ | hs
      · have hs2 : ¬ 0 < s := by omega
        go_wp2_with fail
        refine (l10List_any R _ 0 _ hrd (by omega) (by omega)).mono ?_; rintro e wy ⟨vy, rfl, ⟨ys, hry, hly⟩, hrdy, hsy⟩
        have hownY := hown.span hsy (by omega)
        have hmY := Span.keep hsy hm (by omega)
        have hspY := hsp.trans hsy
        have hzy := hsy.size
        obtain ⟨ay, ny, cy, rfl, hiy⟩ := hry.ints
        clear hiy
        have hyb := hry.block
        clear hown hm hsp hrd hsy
        go_wp2_with (at_builtin; refine wpList_append_row rfl _ _ rfl (w.heap.size + 1) _ xss xss.length rfl (by rfl) (hownY.below (below_alloc wy _)) _ _ (.slice ay ny cy) ys (by rfl) (by simp) ((hry.mono (by omega)).below (below_alloc wy _)) (fun b h1 h2 => by have := (hyb b h1).1; have := (hvb b h2).2; omega) (by omega) (by simp; omega) ?_; intro g' c' w' hrow' hgrow hgb)
        obtain ⟨HR2, HS2⟩ := grown_read (base := w.heap.size + 1) hrdy hspY (by omega) (by omega) (by omega) (fun b h => (hvb b h).1) hgrow
        have HM2 : w'.cell? ⟨w.heap.size, 0, none⟩ = some (.int .i64 s) := hgrow.cell (by rw [World.cell?_alloc_lt _ _ _ (by show w.heap.size < _; omega)]; exact hmY) (by intro e; have h9 : w.heap.size + 1 ≤ w.heap.size := (hvb _ (by first | exact e | exact e.symm)).1; omega)
        have HR3 := hid HR2
        clear hgrow hownY hrdy hspY hmY hry HR2
        go_roundw
        case rel => first | exact ⟨k - 1, _, xss ++ [ys], by omega, by first | rfl | rw [hsub] | go_num, rfl, hrow', by simp; omega, by simp; omega, hsh.app hly, HR3.out.mono (by omega), HS2, HM2⟩ | exact ⟨_, ⟨k - 1, _, xss ++ [ys], by omega, by first | rfl | rw [hsub] | go_num, rfl, hrow', by simp; omega, by simp; omega, hsh.app hly, HR3.out.mono (by omega), HS2, HM2⟩, rfl⟩ | exact ⟨_, _, ⟨k - 1, _, xss ++ [ys], by omega, by first | rfl | rw [hsub] | go_num, rfl, hrow', by simp; omega, by simp; omega, hsh.app hly, HR3.out.mono (by omega), HS2, HM2⟩, rfl, rfl⟩ | exact ⟨_, _, _, ⟨k - 1, _, xss ++ [ys], by omega, by first | rfl | rw [hsub] | go_num, rfl, hrow', by simp; omega, by simp; omega, hsh.app hly, HR3.out.mono (by omega), HS2, HM2⟩, rfl, rfl, rfl⟩ | exact ⟨_, _, _, _, ⟨k - 1, _, xss ++ [ys], by omega, by first | rfl | rw [hsub] | go_num, rfl, hrow', by simp; omega, by simp; omega, hsh.app hly, HR3.out.mono (by omega), HS2, HM2⟩, rfl, rfl, rfl, rfl⟩ | exact ⟨_, _, _, _, _, ⟨k - 1, _, xss ++ [ys], by omega, by first | rfl | rw [hsub] | go_num, rfl, hrow', by simp; omega, by simp; omega, hsh.app hly, HR3.out.mono (by omega), HS2, HM2⟩, rfl, rfl, rfl, rfl, rfl⟩
        case measure => simp [intOf]; omega
      · obtain ⟨sz, rfl⟩ : ∃ sz : Nat, s = (sz : Int) := ⟨s.toNat, by omega⟩
        have hs2 : ¬ 5 < (sz : Int) := by omega
        have hs3 : ¬ (sz : Int) < 0 := by omega
        go_wp2_with fail
        refine (l10List_any R _ sz _ hrd (by omega) (by omega)).mono ?_; rintro e wy ⟨vy, rfl, ⟨ys, hry, hly⟩, hrdy, hsy⟩
        have hownY := hown.span hsy (by omega)
        have hmY := Span.keep hsy hm (by omega)
        have hspY := hsp.trans hsy
        have hzy := hsy.size
        obtain ⟨ay, ny, cy, rfl, hiy⟩ := hry.ints
        clear hiy
        have hyb := hry.block
        clear hown hm hsp hrd hsy
        go_wp2_with (at_builtin; refine wpList_append_row rfl _ _ rfl (w.heap.size + 1) _ xss xss.length rfl (by rfl) (hownY.below (below_alloc wy _)) _ _ (.slice ay ny cy) ys (by rfl) (by simp) ((hry.mono (by omega)).below (below_alloc wy _)) (fun b h1 h2 => by have := (hyb b h1).1; have := (hvb b h2).2; omega) (by omega) (by simp; omega) ?_; intro g' c' w' hrow' hgrow hgb)
        obtain ⟨HR2, HS2⟩ := grown_read (base := w.heap.size + 1) hrdy hspY (by omega) (by omega) (by omega) (fun b h => (hvb b h).1) hgrow
        have HM2 : w'.cell? ⟨w.heap.size, 0, none⟩ = some (.int .i64 (sz : Int)) := hgrow.cell (by rw [World.cell?_alloc_lt _ _ _ (by show w.heap.size < _; omega)]; exact hmY) (by intro e; have h9 : w.heap.size + 1 ≤ w.heap.size := (hvb _ (by first | exact e | exact e.symm)).1; omega)
        have HR3 := hid HR2
        clear hgrow hownY hrdy hspY hmY hry HR2
        go_roundw
        case rel => first | exact ⟨k - 1, _, xss ++ [ys], by omega, by first | rfl | rw [hsub] | go_num, rfl, hrow', by simp; omega, by simp; omega, hsh.app hly, HR3.out.mono (by omega), HS2, HM2⟩ | exact ⟨_, ⟨k - 1, _, xss ++ [ys], by omega, by first | rfl | rw [hsub] | go_num, rfl, hrow', by simp; omega, by simp; omega, hsh.app hly, HR3.out.mono (by omega), HS2, HM2⟩, rfl⟩ | exact ⟨_, _, ⟨k - 1, _, xss ++ [ys], by omega, by first | rfl | rw [hsub] | go_num, rfl, hrow', by simp; omega, by simp; omega, hsh.app hly, HR3.out.mono (by omega), HS2, HM2⟩, rfl, rfl⟩ | exact ⟨_, _, _, ⟨k - 1, _, xss ++ [ys], by omega, by first | rfl | rw [hsub] | go_num, rfl, hrow', by simp; omega, by simp; omega, hsh.app hly, HR3.out.mono (by omega), HS2, HM2⟩, rfl, rfl, rfl⟩ | exact ⟨_, _, _, _, ⟨k - 1, _, xss ++ [ys], by omega, by first | rfl | rw [hsub] | go_num, rfl, hrow', by simp; omega, by simp; omega, hsh.app hly, HR3.out.mono (by omega), HS2, HM2⟩, rfl, rfl, rfl, rfl⟩ | exact ⟨_, _, _, _, _, ⟨k - 1, _, xss ++ [ys], by omega, by first | rfl | rw [hsub] | go_num, rfl, hrow', by simp; omega, by simp; omega, hsh.app hly, HR3.out.mono (by omega), HS2, HM2⟩, rfl, rfl, rfl, rfl, rfl⟩
        case measure => simp [intOf]; omega
      · have hs2 : ¬ s < 0 := by omega
        go_wp2_with fail
        refine (l10List_any R _ 5 _ hrd (by omega) (by omega)).mono ?_; rintro e wy ⟨vy, rfl, ⟨ys, hry, hly⟩, hrdy, hsy⟩
        have hownY := hown.span hsy (by omega)
        have hmY := Span.keep hsy hm (by omega)
        have hspY := hsp.trans hsy
        have hzy := hsy.size
        obtain ⟨ay, ny, cy, rfl, hiy⟩ := hry.ints
        clear hiy
        have hyb := hry.block
        clear hown hm hsp hrd hsy
        go_wp2_with (at_builtin; refine wpList_append_row rfl _ _ rfl (w.heap.size + 1) _ xss xss.length rfl (by rfl) (hownY.below (below_alloc wy _)) _ _ (.slice ay ny cy) ys (by rfl) (by simp) ((hry.mono (by omega)).below (below_alloc wy _)) (fun b h1 h2 => by have := (hyb b h1).1; have := (hvb b h2).2; omega) (by omega) (by simp; omega) ?_; intro g' c' w' hrow' hgrow hgb)
        obtain ⟨HR2, HS2⟩ := grown_read (base := w.heap.size + 1) hrdy hspY (by omega) (by omega) (by omega) (fun b h => (hvb b h).1) hgrow
        have HM2 : w'.cell? ⟨w.heap.size, 0, none⟩ = some (.int .i64 s) := hgrow.cell (by rw [World.cell?_alloc_lt _ _ _ (by show w.heap.size < _; omega)]; exact hmY) (by intro e; have h9 : w.heap.size + 1 ≤ w.heap.size := (hvb _ (by first | exact e | exact e.symm)).1; omega)
        have HR3 := hid HR2
        clear hgrow hownY hrdy hspY hmY hry HR2
        go_roundw
        case rel => first | exact ⟨k - 1, _, xss ++ [ys], by omega, by first | rfl | rw [hsub] | go_num, rfl, hrow', by simp; omega, by simp; omega, hsh.app hly, HR3.out.mono (by omega), HS2, HM2⟩ | exact ⟨_, ⟨k - 1, _, xss ++ [ys], by omega, by first | rfl | rw [hsub] | go_num, rfl, hrow', by simp; omega, by simp; omega, hsh.app hly, HR3.out.mono (by omega), HS2, HM2⟩, rfl⟩ | exact ⟨_, _, ⟨k - 1, _, xss ++ [ys], by omega, by first | rfl | rw [hsub] | go_num, rfl, hrow', by simp; omega, by simp; omega, hsh.app hly, HR3.out.mono (by omega), HS2, HM2⟩, rfl, rfl⟩ | exact ⟨_, _, _, ⟨k - 1, _, xss ++ [ys], by omega, by first | rfl | rw [hsub] | go_num, rfl, hrow', by simp; omega, by simp; omega, hsh.app hly, HR3.out.mono (by omega), HS2, HM2⟩, rfl, rfl, rfl⟩ | exact ⟨_, _, _, _, ⟨k - 1, _, xss ++ [ys], by omega, by first | rfl | rw [hsub] | go_num, rfl, hrow', by simp; omega, by simp; omega, hsh.app hly, HR3.out.mono (by omega), HS2, HM2⟩, rfl, rfl, rfl, rfl⟩ | exact ⟨_, _, _, _, _, ⟨k - 1, _, xss ++ [ys], by omega, by first | rfl | rw [hsub] | go_num, rfl, hrow', by simp; omega, by simp; omega, hsh.app hly, HR3.out.mono (by omega), HS2, HM2⟩, rfl, rfl, rfl, rfl, rfl⟩
        case measure => simp [intOf]; omega
    · obtain rfl : k = 0 := by omega
      have hln : 1 ≤ xss.length := by omega
      obtain ⟨g, cg, he, hg1, hg2⟩ := hown.form2 (by omega)
      rw [he] at hown hvb
      subst he
      have HP := hrd.mono (show P + 100 - 20 * 0 ≤ P + 100 by omega)
      have h9 : xss.length ≤ 4 := by omega
      clear hrd hl4 hl1 hm hms hms'
      go_wp2_with fail
      refine (pick_any R _ _ _ HP (by omega) (by omega)).mono ?_; rintro e w3 ⟨_, rfl, ⟨z, rfl, hz0, hz1'⟩, hrd3, hs⟩
      have hown3 := hown.span hs (by omega)
      have hsp3 := hsp.trans hs
      have hz3 := hs.size
      clear hown HP hsp hs
      by_cases e0 : z = 0
      · subst e0
        go_wp2
        go_ret
        have hB3 := below_alloc w3 (.cells #[] 23)
        exact ⟨_, rfl, ⟨[], (RowsO.lit w3).mono (by omega), by simp, fun k hk => by simp at hk⟩, (hrd3.on hB3).mono (by omega), hsp3.trans (Span.of_below hB3)⟩
      · have hz0' : (z == 0) = false := by simpa using e0
        by_cases e1 : z = 1
        · subst e1
          go_wp2
          go_loopw [5] (fun o wr => ∃ (v : Value) (yss : List (List Int)), o = v ∧ RowsO wr (w.heap.size + 1) v yss ∧ 1 ≤ yss.length ∧ yss.length ≤ 9 ∧ Short yss ∧ Rd wr R (P + 101) ∧ Span R (R + 1) w wr ∧ w.heap.size + 1 ≤ wr.heap.size) (fun o _ => 9 - (match o with | .slice _ n _ => n | _ => 0))
          case atStart => exact ⟨_, xss, rfl, hown3, hln, by omega, hsh, hrd3.mono (by omega), hsp3, by omega⟩
          case round =>
            clear hown3 hrd3 hsp3 hvb
            obtain ⟨v, yss, rfl, hown, hy1, hy9, hshy, hrd, hsp, hzw⟩ := hrel
            obtain ⟨gy, cy, he, hgy1, hgy2⟩ := hown.form2 (by omega)
            rw [he] at hown
            subst he
            have hvy := hown.block
            by_cases hlt : yss.length < 9
            · have hlt2 : (yss.length : Int) < 9 := by omega
              obtain ⟨u, hu0, hu1, hu2⟩ := hown.first (by omega)
              obtain ⟨au, nu, cu, rfl, hiu⟩ := hu1.ints
              have h00 : (0 : Int) < (yss.length : Int) := by omega
              have hsl := hshy 0 (by omega)
              clear hiu
              go_wp2_with (at_builtin; refine wpList_append_row rfl _ _ rfl (w.heap.size + 1) _ yss yss.length rfl (by rfl) (hown.below (below_alloc wr _)) _ _ (.slice au nu cu) (nthL yss 0) (by rfl) (by simp) (hu1.below (below_alloc wr _)) (fun b h1 h2 => hu2 b h1 (own_eq h2)) (by omega) (by simp; omega) ?_; intro g' c' w' hrow' hgrow hgb)
              obtain ⟨HR2, HS2⟩ := grown_read (base := w.heap.size + 1) hrd hsp (by omega) (by omega) hzw (fun b h => (hvy b h).1) hgrow
              have HZ := hgrow.size
              simp at HZ
              clear hgrow hown hrd hsp
              go_roundw
              case rel => first | exact ⟨_, yss ++ [nthL yss 0], rfl, hrow', by simp, by simp; omega, hshy.app hsl, HR2, HS2, by omega⟩ | exact ⟨_, ⟨_, yss ++ [nthL yss 0], rfl, hrow', by simp, by simp; omega, hshy.app hsl, HR2, HS2, by omega⟩, rfl⟩ | exact ⟨_, _, ⟨_, yss ++ [nthL yss 0], rfl, hrow', by simp, by simp; omega, hshy.app hsl, HR2, HS2, by omega⟩, rfl, rfl⟩ | exact ⟨_, _, _, ⟨_, yss ++ [nthL yss 0], rfl, hrow', by simp, by simp; omega, hshy.app hsl, HR2, HS2, by omega⟩, rfl, rfl, rfl⟩ | exact ⟨_, _, _, _, ⟨_, yss ++ [nthL yss 0], rfl, hrow', by simp, by simp; omega, hshy.app hsl, HR2, HS2, by omega⟩, rfl, rfl, rfl, rfl⟩ | exact ⟨_, _, _, _, _, ⟨_, yss ++ [nthL yss 0], rfl, hrow', by simp, by simp; omega, hshy.app hsl, HR2, HS2, by omega⟩, rfl, rfl, rfl, rfl, rfl⟩
              case measure => simp; omega
            · have hlt2 : ¬ (yss.length : Int) < 9 := by omega
              go_wp2
              go_ret
              exact ⟨_, rfl, ⟨yss, hown.mono (by omega), hy9, hshy⟩, hrd.mono (by omega), hsp⟩
        · have hz1'' : (z == 1) = false := by simpa using e1
          go_wp2
          go_ret
          exact ⟨_, rfl, ⟨xss, hown3.mono (by omega), by omega, hsh⟩, hrd3.mono (by omega), hsp3⟩
/-- a drawn mass and drawn acts -/
def SomeCase (base : Nat) (v : Value) (w' : World) : Prop := ∃ s p xs q xss, v = .tuple #[.agg #[.int .i64 s, p], q] ∧ Row w' base p xs ∧ xs.length ≤ 17 ∧ RowsO w' base q xss ∧ xss.length ≤ 9 ∧ Short xss
set_option maxRecDepth 100000 in
set_option maxHeartbeats 4000000 in
theorem l12Case_any (R P : Nat) (w : World) (hr : Rd w R P) (hP : P ≤ 320000000) :
    Calls Tryz.prog 59 #[.pointer (some ⟨R, 0, none⟩)] w (Drew R (P + 200) w (SomeCase w.heap.size)) := by
  have hR := hr.1
  have hrd := hr
  clear hr
  have hsp := Span.refl R (R + 1) w
  go_enter Tryz.func59, Tryz.ntmps59
  go_wp2_with fail
  refine (l10Normal_any R _ _ (hrd.on (by (repeat (first | exact Below.refl _ _ | assumption | refine Below.alloc ?_ (by first | omega | (simp <;> omega)) _ | refine Below.setCell ?_ (by first | omega | (simp <;> omega)) _ | refine Below.drew ?_ | refine below_drewN ?_)))) (by omega)).mono ?_; rintro e w1 ⟨_, rfl, ⟨s, p, xs, rfl, hrm, hlm⟩, hrdn, hs⟩
  clear hrd
  have hrd := hrdn
  clear hrdn
  have hY1 : w.heap.size + 1 ≤ w1.heap.size := by have := hs.size; simp at this; omega
  have r0 := Span.keep hs (b := w.heap.size) (o := 0) (v := .int .i64 0) (by simp) (by omega)
  have fr0 := Span.keepF hs (b := w.heap.size) (o := 0) ⟨by simp <;> omega, by simp⟩ (by omega)
  have r1 := Span.keep hs (b := w.heap.size) (o := 1) (v := .slice none 0 0) (by simp) (by omega)
  have fr1 := Span.keepF hs (b := w.heap.size) (o := 1) ⟨by simp <;> omega, by simp⟩ (by omega)
  have ht : Span R (R + 1) w w1 := Span.trans (Span.of_below (by (repeat (first | exact Below.refl _ _ | assumption | refine Below.alloc ?_ (by first | omega | (simp <;> omega)) _ | refine Below.setCell ?_ (by first | omega | (simp <;> omega)) _ | refine Below.drew ?_ | refine below_drewN ?_)))) hs
  replace hsp := hsp.trans ht
  have hZ1 := ht.size
  clear ht hs
  have gfr0 := fr0.2
  have gfr1 := fr1.2
  replace hrm : Row w1 (w.heap.size + 1) p xs := hrm.mono (by simp)
  obtain ⟨am, nm, cm, rfl, him⟩ := hrm.ints
  clear him
  have hvm : ∀ b, (Value.slice am nm cm).ownBlock = some b → w.heap.size + 1 ≤ b := fun b e => (hrm.block b e).1
  go_wp2
  obtain ⟨w3, hw3⟩ : ∃ W, w1.alloc (.cells #[.int .i64 s, .slice am nm cm] 25) = W := ⟨_, rfl⟩
  rw [hw3]
  have hd : Below w1.heap.size w1 w3 := by rw [← hw3]; (repeat (first | exact Below.refl _ _ | assumption | refine Below.alloc ?_ (by first | omega | (simp <;> omega)) _ | refine Below.setCell ?_ (by first | omega | (simp <;> omega)) _ | refine Below.drew ?_ | refine below_drewN ?_))
  have m0 : w3.cell? ⟨w1.heap.size, 0, none⟩ = some (.int .i64 s) := by rw [← hw3]; simp
  have m1 : w3.cell? ⟨w1.heap.size, 1, none⟩ = some (.slice am nm cm) := by rw [← hw3]; simp
  have hN : w1.heap.size + 1 = w3.heap.size := by rw [← hw3]; simp
  replace hrm := hrm.below hd
  replace hrd := hrd.on hd
  replace hsp := hsp.trans (Span.of_below hd)
  have rb : Bx w3 w.heap.size _ _ := (show Bx w1 w.heap.size _ _ from ⟨r0, r1, gfr0, gfr1, fr0.1⟩).below hd
  clear hd hw3 r0 r1 fr0 fr1 gfr0 gfr1
  have hmx : w1.heap.size < w3.heap.size := by omega
  have hS3 : w3.cell? ⟨w1.heap.size, 0, none⟩ = some (.int .i64 s) ∧ w3.cell? ⟨w1.heap.size, 1, none⟩ = some (.slice am nm cm) ∧ w3.heap.size ≤ w3.heap.size := ⟨m0, m1, Nat.le_refl _⟩
  go_region_held3 (fun w' => w'.cell? ⟨w1.heap.size, 0, none⟩ = some (.int .i64 s) ∧ w'.cell? ⟨w1.heap.size, 1, none⟩ = some (.slice am nm cm) ∧ w3.heap.size ≤ w'.heap.size) (first | ((repeat (first | (with_reducible assumption) | (with_reducible refine kept2_set ?_ _ _ (by simp <;> omega)) | (with_reducible refine kept2_alloc hmx ?_ _) | (with_reducible refine kept2_drew ?_))); done)) (first | (go_at_call 109; refine (l12Acts_any R _ s am nm cm w3.drew (hrd.on (by (repeat (first | exact Below.refl _ _ | assumption | refine Below.alloc ?_ (by first | omega | (simp <;> omega)) _ | refine Below.setCell ?_ (by first | omega | (simp <;> omega)) _ | refine Below.drew ?_ | refine below_drewN ?_)))) (by omega)).mono ?_; rintro e wy ⟨vy, rfl, ⟨xss, hry, hly, hsy2⟩, hrdy, hsy⟩; have ht : Span R (R + 1) w3 wy := Span.trans (Span.of_below (by (repeat (first | exact Below.refl _ _ | assumption | refine Below.alloc ?_ (by first | omega | (simp <;> omega)) _ | refine Below.setCell ?_ (by first | omega | (simp <;> omega)) _ | refine Below.drew ?_ | refine below_drewN ?_)))) hsy; have hSy := kept2_span hS3 ht (by omega); have k0 := hSy.1; have k1 := hSy.2.1; have ksz := hSy.2.2; have hrmy := Span.row ht hrm (fun b e => by have := hvm b e; omega); have rby := rb.span ht (by omega); have hspy := hsp.trans ht; have s0 := rby.c0; have s1 := rby.c1; have s2 := rby.f0; have s3 := rby.f1; have s4 := rby.lt))
  have rb2 := rby.put2 (.int .i64 s) (.slice am nm cm)
  have r20 := rb2.c0
  have r21 := rb2.c1
  have hr2 := (hrmy.mono (base' := w.heap.size + 1) (by omega)).put2 (b := w.heap.size) (x := .int .i64 s) (y := .slice am nm cm) (fun k e => by have := hvm k e; omega)
  have hy2 := (hry.mono (base' := w.heap.size + 1) (by first | omega | (simp <;> omega))).put2 (b := w.heap.size) (x := .int .i64 s) (y := .slice am nm cm) (by omega)
  clear hS3 m0 m1 k0 k1 hSy hrd hsp rb hrm
  go_wp2
  refine bodyPost_ret (v := .tuple #[.agg #[.int .i64 s, .slice am nm cm], vy]) (by simp [results, Tryz.results59, go_sem, r20, r21]) rfl ⟨_, rfl, ⟨_, _, xs, _, xss, rfl, hr2.mono (by omega), hlm, hy2.mono (by omega), hly, hsy2⟩, ?_, ?_⟩
  · exact (hrdy.below (B := R + 1) (by (repeat (first | exact Below.refl _ _ | assumption | refine Below.alloc ?_ (by first | omega | (simp <;> omega)) _ | refine Below.setCell ?_ (by first | omega | (simp <;> omega)) _ | refine Below.drew ?_ | refine below_drewN ?_))) (by omega)).mono (by omega)
  · exact hspy.on (by (repeat (first | exact Below.refl _ _ | assumption | refine Below.alloc ?_ (by first | omega | (simp <;> omega)) _ | refine Below.setCell ?_ (by first | omega | (simp <;> omega)) _ | refine Below.drew ?_ | refine below_drewN ?_)))
set_option maxRecDepth 100000 in
set_option maxHeartbeats 1000000 in
theorem DrawSafestAct_any (ao : Option Addr) (n c : Nat) (w : World) (hx : BytesIn w w.heap.size ao n) (hnc : n ≤ c) :
    Calls Tryz.prog 22 #[.slice ao n c] w fun e w' => (∃ s p xs q xss, e = .returned (.tuple #[.agg #[.int .i64 s, p], q]) ∧ Row w' w.heap.size p xs ∧ xs.length ≤ 17 ∧ RowsO w' w.heap.size q xss ∧ xss.length ≤ 9 ∧ Short xss) ∧ Below w.heap.size w w' := by
  obtain ⟨R, hRe⟩ : ∃ R, w.heap.size + 1 = R := ⟨_, rfl⟩
  have HX := hid hx
  clear hx
  go_enter Tryz.func22, Tryz.ntmps22
  go_wp2_with fail
  refine (l14OpenR_any ao n c R _ (by simp; exact hRe) (HX.out.on (below_alloc w _) (by omega)) hnc).mono ?_; rintro e w1 ⟨rfl, hrd, hb⟩
  have hz : R ≤ w1.heap.size := by have := hb.size; simp at this; omega
  have r0 := hb.cell (p := ⟨w.heap.size, 0, none⟩) (by simp; omega)
  have r1 := hb.cell (p := ⟨w.heap.size, 1, none⟩) (by simp; omega)
  have fr0 := hb.frozen (p := ⟨w.heap.size, 0, none⟩) (by simp; omega)
  have fr1 := hb.frozen (p := ⟨w.heap.size, 1, none⟩) (by simp; omega)
  simp at r0 r1 fr0 fr1
  have hB : Below w.heap.size w w1 := (below_alloc w _).trans (hb.mono (by omega))
  have hR1 := hrd.1
  clear hb
  go_wp2_with fail
  refine (l12Case_any R _ _ hrd (by omega)).mono ?_; rintro e w2 ⟨_, rfl, ⟨s, p, xs, q, xss, rfl, hr, hl, hr2, hl2, hsh⟩, hrd2, ht⟩
  obtain ⟨a2, n2, c2, rfl, hi2⟩ := hr.ints
  obtain ⟨a3, n3, c3, rfl, hn3, hi3⟩ := hr2.form
  subst hn3
  have gr0 := (Span.keepF ht ⟨by omega, fr0⟩ (by omega)).2
  have gr1 := (Span.keepF ht ⟨by omega, fr1⟩ (by omega)).2
  replace r0 := Span.keep ht r0 (by omega)
  replace r1 := Span.keep ht r1 (by omega)
  replace hB := Span.below hB hB.size ht (by omega)
  have hz2 := ht.size
  replace hr : Row w2 (w.heap.size + 1) (.slice a2 n2 c2) xs := hr.mono (by omega)
  replace hr2 : RowsO w2 (w.heap.size + 1) (.slice a3 xss.length c3) xss := hr2.mono (by omega)
  clear ht hrd fr0 fr1
  go_wp2
  refine bodyPost_ret (v := .tuple #[.agg #[.int .i64 s, .slice a2 n2 c2], .slice a3 xss.length c3]) (by simp [results, Tryz.results22, go_sem, r0, r1]) rfl ⟨⟨_, _, xs, _, xss, rfl, ?_, hl, ?_, hl2, hsh⟩, ?_⟩
  · refine Row.mono (base := w.heap.size + 1) ?_ (by omega)
    (repeat (first | exact hr | (refine Row.setBelow ?_ ?_ _; rotate_left; focus (first | (omega) | (simp; done) | (simp; omega))) | (refine Row.setOther ?_ ?_ _; rotate_left; focus (intro h_own; have h_own2 := own_eq h_own; first | (omega) | (simp at h_own2; omega))) | refine Row.below ?_ (below_alloc _ _)))
  · exact (hr2.put2 (b := w.heap.size) (by omega)).mono (by omega)
  · (repeat (first | exact Below.refl _ _ | assumption | refine Below.alloc ?_ (by first | omega | (simp <;> omega)) _ | refine Below.setCell ?_ (by first | omega | (simp <;> omega)) _ | refine Below.drew ?_ | refine below_drewN ?_))
end Go.Proofs.YtefmlbahmakboaaGreatDoor
