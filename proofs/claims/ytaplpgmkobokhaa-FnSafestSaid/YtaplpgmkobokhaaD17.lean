/- What the reference's drawing functions draw: some value, in new memory (printed by drawgen.py). -/
import Derived.Test.YtaplpgmkobokhaaD16
set_option linter.unusedSimpArgs false
set_option linter.unusedVariables false
namespace Go.Proofs.Ytaplpgmkobokhaa
open Go.RowKit
theorem RowsO.form2 {w : World} {base : Nat} {v : Value} {xss : List (List Int)} (h : RowsO w base v xss) (h0 : 0 < xss.length) : ∃ g c, v = .slice (some ⟨g, 0, none⟩) xss.length c ∧ base ≤ g ∧ g < w.heap.size := by
  obtain ⟨vals, h1, h2, h3⟩ := h.own
  rcases h1.2 with ⟨rfl, h4⟩ | ⟨g, cap, cur, rfl, hg, hh, hn, hc, hs, ht⟩
  · omega
  · exact ⟨g, cap, rfl, hg, lt_of_block hh⟩
def Short (xss : List (List Int)) : Prop := ∀ k, k < xss.length → (nthL xss k).length ≤ 6
theorem Short.app {xss : List (List Int)} {ys : List Int} (h : Short xss) (hy : ys.length ≤ 6) : Short (xss ++ [ys]) := fun k hk => by
  rw [List.length_append] at hk
  simp at hk
  by_cases e : k < xss.length
  · have : nthL (xss ++ [ys]) k = nthL xss k := by unfold nthL; rw [List.getD_eq_getElem?_getD, List.getD_eq_getElem?_getD, List.getElem?_append_left e]
    rw [this]; exact h k e
  · obtain rfl : k = xss.length := by omega
    have : nthL (xss ++ [ys]) xss.length = ys := by unfold nthL; rw [List.getD_eq_getElem?_getD, List.getElem?_append_right (Nat.le_refl _)]; simp
    rw [this]; exact hy
def SomeActs (base : Nat) (v : Value) (w' : World) : Prop := ∃ xss, RowsO w' base v xss ∧ xss.length ≤ 9 ∧ Short xss
theorem grown_read {R P base : Nat} {w0 w w' : World} {v : Value} {o : Obj} (hrd : Rd w R P) (hsp : Span R (R + 1) w0 w) (hR : R < base) (hb0 : w0.heap.size ≤ base) (hb : base ≤ w.heap.size) (hv : ∀ k, v.ownBlock = some k → base ≤ k) (hg : (w.alloc o).grownBy w' v.ownBlock) : Rd w' R P ∧ Span R (R + 1) w0 w' := by
  have H1 := below_grownBy (B := base) (show Below base w (w.alloc o) from (below_alloc w o).mono hb) (by simp; omega) hg (fun b e => hv b e)
  exact ⟨hrd.below H1 hR, hsp.on (H1.mono hb0)⟩
set_option maxRecDepth 100000 in
set_option maxHeartbeats 8000000 in
theorem l12Acts_any (R P : Nat) (s : Int) (am : Option Addr) (nm cm : Nat) (w : World) (hr : Rd w R P) (hP : P ≤ 330000000) :
    Calls Try.prog 100 #[.pointer (some ⟨R, 0, none⟩), .agg #[.int .i64 s, .slice am nm cm]] w (Drew R (P + 110) w (SomeActs w.heap.size)) := by
  have hR := hr.1
  have hlit : RowsO ((w.alloc (.cells #[.int .i64 s, .slice am nm cm] 25)).alloc (.cells #[] 23)) (w.heap.size + 1) (.slice (some ⟨w.heap.size + 1, 0, none⟩) 0 0) [] := by
    have h := RowsO.lit (w.alloc (.cells #[.int .i64 s, .slice am nm cm] 25))
    simpa using h
  have hB0 : Below w.heap.size w ((w.alloc (.cells #[.int .i64 s, .slice am nm cm] 25)).alloc (.cells #[] 23)) := by (repeat (first | exact Below.refl _ _ | assumption | refine Below.alloc ?_ (by first | omega | (simp <;> omega)) _ | refine Below.setCell ?_ (by first | omega | (simp <;> omega)) _ | refine Below.drew ?_ | refine below_drewN ?_))
  have hm0 : ((w.alloc (.cells #[.int .i64 s, .slice am nm cm] 25)).alloc (.cells #[] 23)).cell? ⟨w.heap.size, 0, none⟩ = some (.int .i64 s) := by simp
  go_enter Try.func100, Try.ntmps100
  go_wp2_with fail
  obtain ⟨w1, hw1⟩ : ∃ q, (w.alloc (.cells #[.int .i64 s, .slice am nm cm] 25)).alloc (.cells #[] 23) = q := ⟨_, rfl⟩
  have hz1 : w1.heap.size = w.heap.size + 2 := by rw [← hw1]; simp
  rw [hw1]
  rw [hw1] at hlit hB0 hm0
  clear hw1
  refine (pick_any R _ _ _ (hr.on hB0) (by omega) (by omega)).mono ?_; rintro e w2 ⟨_, rfl, ⟨x, rfl, hx0, hx1⟩, hrd2, hs⟩
  obtain ⟨k0, rfl⟩ : ∃ k : Nat, x = (k : Int) := ⟨x.toNat, by omega⟩
  have hlit2 := hlit.span hs (by omega)
  have hm2 := Span.keep hs hm0 (by omega)
  have hz2 := hs.size
  have hsp2 := (Span.of_below hB0).trans hs
  have hadd : IntKind.i64.wrap (1 + (k0 : Int)) = ((k0 + 1 : Nat) : Int) := by rw [IntWalk.i64_in _ (by omega)]; omega
  have hrd2' := hrd2.mono (show P + 1 ≤ P + 100 - 20 * (k0 + 1) by omega)
  clear hlit hm0 hs hrd2 hB0
  go_wp2
  go_loopw [5, 6] (fun o i wr => ∃ (k : Nat) (v : Value) (xss : List (List Int)), k ≤ 4 ∧ i = .int .i64 k ∧ o = v ∧ RowsO wr (w.heap.size + 1) v xss ∧ xss.length + k ≤ 4 ∧ 1 ≤ xss.length + k ∧ Short xss ∧ Rd wr R (P + 100 - 20 * k) ∧ Span R (R + 1) w wr ∧ wr.cell? ⟨w.heap.size, 0, none⟩ = some (.int .i64 s)) (fun _ i _ => (intOf i).toNat)
  case atStart => exact ⟨k0 + 1, _, [], by omega, rfl, rfl, hlit2, by simp; omega, by simp, fun k hk => by simp at hk, hrd2', hsp2, hm2⟩
  case round =>
    clear hlit2 hm2 hsp2 hrd2' hadd
    obtain ⟨k, v, xss, hk, rfl, rfl, hown, hl4, hl1, hsh, hrd, hsp, hm⟩ := hrel
    have hzr := hsp.size
    have hms := World.block_lt_of_cell? _ _ hm
    have hms' : w.heap.size < wr.heap.size := hms
    have hvb := hown.block
    by_cases hlt : 0 < k
    · have hk0 : (0 : Int) < (k : Int) := by omega
      have hsub : IntKind.i64.wrap ((k : Int) - 1) = ((k - 1 : Nat) : Int) := by rw [IntWalk.i64_in _ (by omega)]; omega
      have HK : Hid (k - 1 < k) := by show k - 1 < k; omega
      rcases (show s < 0 ∨ (0 ≤ s ∧ s ≤ 5) ∨ 5 < s by omega) with hs | ⟨hs, hs5⟩ | hs
      · have hs2 : ¬ 0 < s := by omega
        go_wp2_with fail
        refine (l10List_any R _ 0 _ hrd (by omega) (by omega)).mono ?_; rintro e wy ⟨vy, rfl, ⟨ys, hry, hly⟩, hrdy, hsy⟩
        have hownY := hown.span hsy (by omega)
        have hmY := Span.keep hsy hm (by omega)
        have hspY := hsp.trans hsy
        have hzy := hsy.size
        obtain ⟨ay, ny, cy, rfl, hiy⟩ := hry.ints
        clear hiy
        have hyb := hry.block
        clear hown hm hsp hrd hsy
        go_wp2_with (at_builtin; refine wpList_append_row rfl _ _ rfl (w.heap.size + 1) _ xss xss.length rfl (by rfl) (hownY.below (below_alloc wy _)) _ _ (.slice ay ny cy) ys (by rfl) (by simp) ((hry.mono (by omega)).below (below_alloc wy _)) (fun b h1 h2 => by have := (hyb b h1).1; have := (hvb b h2).2; omega) (by omega) (by simp; omega) ?_; intro g' c' w' hrow' hgrow hgb)
        obtain ⟨HR2, HS2⟩ := grown_read (base := w.heap.size + 1) hrdy hspY (by omega) (by omega) (by omega) (fun b h => (hvb b h).1) hgrow
        have HM2 : w'.cell? ⟨w.heap.size, 0, none⟩ = some (.int .i64 s) := hgrow.cell (by rw [World.cell?_alloc_lt _ _ _ (by show w.heap.size < _; omega)]; exact hmY) (by intro e; have h9 : w.heap.size + 1 ≤ w.heap.size := (hvb _ (by first | exact e | exact e.symm)).1; omega)
        have HR3 := hid HR2
        clear hgrow hownY hrdy hspY hmY hry HR2
        go_roundw
        case rel => first | exact ⟨k - 1, _, xss ++ [ys], by omega, by first | rfl | rw [hsub] | go_num, rfl, hrow', by simp; omega, by simp; omega, hsh.app hly, HR3.out.mono (by omega), HS2, HM2⟩ | exact ⟨_, ⟨k - 1, _, xss ++ [ys], by omega, by first | rfl | rw [hsub] | go_num, rfl, hrow', by simp; omega, by simp; omega, hsh.app hly, HR3.out.mono (by omega), HS2, HM2⟩, rfl⟩ | exact ⟨_, _, ⟨k - 1, _, xss ++ [ys], by omega, by first | rfl | rw [hsub] | go_num, rfl, hrow', by simp; omega, by simp; omega, hsh.app hly, HR3.out.mono (by omega), HS2, HM2⟩, rfl, rfl⟩ | exact ⟨_, _, _, ⟨k - 1, _, xss ++ [ys], by omega, by first | rfl | rw [hsub] | go_num, rfl, hrow', by simp; omega, by simp; omega, hsh.app hly, HR3.out.mono (by omega), HS2, HM2⟩, rfl, rfl, rfl⟩ | exact ⟨_, _, _, _, ⟨k - 1, _, xss ++ [ys], by omega, by first | rfl | rw [hsub] | go_num, rfl, hrow', by simp; omega, by simp; omega, hsh.app hly, HR3.out.mono (by omega), HS2, HM2⟩, rfl, rfl, rfl, rfl⟩ | exact ⟨_, _, _, _, _, ⟨k - 1, _, xss ++ [ys], by omega, by first | rfl | rw [hsub] | go_num, rfl, hrow', by simp; omega, by simp; omega, hsh.app hly, HR3.out.mono (by omega), HS2, HM2⟩, rfl, rfl, rfl, rfl, rfl⟩
        case measure => simp [intOf]; omega
      · obtain ⟨sz, rfl⟩ : ∃ sz : Nat, s = (sz : Int) := ⟨s.toNat, by omega⟩
        have hs2 : ¬ 5 < (sz : Int) := by omega
        have hs3 : ¬ (sz : Int) < 0 := by omega
        go_wp2_with fail
        refine (l10List_any R _ sz _ hrd (by omega) (by omega)).mono ?_; rintro e wy ⟨vy, rfl, ⟨ys, hry, hly⟩, hrdy, hsy⟩
        have hownY := hown.span hsy (by omega)
        have hmY := Span.keep hsy hm (by omega)
        have hspY := hsp.trans hsy
        have hzy := hsy.size
        obtain ⟨ay, ny, cy, rfl, hiy⟩ := hry.ints
        clear hiy
        have hyb := hry.block
        clear hown hm hsp hrd hsy
        go_wp2_with (at_builtin; refine wpList_append_row rfl _ _ rfl (w.heap.size + 1) _ xss xss.length rfl (by rfl) (hownY.below (below_alloc wy _)) _ _ (.slice ay ny cy) ys (by rfl) (by simp) ((hry.mono (by omega)).below (below_alloc wy _)) (fun b h1 h2 => by have := (hyb b h1).1; have := (hvb b h2).2; omega) (by omega) (by simp; omega) ?_; intro g' c' w' hrow' hgrow hgb)
        obtain ⟨HR2, HS2⟩ := grown_read (base := w.heap.size + 1) hrdy hspY (by omega) (by omega) (by omega) (fun b h => (hvb b h).1) hgrow
        have HM2 : w'.cell? ⟨w.heap.size, 0, none⟩ = some (.int .i64 (sz : Int)) := hgrow.cell (by rw [World.cell?_alloc_lt _ _ _ (by show w.heap.size < _; omega)]; exact hmY) (by intro e; have h9 : w.heap.size + 1 ≤ w.heap.size := (hvb _ (by first | exact e | exact e.symm)).1; omega)
        have HR3 := hid HR2
        clear hgrow hownY hrdy hspY hmY hry HR2
        go_roundw
        case rel => first | exact ⟨k - 1, _, xss ++ [ys], by omega, by first | rfl | rw [hsub] | go_num, rfl, hrow', by simp; omega, by simp; omega, hsh.app hly, HR3.out.mono (by omega), HS2, HM2⟩ | exact ⟨_, ⟨k - 1, _, xss ++ [ys], by omega, by first | rfl | rw [hsub] | go_num, rfl, hrow', by simp; omega, by simp; omega, hsh.app hly, HR3.out.mono (by omega), HS2, HM2⟩, rfl⟩ | exact ⟨_, _, ⟨k - 1, _, xss ++ [ys], by omega, by first | rfl | rw [hsub] | go_num, rfl, hrow', by simp; omega, by simp; omega, hsh.app hly, HR3.out.mono (by omega), HS2, HM2⟩, rfl, rfl⟩ | exact ⟨_, _, _, ⟨k - 1, _, xss ++ [ys], by omega, by first | rfl | rw [hsub] | go_num, rfl, hrow', by simp; omega, by simp; omega, hsh.app hly, HR3.out.mono (by omega), HS2, HM2⟩, rfl, rfl, rfl⟩ | exact ⟨_, _, _, _, ⟨k - 1, _, xss ++ [ys], by omega, by first | rfl | rw [hsub] | go_num, rfl, hrow', by simp; omega, by simp; omega, hsh.app hly, HR3.out.mono (by omega), HS2, HM2⟩, rfl, rfl, rfl, rfl⟩ | exact ⟨_, _, _, _, _, ⟨k - 1, _, xss ++ [ys], by omega, by first | rfl | rw [hsub] | go_num, rfl, hrow', by simp; omega, by simp; omega, hsh.app hly, HR3.out.mono (by omega), HS2, HM2⟩, rfl, rfl, rfl, rfl, rfl⟩
        case measure => simp [intOf]; omega
      · have hs2 : ¬ s < 0 := by omega
        go_wp2_with fail
        refine (l10List_any R _ 5 _ hrd (by omega) (by omega)).mono ?_; rintro e wy ⟨vy, rfl, ⟨ys, hry, hly⟩, hrdy, hsy⟩
        have hownY := hown.span hsy (by omega)
        have hmY := Span.keep hsy hm (by omega)
        have hspY := hsp.trans hsy
        have hzy := hsy.size
        obtain ⟨ay, ny, cy, rfl, hiy⟩ := hry.ints
        clear hiy
        have hyb := hry.block
        clear hown hm hsp hrd hsy
        go_wp2_with (at_builtin; refine wpList_append_row rfl _ _ rfl (w.heap.size + 1) _ xss xss.length rfl (by rfl) (hownY.below (below_alloc wy _)) _ _ (.slice ay ny cy) ys (by rfl) (by simp) ((hry.mono (by omega)).below (below_alloc wy _)) (fun b h1 h2 => by have := (hyb b h1).1; have := (hvb b h2).2; omega) (by omega) (by simp; omega) ?_; intro g' c' w' hrow' hgrow hgb)
        obtain ⟨HR2, HS2⟩ := grown_read (base := w.heap.size + 1) hrdy hspY (by omega) (by omega) (by omega) (fun b h => (hvb b h).1) hgrow
        have HM2 : w'.cell? ⟨w.heap.size, 0, none⟩ = some (.int .i64 s) := hgrow.cell (by rw [World.cell?_alloc_lt _ _ _ (by show w.heap.size < _; omega)]; exact hmY) (by intro e; have h9 : w.heap.size + 1 ≤ w.heap.size := (hvb _ (by first | exact e | exact e.symm)).1; omega)
        have HR3 := hid HR2
        clear hgrow hownY hrdy hspY hmY hry HR2
        go_roundw
        case rel => first | exact ⟨k - 1, _, xss ++ [ys], by omega, by first | rfl | rw [hsub] | go_num, rfl, hrow', by simp; omega, by simp; omega, hsh.app hly, HR3.out.mono (by omega), HS2, HM2⟩ | exact ⟨_, ⟨k - 1, _, xss ++ [ys], by omega, by first | rfl | rw [hsub] | go_num, rfl, hrow', by simp; omega, by simp; omega, hsh.app hly, HR3.out.mono (by omega), HS2, HM2⟩, rfl⟩ | exact ⟨_, _, ⟨k - 1, _, xss ++ [ys], by omega, by first | rfl | rw [hsub] | go_num, rfl, hrow', by simp; omega, by simp; omega, hsh.app hly, HR3.out.mono (by omega), HS2, HM2⟩, rfl, rfl⟩ | exact ⟨_, _, _, ⟨k - 1, _, xss ++ [ys], by omega, by first | rfl | rw [hsub] | go_num, rfl, hrow', by simp; omega, by simp; omega, hsh.app hly, HR3.out.mono (by omega), HS2, HM2⟩, rfl, rfl, rfl⟩ | exact ⟨_, _, _, _, ⟨k - 1, _, xss ++ [ys], by omega, by first | rfl | rw [hsub] | go_num, rfl, hrow', by simp; omega, by simp; omega, hsh.app hly, HR3.out.mono (by omega), HS2, HM2⟩, rfl, rfl, rfl, rfl⟩ | exact ⟨_, _, _, _, _, ⟨k - 1, _, xss ++ [ys], by omega, by first | rfl | rw [hsub] | go_num, rfl, hrow', by simp; omega, by simp; omega, hsh.app hly, HR3.out.mono (by omega), HS2, HM2⟩, rfl, rfl, rfl, rfl, rfl⟩
        case measure => simp [intOf]; omega
    · obtain rfl : k = 0 := by omega
      have hln : 1 ≤ xss.length := by omega
      obtain ⟨g, cg, he, hg1, hg2⟩ := hown.form2 (by omega)
      rw [he] at hown hvb
      subst he
      have HP := hrd.mono (show P + 100 - 20 * 0 ≤ P + 100 by omega)
      have h9 : xss.length ≤ 4 := by omega
      clear hrd hl4 hl1 hm hms hms'
      go_wp2_with fail
      refine (pick_any R _ _ _ HP (by omega) (by omega)).mono ?_; rintro e w3 ⟨_, rfl, ⟨z, rfl, hz0, hz1'⟩, hrd3, hs⟩
      have hown3 := hown.span hs (by omega)
      have hsp3 := hsp.trans hs
      have hz3 := hs.size
      clear hown HP hsp hs
      by_cases e0 : z = 0
      · subst e0
        go_wp2
        go_ret
        have hB3 := below_alloc w3 (.cells #[] 23)
        exact ⟨_, rfl, ⟨[], (RowsO.lit w3).mono (by omega), by simp, fun k hk => by simp at hk⟩, (hrd3.on hB3).mono (by omega), hsp3.trans (Span.of_below hB3)⟩
      · have hz0' : (z == 0) = false := by simpa using e0
        by_cases e1 : z = 1
        · subst e1
          go_wp2
          go_loopw [5] (fun o wr => ∃ (v : Value) (yss : List (List Int)), o = v ∧ RowsO wr (w.heap.size + 1) v yss ∧ 1 ≤ yss.length ∧ yss.length ≤ 9 ∧ Short yss ∧ Rd wr R (P + 101) ∧ Span R (R + 1) w wr ∧ w.heap.size + 1 ≤ wr.heap.size) (fun o _ => 9 - (match o with | .slice _ n _ => n | _ => 0))
          case atStart => exact ⟨_, xss, rfl, hown3, hln, by omega, hsh, hrd3.mono (by omega), hsp3, by omega⟩
          case round =>
            clear hown3 hrd3 hsp3 hvb
            obtain ⟨v, yss, rfl, hown, hy1, hy9, hshy, hrd, hsp, hzw⟩ := hrel
            obtain ⟨gy, cy, he, hgy1, hgy2⟩ := hown.form2 (by omega)
            rw [he] at hown
            subst he
            have hvy := hown.block
            by_cases hlt : yss.length < 9
            · have hlt2 : (yss.length : Int) < 9 := by omega
              obtain ⟨u, hu0, hu1, hu2⟩ := hown.first (by omega)
              obtain ⟨au, nu, cu, rfl, hiu⟩ := hu1.ints
              have h00 : (0 : Int) < (yss.length : Int) := by omega
              have hsl := hshy 0 (by omega)
              clear hiu
              go_wp2_with (at_builtin; refine wpList_append_row rfl _ _ rfl (w.heap.size + 1) _ yss yss.length rfl (by rfl) (hown.below (below_alloc wr _)) _ _ (.slice au nu cu) (nthL yss 0) (by rfl) (by simp) (hu1.below (below_alloc wr _)) (fun b h1 h2 => hu2 b h1 (own_eq h2)) (by omega) (by simp; omega) ?_; intro g' c' w' hrow' hgrow hgb)
              obtain ⟨HR2, HS2⟩ := grown_read (base := w.heap.size + 1) hrd hsp (by omega) (by omega) hzw (fun b h => (hvy b h).1) hgrow
              have HZ := hgrow.size
              simp at HZ
              clear hgrow hown hrd hsp
              go_roundw
              case rel => first | exact ⟨_, yss ++ [nthL yss 0], rfl, hrow', by simp, by simp; omega, hshy.app hsl, HR2, HS2, by omega⟩ | exact ⟨_, ⟨_, yss ++ [nthL yss 0], rfl, hrow', by simp, by simp; omega, hshy.app hsl, HR2, HS2, by omega⟩, rfl⟩ | exact ⟨_, _, ⟨_, yss ++ [nthL yss 0], rfl, hrow', by simp, by simp; omega, hshy.app hsl, HR2, HS2, by omega⟩, rfl, rfl⟩ | exact ⟨_, _, _, ⟨_, yss ++ [nthL yss 0], rfl, hrow', by simp, by simp; omega, hshy.app hsl, HR2, HS2, by omega⟩, rfl, rfl, rfl⟩ | exact ⟨_, _, _, _, ⟨_, yss ++ [nthL yss 0], rfl, hrow', by simp, by simp; omega, hshy.app hsl, HR2, HS2, by omega⟩, rfl, rfl, rfl, rfl⟩ | exact ⟨_, _, _, _, _, ⟨_, yss ++ [nthL yss 0], rfl, hrow', by simp, by simp; omega, hshy.app hsl, HR2, HS2, by omega⟩, rfl, rfl, rfl, rfl, rfl⟩
              case measure => simp; omega
            · have hlt2 : ¬ (yss.length : Int) < 9 := by omega
              go_wp2
              go_ret
              exact ⟨_, rfl, ⟨yss, hown.mono (by omega), hy9, hshy⟩, hrd.mono (by omega), hsp⟩
        · have hz1'' : (z == 1) = false := by simpa using e1
          go_wp2
          go_ret
          exact ⟨_, rfl, ⟨xss, hown3.mono (by omega), by omega, hsh⟩, hrd3.mono (by omega), hsp3⟩
end Go.Proofs.Ytaplpgmkobokhaa
