/- What the reference's drawing functions draw: some value, in new memory (printed by drawgen.py). -/
import Derived.Test.YtaplpgmkobokhaaD13
set_option linter.unusedSimpArgs false
set_option linter.unusedVariables false
namespace Go.Proofs.Ytaplpgmkobokhaa
open Go.RowKit
def SomeList (base : Nat) (v : Value) (w' : World) : Prop := ∃ xs, Row w' base v xs ∧ xs.length ≤ 6
set_option maxRecDepth 100000 in
set_option maxHeartbeats 4000000 in
theorem l10List_any (R P sz : Nat) (w : World) (hr : Rd w R P) (hP : P ≤ 340000000) (hsz : sz ≤ 5) :
    Calls Try.prog 89 #[.pointer (some ⟨R, 0, none⟩), .int .i64 sz] w (Drew R (P + 20) w (SomeList w.heap.size)) := by
  have hR := hr.1
  go_enter Try.func89, Try.ntmps89
  go_wp2
  go_loopw [5, 6] (fun o i wr => ∃ (k : Nat) (v : Value) (xs : List Int), k ≤ sz ∧ i = .int .i64 k ∧ o = v ∧ Row wr w.heap.size v xs ∧ xs.length = k ∧ Rd wr R (P + k) ∧ Span R (R + 1) w wr) (fun o i _ => sz - (intOf i).toNat)
  case atStart =>
    exact ⟨0, _, [], by omega, rfl, rfl, World.ownsRow_lit w #[] 0 (Nat.le_refl _) (by unfold maxLen; omega) rfl, rfl, hr.on (below_alloc w _), Span.of_below (below_alloc w _)⟩
  case round =>
    obtain ⟨k, v, xs, hk, rfl, rfl, hrow, hlx, hrd, hsp⟩ := hrel
    have hzr := hsp.size
    have hvb := hrow.block
    by_cases hlt : k < sz
    · have hk0 : (0 : Int) ≤ (k : Int) := by omega
      have hk1 : (k : Int) < (sz : Int) := by omega
      go_wp2_with fail
      refine (pick_any R _ _ _ hrd (by omega) (by omega)).mono ?_; rintro e w2 ⟨_, rfl, ⟨x, rfl, hx0, hx1⟩, hrd2, hs⟩
      have hrow2 := Span.row hs hrow (fun b e => by have := (hvb b e).1; omega)
      have hsub : IntKind.i64.wrap (x - 4) = x - 4 := IntWalk.i64_in _ (by omega)
      have hsp2 := hsp.trans hs
      have hz2 := hs.size
      clear hrow hrd hsp hs
      go_wp2_with (at_builtin; refine wpList_append_int rfl _ _ rfl w.heap.size _ _ k hlx (by rfl) (hrow2.below ((Below.refl _ _).alloc (Nat.le_refl _) _)) _ _ (x - 4) (by rfl) (by simp; first | done | exact hsub) (by omega) (by simp; omega) ?_; intro g' c' w' hrow' hgrow)
      have HB1 := below_grownBy (B := R + 1) (show Below (R + 1) w2 (w2.alloc _) from (below_alloc w2 _).mono (by omega)) (by simp; omega) hgrow (fun b e => by have := (hvb b e).1; omega)
      have HB2 := below_grownBy (B := w.heap.size) (show Below w.heap.size w2 (w2.alloc _) from (below_alloc w2 _).mono (by omega)) (by simp; omega) hgrow (fun b e => (hvb b e).1)
      have HR2 := hid (hrd2.below HB1 (by omega))
      have HS2 := hid (hsp2.on HB2)
      clear hgrow hrow2 hrd2 hsp2 HB1 HB2
      go_roundw
      case rel => first | exact ⟨k + 1, _, xs ++ [x - 4], by omega, by go_num, rfl, hrow', by rw [List.length_append, hlx]; rfl, HR2.out.mono (by omega), HS2.out⟩ | exact ⟨_, ⟨k + 1, _, xs ++ [x - 4], by omega, by go_num, rfl, hrow', by rw [List.length_append, hlx]; rfl, HR2.out.mono (by omega), HS2.out⟩, rfl⟩ | exact ⟨_, _, ⟨k + 1, _, xs ++ [x - 4], by omega, by go_num, rfl, hrow', by rw [List.length_append, hlx]; rfl, HR2.out.mono (by omega), HS2.out⟩, rfl, rfl⟩ | exact ⟨_, _, _, ⟨k + 1, _, xs ++ [x - 4], by omega, by go_num, rfl, hrow', by rw [List.length_append, hlx]; rfl, HR2.out.mono (by omega), HS2.out⟩, rfl, rfl, rfl⟩ | exact ⟨_, _, _, _, ⟨k + 1, _, xs ++ [x - 4], by omega, by go_num, rfl, hrow', by rw [List.length_append, hlx]; rfl, HR2.out.mono (by omega), HS2.out⟩, rfl, rfl, rfl, rfl⟩ | exact ⟨_, _, _, _, _, ⟨k + 1, _, xs ++ [x - 4], by omega, by go_num, rfl, hrow', by rw [List.length_append, hlx]; rfl, HR2.out.mono (by omega), HS2.out⟩, rfl, rfl, rfl, rfl, rfl⟩
      case measure => simp [intOf]; omega
    · obtain rfl : k = sz := by omega
      subst hlx
      obtain ⟨av, nv, cv, rfl, hi⟩ := hrow.ints
      obtain rfl : xs.length = nv := hi.len
      go_wp2_with fail
      refine (pick_any R _ _ _ hrd (by omega) (by omega)).mono ?_; rintro e w2 ⟨_, rfl, ⟨z, rfl, hz0, hz1⟩, hrd2, hs⟩
      have hrow2 := Span.row hs hrow (fun b e => by have := (hvb b e).1; omega)
      have hsp2 := hsp.trans hs
      have hz2 := hs.size
      clear hrow hrd hsp hs hi
      by_cases e0 : z = 0
      · subst e0
        go_wp2_with (at_builtin; refine wpList_append_int rfl _ _ rfl w.heap.size _ _ xs.length rfl (by rfl) (hrow2.below ((Below.refl _ _).alloc (Nat.le_refl _) _)) _ _ 0 (by rfl) (by simp) (by omega) (by simp; omega) ?_; intro g' c' w' hrow' hgrow)
        have HB1 := below_grownBy (B := R + 1) (show Below (R + 1) w2 (w2.alloc _) from (below_alloc w2 _).mono (by omega)) (by simp; omega) hgrow (fun b e => by have := (hvb b e).1; omega)
        have HB2 := below_grownBy (B := w.heap.size) (show Below w.heap.size w2 (w2.alloc _) from (below_alloc w2 _).mono (by omega)) (by simp; omega) hgrow (fun b e => (hvb b e).1)
        have HR2 := hrd2.below HB1 (by omega)
        have HS2 := hsp2.on HB2
        clear hgrow hrow2 hrd2 hsp2 HB1 HB2
        go_wp2
        go_ret
        exact ⟨_, rfl, ⟨_, hrow', by rw [List.length_append]; simp; omega⟩, HR2.mono (by omega), HS2⟩
      · have hz0' : (z == 0) = false := by simpa using e0
        by_cases e1 : z = 1
        · subst e1
          by_cases h0 : 0 < xs.length
          · obtain ⟨g, cg, he, hg1, hg2, hig⟩ := hrow2.form h0
            rw [he] at hrow2 hvb
            injection he with he1 he2 he3
            subst he1 he3
            have hgt : (0 : Int) < (xs.length : Int) := by omega
            go_wp2_with fail
            refine (num_any R _ _ 5 _ [1000, -1000, 1001, -1001, -9223372036854775808] _ (hrd2.on (by (repeat (first | exact Below.refl _ _ | assumption | refine Below.alloc ?_ (by first | omega | (simp <;> omega)) _ | refine Below.setCell ?_ (by first | omega | (simp <;> omega)) _ | refine Below.drew ?_ | refine below_drewN ?_)))) (by omega) (ints_lit w2 _ 3 [1000, -1000, 1001, -1001, -9223372036854775808] w2.heap.size 5 rfl (by simp) rfl (by omega)) (by omega) (by omega) (by omega)).mono ?_; rintro e w3 ⟨_, rfl, ⟨i, hi, rfl⟩, hrd3, hs⟩
            have ht : Span R (R + 1) w2 w3 := Span.trans (Span.of_below (by (repeat (first | exact Below.refl _ _ | assumption | refine Below.alloc ?_ (by first | omega | (simp <;> omega)) _ | refine Below.setCell ?_ (by first | omega | (simp <;> omega)) _ | refine Below.drew ?_ | refine below_drewN ?_)))) hs
            have hrow3 := Span.row ht hrow2 (fun b e => by have := (hvb b e).1; omega)
            have hsp3 := hsp2.trans ht
            have hz3 := ht.size
            clear hrow2 hrd2 hsp2 hs ht hig
            generalize nth [1000, -1000, 1001, -1001, -9223372036854775808] i = q
            obtain ⟨c0, d0, _⟩ := hrow3.cellAt h0
            obtain ⟨w4, hw4, hr4, hg4⟩ := store_gen hrow3 h0 q
            have HR4 := hid (hrd3.grown hg4 (by omega))
            have HS4 := hid (hsp3.grownOn hg4 (by omega))
            have HW := hid hw4
            clear hw4 hg4 hrow3 hrd3 hsp3
            go_wp2
            rw [HW.out]
            go_wp2
            go_ret
            exact ⟨_, rfl, ⟨_, hr4, by rw [List.length_set]; omega⟩, HR4.out.mono (by omega), HS4.out⟩
          · have h00 : xs.length = 0 := by omega
            rw [h00] at hrow2 ⊢
            go_wp2
            go_ret
            exact ⟨_, rfl, ⟨xs, hrow2, by omega⟩, hrd2.mono (by omega), hsp2⟩
        · have hz1' : (z == 1) = false := by simpa using e1
          go_wp2
          go_ret
          exact ⟨_, rfl, ⟨xs, hrow2, by omega⟩, hrd2.mono (by omega), hsp2⟩
end Go.Proofs.Ytaplpgmkobokhaa
