/- What the reference draws for FnNumbers: some numbers, some text. -/
import Derived.Test.YtobeeomeebicnaaDoorD3
import Derived.Test.YtobeeomeebicnaaDoorT8
import Derived.Test.YtobeeomeebicnaaDoorT4
import Derived.Deep.RegionHeld3
set_option linter.unusedSimpArgs false
set_option linter.unusedVariables false
namespace Go.Proofs.YtobeeomeebicnaaDoor
open Go.RowKit
def DrawnNum (x : Int) : Prop := (-1000000000 ≤ x ∧ x ≤ 1000000000) ∨ x = -9223372036854775808
def DrawnNums (xs : List Int) : Prop := xs.length ≤ 4 ∧ ∀ x ∈ xs, DrawnNum x
theorem drawn_one {i : Nat} (h : i < 7) : DrawnNum (nth [0, 1, -1, 12, 3, -9223372036854775808, 1000000000] i) := by
  unfold DrawnNum
  match i, h with
  | 0, _ => exact Or.inl (by decide)
  | 1, _ => exact Or.inl (by decide)
  | 2, _ => exact Or.inl (by decide)
  | 3, _ => exact Or.inl (by decide)
  | 4, _ => exact Or.inl (by decide)
  | 5, _ => exact Or.inr (by decide)
  | 6, _ => exact Or.inl (by decide)
theorem DrawnNums.i64 {xs : List Int} (h : DrawnNums xs) : I64 xs := fun k hk => by
  rw [nth_eq _ _ hk]
  rcases h.2 _ (List.getElem_mem hk) with h1 | h1 <;> omega
set_option maxRecDepth 100000 in
set_option maxHeartbeats 1000000 in
theorem DrawFormatNumbers_any (ao : Option Addr) (n c : Nat) (w : World) (hx : BytesIn w w.heap.size ao n) (hnc : n ≤ c) :
    Calls Tryd.prog 14 #[.slice ao n c] w fun e w' => (∃ v xs, e = .returned v ∧ Row w' w.heap.size v xs ∧ DrawnNums xs) ∧ Below w.heap.size w w' := by
  obtain ⟨R, hRe⟩ : ∃ R, w.heap.size = R := ⟨_, rfl⟩
  go_enter Tryd.func14, Tryd.ntmps14
  go_wp2_with fail
  refine (l14OpenR_any ao n c R _ hRe (by rw [← hRe]; exact hx) hnc).mono ?_; rintro e w1 ⟨rfl, hrd, hb⟩
  have hR1 := hrd.1
  have hB1 : Below R w w1 := hb
  clear hb hx
  go_wp2_with fail
  obtain ⟨q, hq⟩ : ∃ q : World, q = w1.alloc (.cells #[] 3) := ⟨_, rfl⟩
  rw [← hq]
  have hzq : q.heap.size = w1.heap.size + 1 := by rw [hq]; simp
  have hbq : Below w1.heap.size w1 q := by rw [hq]; exact below_alloc w1 _
  have hrow : Row q (R + 1) (.slice (some ⟨w1.heap.size, 0, none⟩) 0 0) [] := by rw [hq]; exact (rowLit w1).mono (by omega)
  clear hq
  refine (pick_any R _ _ _ (hrd.on hbq) (by omega) (by omega)).mono ?_; rintro e w2 ⟨_, rfl, ⟨x, rfl, hx0, hx1⟩, hrd2, hs⟩
  obtain ⟨x, rfl⟩ : ∃ m : Nat, x = (m : Int) := ⟨x.toNat, by omega⟩
  have hx4 : x ≤ 4 := by omega
  have hrow2 := Span.row hs hrow (fun b e => by have := (hrow.block b e).1; omega)
  have hB2 := Span.below (hB1.trans (hbq.mono (by omega))) (by omega) hs (by omega)
  have hz2 := hs.size
  clear hrow hs hrd hbq hx0 hx1
  go_wp2
  go_loopw [4, 5] (fun o i wr => ∃ (k j : Nat) (v : Value) (xs : List Int), k + j ≤ 4 ∧ i = .int .i64 j ∧ o = v ∧ Row wr (R + 1) v xs ∧ xs.length = k ∧ DrawnNums xs ∧ Rd wr R (1 + k) ∧ Below R w wr) (fun o i _ => (intOf i).toNat)
  case atStart => exact ⟨0, x, _, [], by omega, rfl, rfl, hrow2, rfl, ⟨by simp, fun _ h => by cases h⟩, hrd2.mono (by omega), hB2⟩
  case round =>
    obtain ⟨k, j, v, xs, hk, rfl, rfl, hrow, hlx, hdr, hrd, hB⟩ := hrel
    have hvb := hrow.block
    have hBz := hB.size
    have hRz := hrd.1
    by_cases hj : j = 0
    · subst hj
      go_wp2
      go_ret
      subst hRe
      exact ⟨⟨_, xs, rfl, hrow.mono (by omega), hdr⟩, hB⟩
    · have hj0 : 0 < j := by omega
      have HD := hid hdr
      clear hj hdr
      go_wp2_with fail
      refine (num_any R _ _ 7 _ [0, 1, -1, 12, 3, -9223372036854775808, 1000000000] _ (hrd.on (by (repeat (first | exact Below.refl _ _ | assumption | refine Below.alloc ?_ (by first | omega | (simp <;> omega)) _ | refine Below.setCell ?_ (by first | omega | (simp <;> omega)) _ | refine Below.drew ?_ | refine below_drewN ?_)))) (by omega) (ints_lit wr _ 3 [0, 1, -1, 12, 3, -9223372036854775808, 1000000000] wr.heap.size 7 rfl (by simp) rfl (by omega)) (by omega) (by omega) (by omega)).mono ?_; rintro e w3 ⟨_, rfl, ⟨i, hi, rfl⟩, hrd3, hs⟩
      have HX := hid (drawn_one hi)
      have ht : Span R (R + 1) wr w3 := Span.trans (Span.of_below (by (repeat (first | exact Below.refl _ _ | assumption | refine Below.alloc ?_ (by first | omega | (simp <;> omega)) _ | refine Below.setCell ?_ (by first | omega | (simp <;> omega)) _ | refine Below.drew ?_ | refine below_drewN ?_)))) hs
      have hrow3 := Span.row ht hrow (fun b e => by have := (hvb b e).1; omega)
      have hB3 := Span.below hB (by omega) ht (by omega)
      have hz3 := ht.size
      clear hrow hrd hs ht hi hB
      generalize nth [0, 1, -1, 12, 3, -9223372036854775808, 1000000000] i = u at *
      go_wp2_with (at_builtin; refine wpList_append_int rfl _ _ rfl (R + 1) _ _ k hlx (by rfl) (hrow3.below ((Below.refl _ _).alloc (Nat.le_refl _) _)) _ _ u (by rfl) (by simp) (by omega) (by simp; omega) ?_; intro g' c' w' hrow' hgrow)
      have HB1 := below_grownBy (B := R + 1) (show Below (R + 1) w3 (w3.alloc _) from (below_alloc w3 _).mono (by omega)) (by simp; omega) hgrow (fun b e => (hvb b e).1)
      have HR2 := hid (hrd3.below HB1 (by omega))
      have HB2 := hid (hB3.trans (HB1.mono (by omega)))
      clear hgrow hrow3 hrd3 HB1 hB3
      have HD2 : Hid (DrawnNums (xs ++ [u])) := by
        refine ⟨by rw [List.length_append, hlx]; simp; omega, fun y hy => ?_⟩
        rcases List.mem_append.1 hy with h | h
        · exact HD.out.2 y h
        · simp at h; rw [h]; exact HX.out
      go_roundw
      case rel => first | exact ⟨k + 1, j - 1, _, xs ++ [u], by omega, by go_num, rfl, hrow', by rw [List.length_append, hlx]; rfl, HD2.out, HR2.out.mono (by omega), HB2.out⟩ | exact ⟨_, ⟨k + 1, j - 1, _, xs ++ [u], by omega, by go_num, rfl, hrow', by rw [List.length_append, hlx]; rfl, HD2.out, HR2.out.mono (by omega), HB2.out⟩, rfl⟩ | exact ⟨_, _, ⟨k + 1, j - 1, _, xs ++ [u], by omega, by go_num, rfl, hrow', by rw [List.length_append, hlx]; rfl, HD2.out, HR2.out.mono (by omega), HB2.out⟩, rfl, rfl⟩ | exact ⟨_, _, _, ⟨k + 1, j - 1, _, xs ++ [u], by omega, by go_num, rfl, hrow', by rw [List.length_append, hlx]; rfl, HD2.out, HR2.out.mono (by omega), HB2.out⟩, rfl, rfl, rfl⟩ | exact ⟨_, _, _, _, ⟨k + 1, j - 1, _, xs ++ [u], by omega, by go_num, rfl, hrow', by rw [List.length_append, hlx]; rfl, HD2.out, HR2.out.mono (by omega), HB2.out⟩, rfl, rfl, rfl, rfl⟩ | exact ⟨_, _, _, _, _, ⟨k + 1, j - 1, _, xs ++ [u], by omega, by go_num, rfl, hrow', by rw [List.length_append, hlx]; rfl, HD2.out, HR2.out.mono (by omega), HB2.out⟩, rfl, rfl, rfl, rfl, rfl⟩
      case measure => simp [intOf]; omega
end Go.Proofs.YtobeeomeebicnaaDoor
