/- What the reference draws as a text of numbers; when the text of drawn numbers is parsed, plain. -/
import Derived.Test.YtobeeomeebicnaaDoorT10
import Derived.Test.YtobeeomeebicnaaDoorT5
set_option linter.unusedSimpArgs false
set_option linter.unusedVariables false
namespace Go.Proofs.YtobeeomeebicnaaDoor
open Go.RowKit
/-! plain -/
theorem numT_text {xs : List Int} (h : xs ≠ []) : numT xs = Lib.join (xs.map Lib.itoa) [32] := by
  unfold numT txt; rw [if_neg (by intro e; exact h (List.length_eq_zero_iff.1 e)), List.take_length]
theorem cut_numT {xs : List Int} (h : xs ≠ []) : cutAt 32 (numT xs) = xs.map Lib.itoa := by
  rw [numT_text h]
  exact cut_join 32 _ (by intro e; exact h (List.map_eq_nil_iff.1 e)) (fun x hx => by
    obtain ⟨v, _, rfl⟩ := List.mem_map.1 hx
    exact itoa_no_space v)
theorem numP_min : numP (Lib.itoa (-9223372036854775808)) = none := by rw [itoa_min]; decide +kernel
theorem numP_dash : parseR [45] = none := by decide +kernel
/-- which lists fit -/
def fits (xs : List Int) (k : Nat) : Bool := decide (0 < xs.length) && (xs.take k).all (inB (-1000000000) 1000000000)
theorem fits_zero (xs : List Int) : fits xs 0 = decide (0 < xs.length) := by simp [fits]
theorem fits_succ (xs : List Int) (k : Nat) (hk : k < xs.length) : fits xs (k + 1) = (fits xs k && decide (-1000000000 ≤ nth xs k) && decide (nth xs k ≤ 1000000000)) := by
  unfold fits
  rw [take_one _ _ hk, List.all_append]
  simp [inB, Bool.and_assoc]
theorem parse_fits {xs : List Int} (hd : DrawnNums xs) : parseR (numT xs) = if fits xs xs.length = true then some xs else none := by
  by_cases h0 : xs = []
  · subst h0; simp [fits]; exact numP_dash
  have hp : 0 < xs.length := by cases xs with | nil => exact absurd rfl h0 | cons => simp
  by_cases hf : fits xs xs.length = true
  · rw [if_pos hf]
    have hall : ∀ x ∈ xs, -1000000000 ≤ x ∧ x ≤ 1000000000 := by
      unfold fits at hf; rw [List.take_length, Bool.and_eq_true, List.all_eq_true] at hf
      exact fun x hx => inB_iff.1 (hf.2 x hx)
    rw [parseR_good]
    · rw [cut_numT h0]; unfold valsOf; rw [List.map_map]
      conv => rhs; rw [← List.map_id xs]
      congr 1
      refine List.map_congr_left fun x hx => ?_
      simp only [Function.comp, numP_of_itoa (hall x hx).1 (hall x hx).2, Option.getD_some, id]
    · rw [cut_numT h0, okAll_iff]; intro y hy
      obtain ⟨x, hx, rfl⟩ := List.mem_map.1 hy
      rw [numP_of_itoa (hall x hx).1 (hall x hx).2]; rfl
    · rw [cut_numT h0]; have := hd.1; simp; omega
  · rw [if_neg hf]
    have hbad : ∃ x ∈ xs, ¬ (-1000000000 ≤ x ∧ x ≤ 1000000000) := by
      refine Classical.byContradiction fun hc => hf ?_
      unfold fits; rw [List.take_length, Bool.and_eq_true, List.all_eq_true]
      exact ⟨by simpa using hp, fun x hx => inB_iff.2 (Classical.byContradiction fun h => hc ⟨x, hx, h⟩)⟩
    obtain ⟨x, hx, hb⟩ := hbad
    obtain ⟨k, hk, hxk⟩ := List.getElem_of_mem hx
    have hxm : x = -9223372036854775808 := by rcases hd.2 x hx with h | h <;> omega
    refine parseR_bad (k := k) (w := Lib.itoa x) ?_ (by rw [hxm]; exact numP_min)
    rw [cut_numT h0, List.getElem?_map, List.getElem?_eq_getElem hk, hxk]; rfl
theorem parse_text {l : List UInt8} {xs : List Int} (h : parseR l = some xs) : numT xs = l ∧ I64 xs := by
  unfold parseR at h
  split at h
  · next h1 =>
    have hall := (okAll_iff _ _).1 h1.1
    obtain ⟨e1, _⟩ := vals_same _ hall
    have h2 := ((parse_iff l).1 hall).2
    injection h with h
    rw [e1, h] at h2
    exact ⟨h2, by rw [← h, ← e1]; exact vals_bound _⟩
  · cases h
theorem numT_len {xs : List Int} (hd : DrawnNums xs) : 0 < (numT xs).length ∧ (numT xs).length ≤ 89 := by
  refine ⟨List.length_pos_iff.2 (numT_pos xs), ?_⟩
  unfold numT
  split
  · simp
  · have := txt_len xs hd.i64 xs.length (Nat.le_refl _); have := hd.1; omega
/-! the drawing -/
def StrOf (M : Nat) (v : Value) (_ : World) : Prop := ∃ s : ByteArray, s.size ≤ M ∧ v = .string s
set_option maxHeartbeats 400000 in
theorem of_any (R P g n c M : Nat) (w : World) (hr : Rd w R P) (hP : P ≤ 1000000000) (hx : ∀ i, i < n → ∃ s : ByteArray, s.size ≤ M ∧ w.cell? ⟨g, i, none⟩ = some (.string s)) (hgw : g < w.heap.size) (hg : g ≠ R) (hn : 0 < n) (hn2 : n ≤ 1000) :
    Calls Tryd.prog 28 #[.pointer (some ⟨R, 0, none⟩), .slice (some ⟨g, 0, none⟩) n c] w (Drew R (P + 1) w (StrOf M)) := by
  have HX := hid hx
  clear hx
  go_enter Tryd.func28, Tryd.ntmps28
  go_wp2_with fail
  refine (pick_any R P _ _ hr hP (by omega)).mono ?_; rintro e w1 ⟨v, rfl, ⟨x, rfl, hx0, hx1⟩, hrd, hsp⟩
  obtain ⟨i, rfl⟩ : ∃ i : Nat, x = (i : Int) := ⟨x.toNat, by omega⟩
  have hin : i < n := by omega
  have hi0 : (0 : Int) ≤ (i : Int) := by omega
  have hi1 : (i : Int) < (n : Int) := by omega
  obtain ⟨s, hs, hc⟩ := HX.out i hin
  have hck := Span.keep hsp hc (by omega)
  clear hc
  go_wp2
  go_ret
  exact ⟨_, rfl, ⟨s, hs, rfl⟩, hrd, hsp⟩
theorem of5 (w : World) (t : TypeId) : ∀ i, i < 5 → ∃ s : ByteArray, s.size ≤ 1 ∧ (w.alloc (.cells #[.string ⟨#[]⟩, .string ⟨#[32]⟩, .string ⟨#[48]⟩, .string ⟨#[45]⟩, .string ⟨#[120]⟩] t)).cell? ⟨w.heap.size, i, none⟩ = some (.string s) := by
  intro i hi
  match i, hi with
  | 0, _ => exact ⟨⟨#[]⟩, by decide, by simp⟩
  | 1, _ => exact ⟨⟨#[32]⟩, by decide, by simp⟩
  | 2, _ => exact ⟨⟨#[48]⟩, by decide, by simp⟩
  | 3, _ => exact ⟨⟨#[45]⟩, by decide, by simp⟩
  | 4, _ => exact ⟨⟨#[120]⟩, by decide, by simp⟩
theorem of5d (w : World) (t : TypeId) : ∀ i, i < 5 → ∃ s : ByteArray, s.size ≤ 1 ∧ (w.alloc (.cells #[.string ⟨#[]⟩, .string ⟨#[32]⟩, .string ⟨#[48]⟩, .string ⟨#[45]⟩, .string ⟨#[120]⟩] t)).drew.cell? ⟨w.heap.size, i, none⟩ = some (.string s) := fun i hi => by
  obtain ⟨s, h1, h2⟩ := of5 w t i hi
  exact ⟨s, h1, by simpa using h2⟩
set_option maxRecDepth 100000 in
set_option maxHeartbeats 1000000 in
theorem DrawParseNumbers_any (ao : Option Addr) (n c : Nat) (w : World) (hx : BytesIn w w.heap.size ao n) (hnc : n ≤ c) :
    Calls Tryd.prog 16 #[.slice ao n c] w fun e w' => (∃ s : ByteArray, e = .returned (.string s) ∧ s.size ≤ 1000) ∧ Below w.heap.size w w' := by
  obtain ⟨R, hRe⟩ : ∃ R, w.heap.size = R := ⟨_, rfl⟩
  have HX := hid hx
  go_enter Tryd.func16, Tryd.ntmps16
  go_wp2_with fail
  refine (l14OpenR_any ao n c R _ hRe (by rw [← hRe]; exact hx) hnc).mono ?_; rintro e w1 ⟨rfl, hrd, hb⟩
  have hR1 := hrd.1
  have hB1 : Below R w w1 := hb
  have hz1 := hb.size
  clear hb hx
  go_wp2_with fail
  refine (DrawFormatNumbers_any ao n c w1 (HX.out.on (by rw [hRe]; exact hB1) hz1) hnc).mono ?_; rintro e w2 ⟨⟨v, xs, rfl, hrow, hdr⟩, hb2⟩
  obtain ⟨a2, n2, c2, rfl, hi2⟩ := hrow.ints
  have hB2 := hB1.trans (hb2.mono (by omega))
  have hz2 := hb2.size
  have hn2 : n2 ≤ 4 := by have := hi2.len; have := hdr.1; omega
  have hrd2 := hrd.on hb2
  clear hrow hb2 hrd
  have HD := hid hdr
  have HI := hid hdr.i64
  clear hdr
  go_wp2_with fail
  refine (specFormat_any a2 n2 c2 xs w2 hi2 HI.out (by omega)).mono ?_; rintro e w3 ⟨rfl, hb3⟩
  have hB3 := hB2.trans (hb3.mono (by omega))
  have hz3 := hb3.size
  have hrd3 := hrd2.on hb3
  obtain ⟨T, hT⟩ : ∃ T, T = bs (numT xs) := ⟨_, rfl⟩
  have hT0 : 0 < T.size ∧ T.size ≤ 89 := by rw [hT, bs_size]; exact numT_len HD.out
  rw [← hT]
  clear hT hb3 hrd2 hi2
  go_wp2_with fail
  refine (pick_any R _ 2 _ hrd3 (by omega) (by omega)).mono ?_; rintro e w4 ⟨_, rfl, ⟨x, rfl, hx0, hx1⟩, hrd4, hs⟩
  have hB4 := Span.below hB3 (by omega) hs (by omega)
  have hz4 := hs.size
  clear hs hrd3
  by_cases hxz : x = 0
  · subst hxz
    go_wp2
    go_ret
    subst hRe
    exact ⟨⟨_, rfl, by omega⟩, hB4⟩
  have hxe : (x == 0) = false := by simpa using hxz
  clear hxz
  go_wp2_with fail
  refine (pick_any R _ (T.size : Int) _ hrd4 (by omega) (by omega)).mono ?_; rintro e w5 ⟨_, rfl, ⟨k, rfl, hk0, hk1⟩, hrd5, hs⟩
  obtain ⟨k, rfl⟩ : ∃ m : Nat, k = (m : Int) := ⟨k.toNat, by omega⟩
  have hkT : k < T.size := by omega
  have hkT2 : k ≤ T.size := by omega
  have hB5 := Span.below hB4 (by omega) hs (by omega)
  have hz5 := hs.size
  have hR5 := hrd5.1
  have hpre : ∀ a b : Nat, (T.extract a b).size ≤ 89 := fun a b => by rw [ByteArray.size_extract]; omega
  have hkI : (k : Int) ≤ (T.size : Int) := by omega
  clear hs hrd4 hk1 hx0 hx1
  go_wp2_with fail
  go_region_held3 (fun w' => True) (trivial) (first | (go_at_call 28; refine (of_any R _ w5.heap.size 5 _ 1 _ (hrd5.on (by (repeat (first | exact Below.refl _ _ | assumption | refine Below.alloc ?_ (by first | omega | (simp <;> omega)) _ | refine Below.setCell ?_ (by first | omega | (simp <;> omega)) _ | refine Below.drew ?_ | refine below_drewN ?_)))) (by omega) (of5d w5 _) (by simp) (by omega) (by omega) (by omega)).mono ?_; rintro e w6 ⟨_, rfl, ⟨s, hsl, rfl⟩, hrd6, hs6⟩; have kz1 : ¬ 9223372036854775807 < k + s.size := (by omega); have kz2 := (by have := hpre 0 k; rw [ByteArray.size_append]; omega : (T.extract 0 k ++ s).size ≤ 90); have ht6 : Span R (R + 1) w5 w6 := Span.trans (Span.of_below (by (repeat (first | exact Below.refl _ _ | assumption | refine Below.alloc ?_ (by first | omega | (simp <;> omega)) _ | refine Below.setCell ?_ (by first | omega | (simp <;> omega)) _ | refine Below.drew ?_ | refine below_drewN ?_)))) hs6) | (go_at_call 26; refine (pick_any R _ 2 _ hrd6 (by omega) (by omega)).mono ?_; rintro e w7 ⟨_, rfl, ⟨y, rfl, hy0, hy1⟩, hrd7, hs7⟩; obtain ⟨y, rfl⟩ : ∃ m : Nat, y = (m : Int) := ⟨y.toNat, by omega⟩; have y0 : (0 : Int) ≤ (k : Int) + (y : Int) := (by omega); have y1 : (k : Int) + (y : Int) ≤ (T.size : Int) := (by omega); have y2 : IntKind.i64.wrap ((k : Int) + (y : Int)) = (k : Int) + (y : Int) := (IntWalk.i64_in _ (by omega)); have kz3 : ¬ 9223372036854775807 < k + s.size + (T.size - (k + y)) := (by omega); have kz4 : ¬ 9223372036854775807 < k + s.size + (T.size - ((k : Int) + (y : Int)).toNat) := (by omega)))
  go_wp2
  go_ret
  subst hRe
  refine ⟨⟨_, rfl, ?_⟩, ?_⟩
  · rw [ByteArray.size_append]; have := hpre ((k : Int) + (y : Int)).toNat T.size; omega
  · exact Span.below (Span.below hB5 (by omega) ht6 (by omega)) (by have := ht6.size; omega) hs7 (by omega)
end Go.Proofs.YtobeeomeebicnaaDoor
