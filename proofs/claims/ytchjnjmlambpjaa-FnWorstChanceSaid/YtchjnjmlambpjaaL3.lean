/- Contracts of the laws' helpers on lists of lists: sizes, copies, comparison. -/
import Derived.Test.YtchjnjmlambpjaaL2
import Derived.Test.YtchjnjmlambpjaaW6
import Derived.Deep.OwnRows
set_option linter.unusedSimpArgs false
set_option linter.unusedVariables false
namespace Go.Proofs.Ytchjnjmlambpjaa
open Go.RowKit
def totTo (xss : List (List Int)) (k : Nat) : Nat := iter (fun j t => t + (nthL xss j).length) 0 k
theorem totTo_succ (xss : List (List Int)) (k : Nat) : totTo xss (k + 1) = totTo xss k + (nthL xss k).length := rfl
theorem totTo_mono (xss : List (List Int)) {j k : Nat} (h : j ≤ k) : totTo xss j ≤ totTo xss k := by
  induction k with
  | zero => obtain rfl : j = 0 := by omega
            exact Nat.le_refl _
  | succ k ih =>
    rw [totTo_succ]
    by_cases e : j = k + 1
    · subst e; rw [totTo_succ]; exact Nat.le_refl _
    · have := ih (by omega); omega
/-- what a list of lists leaves of a budget -/
def leavesL (left : Int) (xss : List (List Int)) : Int := if left - ((xss.length + totTo xss xss.length : Nat) : Int) < 0 then -1 else left - ((xss.length + totTo xss xss.length : Nat) : Int)
set_option maxHeartbeats 400000 in
theorem szIntSS_any (ao : Option Addr) (n c : Nat) (left : Int) (xss : List (List Int)) (w : World) (h0 : 0 ≤ left) (h1 : left ≤ 1000000000000) (hx : RowsAt w ao n xss) :
    Calls Try.prog 51 #[.slice ao n c, .int .i64 left] w fun e w' => e = .returned (.int .i64 (leavesL left xss)) ∧ w = w' := by
  have hcap := hx.cap
  have HL := hid hx.len
  by_cases h : left - (n : Int) < 0
  · have HE : Hid (leavesL left xss = -1) := by
      show leavesL left xss = -1; unfold leavesL; rw [HL.out, if_pos (by omega)]
    rw [HE.out]
    go_enter Try.func51, Try.ntmps51
    go_wp2
    go_ret
    exact ⟨rfl, rfl⟩
  · go_enter Try.func51, Try.ntmps51
    go_wp2
    go_loop [1, 5] (fun l i => ∃ k : Nat, k ≤ n ∧ i = .int .i64 k ∧ l = .int .i64 (left - (n : Int) - (totTo xss k : Int)) ∧ 0 ≤ left - (n : Int) - (totTo xss k : Int)) (fun _ i => n - (intOf i).toNat)
    case atStart => exact ⟨0, by omega, rfl, by show _ = Value.int _ (left - (n : Int) - ((0 : Nat) : Int)); simp, by show 0 ≤ left - (n : Int) - ((0 : Nat) : Int); omega⟩
    case round =>
      obtain ⟨k, hk, rfl, rfl, hle⟩ := hrel
      by_cases hlt : k < n
      · obtain ⟨b, off, a', n', c', rfl, hbs, _, hck, hi⟩ := hx.at (Below.refl _ _) hlt
        have hil := hi.len
        have hicap := hi.cap
        have hm := totTo_mono xss (show k + 1 ≤ n by omega)
        rw [totTo_succ] at hm
        have HS : Hid ((totTo xss (k + 1) : Nat) = totTo xss k + n') := by show totTo xss (k + 1) = _; rw [totTo_succ, hil]
        rw [hil] at hm
        clear hil
        by_cases hb : left - (n : Int) - (totTo xss k : Int) - (n' : Int) < 0
        · have HE : Hid (leavesL left xss = -1) := by
            show leavesL left xss = -1; unfold leavesL; rw [HL.out, if_pos (by omega)]
          go_wp2_with (first | (go_at_call 62; refine (szIntS_any _ _ _ _ _ hle (by omega) hicap).mono ?_; rw [show leaves (left - (n : Int) - (totTo xss k : Int)) n' = -1 from by simp only [leaves]; rw [if_pos hb]]; rintro e w' ⟨rfl, rfl⟩))
          go_ret
          exact ⟨by rw [HE.out]; rfl, rfl⟩
        · go_wp2_with (first | (go_at_call 62; refine (szIntS_any _ _ _ _ _ hle (by omega) hicap).mono ?_; rw [show leaves (left - (n : Int) - (totTo xss k : Int)) n' = left - (n : Int) - (totTo xss k : Int) - (n' : Int) from by simp only [leaves]; rw [if_neg hb]]; rintro e w' ⟨rfl, rfl⟩))
          go_round
          case rel => first | exact ⟨k + 1, by omega, by go_num, by rw [HS.out]; congr 1; omega, by rw [HS.out]; omega⟩ | exact ⟨_, ⟨k + 1, by omega, by go_num, by rw [HS.out]; congr 1; omega, by rw [HS.out]; omega⟩, rfl⟩ | exact ⟨_, _, ⟨k + 1, by omega, by go_num, by rw [HS.out]; congr 1; omega, by rw [HS.out]; omega⟩, rfl, rfl⟩ | exact ⟨_, _, _, ⟨k + 1, by omega, by go_num, by rw [HS.out]; congr 1; omega, by rw [HS.out]; omega⟩, rfl, rfl, rfl⟩ | exact ⟨_, _, _, _, ⟨k + 1, by omega, by go_num, by rw [HS.out]; congr 1; omega, by rw [HS.out]; omega⟩, rfl, rfl, rfl, rfl⟩ | exact ⟨_, _, _, _, _, ⟨k + 1, by omega, by go_num, by rw [HS.out]; congr 1; omega, by rw [HS.out]; omega⟩, rfl, rfl, rfl, rfl, rfl⟩
          case measure => simp [intOf]; omega
      · have hkn : k = n := by omega
        subst hkn
        have HE : Hid (leavesL left xss = left - (k : Int) - (totTo xss k : Int)) := by
          show leavesL left xss = _; unfold leavesL; rw [HL.out, if_neg (by omega)]; omega
        go_wp2
        go_ret
        exact ⟨by rw [HE.out]; rfl, rfl⟩
set_option maxHeartbeats 400000 in
theorem eqIntSS_same (ao bo : Option Addr) (n c c' : Nat) (xss : List (List Int)) (w : World) (hx : RowsAt w ao n xss) (hy : RowsAt w bo n xss) :
    Calls Try.prog 55 #[.slice ao n c, .slice bo n c'] w fun e w' => e = .returned (.bool true) ∧ Below w.heap.size w w' := by
  have hcap := hx.cap
  have hnn : ((n : Int) != (n : Int)) = false := by simp
  go_enter Try.func55, Try.ntmps55
  go_wp2
  go_loopw [4, 5] (fun _ i wr => ∃ k : Nat, k ≤ n ∧ i = .int .i64 k ∧ Below w.heap.size w wr) (fun _ i _ => n - (intOf i).toNat)
  case atStart => exact ⟨0, by omega, rfl, Below.refl _ _⟩
  case round =>
    obtain ⟨k, hk, rfl, hB⟩ := hrel
    by_cases hlt : k < n
    · obtain ⟨b, off, a1, n1, c1, rfl, hbs, hbs', hck, hi⟩ := hx.at hB hlt
      obtain ⟨b2, off2, a2, n2, c2, rfl, hbs2, hbs2', hck2, hi2⟩ := hy.at hB hlt
      obtain rfl := hi.len
      obtain rfl := hi2.len
      have hk0 : (0 : Int) ≤ (k : Int) := by omega
      have hk1 : (k : Int) < (n : Int) := by omega
      go_wp2
      refine wp_region_ov_tail 8 (by kernel_rfl) (by kernel_rfl) (fun _ _ _ _ _ h => h) ?_
      simp only [List.take_succ_cons, List.take_zero, List.drop_succ_cons, List.drop_zero]
      repeat (first | go_big_quiet_step ((fail)) | quiet_step ((fail)))
      refine wpQuiet_nil ?_
      intro _ hw_ov
      obtain ⟨x_ov, hw_ov2⟩ := hw_ov
      subst hw_ov2
      obtain ⟨w3, hw_ov3, hb3⟩ := ov_gen _ x_ov
      rw [hw_ov3]
      clear hw_ov3 x_ov
      go_wp2_with fail
      refine (eqIntS_same _ _ _ _ _ _ _ (hi.below hb3) (hi2.below hb3)).mono ?_; rintro e w4 ⟨rfl, hb4⟩
      have hB4 := hid (chain (chain hB hb3) hb4)
      clear hb3 hb4
      go_wp2
      go_roundw
      case rel => first | exact ⟨k + 1, by omega, by go_num, hB4.out⟩ | exact ⟨_, ⟨k + 1, by omega, by go_num, hB4.out⟩, rfl⟩ | exact ⟨_, _, ⟨k + 1, by omega, by go_num, hB4.out⟩, rfl, rfl⟩ | exact ⟨_, _, _, ⟨k + 1, by omega, by go_num, hB4.out⟩, rfl, rfl, rfl⟩ | exact ⟨_, _, _, _, ⟨k + 1, by omega, by go_num, hB4.out⟩, rfl, rfl, rfl, rfl⟩ | exact ⟨_, _, _, _, _, ⟨k + 1, by omega, by go_num, hB4.out⟩, rfl, rfl, rfl, rfl, rfl⟩
      case measure => simp [intOf]; omega
    · go_wp2
      go_ret
      exact ⟨rfl, hB⟩
theorem info_ints : (Try.prog.info? 22).map (fun i => (i.zero, i.size, i.bytes)) = some (some (.slice none 0 0), 1, 24) := by kernel_rfl
/-- a slice at block B owns lists: its cells hold vals, each an owned row, no two the same block -/
structure Mat (w : World) (B n : Nat) (vals : Nat → Value) (xss : List (List Int)) : Prop where
  row : w.rowIs B 22 n vals
  rows : ∀ k, k < n → Row w (B + 1) (vals k) (nthL xss k)
  apart : ∀ j k, j < k → k < n → ∀ b, (vals j).ownBlock = some b → (vals k).ownBlock ≠ some b
theorem Mat.rowsAt {w : World} {B n : Nat} {vals : Nat → Value} {xss : List (List Int)} (h : Mat w B n vals xss) (hl : xss.length = n) (hc : n ≤ 9223372036854775807) : RowsAt w (some ⟨B, 0, none⟩) n xss := by
  refine ⟨hl, hc, fun _ => ⟨B, 0, rfl, h.row.lt, fun k hk => ?_⟩⟩
  obtain ⟨a', n', c', e, hi⟩ := (h.rows k hk).ints
  exact ⟨a', n', c', by rw [Nat.zero_add, h.row.cell hk, e], hi⟩
set_option maxHeartbeats 400000 in
theorem toIntSS_any (ao : Option Addr) (n c : Nat) (xss : List (List Int)) (w : World) (hx : RowsAt w ao n xss) (hn : n ≤ 100000000) (hr : ∀ k, k < n → (nthL xss k).length ≤ 100000000) :
    Calls Try.prog 53 #[.slice ao n c] w fun e w' => ∃ B vals, e = .returned (.slice (some ⟨B, 0, none⟩) n n) ∧ w.heap.size ≤ B ∧ Mat w' B n vals xss ∧ Below w.heap.size w w' := by
  have HR := hid hr; clear hr
  have hmk := run_make_row' (P := Try.prog) 57 22 (.slice none 0 0) 24 Try.underlying57 info_ints rfl .i64 .i64 n (by omega) (by omega)
  go_enter Try.func53, Try.ntmps53
  go_wp2
  go_loopw [4] (fun i wr => ∃ (k : Nat) (vals : Nat → Value), k ≤ n ∧ i = .int .i64 k ∧ wr.rowIs w.heap.size 22 n (fun j => if j < k then vals j else .slice none 0 0) ∧ (∀ j, j < k → Row wr (w.heap.size + 1) (vals j) (nthL xss j)) ∧ (∀ i j, i < j → j < k → ∀ b, (vals i).ownBlock = some b → (vals j).ownBlock ≠ some b) ∧ Below w.heap.size w wr) (fun i _ => n - (intOf i).toNat)
  case atStart => exact ⟨0, fun _ => undef, by omega, rfl, (World.rowIs_made _ _ _ _).congr (fun i hi => by simp), fun j hj => by omega, fun i j _ hj => by omega, below_alloc _ _⟩
  case round =>
    obtain ⟨k, vals, hk, rfl, hrow, hrows, hap, hB⟩ := hrel
    have hw0 := hrow.lt
    by_cases hlt : k < n
    · obtain ⟨b, off, a', n', c', rfl, hbs, hbs', hck, hi⟩ := hx.at hB hlt
      have hk0 : (0 : Int) ≤ (k : Int) := by omega
      have hk1 : (k : Int) < (n : Int) := by omega
      have hn' : n' ≤ 100000000 := by have := HR.out k hlt; rw [hi.len] at this; exact this
      go_wp2_with fail
      refine (toIntS_any _ _ _ _ _ hi hn').mono ?_; rintro e w1 ⟨v, rfl, hr1, hb1⟩
      obtain ⟨a1, n1, c1, rfl, hi1⟩ := hr1.ints
      have hrow1 := hrow.of_block (hb1.block _ hw0)
      have hc1 := hrow1.cell hlt
      rw [if_neg (Nat.lt_irrefl k)] at hc1
      have hf1 := hrow1.frozen k
      have HB1 := hid (chain hB hb1)
      have HROW := hid ((hrow1.set k (.slice a1 n1 c1)).congr (g := fun j => if j < k + 1 then (if j = k then .slice a1 n1 c1 else vals j) else .slice none 0 0) (fun j hj => by
        show (if j = k then _ else if j < k then vals j else _) = if j < k + 1 then (if j = k then _ else vals j) else _
        by_cases e : j = k
        · rw [if_pos e, if_pos (by omega), if_pos e]
        · rw [if_neg e]
          by_cases e2 : j < k
          · rw [if_pos e2, if_pos (by omega), if_neg e]
          · rw [if_neg e2, if_neg (by omega)]))
      have HROWS : Hid (∀ j, j < k + 1 → Row (w1.setCell ⟨w.heap.size, k, none⟩ (.slice a1 n1 c1)) (w.heap.size + 1) ((fun j => if j = k then .slice a1 n1 c1 else vals j) j) (nthL xss j)) := fun j hj => by
        by_cases e : j = k
        · subst e
          show Row _ _ (if j = j then _ else _) _
          rw [if_pos rfl]
          exact Row.setBelow (base := w.heap.size + 1) (hr1.mono (by omega)) (Nat.lt_succ_self _) _
        · show Row _ _ (if j = k then _ else _) _
          rw [if_neg e]
          exact ((hrows j (by omega)).below hb1).setBelow (Nat.lt_succ_self _) _
      have HAP : Hid (∀ i j, i < j → j < k + 1 → ∀ b, ((fun j => if j = k then .slice a1 n1 c1 else vals j) i : Value).ownBlock = some b → ((fun j => if j = k then .slice a1 n1 c1 else vals j) j : Value).ownBlock ≠ some b) := fun i j hij hj b2 => by
        show (if i = k then _ else vals i : Value).ownBlock = _ → (if j = k then _ else vals j : Value).ownBlock ≠ _
        rw [if_neg (by omega)]
        by_cases e : j = k
        · rw [if_pos e]
          intro h1 h2
          have := (hrows i (by omega)).block b2 h1
          have := hr1.block b2 h2
          omega
        · rw [if_neg e]
          exact hap i j hij (by omega) b2
      clear hrow hrow1 hrows hap hb1
      go_wp2
      go_roundw
      case rel => first | exact ⟨k + 1, fun j => if j = k then .slice a1 n1 c1 else vals j, by omega, by go_num, HROW.out, HROWS.out, HAP.out, HB1.out.setCell (Nat.le_refl _) _⟩ | exact ⟨_, ⟨k + 1, fun j => if j = k then .slice a1 n1 c1 else vals j, by omega, by go_num, HROW.out, HROWS.out, HAP.out, HB1.out.setCell (Nat.le_refl _) _⟩, rfl⟩ | exact ⟨_, _, ⟨k + 1, fun j => if j = k then .slice a1 n1 c1 else vals j, by omega, by go_num, HROW.out, HROWS.out, HAP.out, HB1.out.setCell (Nat.le_refl _) _⟩, rfl, rfl⟩ | exact ⟨_, _, _, ⟨k + 1, fun j => if j = k then .slice a1 n1 c1 else vals j, by omega, by go_num, HROW.out, HROWS.out, HAP.out, HB1.out.setCell (Nat.le_refl _) _⟩, rfl, rfl, rfl⟩ | exact ⟨_, _, _, _, ⟨k + 1, fun j => if j = k then .slice a1 n1 c1 else vals j, by omega, by go_num, HROW.out, HROWS.out, HAP.out, HB1.out.setCell (Nat.le_refl _) _⟩, rfl, rfl, rfl, rfl⟩ | exact ⟨_, _, _, _, _, ⟨k + 1, fun j => if j = k then .slice a1 n1 c1 else vals j, by omega, by go_num, HROW.out, HROWS.out, HAP.out, HB1.out.setCell (Nat.le_refl _) _⟩, rfl, rfl, rfl, rfl, rfl⟩
      case measure => simp [intOf]; omega
    · have hkn : k = n := by omega
      subst hkn
      have HM : Hid (Mat wr w.heap.size k vals xss) := ⟨hrow.congr fun i hi => by rw [if_pos hi], hrows, hap⟩
      clear hrow hrows hap
      go_wp2
      go_ret
      exact ⟨_, vals, rfl, Nat.le_refl _, HM.out, hB⟩
theorem Mat.below {w w' : World} {B n : Nat} {vals : Nat → Value} {xss : List (List Int)} (h : Mat w B n vals xss) (hb : Below w.heap.size w w') : Mat w' B n vals xss :=
  ⟨h.row.of_block (hb.block _ h.row.lt), fun k hk => (h.rows k hk).below hb, h.apart⟩
theorem len_le_tot (xss : List (List Int)) {k : Nat} (hk : k < xss.length) : (nthL xss k).length ≤ totTo xss xss.length := by
  have := totTo_mono xss (show k + 1 ≤ xss.length by omega)
  rw [totTo_succ] at this; omega
end Go.Proofs.Ytchjnjmlambpjaa
