/- Contracts of the reference's small functions on numbers, sizes and masses. -/
import Derived.Test.YtlelnnglpimgjaaGreatDoorW1
set_option linter.unusedSimpArgs false
set_option linter.unusedVariables false
namespace Go.Proofs.YtlelnnglpimgjaaGreatDoor
open Go.RowKit
theorem l1In_any (n lo hi : Int) (w : World) :
    Calls Tryz.prog 138 #[.int .i64 n, .int .i64 lo, .int .i64 hi] w fun e w' => e = .returned (.bool (inB lo hi n)) ∧ w = w' := by
  unfold inB
  go_enter Tryz.func138, Tryz.ntmps138
  go_wp2
  all_goals go_ret
  all_goals simp [*]
  omega
theorem SizeValid_any (n : Int) (w : World) :
    Calls Tryz.prog 152 #[.int .i64 n] w fun e w' => e = .returned (.bool (okSize n)) ∧ w = w' := by
  have HE : Hid (okSize n = inB 1 4 n) := rfl
  rw [HE.out]
  go_enter Tryz.func152, Tryz.ntmps152
  go_wp2_with (go_at_call 138; refine (l1In_any _ _ _ _).mono ?_; rintro e w' ⟨rfl, rfl⟩)
  go_ret
  exact ⟨rfl, rfl⟩
theorem SetValid_any (s a : Int) (w : World) :
    Calls Tryz.prog 104 #[.int .i64 s, .int .i64 a] w fun e w' => e = .returned (.bool (setOk s a)) ∧ w = w' := by
  by_cases hs : okSize s = true
  · have hs0 : 1 ≤ s ∧ s ≤ 4 := by rcases okSize_iff.1 hs with h | h | h | h <;> omega
    have hsh := shl_size hs
    have hsn := nsets_le hs
    go_enter Tryz.func104, Tryz.ntmps104
    go_wp2_with (first | (go_at_call 152; refine (SizeValid_any _ _).mono ?_; rintro e w' ⟨rfl, rfl⟩) | (go_at_call 138; refine (l1In_any _ _ _ _).mono ?_; rintro e w' ⟨rfl, rfl⟩))
    go_ret
    exact ⟨ret_bool (by simp [setOk, hs]), rfl⟩
  · have hs' : okSize s = false := by simpa using hs
    clear hs
    go_enter Tryz.func104, Tryz.ntmps104
    go_wp2_with (first | (go_at_call 152; refine (SizeValid_any _ _).mono ?_; rintro e w' ⟨rfl, rfl⟩))
    go_ret
    exact ⟨ret_bool (by simp [setOk, hs']), rfl⟩
theorem isSetOf_any (s a : Int) (w : World) (hs : okSize s = true) :
    Calls Tryz.prog 42 #[.int .i64 s, .int .i64 a] w fun e w' => e = .returned (.bool (inB 0 ((nsets s : Int) - 1) a)) ∧ w = w' := by
  have hs0 : 1 ≤ s ∧ s ≤ 4 := by rcases okSize_iff.1 hs with h | h | h | h <;> omega
  have hsh := shl_size hs
  have hsn := nsets_le hs
  go_enter Tryz.func42, Tryz.ntmps42
  go_wp2
  all_goals go_ret
  all_goals refine ⟨ret_bool ?_, rfl⟩
  all_goals simp [inB, *]
  all_goals omega
theorem fullSet_any (s : Int) (w : World) (hs : okSize s = true) :
    Calls Tryz.prog 110 #[.int .i64 s] w fun e w' => e = .returned (.int .i64 ((nsets s : Int) - 1)) ∧ w = w' := by
  have hs0 : 1 ≤ s ∧ s ≤ 4 := by rcases okSize_iff.1 hs with h | h | h | h <;> omega
  have hsh := shl_size hs
  have hsn := nsets_le hs
  go_enter Tryz.func110, Tryz.ntmps110
  go_wp2
  go_ret
  exact ⟨rfl, rfl⟩
theorem l2Part_any (n : Int) (w : World) :
    Calls Tryz.prog 236 #[.int .i64 n] w fun e w' => e = .returned (.bool (inB (-1000000000) 1000000000 n)) ∧ w = w' := by
  go_enter Tryz.func236, Tryz.ntmps236
  go_wp2_with (go_at_call 138; refine (l1In_any _ _ _ _).mono ?_; rintro e w' ⟨rfl, rfl⟩)
  go_ret
  exact ⟨rfl, rfl⟩
set_option maxHeartbeats 400000 in
theorem l2Divisor_any (a b : Int) (w : World) (ha : -4000000000000000000 ≤ a ∧ a ≤ 4000000000000000000) (hb : -4000000000000000000 ≤ b ∧ b ≤ 4000000000000000000) :
    Calls Tryz.prog 189 #[.int .i64 a, .int .i64 b] w fun e w' => e = .returned (.int .i64 (Int.gcd a b)) ∧ w = w' := by
  go_enter Tryz.func189, Tryz.ntmps189
  go_wp2
  all_goals
    go_loop [0, 1, 5] (fun x y t => ∃ x' y' : Int, x = .int .i64 x' ∧ y = .int .i64 y' ∧ 0 ≤ x' ∧ x' ≤ 4000000000000000000 ∧ 0 ≤ y' ∧ y' ≤ 4000000000000000000 ∧ Int.gcd x' y' = Int.gcd a b) (fun _ y _ => (intOf y).toNat)
    case atStart => exact ⟨_, _, rfl, rfl, by omega, by omega, by omega, by omega, by simp [Int.gcd]⟩
    case round =>
      obtain ⟨x, y, rfl, rfl, hx0, hx1, hy0, hy1, hg⟩ := hrel
      have HG := hid hg; clear hg
      by_cases h0 : 0 < y
      · have hb2 : (y == 0) = false := by simpa using (show ¬ y = 0 by omega)
        have hm0 : 0 ≤ x % y := Int.emod_nonneg _ (by omega)
        have hm1 : x % y < y := Int.emod_lt_of_pos _ h0
        have HS := hid (gcd_step' x y hx0 hy0)
        go_wp2
        go_round
        case rel => first | exact ⟨_, _, rfl, rfl, by omega, by omega, by omega, by omega, by rw [HS.out]; exact HG.out⟩ | exact ⟨_, ⟨_, _, rfl, rfl, by omega, by omega, by omega, by omega, by rw [HS.out]; exact HG.out⟩, rfl⟩ | exact ⟨_, _, ⟨_, _, rfl, rfl, by omega, by omega, by omega, by omega, by rw [HS.out]; exact HG.out⟩, rfl, rfl⟩ | exact ⟨_, _, _, ⟨_, _, rfl, rfl, by omega, by omega, by omega, by omega, by rw [HS.out]; exact HG.out⟩, rfl, rfl, rfl⟩ | exact ⟨_, _, _, _, ⟨_, _, rfl, rfl, by omega, by omega, by omega, by omega, by rw [HS.out]; exact HG.out⟩, rfl, rfl, rfl, rfl⟩ | exact ⟨_, _, _, _, _, ⟨_, _, rfl, rfl, by omega, by omega, by omega, by omega, by rw [HS.out]; exact HG.out⟩, rfl, rfl, rfl, rfl, rfl⟩
        case measure => simp [intOf]; omega
      · go_wp2
        go_ret
        exact ⟨ret_int (by rw [← HG.out, show y = 0 by omega]; simp [Int.gcd]; omega), rfl⟩
theorem gcdL_two (a b : Int) : gcdL [a, b] = Int.gcd a b := by simp [gcdL, gcdTo, iter, nth, Int.gcd]
theorem fracOk_num {num den : Int} (h : inB (-1000000000) 1000000000 num = false) : fracOk num den = false := by simp [fracOk, h]
theorem fracOk_den {num den : Int} (h : inB 1 1000000000 den = false) : fracOk num den = false := by simp [fracOk, h]
theorem fracOk_rest {num den : Int} (h1 : inB (-1000000000) 1000000000 num = true) (h2 : inB 1 1000000000 den = true) : fracOk num den = ((Int.gcd num den : Int) == 1) := by
  simp only [fracOk, h1, h2, Bool.true_and]; rw [Bool.eq_iff_iff]; simp; omega
set_option maxHeartbeats 400000 in
theorem FractionValid_any (num den : Int) (w : World) :
    Calls Tryz.prog 190 #[.agg #[.int .i64 num, .int .i64 den]] w fun e w' => e = .returned (.bool (fracOk num den)) ∧ Below w.heap.size w w' := by
  by_cases hn : inB (-1000000000) 1000000000 num = true
  · by_cases hd : inB 1 1000000000 den = true
    · have hn' := inB_iff.1 hn
      have hd' := inB_iff.1 hd
      rw [fracOk_rest hn hd]
      go_enter Tryz.func190, Tryz.ntmps190
      go_wp2_with (first | (go_at_call 236; refine (l2Part_any _ _).mono ?_; rintro e w' ⟨rfl, rfl⟩) | (go_at_call 138; refine (l1In_any _ _ _ _).mono ?_; rintro e w' ⟨rfl, rfl⟩) | (go_at_call 189; refine (l2Divisor_any _ _ _ (by omega) (by omega)).mono ?_; rintro e w' ⟨rfl, rfl⟩))
      go_ret
      exact ⟨rfl, below_alloc w _⟩
    · have hd' : inB 1 1000000000 den = false := by simpa using hd
      clear hd
      rw [fracOk_den hd']
      go_enter Tryz.func190, Tryz.ntmps190
      go_wp2_with (first | (go_at_call 236; refine (l2Part_any _ _).mono ?_; rintro e w' ⟨rfl, rfl⟩) | (go_at_call 138; refine (l1In_any _ _ _ _).mono ?_; rintro e w' ⟨rfl, rfl⟩))
      go_ret
      exact ⟨rfl, below_alloc w _⟩
  · have hn' : inB (-1000000000) 1000000000 num = false := by simpa using hn
    clear hn
    rw [fracOk_num hn']
    go_enter Tryz.func190, Tryz.ntmps190
    go_wp2_with (first | (go_at_call 236; refine (l2Part_any _ _).mono ?_; rintro e w' ⟨rfl, rfl⟩))
    go_ret
    exact ⟨rfl, below_alloc w _⟩
set_option maxHeartbeats 400000 in
theorem isFraction_any (num den : Int) (w : World) :
    Calls Tryz.prog 121 #[.agg #[.int .i64 num, .int .i64 den]] w fun e w' => e = .returned (.bool (fracOk num den)) ∧ Below w.heap.size w w' := by
  by_cases hn : inB (-1000000000) 1000000000 num = true
  · by_cases hd : inB 1 1000000000 den = true
    · have hn' := inB_iff.1 hn
      have hd' := inB_iff.1 hd
      rw [fracOk_rest hn hd]
      have HD : Hid (∀ k, k < 2 → -4000000000000000000 ≤ nth [num, den] k ∧ nth [num, den] k ≤ 4000000000000000000) := by
        intro k hk
        have : k = 0 ∨ k = 1 := by omega
        rcases this with rfl | rfl
        · show -4000000000000000000 ≤ num ∧ num ≤ _; omega
        · show -4000000000000000000 ≤ den ∧ den ≤ _; omega
      go_enter Tryz.func121, Tryz.ntmps121
      go_wp2_with (first | (go_at_call 188; refine (isPart_any _ _).mono ?_; rintro e w' ⟨rfl, rfl⟩) | (go_at_call 101; fail))
      refine (divisorOf_any _ _ _ [num, den] _ (ints_lit _ _ _ _ _ _ (by simp) rfl rfl (by simp)) HD.out).mono ?_; rintro e w1 ⟨rfl, hb1⟩
      go_wp2
      go_ret
      exact ⟨ret_bool (by rw [gcdL_two]), (below_alloc w _).trans (((below_alloc _ _).trans (hb1.mono (by simp))).mono (by simp))⟩
    · have hd' : inB 1 1000000000 den = false := by simpa using hd
      clear hd
      rw [fracOk_den hd']
      rcases inB_false.1 hd' with hdd | hdd
      all_goals
        go_enter Tryz.func121, Tryz.ntmps121
        go_wp2_with (first | (go_at_call 188; refine (isPart_any _ _).mono ?_; rintro e w' ⟨rfl, rfl⟩))
        go_ret
        exact ⟨rfl, below_alloc w _⟩
  · have hn' : inB (-1000000000) 1000000000 num = false := by simpa using hn
    clear hn
    rw [fracOk_num hn']
    go_enter Tryz.func121, Tryz.ntmps121
    go_wp2_with (first | (go_at_call 188; refine (isPart_any _ _).mono ?_; rintro e w' ⟨rfl, rfl⟩))
    go_ret
    exact ⟨rfl, below_alloc w _⟩
theorem isShare_any (num den : Int) (w : World) :
    Calls Tryz.prog 228 #[.agg #[.int .i64 num, .int .i64 den]] w fun e w' => e = .returned (.bool (shareOk num den)) ∧ Below w.heap.size w w' := by
  go_enter Tryz.func228, Tryz.ntmps228
  go_wp2_with fail
  refine (isFraction_any _ _ _).mono ?_; rintro e w1 ⟨rfl, hb1⟩
  obtain ⟨h10, h11, hB1⟩ := box2 hb1
  clear hb1
  cases hf : fracOk num den
  · go_wp2
    go_ret
    exact ⟨ret_bool (by simp [shareOk, hf]), hB1⟩
  · go_wp2
    all_goals go_ret
    all_goals refine ⟨ret_bool ?_, hB1⟩
    all_goals simp [shareOk, hf, inB, *]
    omega
set_option maxHeartbeats 400000 in
theorem l3Sum_any (ao : Option Addr) (n c : Nat) (xs : List Int) (most : Int) (w : World) (hx : IntsAt w ao n xs) (hn : n ≤ 16) (hm0 : 0 ≤ most) (hm : most ≤ 1000000000) :
    Calls Tryz.prog 153 #[.slice ao n c, .int .i64 most] w fun e w' => e = .returned (.int .i64 (sumIn most xs)) ∧ w = w' := by
  have hcap := hx.cap
  have HL := hid hx.len
  cases ha : allN (fun k => inB 0 most (nth xs k)) xs.length
  · obtain ⟨k0, hk0, hbad⟩ := allN_ex ha
    have HE : Hid (sumIn most xs = -1) := by simp [Hid, sumIn, ha]
    rw [HE.out]
    rw [HL.out] at hk0
    have HB := hid hbad
    clear hbad ha
    go_enter Tryz.func153, Tryz.ntmps153
    go_wp2
    go_loop [4, 5, 6] (fun _ s i => ∃ k : Nat, k ≤ k0 ∧ i = .int .i64 k ∧ s = .int .i64 (isumTo xs k) ∧ 0 ≤ isumTo xs k ∧ isumTo xs k ≤ 1000000000 * k) (fun _ _ i => n - (intOf i).toNat)
    case atStart => exact ⟨0, by omega, rfl, rfl, by simp [isumTo, iter], by simp [isumTo, iter]⟩
    case round =>
      obtain ⟨k, hk, rfl, rfl, hs0, hs1⟩ := hrel
      have hlt : k < n := by omega
      obtain ⟨b, off, rfl, hbs, _, hck⟩ := hx.at (Below.refl _ _) hlt
      cases hxb : inB 0 most (nth xs k)
      · go_wp2_with (go_at_call 138; refine (l1In_any _ _ _ _).mono ?_; rintro e w' ⟨rfl, rfl⟩)
        go_ret
        exact ⟨rfl, rfl⟩
      · have hxb' := inB_iff.1 hxb
        have hne : k ≠ k0 := by rintro rfl; have := HB.out; rw [hxb] at this; cases this
        have HS := hid (isumTo_succ xs k)
        go_wp2_with (go_at_call 138; refine (l1In_any _ _ _ _).mono ?_; rintro e w' ⟨rfl, rfl⟩)
        go_round
        case rel => first | exact ⟨k + 1, by omega, by go_num, rfl, by rw [HS.out]; omega, by rw [HS.out]; omega⟩ | exact ⟨_, ⟨k + 1, by omega, by go_num, rfl, by rw [HS.out]; omega, by rw [HS.out]; omega⟩, rfl⟩ | exact ⟨_, _, ⟨k + 1, by omega, by go_num, rfl, by rw [HS.out]; omega, by rw [HS.out]; omega⟩, rfl, rfl⟩ | exact ⟨_, _, _, ⟨k + 1, by omega, by go_num, rfl, by rw [HS.out]; omega, by rw [HS.out]; omega⟩, rfl, rfl, rfl⟩ | exact ⟨_, _, _, _, ⟨k + 1, by omega, by go_num, rfl, by rw [HS.out]; omega, by rw [HS.out]; omega⟩, rfl, rfl, rfl, rfl⟩ | exact ⟨_, _, _, _, _, ⟨k + 1, by omega, by go_num, rfl, by rw [HS.out]; omega, by rw [HS.out]; omega⟩, rfl, rfl, rfl, rfl, rfl⟩
        case measure => simp [intOf]; omega
  · have HA := hid ((allN_iff _ _).1 ha)
    have HE : Hid (sumIn most xs = isum xs) := by simp [Hid, sumIn, ha]
    rw [HE.out]
    clear ha
    go_enter Tryz.func153, Tryz.ntmps153
    go_wp2
    go_loop [4, 5, 6] (fun _ s i => ∃ k : Nat, k ≤ n ∧ i = .int .i64 k ∧ s = .int .i64 (isumTo xs k) ∧ 0 ≤ isumTo xs k ∧ isumTo xs k ≤ 1000000000 * k) (fun _ _ i => n - (intOf i).toNat)
    case atStart => exact ⟨0, by omega, rfl, rfl, by simp [isumTo, iter], by simp [isumTo, iter]⟩
    case round =>
      obtain ⟨k, hk, rfl, rfl, hs0, hs1⟩ := hrel
      by_cases hlt : k < n
      · obtain ⟨b, off, rfl, hbs, _, hck⟩ := hx.at (Below.refl _ _) hlt
        have hxb := HA.out k (by rw [HL.out]; exact hlt)
        have hxb' := inB_iff.1 hxb
        have HS := hid (isumTo_succ xs k)
        go_wp2_with (go_at_call 138; refine (l1In_any _ _ _ _).mono ?_; rintro e w' ⟨rfl, rfl⟩)
        go_round
        case rel => first | exact ⟨k + 1, by omega, by go_num, rfl, by rw [HS.out]; omega, by rw [HS.out]; omega⟩ | exact ⟨_, ⟨k + 1, by omega, by go_num, rfl, by rw [HS.out]; omega, by rw [HS.out]; omega⟩, rfl⟩ | exact ⟨_, _, ⟨k + 1, by omega, by go_num, rfl, by rw [HS.out]; omega, by rw [HS.out]; omega⟩, rfl, rfl⟩ | exact ⟨_, _, _, ⟨k + 1, by omega, by go_num, rfl, by rw [HS.out]; omega, by rw [HS.out]; omega⟩, rfl, rfl, rfl⟩ | exact ⟨_, _, _, _, ⟨k + 1, by omega, by go_num, rfl, by rw [HS.out]; omega, by rw [HS.out]; omega⟩, rfl, rfl, rfl, rfl⟩ | exact ⟨_, _, _, _, _, ⟨k + 1, by omega, by go_num, rfl, by rw [HS.out]; omega, by rw [HS.out]; omega⟩, rfl, rfl, rfl, rfl, rfl⟩
        case measure => simp [intOf]; omega
      · have hkn : k = n := by omega
        have HE : Hid (isum xs = isumTo xs k) := by show isumTo xs xs.length = _; rw [HL.out, hkn]
        clear hkn
        go_wp2
        go_ret
        exact ⟨ret_int HE.out.symm, rfl⟩
set_option maxHeartbeats 400000 in
theorem l3Lowest_any (ao : Option Addr) (n c : Nat) (xs : List Int) (w : World) (hx : IntsAt w ao n xs) (hb : ∀ k, k < n → -4000000000000000000 ≤ nth xs k ∧ nth xs k ≤ 4000000000000000000) :
    Calls Tryz.prog 154 #[.slice ao n c] w fun e w' => e = .returned (.int .i64 (gcdL xs)) ∧ w = w' := by
  have hcap := hx.cap
  have HL := hid hx.len
  go_enter Tryz.func154, Tryz.ntmps154
  go_wp2
  go_loop [3, 4] (fun d i => ∃ (k : Nat), k ≤ n ∧ i = .int .i64 k ∧ d = .int .i64 (gcdTo xs k) ∧ 0 ≤ gcdTo xs k ∧ gcdTo xs k ≤ 4000000000000000000) (fun _ i => n - (intOf i).toNat)
  case atStart => exact ⟨0, by omega, rfl, rfl, by simp [gcdTo, iter], by simp [gcdTo, iter]⟩
  case round =>
    obtain ⟨k, hk, rfl, rfl, hd1, hd2⟩ := hrel
    by_cases hlt : k < n
    · obtain ⟨b, off, rfl, hbs0, hbs, hck⟩ := hx.at (Below.refl _ _) hlt
      have hxb := hb k hlt
      have HS := hid (gcdTo_succ xs k)
      have HG := hid (gcd_le (gcdTo xs k) (nth xs k) 4000000000000000000 (by omega) (by omega) (by omega) (by omega))
      clear hb
      go_wp2_with (go_at_call 189; refine (l2Divisor_any _ _ _ (by omega) (by omega)).mono ?_; rintro e w' ⟨rfl, rfl⟩)
      go_round
      case rel => first | exact ⟨k + 1, by omega, by go_num, by rw [HS.out], by rw [HS.out]; omega, by rw [HS.out]; exact HG.out⟩ | exact ⟨_, ⟨k + 1, by omega, by go_num, by rw [HS.out], by rw [HS.out]; omega, by rw [HS.out]; exact HG.out⟩, rfl⟩ | exact ⟨_, _, ⟨k + 1, by omega, by go_num, by rw [HS.out], by rw [HS.out]; omega, by rw [HS.out]; exact HG.out⟩, rfl, rfl⟩ | exact ⟨_, _, _, ⟨k + 1, by omega, by go_num, by rw [HS.out], by rw [HS.out]; omega, by rw [HS.out]; exact HG.out⟩, rfl, rfl, rfl⟩ | exact ⟨_, _, _, _, ⟨k + 1, by omega, by go_num, by rw [HS.out], by rw [HS.out]; omega, by rw [HS.out]; exact HG.out⟩, rfl, rfl, rfl, rfl⟩ | exact ⟨_, _, _, _, _, ⟨k + 1, by omega, by go_num, by rw [HS.out], by rw [HS.out]; omega, by rw [HS.out]; exact HG.out⟩, rfl, rfl, rfl, rfl, rfl⟩
      case measure => simp [intOf]; omega
    · have hkn : k = n := by omega
      have HE : Hid (gcdL xs = gcdTo xs k) := by show gcdTo xs xs.length = _; rw [HL.out, hkn]
      clear hkn
      go_wp2
      go_ret
      exact ⟨ret_int HE.out.symm, rfl⟩
theorem inB_m1 : inB 1 1000000 (-1) = false := by decide
theorem massOk_sum {s : Int} {xs : List Int} (h1 : okSize s = true) (h2 : xs.length = nsets s) : massOk s xs = (inB 1 1000000 (sumIn 1000000 xs) && (gcdL xs == 1)) := by
  simp only [massOk, h1, h2, sumIn]
  cases h : allN (fun k => inB 0 1000000 (nth xs k)) (nsets s) <;> simp [h, inB_m1]
set_option maxHeartbeats 400000 in
theorem MassValid_any (s : Int) (ao : Option Addr) (n c : Nat) (xs : List Int) (w : World) (hx : IntsAt w ao n xs) :
    Calls Tryz.prog 98 #[.agg #[.int .i64 s, .slice ao n c]] w fun e w' => e = .returned (.bool (massOk s xs)) ∧ Below w.heap.size w w' := by
  have hcap := hx.cap
  have HL := hid hx.len
  by_cases hs : okSize s = true
  · have hsn := nsets_le hs
    have hs0 : 1 ≤ s ∧ s ≤ 4 := by rcases okSize_iff.1 hs with h | h | h | h <;> omega
    have hsh := shl_size hs
    by_cases hl : n = nsets s
    · have hne : ((n : Int) == (nsets s : Int)) = true := by rw [hl]; simp
      have hn16 : n ≤ 16 := by omega
      have HM := hid (massOk_sum hs (by rw [hx.len]; exact hl))
      rw [HM.out]
      clear hl
      cases hS : inB 1 1000000 (sumIn 1000000 xs)
      · go_enter Tryz.func98, Tryz.ntmps98
        go_wp2_with (first | (go_at_call 152; refine (SizeValid_any _ _).mono ?_; rintro e w' ⟨rfl, rfl⟩) | (go_at_call 153; refine (l3Sum_any _ _ _ _ _ _ (hx.below (below_alloc w _)) hn16 (by omega) (by omega)).mono ?_; rintro e w' ⟨rfl, rfl⟩) | (go_at_call 138; refine (l1In_any _ _ _ _).mono ?_; rintro e w' ⟨rfl, rfl⟩))
        go_ret
        exact ⟨rfl, below_alloc w _⟩
      · have HA : Hid (∀ k, k < n → -4000000000000000000 ≤ nth xs k ∧ nth xs k ≤ 4000000000000000000) := by
          intro k hk
          cases ha : allN (fun k => inB 0 1000000 (nth xs k)) xs.length
          · simp [sumIn, ha, inB_m1] at hS
          · have := inB_iff.1 ((allN_iff _ _).1 ha k (by rw [HL.out]; exact hk)); omega
        go_enter Tryz.func98, Tryz.ntmps98
        go_wp2_with (first | (go_at_call 152; refine (SizeValid_any _ _).mono ?_; rintro e w' ⟨rfl, rfl⟩) | (go_at_call 153; refine (l3Sum_any _ _ _ _ _ _ (hx.below (below_alloc w _)) hn16 (by omega) (by omega)).mono ?_; rintro e w' ⟨rfl, rfl⟩) | (go_at_call 138; refine (l1In_any _ _ _ _).mono ?_; rintro e w' ⟨rfl, rfl⟩) | (go_at_call 154; refine (l3Lowest_any _ _ _ _ _ (hx.below (below_alloc w _)) HA.out).mono ?_; rintro e w' ⟨rfl, rfl⟩))
        go_ret
        exact ⟨rfl, below_alloc w _⟩
    · have hne : ((n : Int) == (nsets s : Int)) = false := by simpa using (show ¬ (n : Int) = (nsets s : Int) by omega)
      rw [massOk_len (by rw [hx.len]; exact hl)]
      clear hl
      go_enter Tryz.func98, Tryz.ntmps98
      go_wp2_with (first | (go_at_call 152; refine (SizeValid_any _ _).mono ?_; rintro e w' ⟨rfl, rfl⟩))
      go_ret
      exact ⟨rfl, below_alloc w _⟩
  · have hs' : okSize s = false := by simpa using hs
    rw [massOk_size hs']
    clear hs
    go_enter Tryz.func98, Tryz.ntmps98
    go_wp2_with (first | (go_at_call 152; refine (SizeValid_any _ _).mono ?_; rintro e w' ⟨rfl, rfl⟩))
    go_ret
    exact ⟨rfl, below_alloc w _⟩
end Go.Proofs.YtlelnnglpimgjaaGreatDoor
