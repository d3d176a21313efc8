/- Sets as numbers with digits: images of sets under lists, and what moves parts. -/
import Derived.Test.YtlelnnglpimgjaaGreatDoorL1
set_option linter.unusedSimpArgs false
set_option linter.unusedVariables false
namespace Go.Proofs.YtlelnnglpimgjaaGreatDoor
open Go.RowKit
theorem and_one (a j : Nat) (ha : a < 1000000000) : bits BinOp.and IntKind.i64 ((a : Int) / 2 ^ j) 1 = if a.testBit j then 1 else 0 := by
  have e : ((a : Int) / 2 ^ j) = ((a / 2 ^ j : Nat) : Int) := by simp
  rw [e]
  have hlt : a / 2 ^ j < 1000000000 := Nat.lt_of_le_of_lt (Nat.div_le_self _ _) ha
  have h : bits BinOp.and IntKind.i64 ((a / 2 ^ j : Nat) : Int) 1 = ((a / 2 ^ j &&& 1 : Nat) : Int) := by
    have h1 : (BitVec.ofInt 64 ((a / 2 ^ j : Nat) : Int)) = BitVec.ofNat 64 (a / 2 ^ j) := by rw [BitVec.ofInt_natCast]
    have h2 : (BitVec.ofInt 64 (1 : Int)) = BitVec.ofNat 64 1 := rfl
    show IntKind.i64.wrap ((((BitVec.ofInt 64 ((a / 2 ^ j : Nat) : Int)) &&& (BitVec.ofInt 64 1)).toNat : Nat) : Int) = _
    rw [h1, h2]
    have h3 : (BitVec.ofNat 64 (a / 2 ^ j) &&& BitVec.ofNat 64 1).toNat = (a / 2 ^ j &&& 1) := by
      rw [BitVec.toNat_and, BitVec.toNat_ofNat, BitVec.toNat_ofNat, Nat.mod_eq_of_lt (by omega), Nat.mod_eq_of_lt (by omega)]
    rw [h3]
    apply IntWalk.i64_in
    have : a / 2 ^ j &&& 1 ≤ 1 := Nat.and_le_right
    omega
  rw [h, Nat.and_one_is_mod, Nat.testBit_eq_decide_div_mod_eq]
  by_cases hm : a / 2 ^ j % 2 = 1
  · simp [hm]
  · have : a / 2 ^ j % 2 = 0 := by omega
    simp [this]
theorem or_nat (a b : Nat) (ha : a < 1000000000) (hb : b < 1000000000) : bits BinOp.or IntKind.i64 (a : Int) (b : Int) = ((a ||| b : Nat) : Int) := by
  have h1 : ∀ n : Nat, (BitVec.ofInt 64 ((n : Nat) : Int)) = BitVec.ofNat 64 n := fun n => by rw [BitVec.ofInt_natCast]
  show IntKind.i64.wrap ((((BitVec.ofInt 64 (a : Int)) ||| (BitVec.ofInt 64 (b : Int))).toNat : Nat) : Int) = _
  rw [h1, h1]
  have h3 : (BitVec.ofNat 64 a ||| BitVec.ofNat 64 b).toNat = (a ||| b) := by
    rw [BitVec.toNat_or, BitVec.toNat_ofNat, BitVec.toNat_ofNat, Nat.mod_eq_of_lt (by omega), Nat.mod_eq_of_lt (by omega)]
  rw [h3]
  apply IntWalk.i64_in
  have : a ||| b < 2 ^ 30 := Nat.or_lt_two_pow (by omega) (by omega)
  omega
theorem shl_nat (j : Nat) (hj : j ≤ 29) : wrap64 (2 ^ j) = ((2 ^ j : Nat) : Int) := by
  have h : (2 ^ j : Nat) ≤ 2 ^ 29 := Nat.pow_le_pow_right (by decide) hj
  have e : ((2 : Int) ^ j) = ((2 ^ j : Nat) : Int) := by simp
  rw [e]
  generalize (2 ^ j : Nat) = q at *
  rw [IntWalk.wrap64_in]
  omega
/-- set a has answer j -/
def hasB (a j : Nat) : Bool := a.testBit j
theorem l1Has_any (a : Nat) (y : Int) (w : World) (ha : a < 1000000000) (h0 : 0 ≤ y) (h1 : y ≤ 29) :
    Calls Tryz.prog 193 #[.int .i64 a, .int .i64 y] w fun e w' => e = .returned (.bool (hasB a y.toNat)) ∧ w = w' := by
  obtain ⟨j, rfl⟩ : ∃ j : Nat, y = (j : Int) := ⟨y.toNat, by omega⟩
  have hb := and_one a j ha
  go_enter Tryz.func193, Tryz.ntmps193
  go_wp2
  all_goals go_ret
  all_goals exact ⟨ret_bool (by simp [hasB, *]), rfl⟩
/-- the set of what a list has for the answers of a set -/
def imgTo (a : Nat) (xs : List Int) (k : Nat) : Nat := iter (fun x out => if hasB a x then out ||| 2 ^ (nth xs x).toNat else out) 0 k
/-- the set of the answers to which a list gives an answer of a set -/
def refTo (a : Nat) (xs : List Int) (k : Nat) : Nat := iter (fun x out => if hasB a (nth xs x).toNat then out ||| 2 ^ x else out) 0 k
theorem imgTo_lt (a : Nat) (xs : List Int) (M n : Nat) (h : ∀ x, x < n → 0 ≤ nth xs x ∧ nth xs x < M) (k : Nat) (hk : k ≤ n) : imgTo a xs k < 2 ^ M := by
  induction k with
  | zero => exact Nat.two_pow_pos M
  | succ k ih =>
    have h1 := ih (by omega)
    have h2 := h k (by omega)
    show (if hasB a k then imgTo a xs k ||| 2 ^ (nth xs k).toNat else imgTo a xs k) < 2 ^ M
    split
    · exact Nat.or_lt_two_pow h1 (Nat.pow_lt_pow_right (by decide) (by omega))
    · exact h1
theorem refTo_lt (a : Nat) (xs : List Int) (n : Nat) (k : Nat) (hk : k ≤ n) : refTo a xs k < 2 ^ n := by
  induction k with
  | zero => exact Nat.two_pow_pos n
  | succ k ih =>
    have h1 := ih (by omega)
    show (if hasB a (nth xs k).toNat then refTo a xs k ||| 2 ^ k else refTo a xs k) < 2 ^ n
    split
    · exact Nat.or_lt_two_pow h1 (Nat.pow_lt_pow_right (by decide) (by omega))
    · exact h1
theorem pow_small (k : Nat) (hk : k ≤ 29) : 2 ^ k < 1000000000 := by
  have : 2 ^ k ≤ 2 ^ 29 := Nat.pow_le_pow_right (by decide) hk
  omega
/-- the parts that are moved by T from k sets -/
def mapTo (T : Nat → Nat) (xs : List Int) (N k : Nat) : List Int := iter (fun a l => l.set (T a) (nth l (T a) + nth xs a)) (List.replicate N 0) k
theorem mapTo_len (T : Nat → Nat) (xs : List Int) (N k : Nat) : (mapTo T xs N k).length = N := by
  induction k with
  | zero => simp [mapTo, iter]
  | succ k ih => show ((mapTo T xs N k).set _ _).length = N; rw [List.length_set]; exact ih
theorem mapTo_bd (T : Nat → Nat) (xs : List Int) (N n : Nat) (M : Int) (hM : 0 ≤ M) (h : ∀ a, a < n → 0 ≤ nth xs a ∧ nth xs a ≤ M) (k : Nat) (hk : k ≤ n) (j : Nat) : 0 ≤ nth (mapTo T xs N k) j ∧ nth (mapTo T xs N k) j ≤ M * k := by
  induction k generalizing j with
  | zero => show 0 ≤ nth (List.replicate N 0) j ∧ _; rw [nth_replicate]; simp; show nth (List.replicate N 0) j ≤ 0; rw [nth_replicate]; omega
  | succ k ih =>
    have e : M * ((k + 1 : Nat) : Int) = M * k + M := by rw [Int.natCast_succ, Int.mul_add, Int.mul_one]
    have h1 := ih (by omega) j
    have h2 := ih (by omega) (T k)
    have h3 := h k (by omega)
    show 0 ≤ nth ((mapTo T xs N k).set (T k) (nth (mapTo T xs N k) (T k) + nth xs k)) j ∧ nth ((mapTo T xs N k).set (T k) (nth (mapTo T xs N k) (T k) + nth xs k)) j ≤ _
    rw [nth_set, e]
    split <;> omega
theorem mapTo_congr (T U : Nat → Nat) (xs : List Int) (N n : Nat) (h : ∀ a, a < n → T a = U a) (k : Nat) (hk : k ≤ n) : mapTo T xs N k = mapTo U xs N k := by
  unfold mapTo
  exact iter_congr n (fun a l ha => by rw [h a ha]) k hk
theorem or_pow (out k : Nat) (h1 : out < 1000000000) (hk : k ≤ 29) : bits BinOp.or IntKind.i64 (out : Int) (2 ^ k) = ((out ||| 2 ^ k : Nat) : Int) := by
  have := or_nat out (2 ^ k) h1 (pow_small k hk); simpa using this
set_option maxHeartbeats 400000 in
theorem refClos_any (a B : Nat) (ao : Option Addr) (n c : Nat) (xs : List Int) (w : World) (ha : a < 1000000000) (hB : w.cell? ⟨B, 0, none⟩ = some (.slice ao n c)) (hx : IntsAt w ao n xs) (hn : n ≤ 4) (hb : ∀ k, k < n → 0 ≤ nth xs k ∧ nth xs k ≤ 29) :
    Calls Tryz.prog 270 #[.int .i64 a, .pointer (some ⟨B, 0, none⟩)] w fun e w' => e = .returned (.int .i64 (refTo a xs n)) ∧ w = w' := by
  have hcap := hx.cap
  go_enter Tryz.func270, Tryz.ntmps270
  go_wp2
  go_loop [4, 5, 6, 9] (fun s _ _ i => ∃ k : Nat, k ≤ n ∧ i = .int .i64 k ∧ s = .int .i64 (refTo a xs k)) (fun _ _ _ i => n - (intOf i).toNat)
  case atStart => exact ⟨0, by omega, rfl, rfl⟩
  case round =>
    obtain ⟨k, hk, rfl, rfl⟩ := hrel
    by_cases hlt : k < n
    · obtain ⟨b, off, rfl, hbs, hbs', hck⟩ := hx.at (Below.refl _ _) hlt
      have hxb := hb k hlt
      obtain ⟨y, hy⟩ : ∃ y : Nat, nth xs k = (y : Int) := ⟨(nth xs k).toNat, by omega⟩
      have HY : Hid ((nth xs k).toNat = y) := by show (nth xs k).toNat = y; omega
      rw [hy] at hck hxb
      have hand := and_one a y ha
      have hsl := shl_nat k (by omega)
      have hrl := refTo_lt a xs 29 k (by omega)
      have HO := hid (or_pow (refTo a xs k) k (by omega) (by omega))
      have HS : Hid (refTo a xs (k + 1) = if hasB a y then refTo a xs k ||| 2 ^ k else refTo a xs k) := by rw [← HY.out]; rfl
      clear hy hb
      cases ht : hasB a y
      · have ht' : a.testBit y = false := ht
        go_wp2
        go_round
        case rel => first | exact ⟨k + 1, by omega, by go_num, by rw [HS.out, ht]; rfl⟩ | exact ⟨_, ⟨k + 1, by omega, by go_num, by rw [HS.out, ht]; rfl⟩, rfl⟩ | exact ⟨_, _, ⟨k + 1, by omega, by go_num, by rw [HS.out, ht]; rfl⟩, rfl, rfl⟩ | exact ⟨_, _, _, ⟨k + 1, by omega, by go_num, by rw [HS.out, ht]; rfl⟩, rfl, rfl, rfl⟩ | exact ⟨_, _, _, _, ⟨k + 1, by omega, by go_num, by rw [HS.out, ht]; rfl⟩, rfl, rfl, rfl, rfl⟩ | exact ⟨_, _, _, _, _, ⟨k + 1, by omega, by go_num, by rw [HS.out, ht]; rfl⟩, rfl, rfl, rfl, rfl, rfl⟩
        case measure => simp [intOf]; omega
      · have ht' : a.testBit y = true := ht
        go_wp2
        go_round
        case rel => first | exact ⟨k + 1, by omega, by go_num, by rw [HS.out, ht, HO.out]; rfl⟩ | exact ⟨_, ⟨k + 1, by omega, by go_num, by rw [HS.out, ht, HO.out]; rfl⟩, rfl⟩ | exact ⟨_, _, ⟨k + 1, by omega, by go_num, by rw [HS.out, ht, HO.out]; rfl⟩, rfl, rfl⟩ | exact ⟨_, _, _, ⟨k + 1, by omega, by go_num, by rw [HS.out, ht, HO.out]; rfl⟩, rfl, rfl, rfl⟩ | exact ⟨_, _, _, _, ⟨k + 1, by omega, by go_num, by rw [HS.out, ht, HO.out]; rfl⟩, rfl, rfl, rfl, rfl⟩ | exact ⟨_, _, _, _, _, ⟨k + 1, by omega, by go_num, by rw [HS.out, ht, HO.out]; rfl⟩, rfl, rfl, rfl, rfl, rfl⟩
        case measure => simp [intOf]; omega
    · have hkn : k = n := by omega
      subst hkn
      go_wp2
      go_ret
      exact ⟨rfl, rfl⟩
set_option maxHeartbeats 400000 in
theorem imageOf_any (a : Nat) (ao : Option Addr) (n c : Nat) (xs : List Int) (w : World) (ha : a < 1000000000) (hx : IntsAt w ao n xs) (hn : n ≤ 29) (hb : ∀ k, k < n → 0 ≤ nth xs k ∧ nth xs k ≤ 28) :
    Calls Tryz.prog 231 #[.int .i64 a, .slice ao n c] w fun e w' => e = .returned (.int .i64 (imgTo a xs n)) ∧ w = w' := by
  have hcap := hx.cap
  go_enter Tryz.func231, Tryz.ntmps231
  go_wp2
  go_loop [5, 6, 7, 10] (fun s _ _ i => ∃ k : Nat, k ≤ n ∧ i = .int .i64 k ∧ s = .int .i64 (imgTo a xs k)) (fun _ _ _ i => n - (intOf i).toNat)
  case atStart => exact ⟨0, by omega, rfl, rfl⟩
  case round =>
    obtain ⟨k, hk, rfl, rfl⟩ := hrel
    by_cases hlt : k < n
    · obtain ⟨b, off, rfl, hbs, hbs', hck⟩ := hx.at (Below.refl _ _) hlt
      have hxb := hb k hlt
      obtain ⟨y, hy⟩ : ∃ y : Nat, nth xs k = (y : Int) := ⟨(nth xs k).toNat, by omega⟩
      have HY : Hid ((nth xs k).toNat = y) := by show (nth xs k).toNat = y; omega
      have hrl := imgTo_lt a xs 29 n (fun x hx => by have := hb x hx; omega) k (by omega)
      rw [hy] at hck hxb
      have hand := and_one a k ha
      have hsl := shl_nat y (by omega)
      have HO := hid (or_pow (imgTo a xs k) y (by omega) (by omega))
      have HS : Hid (imgTo a xs (k + 1) = if hasB a k then imgTo a xs k ||| 2 ^ y else imgTo a xs k) := by rw [← HY.out]; rfl
      clear hy hb
      cases ht : hasB a k
      · have ht' : a.testBit k = false := ht
        go_wp2
        go_round
        case rel => first | exact ⟨k + 1, by omega, by go_num, by rw [HS.out, ht]; rfl⟩ | exact ⟨_, ⟨k + 1, by omega, by go_num, by rw [HS.out, ht]; rfl⟩, rfl⟩ | exact ⟨_, _, ⟨k + 1, by omega, by go_num, by rw [HS.out, ht]; rfl⟩, rfl, rfl⟩ | exact ⟨_, _, _, ⟨k + 1, by omega, by go_num, by rw [HS.out, ht]; rfl⟩, rfl, rfl, rfl⟩ | exact ⟨_, _, _, _, ⟨k + 1, by omega, by go_num, by rw [HS.out, ht]; rfl⟩, rfl, rfl, rfl, rfl⟩ | exact ⟨_, _, _, _, _, ⟨k + 1, by omega, by go_num, by rw [HS.out, ht]; rfl⟩, rfl, rfl, rfl, rfl, rfl⟩
        case measure => simp [intOf]; omega
      · have ht' : a.testBit k = true := ht
        go_wp2
        go_round
        case rel => first | exact ⟨k + 1, by omega, by go_num, by rw [HS.out, ht, HO.out]; rfl⟩ | exact ⟨_, ⟨k + 1, by omega, by go_num, by rw [HS.out, ht, HO.out]; rfl⟩, rfl⟩ | exact ⟨_, _, ⟨k + 1, by omega, by go_num, by rw [HS.out, ht, HO.out]; rfl⟩, rfl, rfl⟩ | exact ⟨_, _, _, ⟨k + 1, by omega, by go_num, by rw [HS.out, ht, HO.out]; rfl⟩, rfl, rfl, rfl⟩ | exact ⟨_, _, _, _, ⟨k + 1, by omega, by go_num, by rw [HS.out, ht, HO.out]; rfl⟩, rfl, rfl, rfl, rfl⟩ | exact ⟨_, _, _, _, _, ⟨k + 1, by omega, by go_num, by rw [HS.out, ht, HO.out]; rfl⟩, rfl, rfl, rfl, rfl, rfl⟩
        case measure => simp [intOf]; omega
    · have hkn : k = n := by omega
      subst hkn
      go_wp2
      go_ret
      exact ⟨rfl, rfl⟩
theorem moveClos_any (a B : Nat) (ao : Option Addr) (n c : Nat) (xs : List Int) (w : World) (ha : a < 1000000000) (hB : w.cell? ⟨B, 0, none⟩ = some (.slice ao n c)) (hx : IntsAt w ao n xs) (hn : n ≤ 29) (hb : ∀ k, k < n → 0 ≤ nth xs k ∧ nth xs k ≤ 28) :
    Calls Tryz.prog 230 #[.int .i64 a, .pointer (some ⟨B, 0, none⟩)] w fun e w' => e = .returned (.int .i64 (imgTo a xs n)) ∧ w = w' := by
  go_enter Tryz.func230, Tryz.ntmps230
  go_wp2_with (first | (go_at_call 231; refine (imageOf_any _ _ _ _ _ _ ha hx hn hb).mono ?_; rintro e w' ⟨rfl, rfl⟩))
  go_ret
  exact ⟨rfl, rfl⟩
/-- a list of n answers of a question with so many -/
def answersOk (xs : List Int) (n size : Int) : Bool := allN (fun k => inB 0 (size - 1) (nth xs k)) xs.length && ((xs.length : Int) == n)
theorem areAnswers_any (ao : Option Addr) (n c : Nat) (xs : List Int) (m size : Int) (w : World) (hx : IntsAt w ao n xs) :
    Calls Tryz.prog 249 #[.slice ao n c, .int .i64 m, .int .i64 size] w fun e w' => e = .returned (.bool (answersOk xs m size)) ∧ w = w' := by
  have hcap := hx.cap
  have HL := hid hx.len
  cases ha : allN (fun k => inB 0 (size - 1) (nth xs k)) xs.length
  · obtain ⟨k0, hk0, hbad⟩ := allN_ex ha
    have HE : Hid (answersOk xs m size = false) := by simp [Hid, answersOk, ha]
    rw [HE.out]
    rw [HL.out] at hk0
    have HB := hid hbad
    clear hbad ha
    go_enter Tryz.func249, Tryz.ntmps249
    go_wp2
    go_loop [6, 8, 11] (fun _ _ i => ∃ k : Nat, k ≤ k0 ∧ i = .int .i64 k) (fun _ _ i => n - (intOf i).toNat)
    case atStart => exact ⟨0, by omega, rfl⟩
    case round =>
      obtain ⟨k, hk, rfl⟩ := hrel
      have hlt : k < n := by omega
      obtain ⟨b, off, rfl, hbs, _, hck⟩ := hx.at (Below.refl _ _) hlt
      cases hxb : inB 0 (size - 1) (nth xs k)
      · rcases inB_false.1 hxb with h | h
        · go_wp2
          go_ret
          exact ⟨rfl, rfl⟩
        · have h' : size ≤ nth xs k := by omega
          by_cases h0 : nth xs k < 0
          all_goals
            go_wp2
            go_ret
            exact ⟨rfl, rfl⟩
      · have hxb' := inB_iff.1 hxb
        have h1 : 0 ≤ nth xs k := by omega
        have h2 : nth xs k < size := by omega
        have hne : k ≠ k0 := by rintro rfl; have := HB.out; rw [hxb] at this; cases this
        go_wp2
        go_round
        case rel => first | exact ⟨k + 1, by omega, by go_num⟩ | exact ⟨_, ⟨k + 1, by omega, by go_num⟩, rfl⟩ | exact ⟨_, _, ⟨k + 1, by omega, by go_num⟩, rfl, rfl⟩ | exact ⟨_, _, _, ⟨k + 1, by omega, by go_num⟩, rfl, rfl, rfl⟩ | exact ⟨_, _, _, _, ⟨k + 1, by omega, by go_num⟩, rfl, rfl, rfl, rfl⟩ | exact ⟨_, _, _, _, _, ⟨k + 1, by omega, by go_num⟩, rfl, rfl, rfl, rfl, rfl⟩
        case measure => simp [intOf]; omega
  · have HA := hid ((allN_iff _ _).1 ha)
    have HE : Hid (answersOk xs m size = ((n : Int) == m)) := by show answersOk xs m size = _; unfold answersOk; rw [ha, Bool.true_and, HL.out]
    rw [HE.out]
    clear ha
    go_enter Tryz.func249, Tryz.ntmps249
    go_wp2
    go_loop [6, 8, 11] (fun _ _ i => ∃ k : Nat, k ≤ n ∧ i = .int .i64 k) (fun _ _ i => n - (intOf i).toNat)
    case atStart => exact ⟨0, by omega, rfl⟩
    case round =>
      obtain ⟨k, hk, rfl⟩ := hrel
      by_cases hlt : k < n
      · obtain ⟨b, off, rfl, hbs, _, hck⟩ := hx.at (Below.refl _ _) hlt
        have hxb := HA.out k (by rw [HL.out]; exact hlt)
        have hxb' := inB_iff.1 hxb
        have h1 : 0 ≤ nth xs k := by omega
        have h2 : nth xs k < size := by omega
        go_wp2
        go_round
        case rel => first | exact ⟨k + 1, by omega, by go_num⟩ | exact ⟨_, ⟨k + 1, by omega, by go_num⟩, rfl⟩ | exact ⟨_, _, ⟨k + 1, by omega, by go_num⟩, rfl, rfl⟩ | exact ⟨_, _, _, ⟨k + 1, by omega, by go_num⟩, rfl, rfl, rfl⟩ | exact ⟨_, _, _, _, ⟨k + 1, by omega, by go_num⟩, rfl, rfl, rfl, rfl⟩ | exact ⟨_, _, _, _, _, ⟨k + 1, by omega, by go_num⟩, rfl, rfl, rfl, rfl, rfl⟩
        case measure => simp [intOf]; omega
      · go_wp2
        all_goals go_ret
        all_goals exact ⟨ret_bool (by simp [*]), rfl⟩
end Go.Proofs.YtlelnnglpimgjaaGreatDoor
