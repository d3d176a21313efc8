/- Sets as numbers with digits: images of sets under lists, and what moves parts. -/
import Derived.Test.YtobeeomeebicnaaDoorL1
set_option linter.unusedSimpArgs false
set_option linter.unusedVariables false
namespace Go.Proofs.YtobeeomeebicnaaDoor
open Go.RowKit
theorem and_one (a j : Nat) (ha : a < 1000000000) : bits BinOp.and IntKind.i64 ((a : Int) / 2 ^ j) 1 = if a.testBit j then 1 else 0 := by
  have e : ((a : Int) / 2 ^ j) = ((a / 2 ^ j : Nat) : Int) := by simp
  rw [e]
  have hlt : a / 2 ^ j < 1000000000 := Nat.lt_of_le_of_lt (Nat.div_le_self _ _) ha
  have h : bits BinOp.and IntKind.i64 ((a / 2 ^ j : Nat) : Int) 1 = ((a / 2 ^ j &&& 1 : Nat) : Int) := by
    have h1 : (BitVec.ofInt 64 ((a / 2 ^ j : Nat) : Int)) = BitVec.ofNat 64 (a / 2 ^ j) := by rw [BitVec.ofInt_natCast]
    have h2 : (BitVec.ofInt 64 (1 : Int)) = BitVec.ofNat 64 1 := rfl
    show IntKind.i64.wrap ((((BitVec.ofInt 64 ((a / 2 ^ j : Nat) : Int)) &&& (BitVec.ofInt 64 1)).toNat : Nat) : Int) = _
    rw [h1, h2]
    have h3 : (BitVec.ofNat 64 (a / 2 ^ j) &&& BitVec.ofNat 64 1).toNat = (a / 2 ^ j &&& 1) := by
      rw [BitVec.toNat_and, BitVec.toNat_ofNat, BitVec.toNat_ofNat, Nat.mod_eq_of_lt (by omega), Nat.mod_eq_of_lt (by omega)]
    rw [h3]
    apply IntWalk.i64_in
    have : a / 2 ^ j &&& 1 ≤ 1 := Nat.and_le_right
    omega
  rw [h, Nat.and_one_is_mod, Nat.testBit_eq_decide_div_mod_eq]
  by_cases hm : a / 2 ^ j % 2 = 1
  · simp [hm]
  · have : a / 2 ^ j % 2 = 0 := by omega
    simp [this]
theorem or_nat (a b : Nat) (ha : a < 1000000000) (hb : b < 1000000000) : bits BinOp.or IntKind.i64 (a : Int) (b : Int) = ((a ||| b : Nat) : Int) := by
  have h1 : ∀ n : Nat, (BitVec.ofInt 64 ((n : Nat) : Int)) = BitVec.ofNat 64 n := fun n => by rw [BitVec.ofInt_natCast]
  show IntKind.i64.wrap ((((BitVec.ofInt 64 (a : Int)) ||| (BitVec.ofInt 64 (b : Int))).toNat : Nat) : Int) = _
  rw [h1, h1]
  have h3 : (BitVec.ofNat 64 a ||| BitVec.ofNat 64 b).toNat = (a ||| b) := by
    rw [BitVec.toNat_or, BitVec.toNat_ofNat, BitVec.toNat_ofNat, Nat.mod_eq_of_lt (by omega), Nat.mod_eq_of_lt (by omega)]
  rw [h3]
  apply IntWalk.i64_in
  have : a ||| b < 2 ^ 30 := Nat.or_lt_two_pow (by omega) (by omega)
  omega
theorem shl_nat (j : Nat) (hj : j ≤ 29) : wrap64 (2 ^ j) = ((2 ^ j : Nat) : Int) := by
  have h : (2 ^ j : Nat) ≤ 2 ^ 29 := Nat.pow_le_pow_right (by decide) hj
  have e : ((2 : Int) ^ j) = ((2 ^ j : Nat) : Int) := by simp
  rw [e]
  generalize (2 ^ j : Nat) = q at *
  rw [IntWalk.wrap64_in]
  omega
/-- set a has answer j -/
def hasB (a j : Nat) : Bool := a.testBit j
/-- the set of what a list has for the answers of a set -/
def imgTo (a : Nat) (xs : List Int) (k : Nat) : Nat := iter (fun x out => if hasB a x then out ||| 2 ^ (nth xs x).toNat else out) 0 k
/-- the set of the answers to which a list gives an answer of a set -/
def refTo (a : Nat) (xs : List Int) (k : Nat) : Nat := iter (fun x out => if hasB a (nth xs x).toNat then out ||| 2 ^ x else out) 0 k
theorem imgTo_lt (a : Nat) (xs : List Int) (M n : Nat) (h : ∀ x, x < n → 0 ≤ nth xs x ∧ nth xs x < M) (k : Nat) (hk : k ≤ n) : imgTo a xs k < 2 ^ M := by
  induction k with
  | zero => exact Nat.two_pow_pos M
  | succ k ih =>
    have h1 := ih (by omega)
    have h2 := h k (by omega)
    show (if hasB a k then imgTo a xs k ||| 2 ^ (nth xs k).toNat else imgTo a xs k) < 2 ^ M
    split
    · exact Nat.or_lt_two_pow h1 (Nat.pow_lt_pow_right (by decide) (by omega))
    · exact h1
theorem refTo_lt (a : Nat) (xs : List Int) (n : Nat) (k : Nat) (hk : k ≤ n) : refTo a xs k < 2 ^ n := by
  induction k with
  | zero => exact Nat.two_pow_pos n
  | succ k ih =>
    have h1 := ih (by omega)
    show (if hasB a (nth xs k).toNat then refTo a xs k ||| 2 ^ k else refTo a xs k) < 2 ^ n
    split
    · exact Nat.or_lt_two_pow h1 (Nat.pow_lt_pow_right (by decide) (by omega))
    · exact h1
theorem pow_small (k : Nat) (hk : k ≤ 29) : 2 ^ k < 1000000000 := by
  have : 2 ^ k ≤ 2 ^ 29 := Nat.pow_le_pow_right (by decide) hk
  omega
/-- the parts that are moved by T from k sets -/
def mapTo (T : Nat → Nat) (xs : List Int) (N k : Nat) : List Int := iter (fun a l => l.set (T a) (nth l (T a) + nth xs a)) (List.replicate N 0) k
theorem mapTo_len (T : Nat → Nat) (xs : List Int) (N k : Nat) : (mapTo T xs N k).length = N := by
  induction k with
  | zero => simp [mapTo, iter]
  | succ k ih => show ((mapTo T xs N k).set _ _).length = N; rw [List.length_set]; exact ih
theorem mapTo_bd (T : Nat → Nat) (xs : List Int) (N n : Nat) (M : Int) (hM : 0 ≤ M) (h : ∀ a, a < n → 0 ≤ nth xs a ∧ nth xs a ≤ M) (k : Nat) (hk : k ≤ n) (j : Nat) : 0 ≤ nth (mapTo T xs N k) j ∧ nth (mapTo T xs N k) j ≤ M * k := by
  induction k generalizing j with
  | zero => show 0 ≤ nth (List.replicate N 0) j ∧ _; rw [nth_replicate]; simp; show nth (List.replicate N 0) j ≤ 0; rw [nth_replicate]; omega
  | succ k ih =>
    have e : M * ((k + 1 : Nat) : Int) = M * k + M := by rw [Int.natCast_succ, Int.mul_add, Int.mul_one]
    have h1 := ih (by omega) j
    have h2 := ih (by omega) (T k)
    have h3 := h k (by omega)
    show 0 ≤ nth ((mapTo T xs N k).set (T k) (nth (mapTo T xs N k) (T k) + nth xs k)) j ∧ nth ((mapTo T xs N k).set (T k) (nth (mapTo T xs N k) (T k) + nth xs k)) j ≤ _
    rw [nth_set, e]
    split <;> omega
theorem mapTo_congr (T U : Nat → Nat) (xs : List Int) (N n : Nat) (h : ∀ a, a < n → T a = U a) (k : Nat) (hk : k ≤ n) : mapTo T xs N k = mapTo U xs N k := by
  unfold mapTo
  exact iter_congr n (fun a l ha => by rw [h a ha]) k hk
theorem or_pow (out k : Nat) (h1 : out < 1000000000) (hk : k ≤ 29) : bits BinOp.or IntKind.i64 (out : Int) (2 ^ k) = ((out ||| 2 ^ k : Nat) : Int) := by
  have := or_nat out (2 ^ k) h1 (pow_small k hk); simpa using this
/-- a list of n answers of a question with so many -/
def answersOk (xs : List Int) (n size : Int) : Bool := allN (fun k => inB 0 (size - 1) (nth xs k)) xs.length && ((xs.length : Int) == n)
end Go.Proofs.YtobeeomeebicnaaDoor
