/- Sets shared evenly: OnesCount, sharedPart, l4Even, l12Shared. -/
import Derived.Test.YtobeeomeebicnaaDoorW13
set_option linter.unusedSimpArgs false
set_option linter.unusedVariables false
namespace Go.Proofs.YtobeeomeebicnaaDoor
open Go.RowKit
theorem and_nat (a b : Nat) (ha : a < 1000000000) (hb : b < 1000000000) : bits BinOp.and IntKind.i64 (a : Int) (b : Int) = ((a &&& b : Nat) : Int) := by
  have h1 : ∀ n : Nat, (BitVec.ofInt 64 ((n : Nat) : Int)) = BitVec.ofNat 64 n := fun n => by rw [BitVec.ofInt_natCast]
  show IntKind.i64.wrap ((((BitVec.ofInt 64 (a : Int)) &&& (BitVec.ofInt 64 (b : Int))).toNat : Nat) : Int) = _
  rw [h1, h1]
  have h3 : (BitVec.ofNat 64 a &&& BitVec.ofNat 64 b).toNat = (a &&& b) := by
    rw [BitVec.toNat_and, BitVec.toNat_ofNat, BitVec.toNat_ofNat, Nat.mod_eq_of_lt (by omega), Nat.mod_eq_of_lt (by omega)]
  rw [h3]
  apply IntWalk.i64_in
  have : a &&& b ≤ a := Nat.and_le_left
  omega
theorem cnt_posF : ∀ b : Fin 16, b.val = 0 ∨ (cnt b.val = 1 ∨ cnt b.val = 2 ∨ cnt b.val = 3 ∨ cnt b.val = 4) := by decide
theorem cnt_pos (b : Nat) (h : b < 16) (h0 : b ≠ 0) : cnt b = 1 ∨ cnt b = 2 ∨ cnt b = 3 ∨ cnt b = 4 := (cnt_posF ⟨b, h⟩).resolve_left h0
theorem cnt_leF : ∀ b : Fin 16, cnt b.val ≤ 4 := by decide
theorem cnt_le (b : Nat) (h : b < 16) : cnt b ≤ 4 := cnt_leF ⟨b, h⟩
/-- what set a has of set b's part, twelve times, if b's part is shared evenly -/
def evenP (x : Int) (a b : Nat) : Int := x * ((12 * cnt (b &&& a) / cnt b : Nat) : Int)
def evenTo (xs : List Int) (a k : Nat) : Int := iter (fun b t => t + if b = 0 then 0 else evenP (nth xs b) a b) 0 k
theorem quo12 (x : Int) (h0 : 0 ≤ x) (c d : Nat) (hd : d = 1 ∨ d = 2 ∨ d = 3 ∨ d = 4) : x * (c : Int) * 12 / (d : Int) = x * ((12 * c / d : Nat) : Int) := by
  obtain ⟨e, he⟩ : ∃ e : Nat, 12 = d * e := by
    rcases hd with rfl | rfl | rfl | rfl
    · exact ⟨12, rfl⟩
    · exact ⟨6, rfl⟩
    · exact ⟨4, rfl⟩
    · exact ⟨3, rfl⟩
  have hd0 : (d : Int) ≠ 0 := by omega
  have hdn : 0 < d := by omega
  have h1 : 12 * c / d = e * c := by rw [he, Nat.mul_assoc, Nat.mul_div_cancel_left _ hdn]
  rw [h1]
  have h2 : x * (c : Int) * 12 = (d : Int) * (x * ((e * c : Nat) : Int)) := by
    have : (12 : Int) = (d : Int) * (e : Int) := by exact_mod_cast he
    rw [this]; push_cast; ac_rfl
  rw [h2, Int.mul_ediv_cancel_left _ hd0]
theorem evenP_bd (x : Int) (a b : Nat) (h0 : 0 ≤ x) (h1 : x ≤ 1000000) (hb : b < 16) : 0 ≤ evenP x a b ∧ evenP x a b ≤ 48000000 := by
  unfold evenP
  have h2 : 12 * cnt (b &&& a) / cnt b ≤ 48 := by
    have h3 : cnt (b &&& a) ≤ 4 := cnt_le _ (Nat.lt_of_le_of_lt Nat.and_le_left hb)
    exact Nat.le_trans (Nat.div_le_self _ _) (by omega)
  have h4 : (0 : Int) ≤ ((12 * cnt (b &&& a) / cnt b : Nat) : Int) := Int.natCast_nonneg _
  have h5 : ((12 * cnt (b &&& a) / cnt b : Nat) : Int) ≤ 48 := by exact_mod_cast h2
  generalize ((12 * cnt (b &&& a) / cnt b : Nat) : Int) = q at *
  refine ⟨Int.mul_nonneg h0 h4, ?_⟩
  have := Int.mul_le_mul h1 h5 h4 (by omega)
  omega
theorem evenTo_bd (xs : List Int) (a n : Nat) (hn : n ≤ 16) (h : ∀ k, k < n → 0 ≤ nth xs k ∧ nth xs k ≤ 1000000) (k : Nat) (hk : k ≤ n) : 0 ≤ evenTo xs a k ∧ evenTo xs a k ≤ 48000000 * (k : Int) := by
  induction k with
  | zero => exact ⟨by simp [evenTo, iter], by simp [evenTo, iter]⟩
  | succ k ih =>
    have h1 := ih (by omega)
    have h2 := h k (by omega)
    have h3 := evenP_bd (nth xs k) a k h2.1 h2.2 (by omega)
    show 0 ≤ evenTo xs a k + (if k = 0 then 0 else evenP (nth xs k) a k) ∧ evenTo xs a k + (if k = 0 then 0 else evenP (nth xs k) a k) ≤ _
    push_cast
    split <;> omega
end Go.Proofs.YtobeeomeebicnaaDoor
