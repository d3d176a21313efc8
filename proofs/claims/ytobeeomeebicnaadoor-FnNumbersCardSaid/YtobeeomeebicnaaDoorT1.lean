/- Plain: the texts of numbers (no program). -/
import Derived.Test.YtobeeomeebicnaaDoorP0
import Derived.Lib.ItoaLen
import Derived.Lib.ItoaMem
import Derived.Lib.Join
set_option linter.unusedSimpArgs false
set_option linter.unusedVariables false
namespace Go.Proofs.YtobeeomeebicnaaDoor
/-- the bytes as a string -/
def bs (l : List UInt8) : ByteArray := ⟨l.toArray⟩
theorem bs_append (a b : List UInt8) : bs a ++ bs b = bs (a ++ b) := by
  apply ByteArray.ext; simp [bs]
theorem bs_size (l : List UInt8) : (bs l).size = l.length := by simp [bs, ByteArray.size]
theorem bs_data (l : List UInt8) : (bs l).data.toList = l := by simp [bs]
theorem bs_inj {a b : List UInt8} (h : bs a = bs b) : a = b := by rw [← bs_data a, h, bs_data]
/-- the text of the first k numbers, one space between -/
def txt (xs : List Int) (k : Nat) : List UInt8 := Lib.join ((xs.take k).map Lib.itoa) [32]
/-- the text of numbers -/
def numT (xs : List Int) : List UInt8 := if xs.length = 0 then [45] else txt xs xs.length
theorem itoa_pos (n : Int) : 0 < (Lib.itoa n).length := by
  have h : ∀ u, 0 < (Lib.decDigits u).length := by
    intro u; rw [Lib.decDigits]; split <;> simp
  unfold Lib.itoa; split
  · simp
  · exact h _
theorem txt_zero (xs : List Int) : txt xs 0 = [] := by simp [txt, Lib.join_nil]
theorem join_snoc (l : List (List UInt8)) (y : List UInt8) (h : l ≠ []) (sep : List UInt8) : Lib.join (l ++ [y]) sep = Lib.join l sep ++ sep ++ y := by
  cases l with
  | nil => exact absurd rfl h
  | cons x r =>
    rw [List.cons_append, Lib.join_cons, Lib.join_cons]
    simp [Lib.joinTail, List.append_assoc]
theorem take_one (xs : List Int) (k : Nat) (hk : k < xs.length) : xs.take (k + 1) = xs.take k ++ [nth xs k] := by
  rw [List.take_add_one, nth_eq _ _ hk]; simp [hk]
theorem words_data (l : List Int) : (l.map fun x => bs (Lib.itoa x)).map (·.data.toList) = l.map Lib.itoa := by
  induction l with
  | nil => rfl
  | cons x r ih => simp only [List.map_cons, ih, bs_data]
theorem txt_succ (xs : List Int) (k : Nat) (hk : k < xs.length) : txt xs (k + 1) = if k = 0 then Lib.itoa (nth xs k) else txt xs k ++ [32] ++ Lib.itoa (nth xs k) := by
  have e : xs.take (k + 1) = xs.take k ++ [nth xs k] := by
    rw [List.take_add_one, nth_eq _ _ hk]; simp [hk]
  unfold txt
  rw [e, List.map_append]
  split
  · next h => subst h; simp [Lib.join_one]
  · next h => exact join_snoc _ _ (by simp; exact ⟨h, fun e => by rw [e] at hk; simp at hk⟩) _
theorem txt_len (xs : List Int) (h : ∀ k, k < xs.length → -9223372036854775808 ≤ nth xs k ∧ nth xs k ≤ 9223372036854775807) : ∀ k, k ≤ xs.length → (txt xs k).length ≤ 22 * k
  | 0, _ => by simp [txt_zero]
  | k + 1, hk => by
    have ih := txt_len xs h k (by omega)
    have hl := Lib.itoa_length_le (nth xs k) (h k (by omega)).1 (h k (by omega)).2
    rw [txt_succ _ _ (by omega)]
    split
    · omega
    · simp; omega
theorem txt_pos (xs : List Int) (k : Nat) (h0 : 0 < k) (hk : k ≤ xs.length) : txt xs k ≠ [] := by
  obtain ⟨j, rfl⟩ : ∃ j, k = j + 1 := ⟨k - 1, by omega⟩
  rw [txt_succ _ _ (by omega)]
  intro h
  have hp := itoa_pos (nth xs j)
  split at h
  · rw [h] at hp; simp at hp
  · simp at h
theorem numT_pos (xs : List Int) : numT xs ≠ [] := by
  unfold numT; split
  · simp
  · exact txt_pos _ _ (by omega) (Nat.le_refl _)
theorem dec_step (m : Nat) (h : 9 < m) (s : List UInt8) : Lib.decDigits m ++ s = Lib.decDigits (m / 10) ++ (UInt8.ofNat (48 + m % 10) :: s) := by
  rw [Lib.decDigits, dif_neg (by omega)]; simp
theorem dec_last (m : Nat) (h : m ≤ 9) (s : List UInt8) : Lib.decDigits m ++ s = UInt8.ofNat (48 + m) :: s := by
  rw [Lib.decDigits, dif_pos (by omega)]; simp
theorem itoa_nn (n : Int) (h : 0 ≤ n) : Lib.itoa n = Lib.decDigits n.toNat := by unfold Lib.itoa; rw [if_neg (by omega)]
theorem itoa_ng (n : Int) (h : n < 0) : Lib.itoa n = 45 :: Lib.decDigits (-n).toNat := by
  unfold Lib.itoa; rw [if_pos h, show n.natAbs = (-n).toNat by omega]
theorem itoa_min : Lib.itoa (-9223372036854775808) = [45, 57, 50, 50, 51, 51, 55, 50, 48, 51, 54, 56, 53, 52, 55, 55, 53, 56, 48, 56] := by decide +kernel
end Go.Proofs.YtobeeomeebicnaaDoor
