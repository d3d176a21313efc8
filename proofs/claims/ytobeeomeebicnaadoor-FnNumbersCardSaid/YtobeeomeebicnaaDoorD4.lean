/- What the reference's drawing functions draw: masses. What the reference's drawing functions draw: some value, in new memory (printed by drawgen.py). -/
import Derived.Test.YtobeeomeebicnaaDoorD3
import Derived.Test.YtobeeomeebicnaaDoorM2
import Derived.Test.YtobeeomeebicnaaDoorX1
set_option linter.unusedSimpArgs false
set_option linter.unusedVariables false
namespace Go.Proofs.YtobeeomeebicnaaDoor
open Go.RowKit
/-- the parts of the mass that is sure of set a -/
def sureP (s : Int) (a : Nat) : List Int := (List.replicate (nsets s) 0).set a 1
theorem sureP_len (s : Int) (a : Nat) : (sureP s a).length = nsets s := by simp [sureP]
theorem sureP_dot (g : Nat → Int) (s : Int) (a : Nat) (ha : a < nsets s) : dot g (sureP s a) (nsets s) = g a := by
  unfold sureP
  rw [dot_set _ _ _ _ _ ha (by simp), dot_zero, nth_replicate]; omega
theorem sureP_nth (s : Int) (a k : Nat) (hk : k < nsets s) : nth (sureP s a) k = if a = k then 1 else 0 := by
  unfold sureP
  rw [nth_set, nth_replicate]
  by_cases h : a = k
  · rw [if_pos ⟨h, by simpa using hk⟩, if_pos h]
  · rw [if_neg (fun e => h e.1), if_neg h]
theorem sure_ok {s : Int} {a : Nat} (hs : okSize s = true) (ha : a < nsets s) : massOk s (sureP s a) = true := by
  have hsum : isum (sureP s a) = 1 := by rw [isum_dot, sureP_len, sureP_dot _ _ _ ha]
  have hg : gcdL (sureP s a) = 1 := by
    have h1 := gcdTo_dvd (sureP s a) (sureP s a).length a (by rw [sureP_len]; exact ha)
    rw [sureP_nth _ _ _ ha, if_pos rfl] at h1
    have h2 : 0 ≤ gcdL (sureP s a) := gcdTo_nonneg _ _
    have h3 : gcdL (sureP s a) ≤ 1 := Int.le_of_dvd (by omega) h1
    have h4 : gcdL (sureP s a) ≠ 0 := by
      intro h; have h5 : gcdTo (sureP s a) (sureP s a).length = 0 := h
      rw [h5] at h1; obtain ⟨q, hq⟩ := h1; simp at hq
    omega
  unfold massOk
  rw [hs, sureP_len, hsum, hg, (allN_iff _ _).2]
  · simp [inB]
  · intro k hk; rw [sureP_nth _ _ _ hk]; split <;> decide
theorem wpList_make_intsG {w : World} {ops : Array Oper} {rest : List Oper} {o : Oper} {a : Act} {Q : Exit → Act → World → Prop} (G : Nat) (hG : w.heap.size = G)
    (hg : o.guard = none) (l c : Operand) (hop : o.op = Op.makeSlice 22 l c) (n : Nat) (L C : Int) (hl : a.eval l = .int .i64 L) (hc : a.eval c = .int .i64 C) (hL : L = (n : Int)) (hC : C = (n : Int)) (hn : n ≤ 1000000000)
    (hK : ∀ w', Row w' G (.slice (some ⟨G, 0, none⟩) n n) (List.replicate n 0) → Below w.heap.size w w' → G < w'.heap.size → wpList Tryd.prog ops Q rest (a.put o.dst (.slice (some ⟨G, 0, none⟩) n n)) w') :
    wpList Tryd.prog ops Q (o :: rest) a w := by
  subst hG; exact wpList_make_ints hg l c hop n L C hl hc hL hC hn hK
theorem bit_ix (s : Int) (k : Nat) (hs : okSize s = true) (hk : (k : Int) < s) : ∃ ix : Nat, wrap64 (2 ^ k) = (ix : Int) ∧ ix < nsets s ∧ (0 : Int) ≤ (ix : Int) ∧ (ix : Int) < (nsets s : Int) := by
  have h4 : k < s.toNat := by omega
  have h5 : k ≤ 29 := by rcases okSize_iff.1 hs with h | h | h | h <;> omega
  have h : 2 ^ k < nsets s := by unfold nsets; exact Nat.pow_lt_pow_right (by decide) h4
  exact ⟨2 ^ k, shl_nat k h5, h, Int.natCast_nonneg _, Int.ofNat_lt.2 h⟩
theorem or_in (s : Int) (a b : Nat) (hs : okSize s = true) (ha : a < nsets s) (hb : b < nsets s) : a ||| b < nsets s := by
  unfold nsets at *; exact Nat.or_lt_two_pow ha hb
theorem some_size {i : Nat} (hi : i < [3, 2, 3, 1, 4, 3].length) : okSize (nth [3, 2, 3, 1, 4, 3] i) = true := by
  have h : i = 0 ∨ i = 1 ∨ i = 2 ∨ i = 3 ∨ i = 4 ∨ i = 5 := by simp at hi; omega
  rcases h with rfl | rfl | rfl | rfl | rfl | rfl <;> decide
end Go.Proofs.YtobeeomeebicnaaDoor
