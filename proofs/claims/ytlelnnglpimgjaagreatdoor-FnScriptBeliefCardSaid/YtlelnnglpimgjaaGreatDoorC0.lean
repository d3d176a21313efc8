/- Plain: all orders of so many answers, and the corners of a mass. No program in sight. -/
import Derived.Test.YtlelnnglpimgjaaGreatDoorM1
import Derived.Test.YtlelnnglpimgjaaGreatDoorW6
set_option linter.unusedSimpArgs false
set_option linter.unusedVariables false
namespace Go.Proofs.YtlelnnglpimgjaaGreatDoor
open Go.RowKit
/-- has a list a number? -/
def hasI (l : List Int) (x : Int) : Bool := !allN (fun k => !(nth l k == x)) l.length
def inTo (l : List Int) (L : List (List Int)) (k : Nat) : List (List Int) := iter (fun x L => if hasI l x then L else L ++ [l ++ [(x : Int)]]) L k
def midTo (n : Nat) (out : List (List Int)) (k : Nat) : List (List Int) := iter (fun i L => inTo (nthL out i) L n) [] k
def ordTo (n k : Nat) : List (List Int) := iter (fun _ out => midTo n out out.length) [[]] k
/-- all orders of n answers -/
def orders (n : Nat) : List (List Int) := ordTo n n
theorem inTo_succ (l : List Int) (L : List (List Int)) (k : Nat) : inTo l L (k + 1) = if hasI l (k : Int) then inTo l L k else inTo l L k ++ [l ++ [(k : Int)]] := rfl
theorem midTo_succ (n : Nat) (out : List (List Int)) (k : Nat) : midTo n out (k + 1) = inTo (nthL out k) (midTo n out k) n := rfl
theorem ordTo_succ (n k : Nat) : ordTo n (k + 1) = midTo n (ordTo n k) (ordTo n k).length := rfl
theorem inTo_len (l : List Int) (L : List (List Int)) (k : Nat) : (inTo l L k).length ≤ L.length + k := by
  induction k with
  | zero => exact Nat.le_refl _
  | succ k ih =>
    rw [inTo_succ]
    split
    · omega
    · rw [List.length_append]; simp; omega
theorem midTo_len (n : Nat) (out : List (List Int)) (k : Nat) : (midTo n out k).length ≤ n * k := by
  induction k with
  | zero => simp [midTo, iter]
  | succ k ih =>
    rw [midTo_succ, Nat.mul_succ]
    have := inTo_len (nthL out k) (midTo n out k) n
    omega
def ordGood (n k : Nat) : Bool := decide ((ordTo n k).length ≤ 24) && decide (1 ≤ (ordTo n k).length) && allN (fun i => ((nthL (ordTo n k) i).length == k) && allN (fun j => inB 0 ((n : Int) - 1) (nth (nthL (ordTo n k) i) j)) k) (ordTo n k).length
theorem ordF : ∀ n k : Fin 5, k.val ≤ n.val → ordGood n.val k.val = true := by decide +kernel
theorem ord_good {n k : Nat} (hn : n ≤ 4) (hk : k ≤ n) : (ordTo n k).length ≤ 24 ∧ 1 ≤ (ordTo n k).length ∧ ∀ i, i < (ordTo n k).length → (nthL (ordTo n k) i).length = k ∧ ∀ j, j < k → 0 ≤ nth (nthL (ordTo n k) i) j ∧ nth (nthL (ordTo n k) i) j ≤ (n : Int) - 1 := by
  have h := ordF ⟨n, by omega⟩ ⟨k, by omega⟩ hk
  simp only [ordGood, Bool.and_eq_true, decide_eq_true_eq, allN_iff, beq_iff_eq, inB_iff] at h
  exact ⟨h.1.1, h.1.2, h.2⟩
/-- an order of n answers: all of them and no others -/
def OrdOk (n : Nat) (o : List Int) : Prop := (∀ x, x ∈ o → 0 ≤ x ∧ x < n) ∧ ∀ y, y < n → (y : Int) ∈ o
def okB (n : Nat) (o : List Int) : Bool := o.all (fun x => inB 0 ((n : Int) - 1) x) && (List.range n).all fun y => o.contains (y : Int)
theorem okB_iff {n : Nat} {o : List Int} : okB n o = true ↔ OrdOk n o := by
  unfold okB OrdOk
  rw [Bool.and_eq_true, List.all_eq_true, List.all_eq_true]
  constructor
  · rintro ⟨h1, h2⟩
    exact ⟨fun x hx => by have := inB_iff.1 (h1 x hx); omega, fun y hy => by simpa using h2 y (by simpa using hy)⟩
  · rintro ⟨h1, h2⟩
    exact ⟨fun x hx => inB_iff.2 (by have := h1 x hx; omega), fun y hy => by simpa using h2 y (by simpa using hy)⟩
theorem orderF : ∀ n : Fin 5, (orders n.val).all (okB n.val) = true := by decide +kernel
theorem orders_ok {n : Nat} (hn : n ≤ 4) {o : List Int} (h : o ∈ orders n) : OrdOk n o := by
  have := orderF ⟨n, by omega⟩
  rw [List.all_eq_true] at this
  exact okB_iff.1 (this o h)
theorem nthL_mem {xss : List (List Int)} {k : Nat} (h : k < xss.length) : nthL xss k ∈ xss := by
  unfold nthL; rw [List.getD_eq_getElem?_getD, List.getElem?_eq_getElem h]; exact List.getElem_mem h
theorem mem_nthL {xss : List (List Int)} {o : List Int} (h : o ∈ xss) : ∃ k, k < xss.length ∧ nthL xss k = o := by
  obtain ⟨k, hk, e⟩ := List.getElem_of_mem h
  exact ⟨k, hk, by unfold nthL; rw [List.getD_eq_getElem?_getD, List.getElem?_eq_getElem hk]; exact e⟩
theorem nthL_app_lt (L : List (List Int)) (p : List Int) {k : Nat} (h : k < L.length) : nthL (L ++ [p]) k = nthL L k := by
  unfold nthL; rw [List.getD_eq_getElem?_getD, List.getD_eq_getElem?_getD, List.getElem?_append_left h]
theorem nthL_app_eq (L : List (List Int)) (p : List Int) : nthL (L ++ [p]) L.length = p := by
  unfold nthL; rw [List.getD_eq_getElem?_getD, List.getElem?_append_right (Nat.le_refl _)]; simp
/-- has a list of lists a list? -/
def hasL (L : List (List Int)) (p : List Int) : Bool := !allN (fun k => !decide (nthL L k = p)) L.length
theorem hasL_iff {L : List (List Int)} {p : List Int} : hasL L p = true ↔ p ∈ L := by
  unfold hasL
  rw [Bool.not_eq_true']
  constructor
  · intro h
    obtain ⟨k, hk, hb⟩ := allN_ex h
    simp at hb
    rw [← hb]; exact nthL_mem hk
  · intro h
    obtain ⟨k, hk, e⟩ := mem_nthL h
    cases ha : allN (fun k => !decide (nthL L k = p)) L.length
    · rfl
    · have := (allN_iff _ _).1 ha k hk
      simp [e] at this
def cornTo (s : Int) (xs : List Int) (os : List (List Int)) (k : Nat) : List (List Int) := iter (fun i L => if hasL L (chanceM s xs (nthL os i)).parts then L else L ++ [(chanceM s xs (nthL os i)).parts]) [] k
theorem cornTo_succ (s : Int) (xs : List Int) (os : List (List Int)) (k : Nat) : cornTo s xs os (k + 1) = if hasL (cornTo s xs os k) (chanceM s xs (nthL os k)).parts then cornTo s xs os k else cornTo s xs os k ++ [(chanceM s xs (nthL os k)).parts] := rfl
def cornersL (s : Int) (xs : List Int) : List (List Int) := if normalOk s xs then cornTo s xs (orders s.toNat) (orders s.toNat).length else []
theorem cornTo_len (s : Int) (xs : List Int) (os : List (List Int)) (k : Nat) : (cornTo s xs os k).length ≤ k := by
  induction k with
  | zero => exact Nat.le_refl _
  | succ k ih =>
    rw [cornTo_succ]
    split
    · omega
    · rw [List.length_append]; simp; omega
theorem cornTo_mem {s : Int} {xs : List Int} {os : List (List Int)} {k : Nat} {p : List Int} : p ∈ cornTo s xs os k ↔ ∃ i, i < k ∧ (chanceM s xs (nthL os i)).parts = p := by
  induction k with
  | zero => exact ⟨fun h => by simp [cornTo, iter] at h, fun ⟨i, hi, _⟩ => by omega⟩
  | succ k ih =>
    rw [cornTo_succ]
    constructor
    · intro h
      split at h
      · obtain ⟨i, hi, e⟩ := ih.1 h
        exact ⟨i, by omega, e⟩
      · rcases List.mem_append.1 h with h | h
        · obtain ⟨i, hi, e⟩ := ih.1 h
          exact ⟨i, by omega, e⟩
        · exact ⟨k, by omega, (List.mem_singleton.1 h).symm⟩
    · rintro ⟨i, hi, e⟩
      by_cases hk : i = k
      · subst hk
        split
        · rename_i h; rw [← e]; exact hasL_iff.1 h
        · rw [← e]; exact List.mem_append_right _ (by simp)
      · have := ih.2 ⟨i, by omega, e⟩
        split
        · exact this
        · exact List.mem_append_left _ this
theorem cornTo_nodup (s : Int) (xs : List Int) (os : List (List Int)) (k : Nat) : ∀ i j, i < j → j < (cornTo s xs os k).length → nthL (cornTo s xs os k) i ≠ nthL (cornTo s xs os k) j := by
  induction k with
  | zero => intro i j _ hj; simp [cornTo, iter] at hj
  | succ k ih =>
    intro i j hij hj
    rw [cornTo_succ] at hj ⊢
    split
    · rename_i h; rw [if_pos h] at hj; exact ih i j hij hj
    · rename_i h
      rw [if_neg h, List.length_append] at hj
      simp at hj
      by_cases hl : j < (cornTo s xs os k).length
      · rw [nthL_app_lt _ _ hl, nthL_app_lt _ _ (by omega)]; exact ih i j hij hl
      · obtain rfl : j = (cornTo s xs os k).length := by omega
        rw [nthL_app_eq, nthL_app_lt _ _ hij]
        intro e
        exact h (hasL_iff.2 (by rw [← e]; exact nthL_mem hij))
theorem corners_len (s : Int) (xs : List Int) : (cornersL s xs).length ≤ 24 := by
  unfold cornersL
  split
  · rename_i h
    have h1 := cornTo_len s xs (orders s.toNat) (orders s.toNat).length
    have h2 : s.toNat ≤ 4 := by
      have := (massOk_facts (by simp only [normalOk, Bool.and_eq_true] at h; exact h.1)).1
      rcases okSize_iff.1 this with h | h | h | h <;> omega
    have h3 := (ord_good h2 (Nat.le_refl _)).1
    unfold orders at *
    omega
  · simp
end Go.Proofs.YtlelnnglpimgjaaGreatDoor
