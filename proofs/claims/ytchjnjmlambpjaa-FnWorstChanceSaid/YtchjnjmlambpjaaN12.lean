/- Plain: beliefs by corners; one corner. No program in sight. -/
import Derived.Test.YtchjnjmlambpjaaN9
set_option linter.unusedSimpArgs false
set_option linter.unusedVariables false
namespace Go.Proofs.Ytchjnjmlambpjaa
open Go.RowKit
/-- the gains of a bet on a set -/
def indL (a n : Nat) : List Int := (List.range n).map fun x => if hasB a x then 1 else 0
theorem indL_len (a n : Nat) : (indL a n).length = n := by simp [indL]
theorem indL_le (a n x : Nat) : nth (indL a n) x ≤ 1 := by
  unfold nth indL
  rw [List.getD_eq_getElem?_getD, List.getElem?_map]
  cases (List.range n)[x]? with
  | none => show (0 : Int) ≤ 1; decide
  | some y => show (if hasB a y then (1 : Int) else 0) ≤ 1; split <;> decide
/-- the part of what lies in a set -/
def impP (a : Nat) (xs : List Int) : Int := dot (predI (subB a)) xs xs.length
theorem low_indF : ∀ n : Fin 5, ∀ a b : Fin 16, b.val ≠ 0 → b.val < 2 ^ n.val → lowF 1 (indL a.val n.val) b.val n.val = predI (subB a.val) b.val := by decide +kernel
theorem imp_sum {s : Int} {ys : List Int} (hn : normalOk s ys = true) {a : Nat} (ha : a < ys.length) : sumF 1 ys (indL a s.toNat) ys.length = impP a ys := by
  obtain ⟨p1, p4, hl, h0, _⟩ := norm_size hn
  have h16 : 2 ^ s.toNat ≤ 2 ^ 4 := Nat.pow_le_pow_right (by decide) p4
  rw [sumF_dot, indL_len]
  refine dot_congr _ _ fun j hj => ?_
  by_cases hj0 : j = 0
  · subst hj0; rw [h0]; simp
  · have := low_indF ⟨s.toNat, by omega⟩ ⟨a, by omega⟩ ⟨j, by omega⟩ hj0 (by show j < 2 ^ s.toNat; omega)
    simp only at this
    rw [this]
theorem corner_imp {s : Int} {xs o : List Int} (hn : normalOk s xs = true) (ho : OrdOk s.toNat o) {a : Nat} (ha : a < xs.length) :
    impP a xs * isum (chanceM s xs o).parts ≤ impP a (chanceM s xs o).parts * isum xs ∧ (Asc (indL a s.toNat) o → impP a (chanceM s xs o).parts * isum xs = impP a xs * isum (chanceM s xs o).parts) := by
  obtain ⟨e, he, _, _, hl, _, hd, hw⟩ := corner_facts hn ho
  obtain ⟨_, c2⟩ := corner_chance hn ho
  obtain ⟨_, _, _, _, s1, s2, _⟩ := massOk_facts (norm_size c2).2.2.2.2.1
  obtain ⟨A1, A2⟩ := corner_sum hn ho (M := 1) (d := indL a s.toNat) (indL_len _ _) (fun x _ => indL_le _ _ _) hd
  have e1 := imp_sum hn ha
  have e2 := imp_sum c2 (a := a) (by rw [hl]; exact ha)
  rw [hl] at e2
  rw [e1, e2] at A1 A2
  have key : impP a (chanceM s xs o).parts * isum xs = (e * impP a (chanceM s xs o).parts) * isum (chanceM s xs o).parts := by rw [← hw]; ac_rfl
  rw [key]
  exact ⟨Int.mul_le_mul_of_nonneg_right A1 (by omega), fun h => by rw [A2 h]⟩
/-- beliefs are the least chances of corners -/
theorem corners_imp {s : Int} {xs : List Int} (hn : normalOk s xs = true) {a : Nat} (ha : a < xs.length) :
    (∀ i, i < (cornersL s xs).length → impP a xs * isum (nthL (cornersL s xs) i) ≤ impP a (nthL (cornersL s xs) i) * isum xs) ∧
    ∃ i, i < (cornersL s xs).length ∧ impP a (nthL (cornersL s xs) i) * isum xs = impP a xs * isum (nthL (cornersL s xs) i) := by
  obtain ⟨p1, p4, _⟩ := norm_size hn
  refine ⟨fun i hi => ?_, ?_⟩
  · obtain ⟨_, o, ho, ho2, e⟩ := corners_nth hi
    rw [e]; exact (corner_imp hn ho2 ha).1
  · obtain ⟨o, ho, hA⟩ := asc_some s.toNat p1 p4 (indL a s.toNat)
    obtain ⟨i, hi, e⟩ := mem_nthL ((corners_mem hn).2 ⟨o, ho, rfl⟩)
    exact ⟨i, hi, by rw [e]; exact (corner_imp hn (orders_ok p4 ho) ha).2 hA⟩
theorem corners_good {s : Int} {xs : List Int} {i : Nat} (hi : i < (cornersL s xs).length) : chanceOk s (nthL (cornersL s xs) i) = true ∧ normalOk s (nthL (cornersL s xs) i) = true ∧ (nthL (cornersL s xs) i).length = xs.length := by
  obtain ⟨hn, o, ho, ho2, e⟩ := corners_nth hi
  obtain ⟨_, _, _, _, hl, _⟩ := corner_facts hn ho2
  rw [e]
  exact ⟨(corner_chance hn ho2).1, (corner_chance hn ho2).2, hl⟩
theorem fb_singleF : ∀ n : Fin 5, ∀ x : Fin 4, x.val < n.val → 2 ^ x.val < 2 ^ n.val := by decide
theorem single_isF : ∀ a : Fin 16, single a.val = true → a.val = 1 ∨ a.val = 2 ∨ a.val = 4 ∨ a.val = 8 := by decide
theorem corner_of_chance {s : Int} {xs o : List Int} (hc : chanceOk s xs = true) (hn : normalOk s xs = true) (ho : OrdOk s.toNat o) : chanceM s xs o = mkMass s xs := by
  obtain ⟨p1, p4, hl, h0, hm, _⟩ := norm_size hn
  have h16 : 2 ^ s.toNat ≤ 2 ^ 4 := Nat.pow_le_pow_right (by decide) p4
  have hT : ∀ a, a < xs.length → firstBit o a < xs.length := fun a _ => by rw [hl]; exact firstBit_lt o s.toNat a ho.1
  have hlen : (chP o xs xs.length).length = xs.length := mapTo_len _ _ _ _
  have hz := hc
  simp only [chanceOk, Bool.and_eq_true, allN_iff, Bool.or_eq_true, beq_iff_eq] at hz
  have e : chP o xs xs.length = xs := by
    refine ext_nth _ _ hlen fun j hj => ?_
    rw [hlen] at hj
    have h1 := dot_mapTo (at1 j) (fun a => firstBit o a) xs xs.length xs.length hT
    have h2 : dot (at1 j) (mapTo (fun a => firstBit o a) xs xs.length xs.length) xs.length = nth (chP o xs xs.length) j := by rw [dot_at1, if_pos hj]; rfl
    have h3 : dot (at1 j) xs xs.length = nth xs j := by rw [dot_at1, if_pos hj]
    rw [← h2, h1, ← h3]
    refine dot_congr _ _ fun a ha => ?_
    rcases hz.2 a ha with h | h
    · rw [h]; simp
    · have ha0 : a ≠ 0 := by rintro rfl; cases h
      obtain ⟨x, hx, hb, e1⟩ := fb_some p4 ho (by omega) ha0
      have : (2 : Nat) ^ x = a := by
        have hx4 : x < 4 := by omega
        rcases single_isF ⟨a, by omega⟩ h with e | e | e | e <;> simp only at e <;> subst e <;> (match x, hx4, hb with | 0, _, hb => revert hb; decide | 1, _, hb => revert hb; decide | 2, _, hb => revert hb; decide | 3, _, hb => revert hb; decide)
      show at1 j (firstBit o a) * _ = _
      rw [e1, this]
  unfold chanceM
  rw [e]
theorem one_of_chance {s : Int} {xs : List Int} (hc : chanceOk s xs = true) (hn : normalOk s xs = true) : (cornersL s xs).length = 1 := by
  have h1 := corners_some hn
  refine Nat.le_antisymm (Nat.le_of_not_lt fun h => ?_) h1
  refine corners_apart (s := s) (xs := xs) (i := 0) (j := 1) (by omega) (by omega) ?_
  obtain ⟨_, o, _, ho, e⟩ := corners_nth (s := s) (xs := xs) (i := 0) (by omega)
  obtain ⟨_, o2, _, ho2, e2⟩ := corners_nth (s := s) (xs := xs) (i := 1) (by omega)
  rw [e, e2, corner_of_chance hc hn ho, corner_of_chance hc hn ho2]
def twoB (n b j x : Nat) : Bool := (b == 0) || !decide (b < 2 ^ n) || single j || !hasB j x || !decide (x < n) || decide (predI (subB (2 ^ x)) b + predI (subB (2 ^ n - 1 - 2 ^ x)) b + at1 j b ≤ 1)
theorem twoF0 : ∀ n : Fin 5, ∀ b j : Fin 16, ∀ x : Fin 4, twoB n.val b.val j.val x.val = true := by decide +kernel
theorem twoF {n b j x : Nat} (hn : n ≤ 4) (hb16 : b < 16) (hj : j < 16) (hb0 : b ≠ 0) (hb : b < 2 ^ n) (hs : single j = false) (hx : hasB j x = true) (hxn : x < n) : predI (subB (2 ^ x)) b + predI (subB (2 ^ n - 1 - 2 ^ x)) b + at1 j b ≤ 1 := by
  have h := twoF0 ⟨n, by omega⟩ ⟨b, hb16⟩ ⟨j, hj⟩ ⟨x, by omega⟩
  simp only [twoB, hs, hx, hb, hxn, decide_true, Bool.not_true, Bool.or_false, Bool.or_eq_true, beq_iff_eq, decide_eq_true_eq] at h
  rcases h with h | h
  · exact absurd h hb0
  · exact h
theorem oneF : ∀ n : Fin 5, ∀ b : Fin 16, ∀ x : Fin 4, single b.val = true → b.val < 2 ^ n.val → x.val < n.val → predI (subB (2 ^ x.val)) b.val + predI (subB (2 ^ n.val - 1 - 2 ^ x.val)) b.val = 1 := by decide +kernel
theorem chance_of_one {s : Int} {xs : List Int} (hn : normalOk s xs = true) (h1 : (cornersL s xs).length = 1) : chanceOk s xs = true := by
  obtain ⟨p1, p4, hl, h0, hm, _⟩ := norm_size hn
  have h16 : 2 ^ s.toNat ≤ 2 ^ 4 := Nat.pow_le_pow_right (by decide) p4
  obtain ⟨c1, c2, c3⟩ := corners_good (s := s) (xs := xs) (i := 0) (by omega)
  obtain ⟨_, _, _, hb, s1, s2, _⟩ := massOk_facts hm
  have hx0 : ∀ j, j < xs.length → 0 ≤ nth xs j := fun j hj => (hb j hj).1
  obtain ⟨C, hC⟩ : ∃ C, nthL (cornersL s xs) 0 = C := ⟨_, rfl⟩
  rw [hC] at c1 c2 c3
  obtain ⟨_, _, _, _, t1, t2, _⟩ := massOk_facts (norm_size c2).2.2.2.2.1
  have hi : ∀ a, a < xs.length → impP a C * isum xs = impP a xs * isum C := fun a ha => by
    obtain ⟨i, hi, e⟩ := (corners_imp hn ha).2
    obtain rfl : i = 0 := by omega
    rw [hC] at e; exact e
  simp only [chanceOk, Bool.and_eq_true, allN_iff, Bool.or_eq_true, beq_iff_eq] at c1 ⊢
  refine ⟨hm, fun j hj => ?_⟩
  cases hs : single j
  · left
    by_cases hj0 : j = 0
    · subst hj0; exact h0
    · obtain ⟨x, hx⟩ := hasB_some ⟨s.toNat, by omega⟩ ⟨j, by show j < 2 ^ s.toNat; omega⟩ hj0
      have hxn : x.val < s.toNat := x.isLt
      have ha1 : (2 : Nat) ^ x.val < xs.length := by rw [hl]; exact Nat.pow_lt_pow_right (by decide) hxn
      have hpx := Nat.two_pow_pos x.val
      have ha2 : 2 ^ s.toNat - 1 - 2 ^ x.val < xs.length := by omega
      have E1 := hi _ ha1
      have E2 := hi _ ha2
      have hsum : impP (2 ^ x.val) C + impP (2 ^ s.toNat - 1 - 2 ^ x.val) C = isum C := by
        unfold impP
        rw [← dot_add, isum_ofl rfl]
        refine dot_congr _ _ fun b hb => ?_
        rcases c1.2 b hb with e | e
        · rw [e]; simp
        · rw [c3] at hb
          have := oneF ⟨s.toNat, by omega⟩ ⟨b, by omega⟩ ⟨x.val, by omega⟩ e (by show b < 2 ^ s.toNat; omega) hxn
          simp only at this
          rw [this]
      have hle : impP (2 ^ x.val) xs + impP (2 ^ s.toNat - 1 - 2 ^ x.val) xs + nth xs j ≤ isum xs := by
        have hd : dot (at1 j) xs xs.length = nth xs j := by rw [dot_at1, if_pos hj]
        unfold impP
        rw [← hd, ← dot_add, ← dot_add, isum_ofl rfl]
        refine dot_mono xs _ hx0 fun b hb hne => ?_
        have hb0 : b ≠ 0 := by rintro rfl; exact hne h0
        exact twoF p4 (by omega) (by omega) hb0 (by omega) hs hx hxn
      have hk : isum C * isum xs = (impP (2 ^ x.val) xs + impP (2 ^ s.toNat - 1 - 2 ^ x.val) xs) * isum C := by
        have e := congrArg (· * isum xs) hsum
        simp only [Int.add_mul] at e
        rw [E1, E2] at e
        rw [← e, Int.add_mul]
      have hk2 : (impP (2 ^ x.val) xs + impP (2 ^ s.toNat - 1 - 2 ^ x.val) xs + nth xs j) * isum C ≤ isum xs * isum C := Int.mul_le_mul_of_nonneg_right hle (by omega)
      rw [Int.add_mul, ← hk, Int.mul_comm (isum C)] at hk2
      have hk3 : nth xs j * isum C ≤ 0 := by omega
      have hj1 := hx0 j hj
      rcases Int.lt_or_eq_of_le hj1 with h | h
      · have := Int.mul_pos h (show 0 < isum C by omega); omega
      · exact h.symm
  · right; rfl
theorem corners_one {s : Int} {xs : List Int} (hn : normalOk s xs = true) : chanceOk s xs = decide ((cornersL s xs).length = 1) := by
  cases h : chanceOk s xs
  · have : (cornersL s xs).length ≠ 1 := fun e => by rw [chance_of_one hn e] at h; cases h
    simp [this]
  · simp [one_of_chance h hn]
end Go.Proofs.Ytchjnjmlambpjaa
