/- Plain: what is passed on locally, pairs of masses, independence. No program in sight. -/
import Derived.Test.YtnbjhmghobljaaaN2
import Derived.Test.YtnbjhmghobljaaaW13
import Derived.Test.YtnbjhmghobljaaaE3
set_option linter.unusedSimpArgs false
set_option linter.unusedVariables false
namespace Go.Proofs.Ytnbjhmghobljaaa
open Go.RowKit
theorem mul_congr_l {a b : Int} (c : Int) (h : a = b) : a * c = b * c := by rw [h]
theorem img_and : ∀ a, a < 4 → ∀ b, b < 16 → imgT false (refT false a &&& b) = a &&& imgT false b := by decide +kernel
theorem pass_ok {s : Int} {xs : List Int} {u : Int} {ys : List Int} (h : (passM s xs u ys).ok = true) :
    massOk s xs = true ∧ s = 2 ∧ massOk u ys = true ∧ u = 4 ∧ (togM (fun a b => a &&& b) (extendM false s xs).size (extendM false s xs).parts u ys).ok = true ∧
    passM s xs u ys = sideM true (togM (fun a b => a &&& b) (extendM false s xs).size (extendM false s xs).parts u ys).size (togM (fun a b => a &&& b) (extendM false s xs).size (extendM false s xs).parts u ys).parts := by
  have h1 : (massOk u ys && (u == 4)) = true := by
    cases h1 : (massOk u ys && (u == 4))
    · rw [pass_bad h1] at h; cases h
    · rfl
  rw [Bool.and_eq_true, beq_iff_eq] at h1
  have h2 : (extendM false s xs).ok = true := by
    unfold passM at h
    split at h
    · assumption
    · cases h
  have h3 : (togM (fun a b => a &&& b) (extendM false s xs).size (extendM false s xs).parts u ys).ok = true := by
    unfold passM at h
    rw [if_pos h2] at h
    split at h
    · assumption
    · cases h
  have h4 := extend_okb false s xs
  rw [h2] at h4
  have h5 := h4.symm
  rw [Bool.and_eq_true, beq_iff_eq] at h5
  refine ⟨h5.1, h5.2, h1.1, h1.2, h3, ?_⟩
  unfold passM
  rw [if_pos h2, if_pos h3]
theorem local_law {xs ks : List Int} (h : (passM 2 xs 4 ks).ok = true) :
    (togM (fun a b => a &&& b) (extendM false 2 xs).size (extendM false 2 xs).parts 4 ks).ok = true ∧
    (sideM false (togM (fun a b => a &&& b) (extendM false 2 xs).size (extendM false 2 xs).parts 4 ks).size (togM (fun a b => a &&& b) (extendM false 2 xs).size (extendM false 2 xs).parts 4 ks).parts).ok = true ∧
    sideM false (togM (fun a b => a &&& b) (extendM false 2 xs).size (extendM false 2 xs).parts 4 ks).size (togM (fun a b => a &&& b) (extendM false 2 xs).size (extendM false 2 xs).parts 4 ks).parts = togM (fun a b => a &&& b) 2 xs (sideM false 4 ks).size (sideM false 4 ks).parts ∧
    sideM true (togM (fun a b => a &&& b) (extendM false 2 xs).size (extendM false 2 xs).parts 4 ks).size (togM (fun a b => a &&& b) (extendM false 2 xs).size (extendM false 2 xs).parts 4 ks).parts = passM 2 xs 4 ks := by
  obtain ⟨hm, _, hk, _, ho, hp⟩ := pass_ok h
  refine ⟨ho, ?_, ?_, hp.symm⟩
  · obtain ⟨q1, q2⟩ := togM_ok ho
    rw [(extend_pr false hm).2.1] at q1 q2
    rw [(extend_pr false hm).2.1, q1]
    exact (side_pr false q2 (Pr.of_mass q2 ns4)).1
  obtain ⟨e1, e2, e3, e4⟩ := extend_pr false hm
  rw [e2] at ho ⊢
  have hc := conj_eq ns4 e3 hk
  rw [hc] at ho ⊢
  obtain ⟨p1, p2, p3⟩ := (e4.tog (Pr.of_mass hk ns4) and_lt16).mass ho
  obtain ⟨_, s2, s3, s4⟩ := side_pr false hk (Pr.of_mass hk ns4)
  rw [p2, side_eq p3, s2, conj_eq ns2 hm s3]
  have q1 := (p1.map (M := 4) (imgT_lt false)).eq (G := fun g => dot (fun a => dot (fun b => g (a &&& imgT false b)) ks 16) xs 4) fun g => dot_congr _ _ fun a ha => by
    refine mul_congr_l _ ?_
    refine dot_congr _ _ fun b hb => ?_
    show g (imgT false (refT false a &&& b)) * _ = g (a &&& imgT false b) * _
    rw [img_and a ha b hb]
  have q2 := (Pr.of_mass hm ns2).tog s4 and_lt4
  simp only [] at q2
  exact q1.same q2
theorem sw_and : ∀ a, a < 4 → ∀ b, b < 4 → swT (refT false a &&& refT true b) = refT false b &&& refT true a := by decide +kernel
theorem imgF_and : ∀ a, a < 4 → ∀ b, b < 4 → b ≠ 0 → imgT false (refT false a &&& refT true b) = a := by decide +kernel
theorem imgS_and : ∀ a, a < 4 → ∀ b, b < 4 → a ≠ 0 → imgT true (refT false a &&& refT true b) = b := by decide +kernel
theorem pair_fact {s : Int} {xs : List Int} {u : Int} {ys : List Int} (h : (pairM s xs u ys).ok = true) : massOk s xs = true ∧ s = 2 ∧ massOk u ys = true ∧ u = 2 := by
  have h1 : ((extendM false s xs).ok && (extendM true u ys).ok) = true := by
    unfold pairM at h
    split at h
    · assumption
    · cases h
  rw [extend_okb, extend_okb, Bool.and_eq_true, Bool.and_eq_true, Bool.and_eq_true, beq_iff_eq, beq_iff_eq] at h1
  exact ⟨h1.1.1, h1.1.2, h1.2.1, h1.2.2⟩
theorem pair_eq {xs ys : List Int} (hm : massOk 2 xs = true) (hn : massOk 2 ys = true) :
    pairM 2 xs 2 ys = mkMass 4 (togTo (fun a b => a &&& b) (extendM false 2 xs).parts (extendM true 2 ys).parts 16 16 16) ∧
    Pr 16 (togTo (fun a b => a &&& b) (extendM false 2 xs).parts (extendM true 2 ys).parts 16 16 16) (fun g => dot (fun a => dot (fun b => g (refT false a &&& refT true b)) ys 4) xs 4) := by
  obtain ⟨e1, e2, e3, e4⟩ := extend_pr false hm
  obtain ⟨f1, f2, f3, f4⟩ := extend_pr true hn
  refine ⟨?_, e4.tog f4 and_lt16⟩
  unfold pairM
  rw [e1, f1, e2, f2]
  exact conj_eq ns4 e3 f3
theorem pair_pr {xs ys : List Int} (h : (pairM 2 xs 2 ys).ok = true) :
    (pairM 2 xs 2 ys).size = 4 ∧ massOk 4 (pairM 2 xs 2 ys).parts = true ∧ Pr 16 (pairM 2 xs 2 ys).parts (fun g => dot (fun a => dot (fun b => g (refT false a &&& refT true b)) ys 4) xs 4) := by
  obtain ⟨hm, _, hn, _⟩ := pair_fact h
  obtain ⟨q1, q2⟩ := pair_eq hm hn
  rw [q1] at h ⊢
  obtain ⟨p1, p2, p3⟩ := q2.mass h
  exact ⟨p2, p3, p1⟩
theorem pair_other {xs ys : List Int} (h : (pairM 2 xs 2 ys).ok = true) : pairM 2 ys 2 xs = swapM (pairM 2 xs 2 ys).size (pairM 2 xs 2 ys).parts := by
  obtain ⟨hm, _, hn, _⟩ := pair_fact h
  obtain ⟨p1, p2, p3⟩ := pair_pr h
  obtain ⟨q1, q2⟩ := pair_eq hn hm
  rw [p1, swap_eq p2, q1]
  refine (q2.eq fun g => ?_).same (p3.map (M := 16) swT_lt)
  rw [← dot_swap (fun a b => g (swT (refT false a &&& refT true b))) xs ys 4 4 |>.symm]
  refine dot_congr _ _ fun b hb => ?_
  refine mul_congr_l _ ?_
  refine dot_congr _ _ fun a ha => ?_
  rw [sw_and a ha b hb]
theorem norm0 {s : Int} {xs : List Int} (h : normalOk s xs = true) : massOk s xs = true ∧ nth xs 0 = 0 := by
  unfold normalOk at h
  rw [Bool.and_eq_true] at h
  refine ⟨h.1, ?_⟩
  have := h.2
  first | exact eq_of_beq this | simpa using this
theorem dot_mul_const (c : Int) (g : Nat → Int) (xs : List Int) (n : Nat) : dot (fun i => g i * c) xs n = c * dot g xs n := by
  rw [← dot_lin]
  exact dot_congr _ _ fun j _ => by rw [Int.mul_comm (g j) c]
theorem dot_const (c : Int) (xs : List Int) (n : Nat) : dot (fun _ => c) xs n = c * dot (fun _ => 1) xs n := by
  rw [← dot_lin]
  exact dot_congr _ _ fun j _ => by rw [Int.mul_one]
theorem pair_first {xs ys : List Int} (h : (pairM 2 xs 2 ys).ok = true) (hn : nth ys 0 = 0) : sideM false (pairM 2 xs 2 ys).size (pairM 2 xs 2 ys).parts = ⟨2, xs, true⟩ := by
  obtain ⟨hm, _, hk, _⟩ := pair_fact h
  obtain ⟨p1, p2, p3⟩ := pair_pr h
  rw [p1, side_eq p2, ← mkMass_self hm]
  have hs := mass_sum hk ns2
  have q : Pr 4 xs (fun g => dot (fun a => dot (fun b => g (imgT false (refT false a &&& refT true b))) ys 4) xs 4) := by
    have q0 := Pr.of_mass hm ns2
    refine ⟨q0.len, q0.nn, dot (fun _ => 1) ys 4, by omega, fun g => ?_⟩
    rw [← dot_lin]
    refine dot_congr _ _ fun a ha => ?_
    refine mul_congr_l _ ?_
    rw [Int.mul_comm, ← dot_const]
    refine dot_congr _ _ fun b hb => ?_
    by_cases h0 : b = 0
    · subst h0; rw [hn, Int.mul_zero, Int.mul_zero]
    · rw [imgF_and a ha b hb h0]
  exact (p3.map (M := 4) (imgT_lt false)).same q
theorem pair_second {xs ys : List Int} (h : (pairM 2 xs 2 ys).ok = true) (hn : nth xs 0 = 0) : sideM true (pairM 2 xs 2 ys).size (pairM 2 xs 2 ys).parts = ⟨2, ys, true⟩ := by
  obtain ⟨hm, _, hk, _⟩ := pair_fact h
  obtain ⟨p1, p2, p3⟩ := pair_pr h
  rw [p1, side_eq p2, ← mkMass_self hk]
  have hs := mass_sum hm ns2
  have q : Pr 4 ys (fun g => dot (fun a => dot (fun b => g (imgT true (refT false a &&& refT true b))) ys 4) xs 4) := by
    have q0 := Pr.of_mass hk ns2
    refine ⟨q0.len, q0.nn, dot (fun _ => 1) xs 4, by omega, fun g => ?_⟩
    rw [Int.mul_comm, ← dot_const]
    refine dot_congr _ _ fun a ha => ?_
    by_cases h0 : a = 0
    · subst h0; rw [hn, Int.mul_zero, Int.mul_zero]
    · refine mul_congr_l _ ?_
      refine dot_congr _ _ fun b hb => ?_
      rw [imgS_and a ha b hb h0]
  exact (p3.map (M := 4) (imgT_lt true)).same q
theorem sameL_self (xs : List Int) : sameL xs xs = true := sameL_all rfl fun _ _ => rfl
theorem pair_indep {xs ys : List Int} (h : (pairM 2 xs 2 ys).ok = true) (hx : nth xs 0 = 0) (hy : nth ys 0 = 0) : indepM (pairM 2 xs 2 ys).size (pairM 2 xs 2 ys).parts = true := by
  unfold indepM
  rw [pair_first h hy, pair_second h hx, h, sameL_self]
  rfl
/-- is set b in set a? -/
def subI (a : Nat) (b : Nat) : Int := if b &&& a = b then 1 else 0
def setXY (x y : Nat) : Nat := (if x % 2 = 1 ∧ y % 2 = 1 then 1 else 0) + (if x % 2 = 1 ∧ y / 2 = 1 then 2 else 0) + (if x / 2 = 1 ∧ y % 2 = 1 then 4 else 0) + (if x / 2 = 1 ∧ y / 2 = 1 then 8 else 0)
theorem sub_xyF : ∀ x y a b : Fin 4, a.val ≠ 0 → b.val ≠ 0 → subI (setXY x.val y.val) (refT false a.val &&& refT true b.val) = subI x.val a.val * subI y.val b.val := by decide +kernel
theorem sub_xy (x : Nat) (hx : x < 4) (y : Nat) (hy : y < 4) (a : Nat) (ha : a < 4) (b : Nat) (hb : b < 4) (h0 : a ≠ 0) (h1 : b ≠ 0) : subI (setXY x y) (refT false a &&& refT true b) = subI x a * subI y b := sub_xyF ⟨x, hx⟩ ⟨y, hy⟩ ⟨a, ha⟩ ⟨b, hb⟩ h0 h1
theorem pair_implied {xs ys : List Int} (h : (pairM 2 xs 2 ys).ok = true) (hx : nth xs 0 = 0) (hy : nth ys 0 = 0) {x y : Nat} (x4 : x < 4) (y4 : y < 4) :
    dot (subI (setXY x y)) (pairM 2 xs 2 ys).parts 16 * isum xs * isum ys = dot (subI x) xs 4 * dot (subI y) ys 4 * isum (pairM 2 xs 2 ys).parts := by
  obtain ⟨hm, _, hk, _⟩ := pair_fact h
  obtain ⟨p1, p2, p3⟩ := pair_pr h
  obtain ⟨hl, _, e, he, hd⟩ := p3
  have i1 : isum xs = dot (fun _ => 1) xs 4 := isum_of_len (Pr.of_mass hm ns2).len
  have i2 : isum ys = dot (fun _ => 1) ys 4 := isum_of_len (Pr.of_mass hk ns2).len
  have i3 : isum (pairM 2 xs 2 ys).parts = dot (fun _ => 1) (pairM 2 xs 2 ys).parts 16 := isum_of_len hl
  have d1 := hd (subI (setXY x y))
  have d2 := hd (fun _ => 1)
  have k1 : dot (fun a => dot (fun b => subI (setXY x y) (refT false a &&& refT true b)) ys 4) xs 4 = dot (subI x) xs 4 * dot (subI y) ys 4 := by
    rw [Int.mul_comm, ← dot_lin]
    refine dot_congr _ _ fun a ha => ?_
    by_cases h0 : a = 0
    · subst h0; rw [hx, Int.mul_zero, Int.mul_zero]
    · refine mul_congr_l _ ?_
      rw [Int.mul_comm, ← dot_lin]
      refine dot_congr _ _ fun b hb => ?_
      by_cases h1 : b = 0
      · subst h1; rw [hy, Int.mul_zero, Int.mul_zero]
      · rw [sub_xy x x4 y y4 a ha b hb h0 h1]
  have k2 : dot (fun _ => dot (fun _ => 1) ys 4) xs 4 = isum xs * isum ys := by
    rw [dot_const, i1, i2, Int.mul_comm]
  rw [k1] at d1
  rw [k2] at d2
  rw [Int.mul_assoc, ← d2, ← d1, i3]
  rw [Int.mul_comm e (dot (fun _ => 1) _ 16), ← Int.mul_assoc, Int.mul_comm _ e, ← Int.mul_assoc]
theorem indep_sure : ∀ a, a = 1 ∨ a = 2 ∨ a = 4 ∨ a = 8 → indepM 4 (sureP 4 a) = true := by
  rintro a (rfl | rfl | rfl | rfl) <;> decide +kernel
theorem foc_mem (xs : List Int) (k j : Nat) (hj : j < k) (h : nth xs j ≠ 0) : (j : Int) ∈ focTo xs k := by
  induction k with
  | zero => omega
  | succ k ih =>
    rw [focTo_succ]
    by_cases e : j = k
    · subst e
      rw [if_neg h]; simp
    · have := ih (by omega)
      split
      · exact this
      · exact List.mem_append_left _ this
theorem dot_only (g : Nat → Int) (xs : List Int) (a n : Nat) (h : ∀ j, j < n → j ≠ a → nth xs j = 0) : dot g xs n = if a < n then g a * nth xs a else 0 := by
  induction n with
  | zero => rfl
  | succ n ih =>
    rw [dot_succ, ih fun j hj => h j (by omega)]
    by_cases e : n = a
    · subst e
      rw [if_neg (by omega), if_pos (by omega)]; omega
    · rw [h n (by omega) e, Int.mul_zero]
      by_cases e2 : a < n
      · rw [if_pos e2, if_pos (by omega)]; omega
      · rw [if_neg e2, if_neg (by omega)]; omega
theorem foc_single {xs : List Int} {a : Nat} (h : massOk 4 xs = true) (h1 : (focTo xs 16).length = 1) (h2 : nth (focTo xs 16) 0 = (a : Int)) : a < 16 ∧ xs = sureP 4 a := by
  obtain ⟨_, hl, _, hb, _, _, hg⟩ := massOk_facts h
  rw [ns4] at hl
  obtain ⟨b, hb1, hb2, hb3⟩ := focTo_at xs 16 0 (by omega)
  have hab : a = b := by rw [h2] at hb2; exact Int.ofNat.inj hb2
  subst hab
  have h0 : ∀ j, j < 16 → j ≠ a → nth xs j = 0 := by
    intro j hj hne
    by_cases e : nth xs j = 0
    · exact e
    · have hm := foc_mem xs 16 j hj e
      obtain ⟨z, hz⟩ : ∃ z, focTo xs 16 = [z] := List.length_eq_one_iff.1 h1
      rw [hz] at hm h2
      have e1 : (j : Int) = z := by simpa using hm
      have e2 : z = (a : Int) := h2
      omega
  have hd : nth xs a ∣ 1 := by
    have := gcdTo_greatest xs (nth xs a) xs.length fun j hj => by
      by_cases e : j = a
      · subst e; exact Int.dvd_refl _
      · rw [h0 j (by omega) e]; exact Int.dvd_zero _
    rw [← hg]; exact this
  have hp := hb a (by omega)
  have h1 : nth xs a = 1 := by
    have := Int.le_of_dvd (by decide) hd
    omega
  refine ⟨hb1, dot_ext _ _ 16 hl (by rw [sureP_len, ns4]) fun g => ?_⟩
  have e := sureP_dot g 4 a (by rw [ns4]; exact hb1)
  rw [ns4] at e
  rw [e, dot_only g xs a 16 h0, if_pos hb1, h1, Int.mul_one]
theorem cnt_one4 : ∀ a, a < 16 → cnt a = 1 → a = 1 ∨ a = 2 ∨ a = 4 ∨ a = 8 := by decide +kernel
theorem indep_single {xs : List Int} {a : Nat} (h : massOk 4 xs = true) (h1 : (focTo xs 16).length = 1) (h2 : nth (focTo xs 16) 0 = (a : Int)) (h3 : cnt a = 1) : indepM 4 xs = true := by
  obtain ⟨k1, k2⟩ := foc_single h h1 h2
  rw [k2]
  exact indep_sure a (cnt_one4 a k1 h3)
/-- the law of independence: its two ways -/
theorem indep_is {xs : List Int} (h : massOk 4 xs = true) : indepM 4 xs = ((pairM (sideM false 4 xs).size (sideM false 4 xs).parts (sideM true 4 xs).size (sideM true 4 xs).parts).ok && (decide ((pairM (sideM false 4 xs).size (sideM false 4 xs).parts (sideM true 4 xs).size (sideM true 4 xs).parts).size = 4) && eqList (pairM (sideM false 4 xs).size (sideM false 4 xs).parts (sideM true 4 xs).size (sideM true 4 xs).parts).parts xs)) := by
  have hp := Pr.of_mass h ns4
  have h1 := (side_pr false h hp).1
  have h2 := (side_pr true h hp).1
  unfold indepM
  rw [h1, h2, Bool.true_and, Bool.true_and]
  cases ho : (pairM (sideM false 4 xs).size (sideM false 4 xs).parts (sideM true 4 xs).size (sideM true 4 xs).parts).ok
  · rfl
  · have h4 := (pair_ok ho).1
    rw [h4, Bool.true_and, Bool.true_and, decide_eq_true rfl, Bool.true_and]
    unfold eqList
    by_cases e : (pairM (sideM false 4 xs).size (sideM false 4 xs).parts (sideM true 4 xs).size (sideM true 4 xs).parts).parts = xs
    · rw [decide_eq_true e, e]; exact sameL_self xs
    · rw [decide_eq_false e]
      have hl := (massOk_facts (pair_ok ho).2).2.1
      have hl2 := (massOk_facts h).2.1
      rcases same_cases (pairM (sideM false 4 xs).size (sideM false 4 xs).parts (sideM true 4 xs).size (sideM true 4 xs).parts).parts xs 16 (by rw [hl, ns4]) with hh | ⟨k, hk, hh⟩
      · exact absurd (ext_nth _ _ (by omega) fun k hk => hh k (by rw [hl, ns4] at hk; exact hk)) e
      · exact sameL_bad (by rw [hl, ns4]; exact hk) hh
end Go.Proofs.Ytnbjhmghobljaaa
