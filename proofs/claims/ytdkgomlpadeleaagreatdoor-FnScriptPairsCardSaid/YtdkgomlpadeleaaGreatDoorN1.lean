/- Plain: masses by their sums over weights, up to a factor; pairs, sides, rules. No program in sight. -/
import Derived.Test.YtdkgomlpadeleaaGreatDoorM2
import Derived.Test.YtdkgomlpadeleaaGreatDoorS10
import Derived.Test.YtdkgomlpadeleaaGreatDoorD4
import Derived.Test.YtdkgomlpadeleaaGreatDoorE3
set_option linter.unusedSimpArgs false
set_option linter.unusedVariables false
namespace Go.Proofs.YtdkgomlpadeleaaGreatDoor
open Go.RowKit
/-- the sums of the parts over all weights are F, up to a factor -/
structure Pr (N : Nat) (xs : List Int) (F : (Nat → Int) → Int) : Prop where
  len : xs.length = N
  nn : ∀ j, j < N → 0 ≤ nth xs j
  pr : ∃ e : Int, 0 < e ∧ ∀ g, e * dot g xs N = F g
theorem Pr.self {N : Nat} {xs : List Int} (hl : xs.length = N) (h0 : ∀ j, j < N → 0 ≤ nth xs j) : Pr N xs (fun g => dot g xs N) := ⟨hl, h0, 1, by omega, fun g => by omega⟩
theorem Pr.of_mass {s : Int} {N : Nat} {xs : List Int} (h : massOk s xs = true) (hN : nsets s = N) : Pr N xs (fun g => dot g xs N) := by
  obtain ⟨_, h1, _, h2, _⟩ := massOk_facts h
  exact Pr.self (by omega) fun j hj => (h2 j (by omega)).1
theorem dot_nonneg (g : Nat → Int) (xs : List Int) (n : Nat) (hg : ∀ j, j < n → 0 ≤ g j) (hx : ∀ j, j < n → 0 ≤ nth xs j) : 0 ≤ dot g xs n := by
  induction n with
  | zero => exact Int.le_refl _
  | succ n ih =>
    rw [dot_succ]
    have h1 := ih (fun j hj => hg j (by omega)) (fun j hj => hx j (by omega))
    have h2 := Int.mul_nonneg (hg n (by omega)) (hx n (by omega))
    omega
theorem at1_nonneg (j i : Nat) : 0 ≤ at1 j i := by unfold at1; split <;> omega
theorem Pr.map {N M : Nat} {xs : List Int} {F : (Nat → Int) → Int} {T : Nat → Nat} (h : Pr N xs F) (hT : ∀ a, a < N → T a < M) : Pr M (mapTo T xs M N) (fun g => F (fun a => g (T a))) := by
  obtain ⟨hl, h0, e, he, hd⟩ := h
  refine ⟨mapTo_len _ _ _ _, fun j hj => ?_, e, he, fun g => ?_⟩
  · have h1 := dot_mapTo (at1 j) T xs M N hT
    rw [dot_at1, if_pos hj] at h1
    rw [h1]
    exact dot_nonneg _ _ _ (fun a _ => at1_nonneg _ _) h0
  · rw [dot_mapTo g T xs M N hT]; exact hd _
theorem Pr.tog {N : Nat} {xs ys : List Int} {F G : (Nat → Int) → Int} {T : Nat → Nat → Nat} (hx : Pr N xs F) (hy : Pr N ys G) (hT : ∀ a b, a < N → b < N → T a b < N) :
    Pr N (togTo T xs ys N N N) (fun g => F (fun a => G (fun b => g (T a b)))) := by
  obtain ⟨hl, h0, e, he, hd⟩ := hx
  obtain ⟨hl2, h02, e2, he2, hd2⟩ := hy
  refine ⟨(dot_togTo (fun _ => 0) T xs ys N N N hT).2, fun j hj => ?_, e * e2, Int.mul_pos he he2, fun g => ?_⟩
  · have h1 := (dot_togTo (at1 j) T xs ys N N N hT).1
    rw [dot_at1, if_pos hj] at h1
    rw [h1]
    exact dot_nonneg _ _ _ (fun a _ => dot_nonneg _ _ _ (fun b _ => at1_nonneg _ _) h02) h0
  · rw [(dot_togTo g T xs ys N N N hT).1, ← hd, Int.mul_assoc, ← dot_lin]
    congr 1
    exact dot_congr xs N fun a _ => by rw [hd2]
theorem Pr.eq {N : Nat} {xs : List Int} {F G : (Nat → Int) → Int} (h : Pr N xs F) (e : ∀ g, F g = G g) : Pr N xs G := by
  obtain ⟨h1, h2, c, hc, hd⟩ := h
  exact ⟨h1, h2, c, hc, fun g => by rw [hd, e]⟩
theorem Pr.mass {s : Int} {N : Nat} {xs : List Int} {F : (Nat → Int) → Int} (h : Pr N xs F) (ho : (mkMass s xs).ok = true) : Pr N (mkMass s xs).parts F ∧ (mkMass s xs).size = s ∧ massOk s (mkMass s xs).parts = true := by
  obtain ⟨hl, h0, e, he, hd⟩ := h
  obtain ⟨g1, g2, g3, g4, g5⟩ := mkMass_parts ho
  obtain ⟨k1, k2, _, k3, _⟩ := massOk_facts g4
  refine ⟨⟨by omega, fun j hj => (k3 j (by omega)).1, e * gcdL xs, Int.mul_pos he (by omega), fun g => ?_⟩, g2, g4⟩
  have := g5 g
  rw [hl] at this
  rw [Int.mul_assoc, this]; exact hd g
/-- the same proportions: the same mass -/
theorem Pr.same {s : Int} {N : Nat} {xs ys : List Int} {F : (Nat → Int) → Int} (h : Pr N xs F) (k : Pr N ys F) : mkMass s xs = mkMass s ys := by
  obtain ⟨hl, _, e, he, hd⟩ := h
  obtain ⟨hl2, _, e2, he2, hd2⟩ := k
  exact mkMass_dot s xs ys N e e2 he he2 hl hl2 fun g => by rw [hd, hd2]
theorem isum_of_len {xs : List Int} {N : Nat} (hl : xs.length = N) : isum xs = dot (fun _ => 1) xs N := by rw [isum_dot, hl]
/-- made of parts that are not negative, with a sum from 1 to a million: there is such a mass -/
theorem made_ok {s : Int} {xs : List Int} {N : Nat} (hs : okSize s = true) (hN : nsets s = N) (hl : xs.length = N) (h0 : ∀ j, j < N → 0 ≤ nth xs j) (h1 : 1 ≤ dot (fun _ => 1) xs N) (h2 : dot (fun _ => 1) xs N ≤ 1000000) : (mkMass s xs).ok = true := by
  have e := isum_of_len hl
  exact (mkMass_valid hs (by omega) (fun j hj => h0 j (by omega)) (by omega) (by omega)).1
def refT (second : Bool) (a : Nat) : Nat := refTo a (sideL second) 4
def imgT (second : Bool) (a : Nat) : Nat := imgTo a (sideL second) 4
theorem refT_lt (second : Bool) : ∀ a, a < 4 → refT second a < 16 := by cases second <;> decide
theorem imgT_lt (second : Bool) : ∀ a, a < 16 → imgT second a < 4 := by cases second <;> decide
theorem okS2 : okSize 2 = true := by decide
theorem okS4 : okSize 4 = true := by decide
theorem ns2 : nsets 2 = 4 := by decide
theorem ns4 : nsets 4 = 16 := by decide
theorem side_len (second : Bool) : (sideL second).length = 4 := by cases second <;> rfl
theorem ans42 (second : Bool) : answersOk (sideL second) 4 2 = true := by cases second <;> decide
theorem extend_eq {second : Bool} {xs : List Int} (h : massOk 2 xs = true) : extendM second 2 xs = mkMass 4 (mapTo (refT second) xs 16 4) := by
  have hl := (massOk_facts h).2.1
  unfold extendM
  rw [h]
  show refineM 2 xs (sideL second) 4 = _
  unfold refineM
  have e : refT second = fun a => refTo a (sideL second) 4 := rfl
  rw [h, okS4, ans42, side_len, ns4, hl, ns2, e]
  simp only [Bool.and_self, if_true]
theorem extend_bad {second : Bool} {s : Int} {xs : List Int} (h : (massOk s xs && (s == 2)) = false) : extendM second s xs = MR.no := by
  unfold extendM; rw [h]; rfl
theorem side_eq {second : Bool} {xs : List Int} (h : massOk 4 xs = true) : sideM second 4 xs = mkMass 2 (mapTo (imgT second) xs 4 16) := by
  have hl := (massOk_facts h).2.1
  unfold sideM
  rw [h]
  show coarseM 4 xs (sideL second) 2 = _
  unfold coarseM
  have e : imgT second = fun a => imgTo a (sideL second) 4 := rfl
  rw [h, okS2, ans42, side_len, ns2, hl, ns4, e]
  simp only [Bool.and_self, if_true]
theorem conj_eq {s : Int} {N : Nat} {xs ys : List Int} (hN : nsets s = N) (hx : massOk s xs = true) (hy : massOk s ys = true) : togM (fun a b => a &&& b) s xs s ys = mkMass s (togTo (fun a b => a &&& b) xs ys N N N) := by
  have h1 := (massOk_facts hx).2.1
  have h2 := (massOk_facts hy).2.1
  unfold togM oneQ
  rw [hx, hy, h1, h2, hN]
  simp
theorem mass_sum {s : Int} {N : Nat} {xs : List Int} (h : massOk s xs = true) (hN : nsets s = N) : 1 ≤ dot (fun _ => 1) xs N ∧ dot (fun _ => 1) xs N ≤ 1000000 := by
  obtain ⟨_, h1, _, _, h3, h4, _⟩ := massOk_facts h
  have := isum_of_len (xs := xs) (N := N) (by omega)
  omega
theorem and_lt4 : ∀ a b, a < 4 → b < 4 → a &&& b < 4 := fun a b h1 h2 => Nat.lt_of_le_of_lt Nat.and_le_left h1
theorem and_lt16 : ∀ a b, a < 16 → b < 16 → a &&& b < 16 := fun a b h1 h2 => Nat.lt_of_le_of_lt Nat.and_le_left h1
/-- extended: there is such a mass, and its sums -/
theorem extend_pr (second : Bool) {xs : List Int} (h : massOk 2 xs = true) : (extendM second 2 xs).ok = true ∧ (extendM second 2 xs).size = 4 ∧ massOk 4 (extendM second 2 xs).parts = true ∧ Pr 16 (extendM second 2 xs).parts (fun g => dot (fun a => g (refT second a)) xs 4) := by
  have hp := (Pr.of_mass h ns2).map (M := 16) (refT_lt second)
  have hs := mass_sum h ns2
  have ho : (mkMass 4 (mapTo (refT second) xs 16 4)).ok = true := made_ok okS4 ns4 hp.len hp.nn (by rw [dot_mapTo _ _ _ _ _ (refT_lt second)]; omega) (by rw [dot_mapTo _ _ _ _ _ (refT_lt second)]; omega)
  obtain ⟨h1, h2, h3⟩ := hp.mass ho
  rw [extend_eq h]
  exact ⟨ho, h2, h3, h1⟩
/-- a side: there is such a mass, and its sums -/
theorem side_pr (second : Bool) {xs : List Int} {F : (Nat → Int) → Int} (h : massOk 4 xs = true) (hF : Pr 16 xs F) : (sideM second 4 xs).ok = true ∧ (sideM second 4 xs).size = 2 ∧ massOk 2 (sideM second 4 xs).parts = true ∧ Pr 4 (sideM second 4 xs).parts (fun g => F (fun a => g (imgT second a))) := by
  have hp := hF.map (M := 4) (imgT_lt second)
  have hs := mass_sum h ns4
  have ho : (mkMass 2 (mapTo (imgT second) xs 4 16)).ok = true := made_ok okS2 ns2 hp.len hp.nn (by rw [dot_mapTo _ _ _ _ _ (imgT_lt second)]; omega) (by rw [dot_mapTo _ _ _ _ _ (imgT_lt second)]; omega)
  obtain ⟨h1, h2, h3⟩ := hp.mass ho
  rw [side_eq h]
  exact ⟨ho, h2, h3, h1⟩
/-- swapped: its sums, and that it is made of its parts -/
def swT (a : Nat) : Nat := imgTo a [0, 2, 1, 3] 4
theorem swT_inj : ∀ a, a < 16 → ∀ b, b < 16 → swT a = swT b → a = b := by decide
theorem swT_lt : ∀ a, a < 16 → swT a < 16 := by decide
theorem swap_eq {xs : List Int} (h : massOk 4 xs = true) : swapM 4 xs = mkMass 4 (mapTo swT xs 16 16) := by
  have hl := (massOk_facts h).2.1
  have hp := (Pr.of_mass h ns4).map (M := 16) swT_lt
  have hs := mass_sum h ns4
  have ho : (mkMass 4 (mapTo swT xs 16 16)).ok = true := made_ok okS4 ns4 hp.len hp.nn (by rw [dot_mapTo _ _ _ _ _ swT_lt]; omega) (by rw [dot_mapTo _ _ _ _ _ swT_lt]; omega)
  have hg : gcdL (mapTo swT xs 16 16) = 1 := by
    have h1 : gcdL xs = 1 := (massOk_facts h).2.2.2.2.2.2
    have h2 : gcdL (mapTo swT xs 16 16) ∣ gcdL xs := by
      refine gcdTo_greatest xs _ xs.length fun j hj => ?_
      rw [hl, ns4] at hj
      have h3 := mapTo_nth swT xs 16 16 swT_lt (fun a b h1 h2 => swT_inj a h1 b h2) 16 (Nat.le_refl _) j hj
      rw [if_pos hj] at h3
      rw [← h3]
      exact gcdTo_dvd _ _ _ (by rw [mapTo_len]; exact swT_lt j hj)
    rw [h1] at h2
    have h4 : 0 ≤ gcdL (mapTo swT xs 16 16) := gcdTo_nonneg _ _
    have h5 := Int.le_of_dvd (by omega) h2
    have h6 : gcdL (mapTo swT xs 16 16) ≠ 0 := by
      intro h0; rw [h0] at h2; obtain ⟨q, hq⟩ := h2; simp at hq
    omega
  have e : swapM 4 xs = ⟨4, mapTo swT xs 16 16, true⟩ := by
    unfold swapM
    rw [h]
    show moveM 4 xs [0, 2, 1, 3] = _
    unfold moveM
    have e : swT = fun a => imgTo a [0, 2, 1, 3] 4 := rfl
    rw [h, show ordS 4 [0, 2, 1, 3] = true by decide, ns4, hl, ns4, e]
    simp only [Bool.and_self, if_true, List.length_cons, List.length_nil, Nat.reduceAdd]
  rw [e]
  unfold mkMass at ho ⊢
  rw [hg] at ho ⊢
  rw [if_neg (by omega)] at ho ⊢
  have hm : (mapTo swT xs 16 16).map (· / (1 : Int)) = mapTo swT xs 16 16 := by
    conv => rhs; rw [← List.map_id (mapTo swT xs 16 16)]
    exact List.map_congr_left fun x _ => Int.ediv_one x
  rw [hm] at ho ⊢
  split at ho
  · rename_i h7; rw [if_pos h7]
  · cases ho
theorem dot_simple (g : Nat → Int) (N a : Nat) (num den : Int) (ha : a < N) : dot g (simpleParts N a num den) N = g a * num + g (N - 1) * (den - num) := by
  unfold simpleParts
  rw [dot_set _ _ _ _ _ (by omega) (by simp), dot_set _ _ _ _ _ ha (by simp), dot_zero, nth_replicate]
  have h1 : num - 0 = num := by omega
  rw [h1]
  generalize nth ((List.replicate N (0 : Int)).set a num) (N - 1) = q
  have h2 : q + (den - num) - q = den - num := by omega
  rw [h2]; omega
theorem Pr.simple (N T a : Nat) (num den : Int) (hN : N = T + 1) (ha : a < N) (h0 : 0 ≤ num) (h1 : num ≤ den) : Pr N (simpleParts N a num den) (fun g => g a * num + g T * (den - num)) := by
  obtain rfl : T = N - 1 := by omega
  refine ⟨simpleParts_len _ _ _ _, fun j hj => ?_, 1, by omega, fun g => ?_⟩
  · rw [simpleParts_nth _ _ _ _ _ hj]; split <;> split <;> omega
  · rw [dot_simple g N a num den ha]; omega
theorem Pr.sure (s : Int) (N a : Nat) (hN : nsets s = N) (ha : a < N) : Pr N (sureP s a) (fun g => g a) := by
  subst hN
  refine ⟨sureP_len _ _, fun j hj => ?_, 1, by omega, fun g => ?_⟩
  · rw [sureP_nth _ _ _ hj]; split <;> omega
  · rw [sureP_dot _ _ _ ha]; omega
theorem rule_xy {x y nu de : Int} (h : (ruleM x y nu de).ok = true) : (x = 0 ∨ x = 1) ∧ (y = 0 ∨ y = 1) := by
  unfold ruleM at h
  cases h1 : inB 0 1 x
  · rw [h1] at h; cases h
  · cases h2 : inB 0 1 y
    · rw [h1, h2] at h; cases h
    · exact ⟨inB01 h1, inB01 h2⟩
/-- what a rule that is one says -/
theorem rule_ok {A : Nat} {nu de : Int} (hA : A < 15) (h : (simpleM 4 A nu de).ok = true) : shareOk nu de = true ∧ 0 ≤ nu ∧ nu ≤ de ∧ 1 ≤ de ∧ de ≤ 1000000 ∧ (simpleM 4 A nu de).size = 4 ∧ massOk 4 (simpleM 4 A nu de).parts = true ∧ Pr 16 (simpleM 4 A nu de).parts (fun g => g A * nu + g 15 * (de - nu)) := by
  have hse : setOk 4 (A : Int) = true := by
    unfold setOk; rw [okS4, ns4]; show inB 0 (((16 : Nat) : Int) - 1) (A : Int) = true; exact inB_iff.2 (by omega)
  cases hsh : shareOk nu de
  · unfold simpleM at h; rw [hsh, Bool.and_false] at h; cases h
  · have hbd := shareOk_bd hsh
    have e : simpleM 4 (A : Int) nu de = mkMass 4 (simpleParts 16 A nu de) := by
      unfold simpleM; rw [hse, hsh, ns4]; rfl
    rw [e] at h ⊢
    have hp := Pr.simple 16 15 A nu de rfl (by omega) hbd.1 hbd.2.1
    obtain ⟨h1, h2, h3⟩ := hp.mass h
    have hg : gcdL (simpleParts 16 A nu de) = 1 := by
      have d1 := gcdTo_dvd (simpleParts 16 A nu de) (simpleParts 16 A nu de).length A (by rw [simpleParts_len]; omega)
      have d2 := gcdTo_dvd (simpleParts 16 A nu de) (simpleParts 16 A nu de).length 15 (by rw [simpleParts_len]; omega)
      rw [simpleParts_nth _ _ _ _ _ (by omega), if_pos rfl, if_neg (by omega), Int.add_zero] at d1
      rw [simpleParts_nth _ _ _ _ _ (by omega), if_neg (by omega), if_pos rfl, Int.zero_add] at d2
      have d3 : gcdTo (simpleParts 16 A nu de) (simpleParts 16 A nu de).length ∣ de := by
        have := Int.dvd_add d1 d2
        rwa [show nu + (de - nu) = de by omega] at this
      have d4 : gcdTo (simpleParts 16 A nu de) (simpleParts 16 A nu de).length ∣ (Int.gcd nu de : Int) := Int.dvd_coe_gcd d1 d3
      have hg1 : Int.gcd nu de = 1 := by
        simp only [shareOk, fracOk, Bool.and_eq_true, beq_iff_eq] at hsh; exact_mod_cast hsh.1.2
      rw [hg1] at d4
      have d5 : 0 ≤ gcdL (simpleParts 16 A nu de) := gcdTo_nonneg _ _
      have d6 := Int.le_of_dvd (by decide) d4
      have d7 := (mkMass_parts h).1
      have d8 : gcdL (simpleParts 16 A nu de) = gcdTo (simpleParts 16 A nu de) (simpleParts 16 A nu de).length := rfl
      have d9 : ((1 : Nat) : Int) = 1 := rfl
      omega
    have hsum : dot (fun _ => 1) (mkMass 4 (simpleParts 16 A nu de)).parts 16 = de := by
      have := (mkMass_parts h).2.2.2.2 (fun _ => 1)
      rw [hg, simpleParts_len, dot_simple _ _ _ _ _ (by omega)] at this
      omega
    have := mass_sum h3 ns4
    exact ⟨rfl, hbd.1, hbd.2.1, hbd.2.2.1, by omega, h2, h3, h1⟩
theorem simple2_eq {t : Nat} {nu de : Int} (ht : t < 4) (h : shareOk nu de = true) : simpleM 2 t nu de = mkMass 2 (simpleParts 4 t nu de) := by
  have hse : setOk 2 (t : Int) = true := by unfold setOk; rw [okS2, ns2]; show inB 0 (((4 : Nat) : Int) - 1) (t : Int) = true; exact inB_iff.2 (by omega)
  unfold simpleM; rw [hse, h, ns2]; rfl
theorem simple4_eq {t : Nat} {nu de : Int} (ht : t < 16) (h : shareOk nu de = true) : simpleM 4 t nu de = mkMass 4 (simpleParts 16 t nu de) := by
  have hse : setOk 4 (t : Int) = true := by unfold setOk; rw [okS4, ns4]; show inB 0 (((16 : Nat) : Int) - 1) (t : Int) = true; exact inB_iff.2 (by omega)
  unfold simpleM; rw [hse, h, ns4]; rfl
theorem sure2 (a : Nat) (ha : a < 4) : sureM 2 a = ⟨2, sureP 2 a, true⟩ := by
  have hse : setOk 2 (a : Int) = true := by unfold setOk; rw [okS2, ns2]; show inB 0 (((4 : Nat) : Int) - 1) (a : Int) = true; exact inB_iff.2 (by omega)
  unfold sureM; rw [hse]; rfl
/-- what a mass of pairs passes on from one that is sure -/
theorem pass_sure {a : Nat} {ps : List Int} {F : (Nat → Int) → Int} (ha : a < 4) (h : massOk 4 ps = true) (hF : Pr 16 ps F) :
    passM 2 (sureP 2 a) 4 ps = mkMass 2 (passM 2 (sureP 2 a) 4 ps).parts ∧ (passM 2 (sureP 2 a) 4 ps).ok = true ∧ Pr 4 (passM 2 (sureP 2 a) 4 ps).parts (fun g => F (fun b => g (imgT true (refT false a &&& b)))) := by
  have hm2 : massOk 2 (sureP 2 a) = true := sure_ok okS2 (by rw [ns2]; exact ha)
  obtain ⟨e1, e2, e3, e4⟩ := extend_pr false hm2
  have e5 : Pr 16 (extendM false 2 (sureP 2 a)).parts (fun g => g (refT false a)) := e4.eq fun g => by
    have := sureP_dot (fun a => g (refT false a)) 2 a (by rw [ns2]; exact ha)
    rwa [ns2] at this
  have hc := conj_eq ns4 e3 h
  have hp := e5.tog hF and_lt16
  have hsum : dot (fun _ => 1) (togTo (fun a b => a &&& b) (extendM false 2 (sureP 2 a)).parts ps 16 16 16) 16 = dot (fun _ => 1) ps 16 := by
    rw [(dot_togTo _ _ _ _ 16 16 16 and_lt16).1]
    have h1 : dot (fun _ => 1) (extendM false 2 (sureP 2 a)).parts 16 = 1 := by
      rw [extend_eq hm2] at e1 ⊢
      have h5 := (mkMass_parts e1).2.2.2.2 (fun _ => 1)
      rw [mapTo_len, dot_mapTo _ _ _ _ _ (refT_lt false)] at h5
      have h6 := sureP_dot (fun _ => 1) 2 a (by rw [ns2]; exact ha)
      rw [ns2] at h6
      rw [h6] at h5
      have h7 := (mkMass_parts e1).1
      have h8 : gcdL (mapTo (refT false) (sureP 2 a) 16 4) ∣ 1 := ⟨_, h5.symm⟩
      have h9 := Int.le_of_dvd (by decide) h8
      have h10 : gcdL (mapTo (refT false) (sureP 2 a) 16 4) = 1 := by omega
      rw [h10] at h5; omega
    have h2 : dot (fun _ => dot (fun _ => 1) ps 16) (extendM false 2 (sureP 2 a)).parts 16 = dot (fun _ => 1) ps 16 * dot (fun _ => 1) (extendM false 2 (sureP 2 a)).parts 16 := by
      rw [← dot_lin]
      exact dot_congr _ _ fun j _ => by rw [Int.mul_one]
    rw [h2, h1, Int.mul_one]
  have hs := mass_sum h ns4
  have ho : (mkMass 4 (togTo (fun a b => a &&& b) (extendM false 2 (sureP 2 a)).parts ps 16 16 16)).ok = true := made_ok okS4 ns4 hp.len hp.nn (by omega) (by omega)
  obtain ⟨p1, p2, p3⟩ := hp.mass ho
  have hpass : passM 2 (sureP 2 a) 4 ps = sideM true 4 (mkMass 4 (togTo (fun a b => a &&& b) (extendM false 2 (sureP 2 a)).parts ps 16 16 16)).parts := by
    unfold passM
    rw [if_pos e1, e2, hc, if_pos ho, p2]
  obtain ⟨s1, s2, s3, s4⟩ := side_pr true p3 p1
  rw [hpass]
  refine ⟨?_, s1, s4⟩
  have := mkMass_self s3
  rw [this]
  cases hh : sideM true 4 (mkMass 4 (togTo (fun a b => a &&& b) (extendM false 2 (sureP 2 a)).parts ps 16 16 16)).parts with
  | mk a b c => rw [hh] at s1 s2; simp only at s1 s2; rw [s1, s2]
/-- a rule: what it passes on, and that swapped it is the other rule -/
theorem same4 {xs : List Int} {A2 : Nat} {nu de : Int} (q : Pr 16 xs (fun g => g A2 * nu + g 15 * (de - nu))) (hA : A2 < 15) (hsh : shareOk nu de = true) (h0 : 0 ≤ nu) (h1 : nu ≤ de) : mkMass 4 xs = simpleM 4 A2 nu de := by
  rw [simple4_eq (by omega) hsh]
  exact q.same (Pr.simple 16 15 A2 nu de rfl (by omega) h0 h1)
set_option maxHeartbeats 1000000 in
theorem rule_gen {A A2 t sx so : Nat} {nu de : Int} (hA : A < 15) (hA2 : A2 < 15) (ht : t < 3) (hsx : sx < 4) (hso : so < 4)
    (f1 : imgT true (refT false sx &&& A) = t) (f2 : imgT true (refT false sx &&& 15) = 3) (f3 : imgT true (refT false so &&& A) = 3) (f4 : imgT true (refT false so &&& 15) = 3) (f5 : swT A = A2) (f6 : swT 15 = 15)
    (h : (simpleM 4 A nu de).ok = true) :
    (passM 2 (sureP 2 sx) (simpleM 4 A nu de).size (simpleM 4 A nu de).parts = simpleM 2 t nu de ∧ (passM 2 (sureP 2 sx) (simpleM 4 A nu de).size (simpleM 4 A nu de).parts).ok = true) ∧
    (passM 2 (sureP 2 so) (simpleM 4 A nu de).size (simpleM 4 A nu de).parts = sureM 2 3 ∧ (passM 2 (sureP 2 so) (simpleM 4 A nu de).size (simpleM 4 A nu de).parts).ok = true) ∧
    (swapM (simpleM 4 A nu de).size (simpleM 4 A nu de).parts = simpleM 4 A2 nu de ∧ (simpleM 4 A2 nu de).ok = true) := by
  obtain ⟨hsh, h0, h1, h2, h3, e1, e2, e3⟩ := rule_ok hA h
  rw [e1]
  obtain ⟨a1, a2, a3⟩ := pass_sure hsx e2 e3
  obtain ⟨b1, b2, b3⟩ := pass_sure hso e2 e3
  refine ⟨⟨?_, a2⟩, ⟨?_, b2⟩, ?_⟩
  · rw [a1, simple2_eq (by omega) hsh]
    have q : Pr 4 (passM 2 (sureP 2 sx) 4 (simpleM 4 A nu de).parts).parts (fun g => g t * nu + g 3 * (de - nu)) := a3.eq fun g => by
      show g (imgT true (refT false sx &&& A)) * nu + g (imgT true (refT false sx &&& 15)) * (de - nu) = _
      rw [f1, f2]
    exact q.same (Pr.simple 4 3 t nu de rfl (by omega) h0 h1)
  · have h5 : sureM 2 3 = mkMass 2 (sureP 2 3) := by
      rw [show sureM 2 3 = ⟨2, sureP 2 3, true⟩ from sure2 3 (by omega)]
      exact (mkMass_self (sure_ok okS2 (by rw [ns2]; omega))).symm
    rw [b1, h5]
    obtain ⟨l1, l2, e, he, hd⟩ := b3
    obtain ⟨m1, m2, e', he', hd'⟩ := Pr.sure 2 4 3 ns2 (by omega)
    refine mkMass_dot 2 _ _ 4 e (e' * de) he (Int.mul_pos he' (by omega)) l1 m1 fun g => ?_
    rw [hd, Int.mul_right_comm, hd']
    show g (imgT true (refT false so &&& A)) * nu + g (imgT true (refT false so &&& 15)) * (de - nu) = g 3 * de
    rw [f3, f4, ← Int.mul_add]
    congr 1; omega
  · rw [swap_eq e2]
    have h6 : mkMass 4 (mapTo swT (simpleM 4 A nu de).parts 16 16) = simpleM 4 A2 nu de := by
      have q : Pr 16 (mapTo swT (simpleM 4 A nu de).parts 16 16) (fun g => g A2 * nu + g 15 * (de - nu)) := (e3.map (M := 16) swT_lt).eq fun g => by
        show g (swT A) * nu + g (swT 15) * (de - nu) = _
        rw [f5, f6]
      exact same4 q hA2 hsh h0 h1
    refine ⟨h6, ?_⟩
    rw [← h6]
    have hp := (Pr.of_mass e2 ns4).map (M := 16) swT_lt
    have hs := mass_sum e2 ns4
    exact made_ok okS4 ns4 hp.len hp.nn (by rw [dot_mapTo _ _ _ _ _ swT_lt]; omega) (by rw [dot_mapTo _ _ _ _ _ swT_lt]; omega)
end Go.Proofs.YtdkgomlpadeleaaGreatDoor
