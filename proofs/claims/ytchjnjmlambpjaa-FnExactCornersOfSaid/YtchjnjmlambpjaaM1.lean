/- Plain facts on masses made of parts, and on the chance of an order; no program in sight. -/
import Derived.Test.YtchjnjmlambpjaaM0
import Derived.Test.YtchjnjmlambpjaaW13
set_option linter.unusedSimpArgs false
set_option linter.unusedVariables false
namespace Go.Proofs.Ytchjnjmlambpjaa
open Go.RowKit
theorem gcdTo_zero_iff (xs : List Int) (k : Nat) : gcdTo xs k = 0 ↔ ∀ j, j < k → nth xs j = 0 := by
  induction k with
  | zero => exact ⟨fun _ j hj => by omega, fun _ => rfl⟩
  | succ k ih =>
    rw [gcdTo_succ]
    constructor
    · intro h
      have h1 : Int.gcd (gcdTo xs k) (nth xs k) = 0 := by omega
      obtain ⟨h2, h3⟩ := Int.gcd_eq_zero_iff.1 h1
      intro j hj
      by_cases e : j = k
      · rw [e]; exact h3
      · exact ih.1 h2 j (by omega)
    · intro h
      rw [ih.2 fun j hj => h j (by omega), h k (by omega)]; rfl
theorem gcdTo_greatest (xs : List Int) (c : Int) (k : Nat) (h : ∀ j, j < k → c ∣ nth xs j) : c ∣ gcdTo xs k := by
  induction k with
  | zero => exact Int.dvd_zero c
  | succ k ih => rw [gcdTo_succ]; exact Int.dvd_coe_gcd (ih fun j hj => h j (by omega)) (h k (by omega))
/-- divided by what divides all, nothing divides all -/
theorem gcdL_div (xs : List Int) (h0 : gcdL xs ≠ 0) : gcdL (xs.map (· / gcdL xs)) = 1 := by
  have hg0 : 0 ≤ gcdL xs := gcdTo_nonneg _ _
  have hd : ∀ j, j < xs.length → gcdL xs ∣ nth xs j := gcdTo_dvd xs xs.length
  obtain ⟨g, hg⟩ : ∃ g, gcdL xs = g := ⟨_, rfl⟩
  obtain ⟨c, hc⟩ : ∃ c, gcdL (xs.map (· / gcdL xs)) = c := ⟨_, rfl⟩
  have hc0 : 0 ≤ c := by rw [← hc]; exact gcdTo_nonneg _ _
  have hcd : ∀ j, j < xs.length → c ∣ nth xs j / g := fun j hj => by
    have := gcdTo_dvd (xs.map (· / gcdL xs)) (xs.map (· / gcdL xs)).length j (by simpa using hj)
    rw [nth_map _ _ _ hj] at this
    rw [← hc, ← hg]; exact this
  have h1 : g * c ∣ g := by
    have : g * c ∣ gcdL xs := gcdTo_greatest xs (g * c) xs.length fun j hj => by
      obtain ⟨q, hq⟩ := hcd j hj
      have hgj := hd j hj
      rw [hg] at hgj
      have h2 : g * (nth xs j / g) = nth xs j := Int.mul_ediv_cancel' hgj
      exact ⟨q, by rw [← h2, hq]; ac_rfl⟩
    rwa [hg] at this
  have hgp : 0 < g := by omega
  have h2 : g * c ≤ g := Int.le_of_dvd hgp h1
  have h3 : c ≠ 0 := by
    rintro rfl
    obtain ⟨q, hq⟩ := h1
    simp at hq; omega
  have h4 : c ≤ 1 := by
    have : g * c ≤ g * 1 := by rw [Int.mul_one]; exact h2
    exact Int.le_of_mul_le_mul_left this hgp
  rw [hc]; omega
theorem isum_dot (xs : List Int) : isum xs = dot (fun _ => 1) xs xs.length := (dot_one xs xs.length).symm
theorem part_le_isum (xs : List Int) (n : Nat) (h : ∀ j, j < n → 0 ≤ nth xs j) (j : Nat) (hj : j < n) : nth xs j ≤ isumTo xs n := by
  induction n with
  | zero => omega
  | succ n ih =>
    have h1 : 0 ≤ isumTo xs n := by
      clear ih hj
      have : ∀ m, m ≤ n → 0 ≤ isumTo xs m := fun m => by
        induction m with
        | zero => intro _; exact Int.le_refl _
        | succ m im => intro hm; rw [isumTo_succ]; have := im (by omega); have := h m (by omega); omega
      exact this n (Nat.le_refl _)
    rw [isumTo_succ]
    by_cases e : j = n
    · rw [e]; omega
    · have := ih (fun j hj => h j (by omega)) (by omega)
      have := h n (by omega)
      omega
/-- parts that are not negative, some of them, and at most a million together, make a mass -/
theorem mkMass_valid {s : Int} {xs : List Int} (hs : okSize s = true) (hl : xs.length = nsets s) (h0 : ∀ j, j < xs.length → 0 ≤ nth xs j) (h1 : 1 ≤ isum xs) (h2 : isum xs ≤ 1000000) :
    (mkMass s xs).ok = true ∧ gcdL xs ≠ 0 ∧ 1 ≤ gcdL xs ∧ (mkMass s xs).size = s ∧ (mkMass s xs).parts = xs.map (· / gcdL xs) ∧ massOk s (mkMass s xs).parts = true := by
  have hg : gcdL xs ≠ 0 := by
    intro h
    have hz := (gcdTo_zero_iff xs xs.length).1 h
    have : isum xs = 0 := by
      have : ∀ m, m ≤ xs.length → isumTo xs m = 0 := fun m => by
        induction m with
        | zero => intro _; rfl
        | succ m im => intro hm; rw [isumTo_succ, im (by omega), hz m (by omega)]; rfl
      exact this _ (Nat.le_refl _)
    omega
  have hg0 : 0 ≤ gcdL xs := gcdTo_nonneg _ _
  have hg1 : 1 ≤ gcdL xs := by omega
  have hd : ∀ j, j < xs.length → gcdL xs ∣ nth xs j := gcdTo_dvd xs xs.length
  have hsum : gcdL xs * isum (xs.map (· / gcdL xs)) = isum xs := by
    rw [isum_dot, isum_dot, List.length_map]
    exact dot_div _ _ _ _ (Nat.le_refl _) hd
  have hm : massOk s (xs.map (· / gcdL xs)) = true := by
    have hq : ∀ j, j < xs.length → 0 ≤ nth (xs.map (· / gcdL xs)) j ∧ nth (xs.map (· / gcdL xs)) j ≤ 1000000 := fun j hj => by
      rw [nth_map _ _ _ hj]
      have h3 := h0 j hj
      have h4 := part_le_isum xs xs.length h0 j hj
      have h5 : nth xs j / gcdL xs ≤ nth xs j := Int.ediv_le_self _ h3
      have h6 : 0 ≤ nth xs j / gcdL xs := Int.ediv_nonneg h3 hg0
      have : isumTo xs xs.length = isum xs := rfl
      omega
    have hs1 : 1 ≤ isum (xs.map (· / gcdL xs)) ∧ isum (xs.map (· / gcdL xs)) ≤ 1000000 := by
      have hpos : 0 < gcdL xs * isum (xs.map (· / gcdL xs)) := by rw [hsum]; omega
      have hp := Int.pos_of_mul_pos_right hpos (by omega)
      have hle : 1 * isum (xs.map (· / gcdL xs)) ≤ gcdL xs * isum (xs.map (· / gcdL xs)) := Int.mul_le_mul_of_nonneg_right hg1 (by omega)
      rw [hsum] at hle
      omega
    unfold massOk
    rw [hs, (allN_iff _ _).2 fun k hk => inB_iff.2 (hq k (by simpa using hk)), inB_iff.2 hs1, gcdL_div xs hg, List.length_map, hl]
    simp
  have he : mkMass s xs = ⟨s, xs.map (· / gcdL xs), true⟩ := by unfold mkMass; rw [if_neg hg, if_pos hm]
  rw [he]
  exact ⟨rfl, hg, hg1, rfl, rfl, hm⟩
/-- a mass is made of its own parts -/
theorem mkMass_self {s : Int} {xs : List Int} (h : massOk s xs = true) : mkMass s xs = ⟨s, xs, true⟩ := by
  have h1 := (massOk_facts' h).2.2.2.2.2.2
  unfold mkMass
  rw [if_neg (by omega), h1]
  have : xs.map (· / (1 : Int)) = xs := by
    conv => rhs; rw [← List.map_id xs]
    exact List.map_congr_left fun x _ => Int.ediv_one x
  rw [this, if_pos h]
/-- the set of the first answer of a set in an order -/
def firstBit : List Int → Nat → Nat
  | [], _ => 0
  | x :: t, a => if hasB a x.toNat then 2 ^ x.toNat else firstBit t a
theorem firstBit_zero (order : List Int) : firstBit order 0 = 0 := by
  induction order with
  | nil => rfl
  | cons x t ih => show (if hasB 0 x.toNat then _ else _) = 0; unfold hasB; rw [Nat.zero_testBit]; exact ih
theorem firstBit_some (order : List Int) (a : Nat) (h : ∃ x, x ∈ order ∧ hasB a x.toNat = true) : ∃ x, x ∈ order ∧ hasB a x.toNat = true ∧ firstBit order a = 2 ^ x.toNat := by
  induction order with
  | nil => obtain ⟨x, hx, _⟩ := h; cases hx
  | cons y t ih =>
    show ∃ x, x ∈ y :: t ∧ hasB a x.toNat = true ∧ (if hasB a y.toNat then 2 ^ y.toNat else firstBit t a) = 2 ^ x.toNat
    cases hy : hasB a y.toNat
    · obtain ⟨x, hx, hb⟩ := h
      have hxt : x ∈ t := by
        rcases List.mem_cons.1 hx with e | e
        · rw [e] at hb; rw [hb] at hy; cases hy
        · exact e
      obtain ⟨z, h1, h2, h3⟩ := ih ⟨x, hxt, hb⟩
      exact ⟨z, List.mem_cons_of_mem _ h1, h2, h3⟩
    · exact ⟨y, List.mem_cons_self, hy, rfl⟩
theorem firstBit_lt (order : List Int) (n a : Nat) (h : ∀ x, x ∈ order → 0 ≤ x ∧ x < n) : firstBit order a < 2 ^ n := by
  induction order with
  | nil => exact Nat.two_pow_pos n
  | cons y t ih =>
    show (if hasB a y.toNat then 2 ^ y.toNat else firstBit t a) < 2 ^ n
    split
    · have := h y List.mem_cons_self
      exact Nat.pow_lt_pow_right (by decide) (by omega)
    · exact ih fun x hx => h x (List.mem_cons_of_mem _ hx)
/-- the parts of the chance of an order -/
def chP (order xs : List Int) (N : Nat) : List Int := mapTo (fun a => firstBit order a) xs N N
def chanceM (s : Int) (xs order : List Int) : MR := mkMass s (chP order xs xs.length)
end Go.Proofs.Ytchjnjmlambpjaa
