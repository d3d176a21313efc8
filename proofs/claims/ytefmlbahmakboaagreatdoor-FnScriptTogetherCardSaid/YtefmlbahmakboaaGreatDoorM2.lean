/- Plain facts: a mass that is made of parts depends on their proportions alone; sums over parts that were put together. No program in sight. -/
import Derived.Test.YtefmlbahmakboaaGreatDoorM1
import Derived.Test.YtefmlbahmakboaaGreatDoorS9
set_option linter.unusedSimpArgs false
set_option linter.unusedVariables false
namespace Go.Proofs.YtefmlbahmakboaaGreatDoor
open Go.RowKit
theorem gcdTo_scale (c : Int) (hc : 0 ≤ c) (xs : List Int) (k : Nat) (hk : k ≤ xs.length) : gcdTo (xs.map (c * ·)) k = c * gcdTo xs k := by
  induction k with
  | zero => simp [gcdTo, iter]
  | succ k ih =>
    rw [gcdTo_succ, gcdTo_succ, ih (by omega), nth_map _ _ _ (by omega), Int.gcd_mul_left]
    push_cast
    rw [Int.natAbs_of_nonneg hc]
theorem gcdL_scale (c : Int) (hc : 0 ≤ c) (xs : List Int) : gcdL (xs.map (c * ·)) = c * gcdL xs := by
  unfold gcdL; rw [List.length_map]; exact gcdTo_scale c hc xs _ (Nat.le_refl _)
theorem mkMass_scale (s : Int) (c : Int) (hc : 0 < c) (xs : List Int) : mkMass s (xs.map (c * ·)) = mkMass s xs := by
  have e := gcdL_scale c (by omega) xs
  unfold mkMass
  rw [e]
  by_cases h : gcdL xs = 0
  · rw [if_pos (by rw [h, Int.mul_zero]), if_pos h]
  · have h2 : ¬ c * gcdL xs = 0 := by
      intro h3; rcases Int.mul_eq_zero.1 h3 with h4 | h4 <;> omega
    have h5 : (xs.map (c * ·)).map (· / (c * gcdL xs)) = xs.map (· / gcdL xs) := by
      rw [List.map_map]
      exact List.map_congr_left fun x _ => Int.mul_ediv_mul_of_pos x (gcdL xs) hc
    rw [if_neg h2, if_neg h, h5]
/-- the same proportions make the same mass -/
theorem mkMass_prop (s : Int) (xs ys : List Int) (c d : Int) (hc : 0 < c) (hd : 0 < d) (hl : xs.length = ys.length) (h : ∀ k, k < xs.length → c * nth xs k = d * nth ys k) : mkMass s xs = mkMass s ys := by
  rw [← mkMass_scale s c hc xs, ← mkMass_scale s d hd ys]
  congr 1
  refine ext_nth _ _ (by simp [hl]) fun k hk => ?_
  rw [List.length_map] at hk
  rw [nth_map _ _ _ hk, nth_map _ _ _ (by omega)]
  exact h k hk
/-- weight 1 at one place -/
def at1 (j : Nat) : Nat → Int := fun i => if i = j then 1 else 0
theorem dot_at1 (xs : List Int) (j n : Nat) : dot (at1 j) xs n = if j < n then nth xs j else 0 := by
  induction n with
  | zero => rw [if_neg (by omega)]; rfl
  | succ n ih =>
    rw [dot_succ, ih]
    unfold at1
    by_cases e : n = j
    · subst e; rw [if_neg (by omega), if_pos rfl, if_pos (by omega)]; omega
    · rw [if_neg e]
      by_cases h : j < n
      · rw [if_pos h, if_pos (by omega)]; omega
      · rw [if_neg h, if_neg (by omega)]; omega
/-- the same sums for all weights, up to a factor: the same mass -/
theorem mkMass_dot (s : Int) (xs ys : List Int) (N : Nat) (c d : Int) (hc : 0 < c) (hd : 0 < d) (hx : xs.length = N) (hy : ys.length = N) (h : ∀ g, c * dot g xs N = d * dot g ys N) : mkMass s xs = mkMass s ys := by
  refine mkMass_prop s xs ys c d hc hd (by omega) fun k hk => ?_
  have := h (at1 k)
  rwa [dot_at1, dot_at1, if_pos (by omega), if_pos (by omega)] at this
theorem dot_ext (xs ys : List Int) (N : Nat) (hx : xs.length = N) (hy : ys.length = N) (h : ∀ g, dot g xs N = dot g ys N) : xs = ys := by
  refine ext_nth _ _ (by omega) fun k hk => ?_
  have := h (at1 k)
  rwa [dot_at1, dot_at1, if_pos (by omega), if_pos (by omega)] at this
/-- what a mass that was made has: its parts times the divisor are those that it was made of -/
theorem mkMass_parts {s : Int} {xs : List Int} (h : (mkMass s xs).ok = true) : 1 ≤ gcdL xs ∧ (mkMass s xs).size = s ∧ (mkMass s xs).parts.length = xs.length ∧ massOk s (mkMass s xs).parts = true ∧ ∀ g, gcdL xs * dot g (mkMass s xs).parts xs.length = dot g xs xs.length := by
  have hg0 : 0 ≤ gcdL xs := gcdTo_nonneg _ _
  unfold mkMass at h ⊢
  by_cases hg : gcdL xs = 0
  · rw [if_pos hg] at h; cases h
  · rw [if_neg hg] at h ⊢
    by_cases hm : massOk s (xs.map (· / gcdL xs)) = true
    · rw [if_pos hm]
      refine ⟨by omega, rfl, by simp, hm, fun g => ?_⟩
      exact dot_div g xs (gcdL xs) xs.length (Nat.le_refl _) (gcdTo_dvd xs xs.length)
    · rw [if_neg hm] at h; cases h
theorem mkMass_cases (s : Int) (xs : List Int) : (mkMass s xs).ok = true ∨ mkMass s xs = MR.no := by
  unfold mkMass
  by_cases hg : gcdL xs = 0
  · right; rw [if_pos hg]
  · rw [if_neg hg]
    by_cases hm : massOk s (xs.map (· / gcdL xs)) = true
    · left; rw [if_pos hm]
    · right; rw [if_neg hm]
theorem dot_togIn (g : Nat → Int) (T : Nat → Nat → Nat) (xs ys : List Int) (a N : Nat) (l : List Int) (hl : l.length = N) (j : Nat) (hT : ∀ b, b < j → T a b < N) :
    dot g (togIn T xs ys a l j) N = dot g l N + nth xs a * dot (fun b => g (T a b)) ys j ∧ (togIn T xs ys a l j).length = N := by
  induction j with
  | zero => refine ⟨?_, hl⟩; show dot g l N = dot g l N + nth xs a * 0; omega
  | succ j ih =>
    obtain ⟨h1, h2⟩ := ih fun b hb => hT b (by omega)
    have hr : togIn T xs ys a l (j + 1) = (togIn T xs ys a l j).set (T a j) (nth (togIn T xs ys a l j) (T a j) + nth xs a * nth ys j) := rfl
    rw [hr]
    refine ⟨?_, by rw [List.length_set]; exact h2⟩
    rw [dot_set _ _ _ _ _ (hT j (by omega)) (by omega), h1, dot_succ]
    have : nth (togIn T xs ys a l j) (T a j) + nth xs a * nth ys j - nth (togIn T xs ys a l j) (T a j) = nth xs a * nth ys j := by omega
    rw [this, Int.mul_add]
    have e : g (T a j) * (nth xs a * nth ys j) = nth xs a * (g (T a j) * nth ys j) := by ac_rfl
    omega
/-- products put together, summed -/
theorem dot_togTo (g : Nat → Int) (T : Nat → Nat → Nat) (xs ys : List Int) (N m k : Nat) (hT : ∀ a b, a < k → b < m → T a b < N) :
    dot g (togTo T xs ys N m k) N = dot (fun a => dot (fun b => g (T a b)) ys m) xs k ∧ (togTo T xs ys N m k).length = N := by
  induction k with
  | zero => exact ⟨dot_zero _ _ _, by simp [togTo, iter]⟩
  | succ k ih =>
    obtain ⟨h1, h2⟩ := ih fun a b ha hb => hT a b (by omega) hb
    have hr : togTo T xs ys N m (k + 1) = togIn T xs ys k (togTo T xs ys N m k) m := rfl
    obtain ⟨h3, h4⟩ := dot_togIn g T xs ys k N _ h2 m fun b hb => hT k b (by omega) hb
    rw [hr]
    refine ⟨?_, h4⟩
    rw [h3, h1, dot_succ]
    have e : nth xs k * dot (fun b => g (T k b)) ys m = dot (fun b => g (T k b)) ys m * nth xs k := Int.mul_comm _ _
    omega
/-- a sum of sums, the other way round -/
theorem dot_swap (f : Nat → Nat → Int) (xs ys : List Int) (m k : Nat) : dot (fun a => dot (fun b => f a b) ys m) xs k = dot (fun b => dot (fun a => f a b) xs k) ys m := by
  induction k with
  | zero =>
    show (0 : Int) = _
    have : ∀ m, dot (fun b => dot (fun a => f a b) xs 0) ys m = 0 := fun m => by
      induction m with
      | zero => rfl
      | succ m im => rw [dot_succ, im]; show (0 : Int) + 0 * _ = 0; omega
    exact (this m).symm
  | succ k ih =>
    rw [dot_succ, ih]
    have : ∀ m, dot (fun b => dot (fun a => f a b) xs k) ys m + dot (fun b => f k b) ys m * nth xs k = dot (fun b => dot (fun a => f a b) xs (k + 1)) ys m := fun m => by
      induction m with
      | zero => show (0 : Int) + 0 * _ = 0; omega
      | succ m im =>
        rw [dot_succ, dot_succ, dot_succ, ← im, dot_succ, Int.add_mul, Int.add_mul]
        have e : f k m * nth ys m * nth xs k = f k m * nth xs k * nth ys m := by ac_rfl
        omega
    exact this m
theorem dot_lin (c : Int) (g : Nat → Int) (xs : List Int) (n : Nat) : dot (fun i => c * g i) xs n = c * dot g xs n := by
  induction n with
  | zero => show (0 : Int) = c * 0; omega
  | succ n ih => rw [dot_succ, dot_succ, ih, Int.mul_add]; have : c * g n * nth xs n = c * (g n * nth xs n) := by ac_rfl
                 omega
theorem dot_add (g h : Nat → Int) (xs : List Int) (n : Nat) : dot (fun i => g i + h i) xs n = dot g xs n + dot h xs n := by
  induction n with
  | zero => rfl
  | succ n ih => rw [dot_succ, dot_succ, dot_succ, ih, Int.add_mul]; omega
end Go.Proofs.YtefmlbahmakboaaGreatDoor
