/- Plain: the shared chance. No program in sight. -/
import Derived.Test.YtaplpgmkobokhaaM2
import Derived.Test.YtaplpgmkobokhaaW15
import Derived.Test.YtaplpgmkobokhaaE5
set_option linter.unusedSimpArgs false
set_option linter.unusedVariables false
namespace Go.Proofs.Ytaplpgmkobokhaa
open Go.RowKit
theorem isum_ofl2 {xs : List Int} {N : Nat} (hl : xs.length = N) : isum xs = dot (fun _ => 1) xs N := by rw [isum_dot, hl]
/-- the parts of the chance in which each set shares its part among its answers, each twelve times -/
def shcTo (xs : List Int) (N k : Nat) : List Int := iter (fun x l => l.set (2 ^ x) (evenTo xs (2 ^ x) xs.length)) (List.replicate N 0) k
def shcP (s : Int) (xs : List Int) : List Int := shcTo xs xs.length s.toNat
def shareM (s : Int) (xs : List Int) : MR := if massOk s xs then mkMass s (shcP s xs) else MR.no
theorem shcTo_succ (xs : List Int) (N k : Nat) : shcTo xs N (k + 1) = (shcTo xs N k).set (2 ^ k) (evenTo xs (2 ^ k) xs.length) := rfl
theorem shcTo_len (xs : List Int) (N k : Nat) : (shcTo xs N k).length = N := by
  induction k with
  | zero => simp [shcTo, iter]
  | succ k ih => rw [shcTo_succ, List.length_set, ih]
theorem pow_ne {x y : Nat} (h : x ≠ y) : 2 ^ x ≠ 2 ^ y := by
  rcases Nat.lt_or_gt_of_ne h with h1 | h1
  · exact Nat.ne_of_lt (Nat.pow_lt_pow_right (by decide) h1)
  · exact Nat.ne_of_gt (Nat.pow_lt_pow_right (by decide) h1)
theorem shcTo_nth (xs : List Int) (N k j : Nat) (h : ∀ x, x < k → j ≠ 2 ^ x) : nth (shcTo xs N k) j = 0 := by
  induction k with
  | zero => show nth (List.replicate N 0) j = 0; rw [nth_replicate]
  | succ k ih =>
    rw [shcTo_succ, nth_set, if_neg (fun e => h k (by omega) e.1.symm)]
    exact ih fun x hx => h x (by omega)
/-- a sum over answers -/
def sumX (f : Nat → Int) (k : Nat) : Int := iter (fun x t => t + f x) 0 k
theorem sumX_succ (f : Nat → Int) (k : Nat) : sumX f (k + 1) = sumX f k + f k := rfl
theorem sumX_congr {f g : Nat → Int} (k : Nat) (h : ∀ x, x < k → f x = g x) : sumX f k = sumX g k := by
  induction k with
  | zero => rfl
  | succ k ih => rw [sumX_succ, sumX_succ, ih (fun x hx => h x (by omega)), h k (by omega)]
theorem sumX_lin (c : Int) (f : Nat → Int) (k : Nat) : sumX (fun x => c * f x) k = c * sumX f k := by
  induction k with
  | zero => show (0 : Int) = c * 0; omega
  | succ k ih => rw [sumX_succ, sumX_succ, ih, Int.mul_add]
theorem dot_shcTo (g : Nat → Int) (xs : List Int) (N k : Nat) (h : ∀ x, x < k → 2 ^ x < N) : dot g (shcTo xs N k) N = sumX (fun x => g (2 ^ x) * evenTo xs (2 ^ x) xs.length) k := by
  induction k with
  | zero => exact dot_zero g N N
  | succ k ih =>
    rw [shcTo_succ, dot_set _ _ _ _ _ (h k (by omega)) (by rw [shcTo_len]; exact Nat.le_refl _), ih (fun x hx => h x (by omega)), shcTo_nth xs N k (2 ^ k) (fun x hx => pow_ne (by omega)), sumX_succ]
    rw [Int.sub_zero]
/-- how often a set has of another one's part, twelve times -/
def gA (a b : Nat) : Int := if b = 0 then 0 else ((12 * cnt (b &&& a) / cnt b : Nat) : Int)
theorem evenTo_dot (xs : List Int) (a k : Nat) : evenTo xs a k = dot (gA a) xs k := by
  induction k with
  | zero => rfl
  | succ k ih =>
    rw [dot_succ, ← ih]
    show evenTo xs a k + (if k = 0 then 0 else evenP (nth xs k) a k) = _
    congr 1
    unfold gA evenP
    split
    · rw [Int.zero_mul]
    · rw [Int.mul_comm]
theorem dot_sumX (f : Nat → Nat → Int) (xs : List Int) (n k : Nat) : sumX (fun x => dot (f x) xs n) k = dot (fun b => sumX (fun x => f x b) k) xs n := by
  induction k with
  | zero =>
    show (0 : Int) = dot (fun _ => 0) xs n
    induction n with
    | zero => rfl
    | succ n ih => rw [dot_succ, ← ih, Int.zero_mul]; omega
  | succ k ih =>
    rw [sumX_succ, ih, ← dot_add]
    exact dot_congr _ _ fun b _ => rfl
def pI (a b : Nat) : Int := predI (subB a) b
theorem shareF : ∀ s : Fin 5, ∀ a b : Fin (2 ^ s.val), sumX (fun x => pI a.val (2 ^ x) * gA (2 ^ x) b.val) s.val = gA a.val b.val := by decide +kernel
theorem fullF : ∀ s : Fin 5, ∀ b : Fin (2 ^ s.val), gA (2 ^ s.val - 1) b.val = if b.val = 0 then 0 else 12 := by decide +kernel
theorem gaF : ∀ x y : Fin 4, gA (2 ^ x.val) (2 ^ y.val) = if x.val = y.val then 12 else 0 := by decide +kernel
theorem pfullF : ∀ s : Fin 5, ∀ x : Fin s.val, pI (2 ^ s.val - 1) (2 ^ x.val) = 1 := by decide +kernel
theorem powF : ∀ s : Fin 5, ∀ x : Fin s.val, 2 ^ x.val < 2 ^ s.val := by decide
theorem singleF : ∀ j : Fin 16, single j.val = false → ∀ x : Fin 4, j.val ≠ 2 ^ x.val := by decide
theorem sub_bdS (p : Nat → Bool) {s : Int} {xs : List Int} (h : massOk s xs = true) : 0 ≤ dot (predI p) xs xs.length ∧ dot (predI p) xs xs.length ≤ 1000000 := by
  obtain ⟨_, hl, _, hb, _, h2, _⟩ := massOk_facts h
  have h0 := (predI_bd p xs xs.length (fun k hk => hb k (by omega)) xs.length (Nat.le_refl _)).1
  have h1 : dot (predI p) xs xs.length ≤ dot (fun _ => 1) xs xs.length := dot_mono xs xs.length (fun j hj => (hb j (by omega)).1) (fun j hj _ => by unfold predI; split <;> omega)
  rw [← isum_ofl2 (xs := xs) rfl] at h1
  omega
theorem size_k {s : Int} (h : okSize s = true) : s.toNat < 5 ∧ nsets s = 2 ^ s.toNat := by
  rcases okSize_iff.1 h with rfl | rfl | rfl | rfl <;> exact ⟨by decide, rfl⟩
theorem share_dot {s : Int} {xs : List Int} (h : massOk s xs = true) (g : Nat → Int) : dot g (shcP s xs) xs.length = sumX (fun x => g (2 ^ x) * evenTo xs (2 ^ x) xs.length) s.toNat := by
  obtain ⟨hs, hl, _⟩ := massOk_facts h
  obtain ⟨h5, hn⟩ := size_k hs
  exact dot_shcTo g xs _ _ fun x hx => by rw [hl, hn]; exact powF ⟨s.toNat, h5⟩ ⟨x, hx⟩
theorem share_sub {s : Int} {xs : List Int} (h : massOk s xs = true) {a : Nat} (ha : a < xs.length) : dot (predI (subB a)) (shcP s xs) xs.length = evenTo xs a xs.length := by
  obtain ⟨hs, hl, _⟩ := massOk_facts h
  obtain ⟨h5, hn⟩ := size_k hs
  rw [share_dot h, evenTo_dot]
  have e : sumX (fun x => predI (subB a) (2 ^ x) * evenTo xs (2 ^ x) xs.length) s.toNat = sumX (fun x => dot (fun b => pI a (2 ^ x) * gA (2 ^ x) b) xs xs.length) s.toNat := sumX_congr _ fun x _ => by rw [dot_lin, evenTo_dot]; rfl
  rw [e, dot_sumX]
  refine dot_congr _ _ fun b hb => ?_
  have := shareF ⟨s.toNat, h5⟩ ⟨a, by rw [hl, hn] at ha; exact ha⟩ ⟨b, by rw [hl, hn] at hb; exact hb⟩
  simp only at this
  rw [this]
theorem dot_twelve (xs : List Int) (n : Nat) : dot (fun b => if b = 0 then 0 else 12) xs (n + 1) = 12 * (dot (fun _ => 1) xs (n + 1) - nth xs 0) := by
  induction n with
  | zero => rw [dot_succ, dot_succ]; show (0 : Int) + 0 * _ = 12 * (0 + 1 * nth xs 0 - nth xs 0); omega
  | succ n ih => rw [dot_succ, ih, dot_succ (fun _ => 1) xs (n + 1), if_neg (by omega)]; omega
theorem share_whole {s : Int} {xs : List Int} (h : massOk s xs = true) : isum (shcP s xs) = 12 * (isum xs - nth xs 0) := by
  obtain ⟨hs, hl, _⟩ := massOk_facts h
  obtain ⟨h5, hn⟩ := size_k hs
  have hN := nsets_le hs
  have e1 : (shcP s xs).length = xs.length := shcTo_len _ _ _
  rw [isum_ofl2 e1, share_dot h]
  have e2 : sumX (fun x => (1 : Int) * evenTo xs (2 ^ x) xs.length) s.toNat = sumX (fun x => predI (subB (xs.length - 1)) (2 ^ x) * evenTo xs (2 ^ x) xs.length) s.toNat := sumX_congr _ fun x hx => by
    have := pfullF ⟨s.toNat, h5⟩ ⟨x, hx⟩
    simp only at this
    rw [← hn, ← hl] at this
    show (1 : Int) * _ = pI _ _ * _
    rw [this]
  rw [e2, ← share_dot h, share_sub h (by omega), evenTo_dot]
  have e3 : dot (gA (xs.length - 1)) xs xs.length = dot (fun b => if b = 0 then 0 else 12) xs xs.length := dot_congr _ _ fun b hb => by
    have := fullF ⟨s.toNat, h5⟩ ⟨b, by rw [hl, hn] at hb; exact hb⟩
    simp only at this
    rw [hl, hn, this]
  obtain ⟨m, hm⟩ : ∃ m, xs.length = m + 1 := ⟨xs.length - 1, by omega⟩
  rw [e3, isum_ofl2 hm, hm, dot_twelve]
theorem share_ok {s : Int} {xs : List Int} (ho : (shareM s xs).ok = true) : massOk s xs = true ∧ shareM s xs = mkMass s (shcP s xs) ∧ (mkMass s (shcP s xs)).ok = true := by
  unfold shareM at ho ⊢
  split at ho
  · rename_i h; rw [if_pos h]; exact ⟨h, rfl, ho⟩
  · cases ho
/-- what is known of a shared chance -/
theorem share_facts {s : Int} {xs : List Int} (ho : (shareM s xs).ok = true) : ∃ e : Int, 1 ≤ e ∧ (shareM s xs).size = s ∧ (shareM s xs).parts.length = xs.length ∧ massOk s (shareM s xs).parts = true ∧
    (∀ g, e * dot g (shareM s xs).parts xs.length = dot g (shcP s xs) xs.length) ∧ 1 ≤ isum xs - nth xs 0 ∧ e * isum (shareM s xs).parts = 12 * (isum xs - nth xs 0) := by
  obtain ⟨h, e1, h2⟩ := share_ok ho
  obtain ⟨g1, g2, g3, g4, g5⟩ := mkMass_parts h2
  have e2 : (shcP s xs).length = xs.length := shcTo_len _ _ _
  rw [e2] at g3 g5
  rw [e1]
  have h3 := g5 (fun _ => 1)
  rw [← isum_ofl2 g3, ← isum_ofl2 e2, share_whole h] at h3
  have h4 := (massOk_facts g4).2.2.2.2.1
  have h5 : 1 * 1 ≤ gcdL (shcP s xs) * isum (mkMass s (shcP s xs)).parts := Int.mul_le_mul g1 h4 (by decide) (by omega)
  exact ⟨_, g1, g2, g3, g4, g5, by omega, h3⟩
theorem share_nth {s : Int} {xs : List Int} (ho : (shareM s xs).ok = true) {j : Nat} (hj : j < xs.length) (hs : single j = false) : nth (shareM s xs).parts j = 0 := by
  obtain ⟨e, he, _, _, _, hd, _⟩ := share_facts ho
  obtain ⟨h, _, _⟩ := share_ok ho
  obtain ⟨hk, hl, h16, _⟩ := massOk_facts h
  obtain ⟨h5, hn⟩ := size_k hk
  have h1 := hd (at1 j)
  rw [dot_at1, dot_at1, if_pos hj, if_pos hj] at h1
  have h2 : nth (shcP s xs) j = 0 := shcTo_nth _ _ _ _ fun x hx => singleF ⟨j, by omega⟩ hs ⟨x, by omega⟩
  rw [h2] at h1
  rcases Int.mul_eq_zero.1 h1 with h3 | h3
  · omega
  · exact h3
theorem share_chance {s : Int} {xs : List Int} (ho : (shareM s xs).ok = true) : chanceOk (shareM s xs).size (shareM s xs).parts = true := by
  obtain ⟨e, he, e1, e2, e3, _⟩ := share_facts ho
  unfold chanceOk
  rw [e1, e3, Bool.true_and, allN_iff]
  intro k hk
  cases hs : single k
  · rw [share_nth ho (by omega) hs]; rfl
  · rw [Bool.or_true]
theorem share_belief {s : Int} {xs : List Int} (ho : (shareM s xs).ok = true) {a : Nat} (ha : a < xs.length) :
    redF (dot (predI (subB a)) (shareM s xs).parts xs.length - nth (shareM s xs).parts 0) (isum (shareM s xs).parts) = redF (evenTo xs a xs.length) (12 * (isum xs - nth xs 0)) ∧
    (redF (evenTo xs a xs.length) (12 * (isum xs - nth xs 0))).ok = true := by
  obtain ⟨e, he, e1, e2, e3, e4, e5, e6⟩ := share_facts ho
  obtain ⟨h, _, _⟩ := share_ok ho
  have hN := nsets_le (massOk_facts h).1
  have hl := (massOk_facts h).2.1
  have h0 : nth (shareM s xs).parts 0 = 0 := share_nth ho (by omega) (by decide)
  obtain ⟨_, hl2, _, _, s1, s2, _⟩ := massOk_facts e3
  have hb := sub_bdS (subB a) e3
  rw [e2] at hb
  have h1 := e4 (predI (subB a))
  rw [share_sub h ha] at h1
  have hq : redF (dot (predI (subB a)) (shareM s xs).parts xs.length - nth (shareM s xs).parts 0) (isum (shareM s xs).parts) = redF (evenTo xs a xs.length) (12 * (isum xs - nth xs 0)) := by
    rw [h0, Int.sub_zero]
    refine redF_eq (by omega) (by omega) ?_
    rw [← h1, ← e6, ← Int.mul_assoc, Int.mul_comm _ e]
  refine ⟨hq, ?_⟩
  rw [← hq, h0, Int.sub_zero]
  exact redF_ok (by omega) (by omega) (by omega) (by omega)
theorem share_again {s : Int} {xs : List Int} (ho : (shareM s xs).ok = true) : shareM s (shareM s xs).parts = shareM s xs := by
  obtain ⟨e, he, e1, e2, e3, e4, _⟩ := share_facts ho
  obtain ⟨h, _, _⟩ := share_ok ho
  obtain ⟨hk, hl, h16, _⟩ := massOk_facts h
  obtain ⟨h5, hn⟩ := size_k hk
  have hself : shareM s xs = mkMass s (shareM s xs).parts := by
    rw [mkMass_self e3]
    cases hh : shareM s xs with
    | mk a b c => rw [hh] at ho e1; simp only at ho e1; rw [ho, e1]
  generalize (shareM s xs).parts = ps at *
  rw [hself]
  unfold shareM
  rw [if_pos e3]
  refine mkMass_dot s _ _ xs.length 1 12 (by decide) (by decide) (by rw [← e2]; exact shcTo_len _ _ _) e2 fun g => ?_
  have h1 := share_dot e3 g
  rw [e2] at h1
  rw [h1, Int.one_mul]
  have key : ∀ x, x < s.toNat → e * evenTo ps (2 ^ x) xs.length = 12 * evenTo xs (2 ^ x) xs.length := fun x hx => by
    rw [evenTo_dot ps, e4, share_dot h]
    have e7 : sumX (fun y => gA (2 ^ x) (2 ^ y) * evenTo xs (2 ^ y) xs.length) s.toNat = sumX (fun y => if x = y then 12 * evenTo xs (2 ^ x) xs.length else 0) s.toNat := sumX_congr _ fun y hy => by
      have := gaF ⟨x, by omega⟩ ⟨y, by omega⟩
      simp only at this
      rw [this]
      by_cases hxy : x = y
      · subst hxy; rw [if_pos rfl, if_pos rfl]
      · rw [if_neg hxy, if_neg hxy, Int.zero_mul]
    rw [e7]
    have e8 : ∀ k, sumX (fun y => if x = y then 12 * evenTo xs (2 ^ x) xs.length else 0) k = if x < k then 12 * evenTo xs (2 ^ x) xs.length else 0 := by
      intro k
      induction k with
      | zero => rfl
      | succ k ih =>
        rw [sumX_succ, ih]
        by_cases hxk : x = k
        · subst hxk; rw [if_neg (by omega), if_pos rfl, if_pos (by omega)]; omega
        · rw [if_neg hxk]
          by_cases h2 : x < k
          · rw [if_pos h2, if_pos (by omega)]; omega
          · rw [if_neg h2, if_neg (by omega)]; omega
    rw [e8, if_pos hx]
  have h2 : e * sumX (fun x => g (2 ^ x) * evenTo ps (2 ^ x) xs.length) s.toNat = e * (12 * dot g ps xs.length) := by
    rw [← sumX_lin, Int.mul_left_comm, e4, share_dot h, ← sumX_lin]
    refine sumX_congr _ fun x hx => ?_
    rw [Int.mul_left_comm, key x hx, Int.mul_left_comm]
  exact Int.eq_of_mul_eq_mul_left (by omega) h2
end Go.Proofs.Ytaplpgmkobokhaa
