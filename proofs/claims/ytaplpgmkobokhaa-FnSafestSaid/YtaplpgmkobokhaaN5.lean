/- Plain: least means of sums. No program in sight. -/
import Derived.Test.YtaplpgmkobokhaaW22
import Derived.Test.YtaplpgmkobokhaaM2
set_option linter.unusedSimpArgs false
set_option linter.unusedVariables false
namespace Go.Proofs.Ytaplpgmkobokhaa
open Go.RowKit
theorem isum_ofl {xs : List Int} {N : Nat} (hl : xs.length = N) : isum xs = dot (fun _ => 1) xs N := by rw [isum_dot, hl]
/-- a list whose first k places are filled -/
def fillTo (f : Nat → Int) (N k : Nat) : List Int := iter (fun x l => l.set x (f x)) (List.replicate N 0) k
theorem fillTo_succ (f : Nat → Int) (N k : Nat) : fillTo f N (k + 1) = (fillTo f N k).set k (f k) := rfl
theorem fillTo_len (f : Nat → Int) (N k : Nat) : (fillTo f N k).length = N := by
  induction k with
  | zero => simp [fillTo, iter]
  | succ k ih => rw [fillTo_succ, List.length_set, ih]
theorem fillTo_nth (f : Nat → Int) (N k : Nat) (hk : k ≤ N) (x : Nat) (hx : x < k) : nth (fillTo f N k) x = f x := by
  induction k with
  | zero => omega
  | succ k ih =>
    rw [fillTo_succ, nth_set, fillTo_len]
    by_cases e : k = x
    · subst e; rw [if_pos ⟨rfl, by omega⟩]
    · rw [if_neg (fun h => e h.1)]; exact ih (by omega) (by omega)
theorem lowF_succ (M : Int) (gs : List Int) (a k : Nat) : lowF M gs a (k + 1) = if hasB a k then min (lowF M gs a k) (nth gs k) else lowF M gs a k := rfl
theorem lowF_le (M : Int) (gs : List Int) (a k x : Nat) (hx : x < k) (h : hasB a x = true) : lowF M gs a k ≤ nth gs x := by
  induction k with
  | zero => omega
  | succ k ih =>
    rw [lowF_succ]
    by_cases e : x = k
    · subst e; rw [if_pos h]; omega
    · have := ih (by omega)
      split <;> omega
theorem lowF_cap (M : Int) (gs : List Int) (a k : Nat) : lowF M gs a k ≤ M := by
  induction k with
  | zero => exact Int.le_refl _
  | succ k ih => rw [lowF_succ]; split <;> omega
theorem lowF_at (M : Int) (gs : List Int) (a k : Nat) (hM : ∀ x, x < k → nth gs x ≤ M) (h : ∃ x, x < k ∧ hasB a x = true) : ∃ x, x < k ∧ hasB a x = true ∧ lowF M gs a k = nth gs x := by
  induction k with
  | zero => obtain ⟨x, hx, _⟩ := h; omega
  | succ k ih =>
    rw [lowF_succ]
    by_cases hk : hasB a k = true
    · rw [if_pos hk]
      by_cases hp : ∃ x, x < k ∧ hasB a x = true
      · obtain ⟨x, hx, hx2, e⟩ := ih (fun x hx => hM x (by omega)) hp
        rw [e]
        by_cases hle : nth gs x ≤ nth gs k
        · exact ⟨x, by omega, hx2, by omega⟩
        · exact ⟨k, by omega, hk, by omega⟩
      · have e : lowF M gs a k = M := by
          have : ∀ j, j ≤ k → lowF M gs a j = M := by
            intro j
            induction j with
            | zero => intro _; rfl
            | succ j ihj =>
              intro hj
              rw [lowF_succ, ihj (by omega), if_neg]
              intro hb; exact hp ⟨j, by omega, hb⟩
          exact this k (Nat.le_refl _)
        rw [e]
        exact ⟨k, by omega, hk, by have := hM k (by omega); omega⟩
    · rw [if_neg hk]
      obtain ⟨x, hx, hx2⟩ := h
      have hxk : x ≠ k := by rintro rfl; exact hk hx2
      obtain ⟨y, hy, hy2, e⟩ := ih (fun x hx => hM x (by omega)) ⟨x, by omega, hx2⟩
      exact ⟨y, by omega, hy2, e⟩
theorem sumF_dot (M : Int) (xs gs : List Int) (k : Nat) : sumF M xs gs k = dot (fun a => lowF M gs a gs.length) xs k := by
  induction k with
  | zero => rfl
  | succ k ih =>
    rw [dot_succ, ← ih]
    show sumF M xs gs k + nth xs k * lowF M gs k gs.length = _
    rw [Int.mul_comm]
theorem hasB_some : ∀ m : Fin 5, ∀ a : Fin (2 ^ m.val), a.val ≠ 0 → ∃ x : Fin m.val, hasB a.val x.val = true := by decide
/-- the sums of least gains: between bounds, more for more gains, and of sums at least the sums -/
theorem mg_some {s : Int} {n m : Nat} {xs gs : List Int} (h : MG s n m xs gs) {a : Nat} (ha : a < n) (h0 : a ≠ 0) : ∃ x, x < m ∧ hasB a x = true := by
  have := h.m4
  obtain ⟨x, hx⟩ := hasB_some ⟨m, by omega⟩ ⟨a, by have h2 := h.pow; rw [h2] at ha; exact ha⟩ h0
  exact ⟨x.val, x.isLt, hx⟩
theorem sum_bd {s : Int} {n m : Nat} {xs gs : List Int} (h : MG s n m xs gs) : -1000 * isum xs ≤ sumF 1000 xs gs n ∧ sumF 1000 xs gs n ≤ 1000 * isum xs := by
  have hl := h.glen
  rw [sumF_dot, isum_ofl h.xlen, ← dot_lin, ← dot_lin]
  constructor
  · refine dot_mono xs n (fun j hj => (h.xb j hj).1) fun j hj hne => ?_
    have hj0 : j ≠ 0 := by rintro rfl; exact hne h.zero
    obtain ⟨x, hx, hx2, e⟩ := lowF_at 1000 gs j m (fun x hx => (h.gb1 x hx).2) (mg_some h hj hj0)
    rw [hl, e]; have := (h.gb1 x hx).1; omega
  · refine dot_mono xs n (fun j hj => (h.xb j hj).1) fun j hj hne => ?_
    have := lowF_cap 1000 gs j gs.length; omega
theorem sum_super {s : Int} {n m : Nat} {xs gs ps us : List Int} (h : MG s n m xs gs) (k : MG s n m xs ps) (u : MG s n m xs us) (e : ∀ x, x < m → nth us x = nth gs x + nth ps x) : sumF 1000 xs gs n + sumF 1000 xs ps n ≤ sumF 1000 xs us n := by
  rw [sumF_dot, sumF_dot, sumF_dot, ← dot_add]
  refine dot_mono xs n (fun j hj => (h.xb j hj).1) fun j hj hne => ?_
  have hj0 : j ≠ 0 := by rintro rfl; exact hne h.zero
  obtain ⟨x, hx, hx2, e2⟩ := lowF_at 1000 us j m (fun x hx => (u.gb1 x hx).2) (mg_some h hj hj0)
  rw [u.glen, e2, e x hx, h.glen, k.glen]
  have h1 := lowF_le 1000 gs j m x hx hx2
  have h2 := lowF_le 1000 ps j m x hx hx2
  omega
theorem sum_more {s : Int} {n m : Nat} {xs gs us : List Int} (h : MG s n m xs gs) (u : MG s n m xs us) (e : ∀ x, x < m → nth gs x ≤ nth us x) : sumF 1000 xs gs n ≤ sumF 1000 xs us n := by
  rw [sumF_dot, sumF_dot]
  refine dot_mono xs n (fun j hj => (h.xb j hj).1) fun j hj hne => ?_
  have hj0 : j ≠ 0 := by rintro rfl; exact hne h.zero
  obtain ⟨x, hx, hx2, e2⟩ := lowF_at 1000 us j m (fun x hx => (u.gb1 x hx).2) (mg_some h hj hj0)
  rw [u.glen, e2, h.glen]
  have h1 := lowF_le 1000 gs j m x hx hx2
  have h2 := e x hx
  omega
/-- a least mean: there is one -/
theorem mean_ok {s : Int} {xs gs : List Int} (hn : normalOk s xs = true) (hg : gainsOk s gs = true) : meanM s xs gs = redF (sumF 1000 xs gs xs.length) (isum xs) ∧ (redF (sumF 1000 xs gs xs.length) (isum xs)).ok = true ∧ 1 ≤ isum xs ∧ isum xs ≤ 1000000 ∧ MG s xs.length gs.length xs gs := by
  obtain ⟨hm, h0⟩ := norm_facts hn
  have hG := mg_of hm h0 hg rfl rfl
  obtain ⟨_, _, _, _, s1, s2, _⟩ := massOk_facts hm
  have hb := sum_bd hG
  refine ⟨by unfold meanM; rw [hn, hg]; rfl, redF_ok (by omega) (by omega) (by omega) (by omega), s1, s2, hG⟩
theorem meanH_ok {s : Int} {xs gs : List Int} (h : (meanH s xs gs).ok = true) : normalOk s xs = true ∧ gainsOk s gs = true := by
  unfold meanH at h
  split at h
  · rename_i h1; rw [Bool.and_eq_true] at h1; exact h1
  · cases h
theorem redF_sum {n w a : Int} (hw : 1 ≤ w) (h1 : (redF n w).ok = true) (h2 : (redF a w).ok = true) : redF ((redF n w).num * (redF a w).den + (redF a w).num * (redF n w).den) ((redF n w).den * (redF a w).den) = redF (n + a) w := by
  obtain ⟨c1, d1, _⟩ := redF_cross (by omega) h1
  obtain ⟨c2, d2, _⟩ := redF_cross (by omega) h2
  generalize (redF n w).num = p at *
  generalize (redF n w).den = q at *
  generalize (redF a w).num = r at *
  generalize (redF a w).den = t at *
  refine redF_eq (Int.mul_pos d1 d2) (by omega) ?_
  have e1 : p * t * w = n * (q * t) := by rw [Int.mul_right_comm, c1, Int.mul_assoc]
  have e2 : r * q * w = a * (q * t) := by rw [Int.mul_right_comm, c2, Int.mul_assoc, Int.mul_comm t q]
  rw [Int.add_mul, Int.add_mul, e1, e2]
/-- the law: of sums at least the sum, and no less with more -/
theorem together_law {s : Int} {xs gs ps us : List Int} (hn : normalOk s xs = true) (hg : gainsOk s gs = true) (hp : gainsOk s ps = true) (hu : gainsOk s us = true) (e : ∀ x, x < gs.length → nth us x = nth gs x + nth ps x) (h0 : ∀ x, x < gs.length → 0 ≤ nth ps x) :
    ((addF (meanM s xs gs).num (meanM s xs gs).den (meanM s xs ps).num (meanM s xs ps).den).ok = true → lessF (meanM s xs us).num (meanM s xs us).den (addF (meanM s xs gs).num (meanM s xs gs).den (meanM s xs ps).num (meanM s xs ps).den).num (addF (meanM s xs gs).num (meanM s xs gs).den (meanM s xs ps).num (meanM s xs ps).den).den = false) ∧
    lessF (meanM s xs us).num (meanM s xs us).den (meanM s xs gs).num (meanM s xs gs).den = false := by
  obtain ⟨g1, g2, s1, s2, G⟩ := mean_ok hn hg
  obtain ⟨p1, p2, _, _, K⟩ := mean_ok hn hp
  obtain ⟨u1, u2, _, _, U⟩ := mean_ok hn hu
  have hlp : ps.length = gs.length := by have h1 := (gainsOk_facts hp).1; have h2 := (gainsOk_facts hg).1; omega
  have hlu : us.length = gs.length := by have h1 := (gainsOk_facts hu).1; have h2 := (gainsOk_facts hg).1; omega
  rw [hlp] at K
  rw [hlu] at U
  have hS := sum_super G K U e
  have hM := sum_more G U (fun x hx => by rw [e x hx]; have := h0 x hx; omega)
  rw [g1, p1, u1]
  have hv1 := (redF_cross (by omega) g2).2.2
  have hv2 := (redF_cross (by omega) p2).2.2
  have ha : addF (redF (sumF 1000 xs gs xs.length) (isum xs)).num (redF (sumF 1000 xs gs xs.length) (isum xs)).den (redF (sumF 1000 xs ps xs.length) (isum xs)).num (redF (sumF 1000 xs ps xs.length) (isum xs)).den = redF (sumF 1000 xs gs xs.length + sumF 1000 xs ps xs.length) (isum xs) := by
    unfold addF
    rw [hv1, hv2]
    exact redF_sum s1 g2 p2
  rw [ha]
  constructor
  · intro ho
    rw [lessF_red (by omega) (by omega) u2 ho]
    rw [decide_eq_false_iff_not]
    intro hlt
    have := Int.lt_of_mul_lt_mul_right hlt (by omega)
    omega
  · rw [lessF_red (by omega) (by omega) u2 g2]
    rw [decide_eq_false_iff_not]
    intro hlt
    have := Int.lt_of_mul_lt_mul_right hlt (by omega)
    omega
end Go.Proofs.Ytaplpgmkobokhaa
