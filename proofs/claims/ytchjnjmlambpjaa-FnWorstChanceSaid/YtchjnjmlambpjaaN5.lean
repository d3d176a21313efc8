/- Plain: least means of sums. No program in sight. -/
import Derived.Test.YtchjnjmlambpjaaW22
import Derived.Test.YtchjnjmlambpjaaW18
import Derived.Test.YtchjnjmlambpjaaM2
set_option linter.unusedSimpArgs false
set_option linter.unusedVariables false
namespace Go.Proofs.Ytchjnjmlambpjaa
open Go.RowKit
theorem isum_ofl {xs : List Int} {N : Nat} (hl : xs.length = N) : isum xs = dot (fun _ => 1) xs N := by rw [isum_dot, hl]
/-- a list whose first k places are filled -/
def fillTo (f : Nat → Int) (N k : Nat) : List Int := iter (fun x l => l.set x (f x)) (List.replicate N 0) k
theorem fillTo_succ (f : Nat → Int) (N k : Nat) : fillTo f N (k + 1) = (fillTo f N k).set k (f k) := rfl
theorem fillTo_len (f : Nat → Int) (N k : Nat) : (fillTo f N k).length = N := by
  induction k with
  | zero => simp [fillTo, iter]
  | succ k ih => rw [fillTo_succ, List.length_set, ih]
theorem fillTo_nth (f : Nat → Int) (N k : Nat) (hk : k ≤ N) (x : Nat) (hx : x < k) : nth (fillTo f N k) x = f x := by
  induction k with
  | zero => omega
  | succ k ih =>
    rw [fillTo_succ, nth_set, fillTo_len]
    by_cases e : k = x
    · subst e; rw [if_pos ⟨rfl, by omega⟩]
    · rw [if_neg (fun h => e h.1)]; exact ih (by omega) (by omega)
theorem lowF_succ (M : Int) (gs : List Int) (a k : Nat) : lowF M gs a (k + 1) = if hasB a k then min (lowF M gs a k) (nth gs k) else lowF M gs a k := rfl
theorem lowF_le (M : Int) (gs : List Int) (a k x : Nat) (hx : x < k) (h : hasB a x = true) : lowF M gs a k ≤ nth gs x := by
  induction k with
  | zero => omega
  | succ k ih =>
    rw [lowF_succ]
    by_cases e : x = k
    · subst e; rw [if_pos h]; omega
    · have := ih (by omega)
      split <;> omega
theorem lowF_cap (M : Int) (gs : List Int) (a k : Nat) : lowF M gs a k ≤ M := by
  induction k with
  | zero => exact Int.le_refl _
  | succ k ih => rw [lowF_succ]; split <;> omega
theorem lowF_at (M : Int) (gs : List Int) (a k : Nat) (hM : ∀ x, x < k → nth gs x ≤ M) (h : ∃ x, x < k ∧ hasB a x = true) : ∃ x, x < k ∧ hasB a x = true ∧ lowF M gs a k = nth gs x := by
  induction k with
  | zero => obtain ⟨x, hx, _⟩ := h; omega
  | succ k ih =>
    rw [lowF_succ]
    by_cases hk : hasB a k = true
    · rw [if_pos hk]
      by_cases hp : ∃ x, x < k ∧ hasB a x = true
      · obtain ⟨x, hx, hx2, e⟩ := ih (fun x hx => hM x (by omega)) hp
        rw [e]
        by_cases hle : nth gs x ≤ nth gs k
        · exact ⟨x, by omega, hx2, by omega⟩
        · exact ⟨k, by omega, hk, by omega⟩
      · have e : lowF M gs a k = M := by
          have : ∀ j, j ≤ k → lowF M gs a j = M := by
            intro j
            induction j with
            | zero => intro _; rfl
            | succ j ihj =>
              intro hj
              rw [lowF_succ, ihj (by omega), if_neg]
              intro hb; exact hp ⟨j, by omega, hb⟩
          exact this k (Nat.le_refl _)
        rw [e]
        exact ⟨k, by omega, hk, by have := hM k (by omega); omega⟩
    · rw [if_neg hk]
      obtain ⟨x, hx, hx2⟩ := h
      have hxk : x ≠ k := by rintro rfl; exact hk hx2
      obtain ⟨y, hy, hy2, e⟩ := ih (fun x hx => hM x (by omega)) ⟨x, by omega, hx2⟩
      exact ⟨y, by omega, hy2, e⟩
theorem sumF_dot (M : Int) (xs gs : List Int) (k : Nat) : sumF M xs gs k = dot (fun a => lowF M gs a gs.length) xs k := by
  induction k with
  | zero => rfl
  | succ k ih =>
    rw [dot_succ, ← ih]
    show sumF M xs gs k + nth xs k * lowF M gs k gs.length = _
    rw [Int.mul_comm]
theorem hasB_some : ∀ m : Fin 5, ∀ a : Fin (2 ^ m.val), a.val ≠ 0 → ∃ x : Fin m.val, hasB a.val x.val = true := by decide
/-- the sums of least gains: between bounds, more for more gains, and of sums at least the sums -/
theorem mg_some {s : Int} {n m : Nat} {xs gs : List Int} (h : MG s n m xs gs) {a : Nat} (ha : a < n) (h0 : a ≠ 0) : ∃ x, x < m ∧ hasB a x = true := by
  have := h.m4
  obtain ⟨x, hx⟩ := hasB_some ⟨m, by omega⟩ ⟨a, by have h2 := h.pow; rw [h2] at ha; exact ha⟩ h0
  exact ⟨x.val, x.isLt, hx⟩
theorem sum_bd {s : Int} {n m : Nat} {xs gs : List Int} (h : MG s n m xs gs) : -1000 * isum xs ≤ sumF 1000 xs gs n ∧ sumF 1000 xs gs n ≤ 1000 * isum xs := by
  have hl := h.glen
  rw [sumF_dot, isum_ofl h.xlen, ← dot_lin, ← dot_lin]
  constructor
  · refine dot_mono xs n (fun j hj => (h.xb j hj).1) fun j hj hne => ?_
    have hj0 : j ≠ 0 := by rintro rfl; exact hne h.zero
    obtain ⟨x, hx, hx2, e⟩ := lowF_at 1000 gs j m (fun x hx => (h.gb1 x hx).2) (mg_some h hj hj0)
    rw [hl, e]; have := (h.gb1 x hx).1; omega
  · refine dot_mono xs n (fun j hj => (h.xb j hj).1) fun j hj hne => ?_
    have := lowF_cap 1000 gs j gs.length; omega
theorem sum_super {s : Int} {n m : Nat} {xs gs ps us : List Int} (h : MG s n m xs gs) (k : MG s n m xs ps) (u : MG s n m xs us) (e : ∀ x, x < m → nth us x = nth gs x + nth ps x) : sumF 1000 xs gs n + sumF 1000 xs ps n ≤ sumF 1000 xs us n := by
  rw [sumF_dot, sumF_dot, sumF_dot, ← dot_add]
  refine dot_mono xs n (fun j hj => (h.xb j hj).1) fun j hj hne => ?_
  have hj0 : j ≠ 0 := by rintro rfl; exact hne h.zero
  obtain ⟨x, hx, hx2, e2⟩ := lowF_at 1000 us j m (fun x hx => (u.gb1 x hx).2) (mg_some h hj hj0)
  rw [u.glen, e2, e x hx, h.glen, k.glen]
  have h1 := lowF_le 1000 gs j m x hx hx2
  have h2 := lowF_le 1000 ps j m x hx hx2
  omega
theorem sum_more {s : Int} {n m : Nat} {xs gs us : List Int} (h : MG s n m xs gs) (u : MG s n m xs us) (e : ∀ x, x < m → nth gs x ≤ nth us x) : sumF 1000 xs gs n ≤ sumF 1000 xs us n := by
  rw [sumF_dot, sumF_dot]
  refine dot_mono xs n (fun j hj => (h.xb j hj).1) fun j hj hne => ?_
  have hj0 : j ≠ 0 := by rintro rfl; exact hne h.zero
  obtain ⟨x, hx, hx2, e2⟩ := lowF_at 1000 us j m (fun x hx => (u.gb1 x hx).2) (mg_some h hj hj0)
  rw [u.glen, e2, h.glen]
  have h1 := lowF_le 1000 gs j m x hx hx2
  have h2 := e x hx
  omega
/-- a least mean: there is one -/
theorem mean_ok {s : Int} {xs gs : List Int} (hn : normalOk s xs = true) (hg : gainsOk s gs = true) : meanM s xs gs = redF (sumF 1000 xs gs xs.length) (isum xs) ∧ (redF (sumF 1000 xs gs xs.length) (isum xs)).ok = true ∧ 1 ≤ isum xs ∧ isum xs ≤ 1000000 ∧ MG s xs.length gs.length xs gs := by
  obtain ⟨hm, h0⟩ := norm_facts hn
  have hG := mg_of hm h0 hg rfl rfl
  obtain ⟨_, _, _, _, s1, s2, _⟩ := massOk_facts hm
  have hb := sum_bd hG
  refine ⟨by unfold meanM; rw [hn, hg]; rfl, redF_ok (by omega) (by omega) (by omega) (by omega), s1, s2, hG⟩
theorem meanH_ok {s : Int} {xs gs : List Int} (h : (meanH s xs gs).ok = true) : normalOk s xs = true ∧ gainsOk s gs = true := by
  unfold meanH at h
  split at h
  · rename_i h1; rw [Bool.and_eq_true] at h1; exact h1
  · cases h
theorem redF_sum {n w a : Int} (hw : 1 ≤ w) (h1 : (redF n w).ok = true) (h2 : (redF a w).ok = true) : redF ((redF n w).num * (redF a w).den + (redF a w).num * (redF n w).den) ((redF n w).den * (redF a w).den) = redF (n + a) w := by
  obtain ⟨c1, d1, _⟩ := redF_cross (by omega) h1
  obtain ⟨c2, d2, _⟩ := redF_cross (by omega) h2
  generalize (redF n w).num = p at *
  generalize (redF n w).den = q at *
  generalize (redF a w).num = r at *
  generalize (redF a w).den = t at *
  refine redF_eq (Int.mul_pos d1 d2) (by omega) ?_
  have e1 : p * t * w = n * (q * t) := by rw [Int.mul_right_comm, c1, Int.mul_assoc]
  have e2 : r * q * w = a * (q * t) := by rw [Int.mul_right_comm, c2, Int.mul_assoc, Int.mul_comm t q]
  rw [Int.add_mul, Int.add_mul, e1, e2]
/-- the law: of sums at least the sum, and no less with more -/
theorem together_law {s : Int} {xs gs ps us : List Int} (hn : normalOk s xs = true) (hg : gainsOk s gs = true) (hp : gainsOk s ps = true) (hu : gainsOk s us = true) (e : ∀ x, x < gs.length → nth us x = nth gs x + nth ps x) (h0 : ∀ x, x < gs.length → 0 ≤ nth ps x) :
    ((addF (meanM s xs gs).num (meanM s xs gs).den (meanM s xs ps).num (meanM s xs ps).den).ok = true → lessF (meanM s xs us).num (meanM s xs us).den (addF (meanM s xs gs).num (meanM s xs gs).den (meanM s xs ps).num (meanM s xs ps).den).num (addF (meanM s xs gs).num (meanM s xs gs).den (meanM s xs ps).num (meanM s xs ps).den).den = false) ∧
    lessF (meanM s xs us).num (meanM s xs us).den (meanM s xs gs).num (meanM s xs gs).den = false := by
  obtain ⟨g1, g2, s1, s2, G⟩ := mean_ok hn hg
  obtain ⟨p1, p2, _, _, K⟩ := mean_ok hn hp
  obtain ⟨u1, u2, _, _, U⟩ := mean_ok hn hu
  have hlp : ps.length = gs.length := by have h1 := (gainsOk_facts hp).1; have h2 := (gainsOk_facts hg).1; omega
  have hlu : us.length = gs.length := by have h1 := (gainsOk_facts hu).1; have h2 := (gainsOk_facts hg).1; omega
  rw [hlp] at K
  rw [hlu] at U
  have hS := sum_super G K U e
  have hM := sum_more G U (fun x hx => by rw [e x hx]; have := h0 x hx; omega)
  rw [g1, p1, u1]
  have hv1 := (redF_cross (by omega) g2).2.2
  have hv2 := (redF_cross (by omega) p2).2.2
  have ha : addF (redF (sumF 1000 xs gs xs.length) (isum xs)).num (redF (sumF 1000 xs gs xs.length) (isum xs)).den (redF (sumF 1000 xs ps xs.length) (isum xs)).num (redF (sumF 1000 xs ps xs.length) (isum xs)).den = redF (sumF 1000 xs gs xs.length + sumF 1000 xs ps xs.length) (isum xs) := by
    unfold addF
    rw [hv1, hv2]
    exact redF_sum s1 g2 p2
  rw [ha]
  constructor
  · intro ho
    rw [lessF_red (by omega) (by omega) u2 ho]
    rw [decide_eq_false_iff_not]
    intro hlt
    have := Int.lt_of_mul_lt_mul_right hlt (by omega)
    omega
  · rw [lessF_red (by omega) (by omega) u2 g2]
    rw [decide_eq_false_iff_not]
    intro hlt
    have := Int.lt_of_mul_lt_mul_right hlt (by omega)
    omega
theorem argTo_succ (f : Nat → Int) (n : Nat) : argTo f (n + 1) = if f (argTo f n) < f n then n else argTo f n := rfl
theorem argTo_max (f : Nat → Int) (n k : Nat) (hk : k < n) : f k ≤ f (argTo f n) := by
  induction n with
  | zero => omega
  | succ n ih =>
    rw [argTo_succ]
    by_cases e : k = n
    · subst e; split
      · exact Int.le_refl _
      · omega
    · have h1 := ih (by omega)
      split
      · omega
      · exact h1
theorem argTo_first (f : Nat → Int) (n k : Nat) (hk : k < argTo f n) : f k < f (argTo f n) := by
  induction n with
  | zero => exact absurd hk (by show ¬ k < 0; omega)
  | succ n ih =>
    rw [argTo_succ] at hk ⊢
    split
    · rename_i h
      rw [if_pos h] at hk
      have := argTo_max f n k hk
      omega
    · rename_i h
      rw [if_neg h] at hk
      exact ih hk
theorem argTo_scale (f : Nat → Int) (c : Int) (hc : 0 < c) (n : Nat) : argTo (fun k => c * f k) n = argTo f n := by
  induction n with
  | zero => rfl
  | succ n ih =>
    rw [argTo_succ, argTo_succ, ih]
    by_cases h : f (argTo f n) < f n
    · rw [if_pos h, if_pos (Int.mul_lt_mul_of_pos_left h hc)]
    · rw [if_neg h, if_neg (fun h2 => h (Int.lt_of_mul_lt_mul_left h2 (by omega)))]
theorem MG.turned {s : Int} {n m : Nat} {xs gs : List Int} (h : MG s n m xs gs) : MG s n m xs (negTo gs m) :=
  ⟨h.n16, h.n1, h.m4, h.m1, h.pow, h.xlen, negTo_len _ _, h.zero, h.xb, fun k hk => by rw [negTo_nth _ _ _ hk]; have := h.gb1 k hk; unfold inG; omega, fun k hk => by rw [negTo_nth _ _ _ hk]; have := h.gb1 k hk; omega⟩
theorem sum_over {s : Int} {n m : Nat} {xs gs us ds : List Int} (h : MG s n m xs gs) (u : MG s n m xs us) (hd : ds.length = m) (e : ∀ x, x < m → nth us x = nth gs x + nth ds x) : lowSumTo xs ds n + sumF 1000 xs gs n ≤ sumF 1000 xs us n := by
  have hl : lowSumTo xs ds n = sumF 2000 xs ds n := rfl
  rw [hl, sumF_dot, sumF_dot, sumF_dot, ← dot_add]
  refine dot_mono xs n (fun j hj => (h.xb j hj).1) fun j hj hne => ?_
  have hj0 : j ≠ 0 := by rintro rfl; exact hne h.zero
  obtain ⟨x, hx, hx2, e2⟩ := lowF_at 1000 us j m (fun x hx => (u.gb1 x hx).2) (mg_some h hj hj0)
  rw [u.glen, e2, e x hx, h.glen, hd]
  have h1 := lowF_le 1000 gs j m x hx hx2
  have h2 := lowF_le 2000 ds j m x hx hx2
  omega
/-- the least and the greatest sums of an act -/
def loS (xs gs : List Int) : Int := sumF 1000 xs gs xs.length
def hiS (xs gs : List Int) : Int := -(sumF 1000 xs (negTo gs gs.length) xs.length)
theorem beats_more {s : Int} {xs f g : List Int} (h : beatsM s xs f g = true) : loS xs g < loS xs f ∧ hiS xs g < hiS xs f := by
  unfold beatsM at h
  rw [Bool.and_eq_true, Bool.and_eq_true, Bool.and_eq_true, decide_eq_true_eq] at h
  obtain ⟨hn, hf, hg, hlt⟩ := h
  obtain ⟨hm, h0⟩ := norm_facts hn
  have F := mg_of hm h0 hf rfl rfl
  have hl : g.length = f.length := by have h1 := (gainsOk_facts hf).1; have h2 := (gainsOk_facts hg).1; omega
  have G := mg_of hm h0 hg rfl hl
  have hd := subTo_len f g f.length
  have h1 := sum_over G F hd (fun x hx => by rw [subTo_nth _ _ _ _ hx]; omega)
  have h2 := sum_over F.turned G.turned hd (fun x hx => by rw [subTo_nth _ _ _ _ hx, negTo_nth _ _ _ hx, negTo_nth _ _ _ hx]; omega)
  unfold loS hiS
  rw [hl]
  constructor <;> omega
theorem betS_eq (num den : Int) (xs gs : List Int) : betS num den xs gs = num * loS xs gs + (den - num) * hiS xs gs := rfl
theorem beats_between {s num den : Int} {xs f g : List Int} (h : beatsM s xs f g = true) (h0 : 0 ≤ num) (h1 : num ≤ den) (h2 : 1 ≤ den) : betS num den xs g < betS num den xs f := by
  obtain ⟨hlo, hhi⟩ := beats_more h
  rw [betS_eq, betS_eq]
  have e1 : num * (loS xs g + 1) ≤ num * loS xs f := Int.mul_le_mul_of_nonneg_left (by omega) h0
  have e2 : (den - num) * (hiS xs g + 1) ≤ (den - num) * hiS xs f := Int.mul_le_mul_of_nonneg_left (by omega) (by omega)
  rw [Int.mul_add, Int.mul_one] at e1 e2
  omega
theorem share_facts2 {num den : Int} (h : shareOk num den = true) : 0 ≤ num ∧ num ≤ den ∧ 1 ≤ den := by
  simp only [shareOk, fracOk, Bool.and_eq_true, inB_iff] at h; omega
/-- no act beats the best one by such sums -/
theorem between_unbeaten {s num den : Int} {xs : List Int} {acts : List (List Int)} {m i : Nat} (h : betOk s xs acts num den = true) (hi : i < m) : beatsM s xs (nthL acts i) (nthL acts (argTo (fun k => betS num den xs (nthL acts k)) m)) = false := by
  unfold betOk at h
  rw [Bool.and_eq_true, Bool.and_eq_true] at h
  obtain ⟨h0, h1, h2⟩ := share_facts2 h.2.1
  cases hb : beatsM s xs (nthL acts i) (nthL acts (argTo (fun k => betS num den xs (nthL acts k)) m))
  · rfl
  · have h3 := beats_between hb h0 h1 h2
    have h4 := argTo_max (fun k => betS num den xs (nthL acts k)) m i hi

    omega
theorem safest_unbeaten {s : Int} {xs : List Int} {acts : List (List Int)} {m i : Nat} (hi : i < m) : beatsM s xs (nthL acts i) (nthL acts (argTo (fun k => sumF 1000 xs (nthL acts k) xs.length) m)) = false := by
  cases hb : beatsM s xs (nthL acts i) (nthL acts (argTo (fun k => sumF 1000 xs (nthL acts k) xs.length) m))
  · rfl
  · have h3 := (beats_more hb).1
    have h4 := argTo_max (fun k => sumF 1000 xs (nthL acts k) xs.length) m i hi

    unfold loS at h3
    omega
theorem boldest_unbeaten {s : Int} {xs : List Int} {acts : List (List Int)} {m i : Nat} (hi : i < m) : beatsM s xs (nthL acts i) (nthL acts (argTo (fun k => -(sumF 1000 xs (negTo (nthL acts k) (nthL acts k).length) xs.length)) m)) = false := by
  cases hb : beatsM s xs (nthL acts i) (nthL acts (argTo (fun k => -(sumF 1000 xs (negTo (nthL acts k) (nthL acts k).length) xs.length)) m))
  · rfl
  · have h3 := (beats_more hb).2
    have h4 := argTo_max (fun k => -(sumF 1000 xs (negTo (nthL acts k) (nthL acts k).length) xs.length)) m i hi

    unfold hiS at h3
    omega
theorem between_one (s : Int) (xs : List Int) (acts : List (List Int)) (m : Nat) : bestM (betOk s xs acts 1 1) (fun k => betS 1 1 xs (nthL acts k)) m = bestM (actsOk s xs acts) (fun k => sumF 1000 xs (nthL acts k) xs.length) m := by
  have e1 : betOk s xs acts 1 1 = actsOk s xs acts := by
    unfold betOk
    have : (shareOk 1 1 && decide ((1 : Int) ≤ 1000)) = true := by decide
    rw [this, Bool.and_true]
  have e2 : (fun k => betS 1 1 xs (nthL acts k)) = fun k => sumF 1000 xs (nthL acts k) xs.length := by
    funext k; unfold betS; rw [Int.one_mul, Int.sub_self, Int.zero_mul, Int.add_zero]
  rw [e1, e2]
theorem between_none (s : Int) (xs : List Int) (acts : List (List Int)) (m : Nat) : bestM (betOk s xs acts 0 1) (fun k => betS 0 1 xs (nthL acts k)) m = bestM (actsOk s xs acts) (fun k => -(sumF 1000 xs (negTo (nthL acts k) (nthL acts k).length) xs.length)) m := by
  have e1 : betOk s xs acts 0 1 = actsOk s xs acts := by
    unfold betOk
    have : (shareOk 0 1 && decide ((1 : Int) ≤ 1000)) = true := by decide
    rw [this, Bool.and_true]
  have e2 : (fun k => betS 0 1 xs (nthL acts k)) = fun k => -(sumF 1000 xs (negTo (nthL acts k) (nthL acts k).length) xs.length) := by
    funext k; unfold betS; rw [Int.zero_mul, Int.sub_zero, Int.one_mul, Int.zero_add]
  rw [e1, e2]
theorem single_one : ∀ j : Fin 16, single j.val = true → ∀ x y : Fin 4, hasB j.val x.val = true → hasB j.val y.val = true → x = y := by decide
theorem chance_same {s : Int} {xs gs : List Int} (hc : chanceOk s xs = true) (hg : gainsOk s gs = true) : hiS xs gs = loS xs gs := by
  obtain ⟨hm, h0⟩ := chance_normal hc
  have G := mg_of hm h0 hg rfl rfl
  have H := G.turned
  have hall : ∀ j, j < xs.length → nth xs j ≠ 0 → single j = true := fun j hj hne => by
    unfold chanceOk at hc
    rw [Bool.and_eq_true, allN_iff] at hc
    have := hc.2 j hj
    rw [Bool.or_eq_true, beq_iff_eq] at this
    exact this.resolve_left hne
  unfold hiS loS
  rw [sumF_dot, sumF_dot, ← Int.neg_one_mul, ← dot_lin]
  refine dot_congr _ _ fun j hj => ?_
  by_cases hne : nth xs j = 0
  · rw [hne, Int.mul_zero, Int.mul_zero]
  · have hj0 : j ≠ 0 := by rintro rfl; exact hne h0
    obtain ⟨x, hx, hx2, e⟩ := lowF_at 1000 gs j gs.length (fun x hx => (G.gb1 x hx).2) (mg_some G hj hj0)
    obtain ⟨y, hy, hy2, e2⟩ := lowF_at 1000 (negTo gs gs.length) j gs.length (fun x hx => (H.gb1 x hx).2) (mg_some G hj hj0)
    have hm4 := G.m4
    have h16 := G.n16
    have hxy := single_one ⟨j, by omega⟩ (hall j hj hne) ⟨x, by omega⟩ ⟨y, by omega⟩ hx2 hy2
    have hxy2 : x = y := by injection hxy
    subst hxy2
    rw [negTo_len, e, e2, negTo_nth _ _ _ hx]
    have : (-1 : Int) * -(nth gs x) = nth gs x := by omega
    rw [this]
theorem acts_gains {s : Int} {xs : List Int} {acts : List (List Int)} (h : actsOk s xs acts = true) : normalOk s xs = true ∧ 1 ≤ acts.length ∧ acts.length ≤ 8 ∧ ∀ k, k < acts.length → gainsOk s (nthL acts k) = true := by
  unfold actsOk at h
  rw [Bool.and_eq_true, Bool.and_eq_true, allN_iff] at h
  have := inB_iff.1 h.2.1
  exact ⟨h.1, by omega, by omega, h.2.2⟩
theorem between_chance {s num den : Int} {xs : List Int} {acts : List (List Int)} (h : betOk s xs acts num den = true) (hc : chanceOk s xs = true) : bestM (betOk s xs acts num den) (fun k => betS num den xs (nthL acts k)) acts.length = bestM (betOk s xs acts 1 1) (fun k => betS 1 1 xs (nthL acts k)) acts.length := by
  have h' := h
  unfold betOk at h'
  rw [Bool.and_eq_true, Bool.and_eq_true] at h'
  obtain ⟨h0, h1, h2⟩ := share_facts2 h'.2.1
  have hg := (acts_gains h'.1).2.2.2
  rw [between_one, h, h'.1]
  unfold bestM
  simp only [if_true]
  have e : argTo (fun k => betS num den xs (nthL acts k)) acts.length = argTo (fun k => den * sumF 1000 xs (nthL acts k) xs.length) acts.length := argTo_congr _ _ _ fun k hk => by
    show betS num den xs (nthL acts k) = den * loS xs (nthL acts k)
    rw [betS_eq, chance_same hc (hg k hk), ← Int.add_mul]
    congr 1; omega
  rw [e, argTo_scale _ den (by omega)]
theorem fr_ext {a b : FR} (h1 : a.num = b.num) (h2 : a.den = b.den) (h3 : a.ok = b.ok) : a = b := by
  cases a; cases b; simp only at h1 h2 h3; subst h1; subst h2; subst h3; rfl
theorem best_fraction {f : Nat → Int} {M W i : Nat} {w : Int} (hw : 1 ≤ w) (hok : ∀ k, k < M → (redF (f k) w).ok = true) (hi : i < M) :
    lessF (redF (f (argTo f M)) w).num (redF (f (argTo f M)) w).den (redF (f i) w).num (redF (f i) w).den = false ∧
    (i < argTo f M → ¬ ((redF (f i) w).num = (redF (f (argTo f M)) w).num ∧ (redF (f i) w).den = (redF (f (argTo f M)) w).den)) := by
  have hk := argTo_lt f M (by omega)
  have h1 := hok _ hk
  have h2 := hok _ hi
  have h3 := argTo_max f M i hi
  constructor
  · rw [lessF_red (by omega) (by omega) h1 h2, decide_eq_false_iff_not]
    intro hlt
    have := Int.lt_of_mul_lt_mul_right hlt (by omega)
    omega
  · rintro hlt ⟨e1, e2⟩
    have h4 := argTo_first f M i hlt
    have e3 := redF_inj (by omega) (by omega) h2 (fr_ext e1 e2 (by rw [h1, h2]))
    have := Int.eq_of_mul_eq_mul_right (by omega) e3
    omega
theorem high_ok {s : Int} {xs gs : List Int} (hn : normalOk s xs = true) (hg : gainsOk s gs = true) : meanH s xs gs = redF (hiS xs gs) (isum xs) ∧ (redF (hiS xs gs) (isum xs)).ok = true := by
  obtain ⟨_, _, s1, s2, G⟩ := mean_ok hn hg
  have hb := sum_bd G.turned
  refine ⟨by unfold meanH; rw [hn, hg]; rfl, redF_ok (by omega) ?_ ?_ (by omega)⟩ <;> unfold hiS <;> omega
theorem safest_law {s : Int} {xs : List Int} {acts : List (List Int)} (h : actsOk s xs acts = true) {i : Nat} (hi : i < acts.length) {k b : Nat} (hk : argTo (fun k => sumF 1000 xs (nthL acts k) xs.length) acts.length = k) (hb : argTo (fun k => -(sumF 1000 xs (negTo (nthL acts k) (nthL acts k).length) xs.length)) acts.length = b) :
    (lessF (meanM s xs (nthL acts k)).num (meanM s xs (nthL acts k)).den (meanM s xs (nthL acts i)).num (meanM s xs (nthL acts i)).den = false ∧ (i < k → ¬ ((meanM s xs (nthL acts i)).num = (meanM s xs (nthL acts k)).num ∧ (meanM s xs (nthL acts i)).den = (meanM s xs (nthL acts k)).den))) ∧
    (lessF (meanH s xs (nthL acts b)).num (meanH s xs (nthL acts b)).den (meanH s xs (nthL acts i)).num (meanH s xs (nthL acts i)).den = false ∧ (i < b → ¬ ((meanH s xs (nthL acts i)).num = (meanH s xs (nthL acts b)).num ∧ (meanH s xs (nthL acts i)).den = (meanH s xs (nthL acts b)).den))) := by
  obtain ⟨hn, h1, h8, hg⟩ := acts_gains h
  have hkl : k < acts.length := by rw [← hk]; exact argTo_lt _ _ (by omega)
  have hbl : b < acts.length := by rw [← hb]; exact argTo_lt _ _ (by omega)
  have s1 := (mean_ok hn (hg i hi)).2.2.1
  have A := best_fraction (W := 0) (f := fun k => sumF 1000 xs (nthL acts k) xs.length) s1 (fun j hj => (mean_ok hn (hg j hj)).2.1) hi
  have B := best_fraction (W := 0) (f := fun k => -(sumF 1000 xs (negTo (nthL acts k) (nthL acts k).length) xs.length)) s1 (fun j hj => (high_ok hn (hg j hj)).2) hi
  rw [hk] at A
  rw [hb] at B
  rw [(mean_ok hn (hg i hi)).1, (mean_ok hn (hg k hkl)).1, (high_ok hn (hg i hi)).1, (high_ok hn (hg b hbl)).1]
  exact ⟨A, B⟩
end Go.Proofs.Ytchjnjmlambpjaa
