/- Plain: acts that are beaten, acts between. No program in sight. -/
import Derived.Test.YtaplpgmkobokhaaN5
import Derived.Test.YtaplpgmkobokhaaW18
set_option linter.unusedSimpArgs false
set_option linter.unusedVariables false
namespace Go.Proofs.Ytaplpgmkobokhaa
open Go.RowKit
theorem argTo_succ (f : Nat → Int) (n : Nat) : argTo f (n + 1) = if f (argTo f n) < f n then n else argTo f n := rfl
theorem argTo_max (f : Nat → Int) (n k : Nat) (hk : k < n) : f k ≤ f (argTo f n) := by
  induction n with
  | zero => omega
  | succ n ih =>
    rw [argTo_succ]
    by_cases e : k = n
    · subst e; split
      · exact Int.le_refl _
      · omega
    · have h1 := ih (by omega)
      split
      · omega
      · exact h1
theorem argTo_first (f : Nat → Int) (n k : Nat) (hk : k < argTo f n) : f k < f (argTo f n) := by
  induction n with
  | zero => exact absurd hk (by show ¬ k < 0; omega)
  | succ n ih =>
    rw [argTo_succ] at hk ⊢
    split
    · rename_i h
      rw [if_pos h] at hk
      have := argTo_max f n k hk
      omega
    · rename_i h
      rw [if_neg h] at hk
      exact ih hk
theorem argTo_scale (f : Nat → Int) (c : Int) (hc : 0 < c) (n : Nat) : argTo (fun k => c * f k) n = argTo f n := by
  induction n with
  | zero => rfl
  | succ n ih =>
    rw [argTo_succ, argTo_succ, ih]
    by_cases h : f (argTo f n) < f n
    · rw [if_pos h, if_pos (Int.mul_lt_mul_of_pos_left h hc)]
    · rw [if_neg h, if_neg (fun h2 => h (Int.lt_of_mul_lt_mul_left h2 (by omega)))]
theorem MG.turned {s : Int} {n m : Nat} {xs gs : List Int} (h : MG s n m xs gs) : MG s n m xs (negTo gs m) :=
  ⟨h.n16, h.n1, h.m4, h.m1, h.pow, h.xlen, negTo_len _ _, h.zero, h.xb, fun k hk => by rw [negTo_nth _ _ _ hk]; have := h.gb1 k hk; unfold inG; omega, fun k hk => by rw [negTo_nth _ _ _ hk]; have := h.gb1 k hk; omega⟩
theorem sum_over {s : Int} {n m : Nat} {xs gs us ds : List Int} (h : MG s n m xs gs) (u : MG s n m xs us) (hd : ds.length = m) (e : ∀ x, x < m → nth us x = nth gs x + nth ds x) : lowSumTo xs ds n + sumF 1000 xs gs n ≤ sumF 1000 xs us n := by
  have hl : lowSumTo xs ds n = sumF 2000 xs ds n := rfl
  rw [hl, sumF_dot, sumF_dot, sumF_dot, ← dot_add]
  refine dot_mono xs n (fun j hj => (h.xb j hj).1) fun j hj hne => ?_
  have hj0 : j ≠ 0 := by rintro rfl; exact hne h.zero
  obtain ⟨x, hx, hx2, e2⟩ := lowF_at 1000 us j m (fun x hx => (u.gb1 x hx).2) (mg_some h hj hj0)
  rw [u.glen, e2, e x hx, h.glen, hd]
  have h1 := lowF_le 1000 gs j m x hx hx2
  have h2 := lowF_le 2000 ds j m x hx hx2
  omega
/-- the least and the greatest sums of an act -/
def loS (xs gs : List Int) : Int := sumF 1000 xs gs xs.length
def hiS (xs gs : List Int) : Int := -(sumF 1000 xs (negTo gs gs.length) xs.length)
theorem beats_more {s : Int} {xs f g : List Int} (h : beatsM s xs f g = true) : loS xs g < loS xs f ∧ hiS xs g < hiS xs f := by
  unfold beatsM at h
  rw [Bool.and_eq_true, Bool.and_eq_true, Bool.and_eq_true, decide_eq_true_eq] at h
  obtain ⟨hn, hf, hg, hlt⟩ := h
  obtain ⟨hm, h0⟩ := norm_facts hn
  have F := mg_of hm h0 hf rfl rfl
  have hl : g.length = f.length := by have h1 := (gainsOk_facts hf).1; have h2 := (gainsOk_facts hg).1; omega
  have G := mg_of hm h0 hg rfl hl
  have hd := subTo_len f g f.length
  have h1 := sum_over G F hd (fun x hx => by rw [subTo_nth _ _ _ _ hx]; omega)
  have h2 := sum_over F.turned G.turned hd (fun x hx => by rw [subTo_nth _ _ _ _ hx, negTo_nth _ _ _ hx, negTo_nth _ _ _ hx]; omega)
  unfold loS hiS
  rw [hl]
  constructor <;> omega
theorem betS_eq (num den : Int) (xs gs : List Int) : betS num den xs gs = num * loS xs gs + (den - num) * hiS xs gs := rfl
theorem beats_between {s num den : Int} {xs f g : List Int} (h : beatsM s xs f g = true) (h0 : 0 ≤ num) (h1 : num ≤ den) (h2 : 1 ≤ den) : betS num den xs g < betS num den xs f := by
  obtain ⟨hlo, hhi⟩ := beats_more h
  rw [betS_eq, betS_eq]
  have e1 : num * (loS xs g + 1) ≤ num * loS xs f := Int.mul_le_mul_of_nonneg_left (by omega) h0
  have e2 : (den - num) * (hiS xs g + 1) ≤ (den - num) * hiS xs f := Int.mul_le_mul_of_nonneg_left (by omega) (by omega)
  rw [Int.mul_add, Int.mul_one] at e1 e2
  omega
theorem share_facts2 {num den : Int} (h : shareOk num den = true) : 0 ≤ num ∧ num ≤ den ∧ 1 ≤ den := by
  simp only [shareOk, fracOk, Bool.and_eq_true, inB_iff] at h; omega
/-- no act beats the best one by such sums -/
theorem between_unbeaten {s num den : Int} {xs : List Int} {acts : List (List Int)} {m i : Nat} (h : betOk s xs acts num den = true) (hi : i < m) : beatsM s xs (nthL acts i) (nthL acts (argTo (fun k => betS num den xs (nthL acts k)) m)) = false := by
  unfold betOk at h
  rw [Bool.and_eq_true, Bool.and_eq_true] at h
  obtain ⟨h0, h1, h2⟩ := share_facts2 h.2.1
  cases hb : beatsM s xs (nthL acts i) (nthL acts (argTo (fun k => betS num den xs (nthL acts k)) m))
  · rfl
  · have h3 := beats_between hb h0 h1 h2
    have h4 := argTo_max (fun k => betS num den xs (nthL acts k)) m i hi

    omega
theorem safest_unbeaten {s : Int} {xs : List Int} {acts : List (List Int)} {m i : Nat} (hi : i < m) : beatsM s xs (nthL acts i) (nthL acts (argTo (fun k => sumF 1000 xs (nthL acts k) xs.length) m)) = false := by
  cases hb : beatsM s xs (nthL acts i) (nthL acts (argTo (fun k => sumF 1000 xs (nthL acts k) xs.length) m))
  · rfl
  · have h3 := (beats_more hb).1
    have h4 := argTo_max (fun k => sumF 1000 xs (nthL acts k) xs.length) m i hi

    unfold loS at h3
    omega
theorem boldest_unbeaten {s : Int} {xs : List Int} {acts : List (List Int)} {m i : Nat} (hi : i < m) : beatsM s xs (nthL acts i) (nthL acts (argTo (fun k => -(sumF 1000 xs (negTo (nthL acts k) (nthL acts k).length) xs.length)) m)) = false := by
  cases hb : beatsM s xs (nthL acts i) (nthL acts (argTo (fun k => -(sumF 1000 xs (negTo (nthL acts k) (nthL acts k).length) xs.length)) m))
  · rfl
  · have h3 := (beats_more hb).2
    have h4 := argTo_max (fun k => -(sumF 1000 xs (negTo (nthL acts k) (nthL acts k).length) xs.length)) m i hi

    unfold hiS at h3
    omega
theorem between_one (s : Int) (xs : List Int) (acts : List (List Int)) (m : Nat) : bestM (betOk s xs acts 1 1) (fun k => betS 1 1 xs (nthL acts k)) m = bestM (actsOk s xs acts) (fun k => sumF 1000 xs (nthL acts k) xs.length) m := by
  have e1 : betOk s xs acts 1 1 = actsOk s xs acts := by
    unfold betOk
    have : (shareOk 1 1 && decide ((1 : Int) ≤ 1000)) = true := by decide
    rw [this, Bool.and_true]
  have e2 : (fun k => betS 1 1 xs (nthL acts k)) = fun k => sumF 1000 xs (nthL acts k) xs.length := by
    funext k; unfold betS; rw [Int.one_mul, Int.sub_self, Int.zero_mul, Int.add_zero]
  rw [e1, e2]
theorem between_none (s : Int) (xs : List Int) (acts : List (List Int)) (m : Nat) : bestM (betOk s xs acts 0 1) (fun k => betS 0 1 xs (nthL acts k)) m = bestM (actsOk s xs acts) (fun k => -(sumF 1000 xs (negTo (nthL acts k) (nthL acts k).length) xs.length)) m := by
  have e1 : betOk s xs acts 0 1 = actsOk s xs acts := by
    unfold betOk
    have : (shareOk 0 1 && decide ((1 : Int) ≤ 1000)) = true := by decide
    rw [this, Bool.and_true]
  have e2 : (fun k => betS 0 1 xs (nthL acts k)) = fun k => -(sumF 1000 xs (negTo (nthL acts k) (nthL acts k).length) xs.length) := by
    funext k; unfold betS; rw [Int.zero_mul, Int.sub_zero, Int.one_mul, Int.zero_add]
  rw [e1, e2]
theorem single_one : ∀ j : Fin 16, single j.val = true → ∀ x y : Fin 4, hasB j.val x.val = true → hasB j.val y.val = true → x = y := by decide
theorem chance_same {s : Int} {xs gs : List Int} (hc : chanceOk s xs = true) (hg : gainsOk s gs = true) : hiS xs gs = loS xs gs := by
  obtain ⟨hm, h0⟩ := chance_normal hc
  have G := mg_of hm h0 hg rfl rfl
  have H := G.turned
  have hall : ∀ j, j < xs.length → nth xs j ≠ 0 → single j = true := fun j hj hne => by
    unfold chanceOk at hc
    rw [Bool.and_eq_true, allN_iff] at hc
    have := hc.2 j hj
    rw [Bool.or_eq_true, beq_iff_eq] at this
    exact this.resolve_left hne
  unfold hiS loS
  rw [sumF_dot, sumF_dot, ← Int.neg_one_mul, ← dot_lin]
  refine dot_congr _ _ fun j hj => ?_
  by_cases hne : nth xs j = 0
  · rw [hne, Int.mul_zero, Int.mul_zero]
  · have hj0 : j ≠ 0 := by rintro rfl; exact hne h0
    obtain ⟨x, hx, hx2, e⟩ := lowF_at 1000 gs j gs.length (fun x hx => (G.gb1 x hx).2) (mg_some G hj hj0)
    obtain ⟨y, hy, hy2, e2⟩ := lowF_at 1000 (negTo gs gs.length) j gs.length (fun x hx => (H.gb1 x hx).2) (mg_some G hj hj0)
    have hm4 := G.m4
    have h16 := G.n16
    have hxy := single_one ⟨j, by omega⟩ (hall j hj hne) ⟨x, by omega⟩ ⟨y, by omega⟩ hx2 hy2
    have hxy2 : x = y := by injection hxy
    subst hxy2
    rw [negTo_len, e, e2, negTo_nth _ _ _ hx]
    have : (-1 : Int) * -(nth gs x) = nth gs x := by omega
    rw [this]
theorem acts_gains {s : Int} {xs : List Int} {acts : List (List Int)} (h : actsOk s xs acts = true) : normalOk s xs = true ∧ 1 ≤ acts.length ∧ acts.length ≤ 8 ∧ ∀ k, k < acts.length → gainsOk s (nthL acts k) = true := by
  unfold actsOk at h
  rw [Bool.and_eq_true, Bool.and_eq_true, allN_iff] at h
  have := inB_iff.1 h.2.1
  exact ⟨h.1, by omega, by omega, h.2.2⟩
theorem between_chance {s num den : Int} {xs : List Int} {acts : List (List Int)} (h : betOk s xs acts num den = true) (hc : chanceOk s xs = true) : bestM (betOk s xs acts num den) (fun k => betS num den xs (nthL acts k)) acts.length = bestM (betOk s xs acts 1 1) (fun k => betS 1 1 xs (nthL acts k)) acts.length := by
  have h' := h
  unfold betOk at h'
  rw [Bool.and_eq_true, Bool.and_eq_true] at h'
  obtain ⟨h0, h1, h2⟩ := share_facts2 h'.2.1
  have hg := (acts_gains h'.1).2.2.2
  rw [between_one, h, h'.1]
  unfold bestM
  simp only [if_true]
  have e : argTo (fun k => betS num den xs (nthL acts k)) acts.length = argTo (fun k => den * sumF 1000 xs (nthL acts k) xs.length) acts.length := argTo_congr _ _ _ fun k hk => by
    show betS num den xs (nthL acts k) = den * loS xs (nthL acts k)
    rw [betS_eq, chance_same hc (hg k hk), ← Int.add_mul]
    congr 1; omega
  rw [e, argTo_scale _ den (by omega)]
end Go.Proofs.Ytaplpgmkobokhaa
