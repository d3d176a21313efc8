/- Plain: regret by corners. No program in sight. -/
import Derived.Test.YtchjnjmlambpjaaN10
import Derived.Test.YtchjnjmlambpjaaW20
import Derived.Test.YtchjnjmlambpjaaW23
set_option linter.unusedSimpArgs false
set_option linter.unusedVariables false
namespace Go.Proofs.Ytchjnjmlambpjaa
open Go.RowKit
theorem neg_sub {f g : List Int} {m : Nat} (hf : f.length = m) (hg : g.length = m) : negTo (subTo f g f.length) f.length = subTo g f g.length := by
  refine ext_nth _ _ (by rw [negTo_len, subTo_len]; omega) fun j hj => ?_
  rw [negTo_len] at hj
  rw [negTo_nth _ _ _ hj, subTo_nth _ _ _ _ hj, subTo_nth _ _ _ _ (by omega)]
  omega
/-- what is lost by a corner is at most what is lost -/
theorem loss_corner {s : Int} {xs o f g : List Int} (hn : normalOk s xs = true) (ho : OrdOk s.toNat o) (hf : gainsOk s f = true) (hg : gainsOk s g = true) :
    (loS (chanceM s xs o).parts f - loS (chanceM s xs o).parts g) * isum xs ≤ lossS xs f g * isum (chanceM s xs o).parts := by
  obtain ⟨e, he, _, _, hl, _, hd, hw⟩ := corner_facts hn ho
  obtain ⟨_, c2⟩ := corner_chance hn ho
  obtain ⟨_, _, _, _, t1, t2, _⟩ := massOk_facts (norm_size c2).2.2.2.2.1
  obtain ⟨g1, _, _⟩ := gains_size hn hg
  obtain ⟨f1, _, _⟩ := gains_size hn hf
  obtain ⟨d1, d2⟩ := sub_bd2 hn hg hf
  obtain ⟨A1, _⟩ := corner_sum hn ho (M := 2000) (d := subTo g f g.length) d1 d2 hd
  rw [corner_over hn ho hg hf] at A1
  have hloss : lossS xs f g = -(sumF 2000 xs (subTo g f g.length) xs.length) := by unfold lossS; rw [neg_sub f1 g1]
  have h1 : e * (loS (chanceM s xs o).parts f - loS (chanceM s xs o).parts g) ≤ lossS xs f g := by
    have : e * (loS (chanceM s xs o).parts f - loS (chanceM s xs o).parts g) = -(e * (loS (chanceM s xs o).parts g - loS (chanceM s xs o).parts f)) := by rw [← Int.mul_neg]; congr 1; omega
    omega
  have h2 : (loS (chanceM s xs o).parts f - loS (chanceM s xs o).parts g) * isum xs = e * (loS (chanceM s xs o).parts f - loS (chanceM s xs o).parts g) * isum (chanceM s xs o).parts := by rw [← hw]; ac_rfl
  rw [h2]
  exact Int.mul_le_mul_of_nonneg_right h1 (by omega)
theorem most_ge (xs : List Int) (acts : List (List Int)) (k n : Nat) : 0 ≤ mostTo xs acts k n ∧ ∀ i, i < n → lossS xs (nthL acts i) (nthL acts k) ≤ mostTo xs acts k n := by
  induction n with
  | zero => exact ⟨Int.le_refl _, fun i hi => by omega⟩
  | succ n ih =>
    rw [mostTo_succ]
    refine ⟨by have := ih.1; omega, fun i hi => ?_⟩
    by_cases h : i = n
    · subst h; omega
    · have := ih.2 i (by omega); omega
theorem loss_self {s : Int} {xs f : List Int} (hn : normalOk s xs = true) (hf : gainsOk s f = true) : lossS xs f f = 0 := by
  obtain ⟨p1, p4, hl, h0, _⟩ := norm_size hn
  obtain ⟨f1, _, _⟩ := gains_size hn hf
  have hloss : lossS xs f f = -(sumF 2000 xs (subTo f f f.length) xs.length) := by unfold lossS; rw [neg_sub f1 f1]
  rw [hloss, sumF_dot, subTo_len]
  have hz : ∀ x, x < f.length → nth (subTo f f f.length) x = 0 := fun x hx => by rw [subTo_nth _ _ _ _ hx]; omega
  have : dot (fun a => lowF 2000 (subTo f f f.length) a f.length) xs xs.length = dot (fun _ => 0) xs xs.length := dot_congr _ _ fun a ha => by
    by_cases ha0 : a = 0
    · subst ha0; rw [h0]; simp
    · obtain ⟨x, hx⟩ := hasB_some ⟨s.toNat, by omega⟩ ⟨a, by show a < 2 ^ s.toNat; omega⟩ ha0
      have hxl : x.val < s.toNat := x.isLt
      obtain ⟨y, hy, _, e⟩ := lowF_at 2000 (subTo f f f.length) a f.length (fun x hx => by rw [hz x hx]; omega) ⟨x.val, by omega, hx⟩
      show lowF 2000 (subTo f f f.length) a f.length * _ = _
      rw [e, hz y hy]
  rw [this]
  have h2 : ∀ n, dot (fun _ => 0) xs n = 0 := fun n => by
    induction n with
    | zero => rfl
    | succ n ih => rw [dot_succ, ih]; simp
  rw [h2]; rfl
theorem regret_okI {s k : Int} {xs : List Int} {acts : List (List Int)} (h : (regretM s xs acts k).ok = true) : actsOk s xs acts = true ∧ 0 ≤ k ∧ k < (acts.length : Int) := by
  unfold regretM at h
  split at h
  · rename_i h1
    rw [Bool.and_eq_true] at h1
    have := inB_iff.1 h1.2
    exact ⟨h1.1, this.1, by omega⟩
  · cases h
/-- the difference of means by a corner, as the law takes it -/
def lostF (s : Int) (c f g : List Int) : FR := addF (meanC s c f).num (meanC s c f).den (-(meanC s c g).num) (meanC s c g).den
theorem regret_law {s : Int} {xs : List Int} {acts : List (List Int)} {k : Nat} (hk : k < acts.length) (hA : actsOk s xs acts = true) (hok : (regretM s xs acts (k : Int)).ok = true) :
    0 ≤ (regretM s xs acts (k : Int)).num ∧ (acts.length = 1 → (regretM s xs acts (k : Int)).num = 0) ∧
    (∀ i, i < acts.length → beatsM s xs (nthL acts i) (nthL acts k) = true → (regretM s xs acts (k : Int)).num ≠ 0) ∧
    ∀ i j, i < acts.length → j < (cornersL s xs).length → fracOk (meanC s (nthL (cornersL s xs) j) (nthL acts i)).num (meanC s (nthL (cornersL s xs) j) (nthL acts i)).den = true ∧ fracOk (meanC s (nthL (cornersL s xs) j) (nthL acts k)).num (meanC s (nthL (cornersL s xs) j) (nthL acts k)).den = true ∧
      ((lostF s (nthL (cornersL s xs) j) (nthL acts i) (nthL acts k)).ok = true →
      lessF (regretM s xs acts (k : Int)).num (regretM s xs acts (k : Int)).den (lostF s (nthL (cornersL s xs) j) (nthL acts i) (nthL acts k)).num (lostF s (nthL (cornersL s xs) j) (nthL acts i) (nthL acts k)).den = false) := by
  obtain ⟨hn, a1, a8, hga⟩ := acts_gains hA
  obtain ⟨_, _, _, _, hm, _⟩ := norm_size hn
  obtain ⟨_, _, _, _, s1, s2, _⟩ := massOk_facts hm
  have hR : regretM s xs acts (k : Int) = redF (mostTo xs acts k acts.length) (isum xs) := by
    unfold regretM
    rw [hA, inB_iff.2 (by omega)]
    rfl
  rw [hR] at hok ⊢
  obtain ⟨m0, m1⟩ := most_ge xs acts k acts.length
  obtain ⟨r1, r2, _⟩ := redF_cross (by omega) hok
  obtain ⟨T, hT⟩ : ∃ T, mostTo xs acts k acts.length = T := ⟨_, rfl⟩
  obtain ⟨W, hW⟩ : ∃ W, isum xs = W := ⟨_, rfl⟩
  rw [hT] at m0 m1
  rw [hT, hW] at hok r1 r2 ⊢
  rw [hW] at s1 s2
  have hnum : ∀ t : Int, 0 < t → 0 < T → (redF T W).num ≠ 0 := fun t _ h e => by
    rw [e, Int.zero_mul] at r1
    have := Int.mul_pos h r2
    omega
  refine ⟨?_, fun h1 => ?_, fun i hi hb e => ?_, fun i j hi hj => ?_⟩
  · refine Classical.byContradiction fun hc => ?_
    have h1 : (redF T W).num * W < 0 := Int.mul_neg_of_neg_of_pos (by omega) (by omega)
    have h2 : 0 ≤ T * (redF T W).den := Int.mul_nonneg m0 (by omega)
    omega
  · have hT0 : T = 0 := by
      have hk0 : k = 0 := by omega
      rw [← hT, h1, hk0]
      show max 0 (lossS xs (nthL acts 0) (nthL acts 0)) = 0
      rw [loss_self hn (hga 0 (by omega))]; rfl
    subst hT0
    rw [Int.zero_mul] at r1
    rcases Int.mul_eq_zero.1 r1 with h | h
    · exact h
    · omega
  · have hlaw := beats_law hn (hga i hi) (hga k hk)
    rw [hb] at hlaw
    have hc := (allN_iff _ _).1 hlaw.symm 0 (corners_some hn)
    obtain ⟨_, o, _, ho2, e2⟩ := corners_nth (s := s) (xs := xs) (i := 0) (corners_some hn)
    simp only [e2] at hc
    rw [corner_less hn ho2 (hga i hi) (hga k hk), decide_eq_true_eq] at hc
    have h3 := loss_corner hn ho2 (hga i hi) (hga k hk)
    obtain ⟨_, c2⟩ := corner_chance hn ho2
    obtain ⟨_, _, _, _, t1, t2, _⟩ := massOk_facts (norm_size c2).2.2.2.2.1
    have h4 := m1 i hi
    have h5 : 0 < (loS (chanceM s xs o).parts (nthL acts i) - loS (chanceM s xs o).parts (nthL acts k)) * isum xs := Int.mul_pos (by omega) (by omega)
    have h6 : 0 < lossS xs (nthL acts i) (nthL acts k) := by
      refine Classical.byContradiction fun hc2 => ?_
      have : lossS xs (nthL acts i) (nthL acts k) * isum (chanceM s xs o).parts ≤ 0 := Int.mul_nonpos_of_nonpos_of_nonneg (by omega) (by omega)
      omega
    exact hnum 1 (by omega) (by omega) e
  · obtain ⟨_, o, _, ho2, e2⟩ := corners_nth hj
    rw [e2]
    obtain ⟨x1, x2, x3, _⟩ := corner_mean hn ho2 (hga i hi)
    obtain ⟨y1, y2, _, _⟩ := corner_mean hn ho2 (hga k hk)
    have h3 := loss_corner hn ho2 (hga i hi) (hga k hk)
    have h4 := m1 i hi
    obtain ⟨V, hV⟩ : ∃ V, isum (chanceM s xs o).parts = V := ⟨_, rfl⟩
    rw [hV] at x1 x3 y1 h3
    rw [hW] at h3
    rw [x1] at x2
    rw [y1] at y2
    have v1 := redF_valid x2
    have v2 := redF_valid y2
    have hng := redF_neg (loS (chanceM s xs o).parts (nthL acts k)) V
    have v3ok : (redF (-(loS (chanceM s xs o).parts (nthL acts k))) V).ok = true := by rw [hng]; exact y2
    have v3 := redF_valid v3ok
    rw [hng] at v3
    refine ⟨by rw [x1]; exact v1, by rw [y1]; exact v2, ?_⟩
    have hl : lostF s (chanceM s xs o).parts (nthL acts i) (nthL acts k) = redF (loS (chanceM s xs o).parts (nthL acts i) + -(loS (chanceM s xs o).parts (nthL acts k))) V := by
      unfold lostF addF
      rw [x1, y1]
      rw [if_pos (by rw [v1, v3]; rfl)]
      have := redF_sum (w := V) (by omega) x2 v3ok
      rw [hng] at this
      exact this
    rw [hl]
    intro hlo
    rw [lessF_red (by omega) (by omega) hok hlo, decide_eq_false_iff_not]
    have h7 : lossS xs (nthL acts i) (nthL acts k) * V ≤ T * V := Int.mul_le_mul_of_nonneg_right h4 (by omega)
    have h8 : (loS (chanceM s xs o).parts (nthL acts i) + -loS (chanceM s xs o).parts (nthL acts k)) * W = (loS (chanceM s xs o).parts (nthL acts i) - loS (chanceM s xs o).parts (nthL acts k)) * W := by rw [Int.sub_eq_add_neg]
    rw [h8]
    omega
theorem MinusFraction_any (a b : Int) (w : World) (h : fracOk a b = true) :
    Calls Try.prog 49 #[.agg #[.int .i64 a, .int .i64 b]] w fun e w' => e = .returned (.tuple #[.agg #[.int .i64 (-a), .int .i64 b], .bool true]) ∧ Below w.heap.size w w' := by
  obtain ⟨a0, a1, b0, b1⟩ := frac_bd h
  have hng : IntKind.i64.wrap (-a) = -a := IntWalk.i64_in _ (by omega)
  go_enter Try.func49, Try.ntmps49
  go_wp2_with fail
  refine (isFraction_any a b _).mono ?_; rw [h]; rintro e w1 ⟨rfl, hb⟩
  have q0 := keep hb (a := ⟨w.heap.size, 0, none⟩) (v := .int .i64 a) (by simp)
  have q1 := keep hb (a := ⟨w.heap.size, 1, none⟩) (v := .int .i64 b) (by simp)
  obtain ⟨h10, h11, f20, f21⟩ := boxG (w.heap.size + 1) hb (by simp)
  have hB1 : Below w.heap.size w w1 := Below.trans (by (repeat (first | exact Below.refl _ _ | assumption | refine Below.alloc ?_ (by first | omega | (simp <;> omega)) _ | refine Below.setCell ?_ (by first | omega | (simp <;> omega)) _ | refine Below.drew ?_ | refine below_drewN ?_))) (hb.mono (by simp <;> omega))
  clear hb
  go_wp2
  refine bodyPost_ret (v := .tuple #[.agg #[.int .i64 (-a), .int .i64 b], .bool true]) (by simp [results, Try.results49, go_sem, h10, h11, f20, f21]) rfl ⟨?_, ?_⟩
  · rfl
  · (repeat (first | exact Below.refl _ _ | assumption | refine Below.alloc ?_ (by first | omega | (simp <;> omega)) _ | refine Below.setCell ?_ (by first | omega | (simp <;> omega)) _ | refine Below.drew ?_ | refine below_drewN ?_))
end Go.Proofs.Ytchjnjmlambpjaa
