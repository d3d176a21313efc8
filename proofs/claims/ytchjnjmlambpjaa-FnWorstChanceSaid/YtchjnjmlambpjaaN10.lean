/- Plain: the laws of corners: beliefs, means, beaten acts, regret. No program in sight. -/
import Derived.Test.YtchjnjmlambpjaaN9
set_option linter.unusedSimpArgs false
set_option linter.unusedVariables false
namespace Go.Proofs.Ytchjnjmlambpjaa
open Go.RowKit
theorem neg_at {m : Nat} (gs : List Int) (x : Nat) (hx : x < m) : nth (negTo gs m) x = -(nth gs x) := negTo_nth _ _ _ hx
theorem mul_le_cancel {e a b : Int} (he : 1 ≤ e) (h : e * a ≤ e * b) : a ≤ b := Int.le_of_mul_le_mul_left h (by omega)
/-- the mean by a corner -/
theorem corner_mean {s : Int} {xs o gs : List Int} (hn : normalOk s xs = true) (ho : OrdOk s.toNat o) (hg : gainsOk s gs = true) :
    meanC s (chanceM s xs o).parts gs = redF (loS (chanceM s xs o).parts gs) (isum (chanceM s xs o).parts) ∧ (meanC s (chanceM s xs o).parts gs).ok = true ∧ 1 ≤ isum (chanceM s xs o).parts ∧ hiS (chanceM s xs o).parts gs = loS (chanceM s xs o).parts gs := by
  obtain ⟨h1, h2⟩ := corner_chance hn ho
  obtain ⟨e1, e2, e3, _⟩ := mean_ok h2 hg
  have hc := chance_same h1 hg
  refine ⟨by rw [meanC_M h1, e1]; rfl, by rw [meanC_M h1, e1]; exact e2, e3, hc⟩
theorem loS_eq {s : Int} {xs o gs : List Int} (hl : (chanceM s xs o).parts.length = xs.length) : loS (chanceM s xs o).parts gs = sumF 1000 (chanceM s xs o).parts gs xs.length := by
  unfold loS; rw [hl]
theorem hiS_eq {s : Int} {xs o gs : List Int} (hl : (chanceM s xs o).parts.length = xs.length) : hiS (chanceM s xs o).parts gs = -(sumF 1000 (chanceM s xs o).parts (negTo gs gs.length) xs.length) := by
  unfold hiS; rw [hl]
theorem gains_size {s : Int} {xs gs : List Int} (hn : normalOk s xs = true) (hg : gainsOk s gs = true) : gs.length = s.toNat ∧ (∀ x, x < gs.length → nth gs x ≤ 1000) ∧ ∀ x, x < (negTo gs gs.length).length → nth (negTo gs gs.length) x ≤ 1000 := by
  obtain ⟨h1, h2⟩ := gainsOk_facts hg
  have := (norm_size hn).2.2.2.2.2
  refine ⟨by omega, fun x hx => (h2 x hx).2, fun x hx => ?_⟩
  rw [negTo_len] at hx
  rw [negTo_nth _ _ _ hx]; have := h2 x hx; omega
theorem means_corner {s : Int} {xs o gs : List Int} (hn : normalOk s xs = true) (ho : OrdOk s.toNat o) (hg : gainsOk s gs = true) :
    (meanC s (chanceM s xs o).parts gs).ok = true ∧
    lessF (meanC s (chanceM s xs o).parts gs).num (meanC s (chanceM s xs o).parts gs).den (meanM s xs gs).num (meanM s xs gs).den = false ∧
    lessF (meanH s xs gs).num (meanH s xs gs).den (meanC s (chanceM s xs o).parts gs).num (meanC s (chanceM s xs o).parts gs).den = false ∧
    (Asc gs o → meanC s (chanceM s xs o).parts gs = meanM s xs gs) ∧ (Asc (negTo gs gs.length) o → meanC s (chanceM s xs o).parts gs = meanH s xs gs) := by
  obtain ⟨c1, c2, c3, c4⟩ := corner_mean hn ho hg
  obtain ⟨e, he, _, _, hl, _, hd, hw⟩ := corner_facts hn ho
  obtain ⟨m1, m2, m3, m4, _⟩ := mean_ok hn hg
  obtain ⟨k1, k2⟩ := high_ok hn hg
  obtain ⟨g1, g2, g3⟩ := gains_size hn hg
  obtain ⟨A1, A2⟩ := corner_sum hn ho g1 g2 hd
  obtain ⟨B1, B2⟩ := corner_sum hn ho (d := negTo gs gs.length) (by rw [negTo_len, g1]) g3 hd
  have L1 := loS_eq (gs := gs) hl
  have L2 := hiS_eq (gs := gs) hl
  rw [← L1] at A1 A2
  have hc : sumF 1000 (chanceM s xs o).parts (negTo gs gs.length) xs.length = -(loS (chanceM s xs o).parts gs) := by omega
  rw [hc] at B1 B2
  have hw2 := c2
  rw [c1] at hw2
  have C : sumF 1000 xs gs xs.length * isum (chanceM s xs o).parts ≤ loS (chanceM s xs o).parts gs * isum xs := by
    refine mul_le_cancel he ?_
    have h1 : e * (sumF 1000 xs gs xs.length * isum (chanceM s xs o).parts) = sumF 1000 xs gs xs.length * isum xs := by rw [← hw]; ac_rfl
    have h2 : e * (loS (chanceM s xs o).parts gs * isum xs) = (e * loS (chanceM s xs o).parts gs) * isum xs := by ac_rfl
    rw [h1, h2]
    exact Int.mul_le_mul_of_nonneg_right A1 (by omega)
  have D : loS (chanceM s xs o).parts gs * isum xs ≤ hiS xs gs * isum (chanceM s xs o).parts := by
    refine mul_le_cancel he ?_
    have h1 : e * (hiS xs gs * isum (chanceM s xs o).parts) = hiS xs gs * isum xs := by rw [← hw]; ac_rfl
    have h2 : e * (loS (chanceM s xs o).parts gs * isum xs) = (e * loS (chanceM s xs o).parts gs) * isum xs := by ac_rfl
    rw [h1, h2]
    refine Int.mul_le_mul_of_nonneg_right ?_ (by omega)
    unfold hiS
    rw [Int.mul_neg] at B1
    omega
  refine ⟨c2, ?_, ?_, fun h => ?_, fun h => ?_⟩
  · rw [c1, m1, lessF_red (by omega) (by omega) hw2 m2, decide_eq_false_iff_not]; omega
  · rw [c1, k1, lessF_red (by omega) (by omega) k2 hw2, decide_eq_false_iff_not]; omega
  · rw [c1, m1]
    refine redF_eq (by omega) (by omega) ?_
    rw [← A2 h, ← hw]; ac_rfl
  · rw [c1, k1]
    refine redF_eq (by omega) (by omega) ?_
    have h3 := B2 h
    have h4 : hiS xs gs = e * loS (chanceM s xs o).parts gs := by unfold hiS; rw [Int.mul_neg] at h3; omega
    rw [h4, ← hw]; ac_rfl
theorem means_list {s : Int} {xs gs : List Int} (hn : normalOk s xs = true) (hg : gainsOk s gs = true) :
    (∀ i, i < (cornersL s xs).length → (meanC s (nthL (cornersL s xs) i) gs).ok = true ∧
      lessF (meanC s (nthL (cornersL s xs) i) gs).num (meanC s (nthL (cornersL s xs) i) gs).den (meanM s xs gs).num (meanM s xs gs).den = false ∧
      lessF (meanH s xs gs).num (meanH s xs gs).den (meanC s (nthL (cornersL s xs) i) gs).num (meanC s (nthL (cornersL s xs) i) gs).den = false) ∧
    (∃ i, i < (cornersL s xs).length ∧ meanC s (nthL (cornersL s xs) i) gs = meanM s xs gs) ∧ ∃ i, i < (cornersL s xs).length ∧ meanC s (nthL (cornersL s xs) i) gs = meanH s xs gs := by
  obtain ⟨p1, p4, _⟩ := norm_size hn
  refine ⟨fun i hi => ?_, ?_, ?_⟩
  · obtain ⟨_, o, ho, ho2, e⟩ := corners_nth hi
    rw [e]
    obtain ⟨a, b, c, _⟩ := means_corner hn ho2 hg
    exact ⟨a, b, c⟩
  · obtain ⟨o, ho, hA⟩ := asc_some s.toNat p1 p4 gs
    obtain ⟨i, hi, e⟩ := mem_nthL ((corners_mem hn).2 ⟨o, ho, rfl⟩)
    exact ⟨i, hi, by rw [e]; exact (means_corner hn (orders_ok p4 ho) hg).2.2.2.1 hA⟩
  · obtain ⟨o, ho, hA⟩ := asc_some s.toNat p1 p4 (negTo gs gs.length)
    obtain ⟨i, hi, e⟩ := mem_nthL ((corners_mem hn).2 ⟨o, ho, rfl⟩)
    exact ⟨i, hi, by rw [e]; exact (means_corner hn (orders_ok p4 ho) hg).2.2.2.2 hA⟩
/-- by a corner, differences of means are means of differences -/
theorem corner_over {s : Int} {xs o f g : List Int} (hn : normalOk s xs = true) (ho : OrdOk s.toNat o) (hf : gainsOk s f = true) (hg : gainsOk s g = true) :
    sumF 2000 (chanceM s xs o).parts (subTo f g f.length) xs.length = loS (chanceM s xs o).parts f - loS (chanceM s xs o).parts g := by
  obtain ⟨p1, p4, hln, h0, _⟩ := norm_size hn
  obtain ⟨e, he, _, _, hl, _, hd, hw⟩ := corner_facts hn ho
  obtain ⟨g1, g2, _⟩ := gains_size hn hg
  obtain ⟨f1, f2, _⟩ := gains_size hn hf
  have gb := (gainsOk_facts hg).2
  have fb := (gainsOk_facts hf).2
  have key : e * sumF 2000 (chanceM s xs o).parts (subTo f g f.length) xs.length + e * loS (chanceM s xs o).parts g = e * loS (chanceM s xs o).parts f := by
    rw [loS_eq hl, loS_eq hl, sumF_dot, sumF_dot, sumF_dot, hd, hd, hd, ← dot_add]
    refine dot_congr _ _ fun j hj => ?_
    by_cases hj0 : j = 0
    · subst hj0; rw [h0]; simp
    · have hM : ∀ x, x < s.toNat → nth (subTo f g f.length) x ≤ 2000 := fun x hx => by
        rw [subTo_nth _ _ _ _ (by omega)]; have := fb x (by omega); have := gb x (by omega); omega
      obtain ⟨x, hx, hb, e1, e2⟩ := lowF_first (m := 0) p4 ho (d := subTo f g f.length) (by rw [subTo_len, f1]) hM (by omega) hj0
      obtain ⟨y, hy, _, e3, e4⟩ := lowF_first (m := 0) p4 ho f1 (fun x hx => f2 x (by omega)) (a := j) (by omega) hj0
      obtain ⟨z, hz, _, e5, e6⟩ := lowF_first (m := 0) p4 ho g1 (fun x hx => g2 x (by omega)) (a := j) (by omega) hj0
      have q1 : y = x := (Nat.pow_right_inj (by decide : 1 < 2)).1 (by rw [← e3, e1])
      have q2 : z = x := (Nat.pow_right_inj (by decide : 1 < 2)).1 (by rw [← e5, e1])
      rw [subTo_len, f1, g1, ← f1] at *
      rw [e2, e4, e6, q1, q2, subTo_nth _ _ _ _ (by omega)]
      have : nth f x - nth g x + nth g x = nth f x := by omega
      rw [this]
  have h2 : e * (sumF 2000 (chanceM s xs o).parts (subTo f g f.length) xs.length + loS (chanceM s xs o).parts g) = e * loS (chanceM s xs o).parts f := by rw [Int.mul_add]; exact key
  have h3 := Int.eq_of_mul_eq_mul_left (by omega) h2
  omega
theorem sub_bd2 {s : Int} {xs f g : List Int} (hn : normalOk s xs = true) (hf : gainsOk s f = true) (hg : gainsOk s g = true) : (subTo f g f.length).length = s.toNat ∧ ∀ x, x < (subTo f g f.length).length → nth (subTo f g f.length) x ≤ 2000 := by
  obtain ⟨g1, g2, _⟩ := gains_size hn hg
  obtain ⟨f1, f2, _⟩ := gains_size hn hf
  have gb := (gainsOk_facts hg).2
  have fb := (gainsOk_facts hf).2
  refine ⟨by rw [subTo_len, f1], fun x hx => ?_⟩
  rw [subTo_len] at hx
  rw [subTo_nth _ _ _ _ hx]; have := fb x (by omega); have := gb x (by omega); omega
theorem corner_less {s : Int} {xs o f g : List Int} (hn : normalOk s xs = true) (ho : OrdOk s.toNat o) (hf : gainsOk s f = true) (hg : gainsOk s g = true) :
    lessF (meanC s (chanceM s xs o).parts g).num (meanC s (chanceM s xs o).parts g).den (meanC s (chanceM s xs o).parts f).num (meanC s (chanceM s xs o).parts f).den = decide (loS (chanceM s xs o).parts g < loS (chanceM s xs o).parts f) := by
  obtain ⟨a1, a2, a3, _⟩ := corner_mean hn ho hf
  obtain ⟨b1, b2, _, _⟩ := corner_mean hn ho hg
  have a4 := a2
  have b4 := b2
  rw [a1] at a4
  rw [b1] at b4
  rw [a1, b1, lessF_red (by omega) (by omega) b4 a4]
  rw [decide_eq_decide]
  exact ⟨fun h => Int.lt_of_mul_lt_mul_right h (by omega), fun h => Int.mul_lt_mul_of_pos_right h (by omega)⟩
theorem beats_law {s : Int} {xs f g : List Int} (hn : normalOk s xs = true) (hf : gainsOk s f = true) (hg : gainsOk s g = true) :
    beatsM s xs f g = allN (fun i => lessF (meanC s (nthL (cornersL s xs) i) g).num (meanC s (nthL (cornersL s xs) i) g).den (meanC s (nthL (cornersL s xs) i) f).num (meanC s (nthL (cornersL s xs) i) f).den) (cornersL s xs).length := by
  obtain ⟨p1, p4, _⟩ := norm_size hn
  obtain ⟨d1, d2⟩ := sub_bd2 hn hf hg
  have hb : beatsM s xs f g = decide (0 < sumF 2000 xs (subTo f g f.length) xs.length) := by
    unfold beatsM; rw [hn, hf, hg]; rfl
  rw [hb, Bool.eq_iff_iff, decide_eq_true_eq, allN_iff]
  constructor
  · intro h i hi
    obtain ⟨_, o, ho, ho2, e⟩ := corners_nth hi
    rw [e, corner_less hn ho2 hf hg, decide_eq_true_eq]
    obtain ⟨c, hc, _, _, hl, _, hd, hw⟩ := corner_facts hn ho2
    have h1 := (corner_sum hn ho2 d1 d2 hd).1
    rw [corner_over hn ho2 hf hg] at h1
    have h2 : 0 < c * (loS (chanceM s xs o).parts f - loS (chanceM s xs o).parts g) := by omega
    have := Int.pos_of_mul_pos_right h2 (by omega)
    omega
  · intro h
    obtain ⟨o, ho, hA⟩ := asc_some s.toNat p1 p4 (subTo f g f.length)
    have ho2 := orders_ok p4 ho
    obtain ⟨i, hi, e⟩ := mem_nthL ((corners_mem hn).2 ⟨o, ho, rfl⟩)
    have h1 := h i hi
    rw [e, corner_less hn ho2 hf hg, decide_eq_true_eq] at h1
    obtain ⟨c, hc, _, _, hl, _, hd, hw⟩ := corner_facts hn ho2
    have h2 := (corner_sum hn ho2 d1 d2 hd).2 hA
    rw [corner_over hn ho2 hf hg] at h2
    rw [← h2]
    exact Int.mul_pos (by omega) (by omega)
theorem beats_not {s : Int} {xs f g : List Int} : beatsM s xs f f = false ∧ (beatsM s xs f g = true → beatsM s xs g f = false) := by
  constructor
  · cases h : beatsM s xs f f
    · rfl
    · have := (beats_more h).1; omega
  · intro h
    cases h2 : beatsM s xs g f
    · rfl
    · have := (beats_more h).1; have := (beats_more h2).1; omega
end Go.Proofs.Ytchjnjmlambpjaa
