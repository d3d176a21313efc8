/- Plain: the act of the greatest mean if parts are shared. No program in sight. -/
import Derived.Test.YtaplpgmkobokhaaN5
import Derived.Test.YtaplpgmkobokhaaN4
import Derived.Test.YtaplpgmkobokhaaW16
set_option linter.unusedSimpArgs false
set_option linter.unusedVariables false
namespace Go.Proofs.Ytaplpgmkobokhaa
open Go.RowKit
theorem shTo_sum (xs gs : List Int) (k : Nat) : shTo xs gs k = sumX (fun x => nth gs x * evenTo xs (2 ^ x) xs.length) k := by
  induction k with
  | zero => rfl
  | succ k ih => rw [sumX_succ, ← ih]; rfl
theorem sumX_le {f g : Nat → Int} (k : Nat) (h : ∀ x, x < k → f x ≤ g x) : sumX f k ≤ sumX g k := by
  induction k with
  | zero => exact Int.le_refl _
  | succ k ih =>
    have h1 := ih (fun x hx => h x (by omega))
    have h2 := h k (by omega)
    rw [sumX_succ, sumX_succ]; omega
theorem gA_zeroF : ∀ x : Fin 4, ∀ b : Fin 16, hasB b.val x.val = false → gA (2 ^ x.val) b.val = 0 := by decide +kernel
theorem gA_nnF : ∀ x : Fin 4, ∀ b : Fin 16, 0 ≤ gA (2 ^ x.val) b.val := by decide +kernel
theorem gA_sumF : ∀ m : Fin 5, ∀ b : Fin (2 ^ m.val), b.val ≠ 0 → sumX (fun x => gA (2 ^ x) b.val) m.val = 12 := by decide +kernel
theorem hasB_pow : ∀ x y : Fin 4, hasB (2 ^ x.val) y.val = true → y = x := by decide
theorem hasB_self : ∀ x : Fin 4, hasB (2 ^ x.val) x.val = true := by decide
/-- what one act has more than another one that it beats, by shared parts -/
theorem shared_more {s : Int} {n m : Nat} {xs gs us ds : List Int} (h : MG s n m xs gs) (u : MG s n m xs us) (hd : ds.length = m) (e : ∀ x, x < m → nth us x = nth gs x + nth ds x) : 12 * lowSumTo xs ds n + shTo xs gs m ≤ shTo xs us m := by
  have hl : lowSumTo xs ds n = sumF 2000 xs ds n := rfl
  have hm4 := h.m4
  have e1 : shTo xs us m = shTo xs gs m + sumX (fun x => nth ds x * evenTo xs (2 ^ x) xs.length) m := by
    rw [shTo_sum, shTo_sum]
    have : ∀ k, k ≤ m → sumX (fun x => nth us x * evenTo xs (2 ^ x) xs.length) k = sumX (fun x => nth gs x * evenTo xs (2 ^ x) xs.length) k + sumX (fun x => nth ds x * evenTo xs (2 ^ x) xs.length) k := by
      intro k
      induction k with
      | zero => intro _; rfl
      | succ k ih =>
        intro hk
        rw [sumX_succ, sumX_succ, sumX_succ, ih (by omega), e k (by omega), Int.add_mul]
        omega
    exact this m (Nat.le_refl _)
  have e2 : sumX (fun x => nth ds x * evenTo xs (2 ^ x) xs.length) m = dot (fun b => sumX (fun x => nth ds x * gA (2 ^ x) b) m) xs xs.length := by
    rw [← dot_sumX]
    exact sumX_congr _ fun x _ => by rw [dot_lin, evenTo_dot]
  rw [e1, e2, hl, sumF_dot, ← dot_lin, h.xlen]
  have key : dot (fun i => 12 * lowF 2000 ds i ds.length) xs n ≤ dot (fun b => sumX (fun x => nth ds x * gA (2 ^ x) b) m) xs n := by
    refine dot_mono xs n (fun j hj => (h.xb j hj).1) fun j hj hne => ?_
    have hj0 : j ≠ 0 := by rintro rfl; exact hne h.zero
    have h16 := h.n16
    have hs := gA_sumF ⟨m, by omega⟩ ⟨j, by have h2 := h.pow; rw [h2] at hj; exact hj⟩ hj0
    simp only at hs
    rw [hd, Int.mul_comm 12, ← hs, ← sumX_lin]
    refine sumX_le m fun x hx => ?_
    have hnn := gA_nnF ⟨x, by omega⟩ ⟨j, by omega⟩
    simp only at hnn
    cases hb : hasB j x
    · have hz := gA_zeroF ⟨x, by omega⟩ ⟨j, by omega⟩ hb
      simp only at hz
      rw [hz, Int.mul_zero, Int.mul_zero]; exact Int.le_refl _
    · exact Int.mul_le_mul_of_nonneg_right (lowF_le 2000 ds j m x hx hb) hnn
  omega
theorem beats_shared {s : Int} {xs f g : List Int} (h : beatsM s xs f g = true) : shTo xs g g.length < shTo xs f f.length := by
  unfold beatsM at h
  rw [Bool.and_eq_true, Bool.and_eq_true, Bool.and_eq_true, decide_eq_true_eq] at h
  obtain ⟨hn, hf, hg, hlt⟩ := h
  obtain ⟨hm, h0⟩ := norm_facts hn
  have F := mg_of hm h0 hf rfl rfl
  have hl : g.length = f.length := by have h1 := (gainsOk_facts hf).1; have h2 := (gainsOk_facts hg).1; omega
  have G := mg_of hm h0 hg rfl hl
  have h1 := shared_more G F (subTo_len f g f.length) (fun x hx => by rw [subTo_nth _ _ _ _ hx]; omega)
  rw [hl]
  omega
theorem shared_unbeaten {s : Int} {xs : List Int} {acts : List (List Int)} {m i : Nat} (hi : i < m) : beatsM s xs (nthL acts i) (nthL acts (argTo (fun k => shTo xs (nthL acts k) (nthL acts k).length) m)) = false := by
  cases hb : beatsM s xs (nthL acts i) (nthL acts (argTo (fun k => shTo xs (nthL acts k) (nthL acts k).length) m))
  · rfl
  · have h3 := beats_shared hb
    have h4 := argTo_max (fun k => shTo xs (nthL acts k) (nthL acts k).length) m i hi
    omega
/-- least sums by the shared chance, up to a factor -/
theorem shared_scale {s : Int} {xs : List Int} (ho : (shareM s xs).ok = true) : ∃ e : Int, 1 ≤ e ∧ ∀ gs, gainsOk s gs = true → e * loS (shareM s xs).parts gs = shTo xs gs gs.length := by
  obtain ⟨e, he, _, hl, _, hd, _⟩ := share_facts ho
  have hm := (share_ok ho).1
  obtain ⟨hs, hxl, _⟩ := massOk_facts hm
  obtain ⟨h5, hn⟩ := size_k hs
  refine ⟨e, he, fun gs hg => ?_⟩
  obtain ⟨hgl, hgb⟩ := gainsOk_facts hg
  have hst : s.toNat = gs.length := by omega
  unfold loS
  rw [sumF_dot, hl, hd, share_dot hm, shTo_sum, hst]
  refine sumX_congr _ fun x hx => ?_
  have hx4 : x < 4 := by omega
  obtain ⟨y, hy, hy2, e2⟩ := lowF_at 1000 gs (2 ^ x) gs.length (fun j hj => (hgb j hj).2) ⟨x, hx, hasB_self ⟨x, hx4⟩⟩
  have hyx := hasB_pow ⟨x, hx4⟩ ⟨y, by omega⟩ hy2
  have : y = x := by injection hyx
  subst this
  rw [e2]
theorem chance_norm {s : Int} {xs : List Int} (h : chanceOk s xs = true) : normalOk s xs = true := by
  have h1 := chance_normal h
  simp [normalOk, h1.1, h1.2]
theorem shared_law {s : Int} {xs : List Int} {acts : List (List Int)} (h : actsOk s xs acts = true) (ho : (shareM s xs).ok = true) {k : Nat} (hk : argTo (fun j => shTo xs (nthL acts j) (nthL acts j).length) acts.length = k) :
    (∀ i, i < acts.length → lessF (meanC s (shareM s xs).parts (nthL acts k)).num (meanC s (shareM s xs).parts (nthL acts k)).den (meanC s (shareM s xs).parts (nthL acts i)).num (meanC s (shareM s xs).parts (nthL acts i)).den = false ∧
      (i < k → ¬ ((meanC s (shareM s xs).parts (nthL acts i)).num = (meanC s (shareM s xs).parts (nthL acts k)).num ∧ (meanC s (shareM s xs).parts (nthL acts i)).den = (meanC s (shareM s xs).parts (nthL acts k)).den))) ∧
    bestM (actsOk s (shareM s xs).parts acts) (fun j => sumF 1000 (shareM s xs).parts (nthL acts j) (shareM s xs).parts.length) acts.length = (k : Int) := by
  obtain ⟨hn, h1, h8, hg⟩ := acts_gains h
  obtain ⟨e, he, hsc⟩ := shared_scale ho
  have hsz : (shareM s xs).size = s := by obtain ⟨_, _, e1, _⟩ := share_facts ho; exact e1
  have hc := share_chance ho
  rw [hsz] at hc
  have hnP := chance_norm hc
  have hkl : k < acts.length := by rw [← hk]; exact argTo_lt _ _ (by omega)
  generalize (shareM s xs).parts = ps at *
  have hk2 : argTo (fun j => sumF 1000 ps (nthL acts j) ps.length) acts.length = k := by
    rw [← hk, ← argTo_scale (fun j => sumF 1000 ps (nthL acts j) ps.length) e (by omega)]
    exact argTo_congr _ _ _ fun j hj => hsc _ (hg j hj)
  refine ⟨fun i hi => ?_, ?_⟩
  · have A := best_fraction (W := 0) (f := fun j => sumF 1000 ps (nthL acts j) ps.length) ((mean_ok hnP (hg i hi)).2.2.1) (fun j hj => (mean_ok hnP (hg j hj)).2.1) hi
    rw [hk2] at A
    rw [meanC_M hc, meanC_M hc, (mean_ok hnP (hg i hi)).1, (mean_ok hnP (hg k hkl)).1]
    exact A
  · have hA : actsOk s ps acts = true := by
      unfold actsOk at h ⊢
      rw [Bool.and_eq_true] at h
      rw [hnP, Bool.true_and]; exact h.2
    unfold bestM
    rw [hA, if_pos rfl, hk2]
end Go.Proofs.Ytaplpgmkobokhaa
