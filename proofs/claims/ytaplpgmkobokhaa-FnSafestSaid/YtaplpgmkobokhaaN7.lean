/- Plain: safest and boldest acts. No program in sight. -/
import Derived.Test.YtaplpgmkobokhaaN6
set_option linter.unusedSimpArgs false
set_option linter.unusedVariables false
namespace Go.Proofs.Ytaplpgmkobokhaa
open Go.RowKit
theorem fr_ext {a b : FR} (h1 : a.num = b.num) (h2 : a.den = b.den) (h3 : a.ok = b.ok) : a = b := by
  cases a; cases b; simp only at h1 h2 h3; subst h1; subst h2; subst h3; rfl
theorem best_fraction {f : Nat → Int} {M W i : Nat} {w : Int} (hw : 1 ≤ w) (hok : ∀ k, k < M → (redF (f k) w).ok = true) (hi : i < M) :
    lessF (redF (f (argTo f M)) w).num (redF (f (argTo f M)) w).den (redF (f i) w).num (redF (f i) w).den = false ∧
    (i < argTo f M → ¬ ((redF (f i) w).num = (redF (f (argTo f M)) w).num ∧ (redF (f i) w).den = (redF (f (argTo f M)) w).den)) := by
  have hk := argTo_lt f M (by omega)
  have h1 := hok _ hk
  have h2 := hok _ hi
  have h3 := argTo_max f M i hi
  constructor
  · rw [lessF_red (by omega) (by omega) h1 h2, decide_eq_false_iff_not]
    intro hlt
    have := Int.lt_of_mul_lt_mul_right hlt (by omega)
    omega
  · rintro hlt ⟨e1, e2⟩
    have h4 := argTo_first f M i hlt
    have e3 := redF_inj (by omega) (by omega) h2 (fr_ext e1 e2 (by rw [h1, h2]))
    have := Int.eq_of_mul_eq_mul_right (by omega) e3
    omega
theorem high_ok {s : Int} {xs gs : List Int} (hn : normalOk s xs = true) (hg : gainsOk s gs = true) : meanH s xs gs = redF (hiS xs gs) (isum xs) ∧ (redF (hiS xs gs) (isum xs)).ok = true := by
  obtain ⟨_, _, s1, s2, G⟩ := mean_ok hn hg
  have hb := sum_bd G.turned
  refine ⟨by unfold meanH; rw [hn, hg]; rfl, redF_ok (by omega) ?_ ?_ (by omega)⟩ <;> unfold hiS <;> omega
theorem safest_law {s : Int} {xs : List Int} {acts : List (List Int)} (h : actsOk s xs acts = true) {i : Nat} (hi : i < acts.length) {k b : Nat} (hk : argTo (fun k => sumF 1000 xs (nthL acts k) xs.length) acts.length = k) (hb : argTo (fun k => -(sumF 1000 xs (negTo (nthL acts k) (nthL acts k).length) xs.length)) acts.length = b) :
    (lessF (meanM s xs (nthL acts k)).num (meanM s xs (nthL acts k)).den (meanM s xs (nthL acts i)).num (meanM s xs (nthL acts i)).den = false ∧ (i < k → ¬ ((meanM s xs (nthL acts i)).num = (meanM s xs (nthL acts k)).num ∧ (meanM s xs (nthL acts i)).den = (meanM s xs (nthL acts k)).den))) ∧
    (lessF (meanH s xs (nthL acts b)).num (meanH s xs (nthL acts b)).den (meanH s xs (nthL acts i)).num (meanH s xs (nthL acts i)).den = false ∧ (i < b → ¬ ((meanH s xs (nthL acts i)).num = (meanH s xs (nthL acts b)).num ∧ (meanH s xs (nthL acts i)).den = (meanH s xs (nthL acts b)).den))) := by
  obtain ⟨hn, h1, h8, hg⟩ := acts_gains h
  have hkl : k < acts.length := by rw [← hk]; exact argTo_lt _ _ (by omega)
  have hbl : b < acts.length := by rw [← hb]; exact argTo_lt _ _ (by omega)
  have s1 := (mean_ok hn (hg i hi)).2.2.1
  have A := best_fraction (W := 0) (f := fun k => sumF 1000 xs (nthL acts k) xs.length) s1 (fun j hj => (mean_ok hn (hg j hj)).2.1) hi
  have B := best_fraction (W := 0) (f := fun k => -(sumF 1000 xs (negTo (nthL acts k) (nthL acts k).length) xs.length)) s1 (fun j hj => (high_ok hn (hg j hj)).2) hi
  rw [hk] at A
  rw [hb] at B
  rw [(mean_ok hn (hg i hi)).1, (mean_ok hn (hg k hkl)).1, (high_ok hn (hg i hi)).1, (high_ok hn (hg b hbl)).1]
  exact ⟨A, B⟩
end Go.Proofs.Ytaplpgmkobokhaa
