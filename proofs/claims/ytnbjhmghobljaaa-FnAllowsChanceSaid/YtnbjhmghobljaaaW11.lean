/- The safest and the boldest act: SafestAct, BoldestAct both. -/
import Derived.Test.YtnbjhmghobljaaaW10
import Derived.Test.YtnbjhmghobljaaaB1
import Derived.Test.YtnbjhmghobljaaaS2
set_option linter.unusedSimpArgs false
set_option linter.unusedVariables false
namespace Go.Proofs.Ytnbjhmghobljaaa
open Go.RowKit
/-- the best of so many acts by their scores, -1 if they are not valid -/
def bestM (ok : Bool) (f : Nat → Int) (n : Nat) : Int := if ok then (argTo f n : Int) else -1
/-- the scores of the first k acts -/
def scTo (f : Nat → Int) (k : Nat) : List Int := iter (fun j l => l ++ [f j]) [] k
theorem scTo_len (f : Nat → Int) (k : Nat) : (scTo f k).length = k := by
  induction k with
  | zero => rfl
  | succ k ih => show (scTo f k ++ [_]).length = _; rw [List.length_append, ih]; rfl
theorem scTo_nth (f : Nat → Int) (k j : Nat) (h : j < k) : nth (scTo f k) j = f j := by
  induction k with
  | zero => omega
  | succ k ih =>
    show nth (scTo f k ++ [f k]) j = _
    by_cases e : j < k
    · rw [nth_append_left _ _ _ (by rw [scTo_len]; exact e)]; exact ih e
    · have e2 : j = k := by omega
      subst e2
      have hl := scTo_len f j
      rw [nth_eq _ _ (by simp [hl])]
      simp [hl]
theorem arg_scTo (f : Nat → Int) (n : Nat) : argTo (nth (scTo f n)) n = argTo f n := argTo_congr _ _ _ fun k hk => scTo_nth f n k hk
theorem actsOk_facts {s : Int} {xs : List Int} {acts : List (List Int)} (h : actsOk s xs acts = true) :
    massOk s xs = true ∧ nth xs 0 = 0 ∧ 1 ≤ acts.length ∧ acts.length ≤ 8 ∧ ∀ k, k < acts.length → gainsOk s (nthL acts k) = true := by
  simp only [actsOk, Bool.and_eq_true] at h
  obtain ⟨h1, h2, h3⟩ := h
  have h4 := normalOk_facts h1
  have h5 := inB_iff.1 h2
  exact ⟨h4.1, h4.2, by omega, by omega, (allN_iff _ _).1 h3⟩
/-- what is known of a mass and gains for it -/
structure MG (s : Int) (n m : Nat) (xs gs : List Int) : Prop where
  n16 : n ≤ 16
  n1 : 1 ≤ n
  m4 : m ≤ 4
  m1 : 1 ≤ m
  pow : n = 2 ^ m
  xlen : xs.length = n
  glen : gs.length = m
  zero : nth xs 0 = 0
  xb : ∀ k, k < n → 0 ≤ nth xs k ∧ nth xs k ≤ 1000000
  gb : ∀ k, k < m → inG (nth gs k)
  gb1 : ∀ k, k < m → -1000 ≤ nth gs k ∧ nth gs k ≤ 1000
theorem mg_of {s : Int} {xs gs : List Int} {n m : Nat} (hm : massOk s xs = true) (h0 : nth xs 0 = 0) (hg : gainsOk s gs = true) (hn : xs.length = n) (hl : gs.length = m) : MG s n m xs gs := by
  obtain ⟨hsz, hlen, h16, hbd, _, _, _⟩ := massOk_facts' hm
  obtain ⟨hgl, hgb⟩ := gainsOk_facts hg
  have hs4 := okSize_iff.1 hsz
  have hsn := nsets_le hsz
  have hst : s.toNat = m := by omega
  refine ⟨by omega, by omega, by omega, by omega, ?_, hn, hl, h0, fun k hk => hbd k (by omega), fun k hk => ?_, fun k hk => hgb k (by omega)⟩
  · rw [← hn, hlen, ← hst]; rfl
  · have := hgb k (by omega); unfold inG; omega
theorem MG.lo {s : Int} {n m : Nat} {xs gs : List Int} (h : MG s n m xs gs) : gainSum min xs gs = sumF 1000 xs gs n := by
  show gainTo min xs gs xs.length = _
  rw [h.xlen]
  exact gain_minF 1000 xs gs h.zero (fun k hk => (h.gb1 k (by rw [← h.glen]; exact hk)).2) n (by rw [h.glen, ← h.pow]; exact Nat.le_refl _) n (Nat.le_refl _)
theorem MG.hi {s : Int} {n m : Nat} {xs gs : List Int} (h : MG s n m xs gs) : gainSum max xs gs = -(sumF 1000 xs (negTo gs m) n) := by
  show gainTo max xs gs xs.length = _
  rw [h.xlen, ← h.glen]
  exact gain_maxF 1000 xs gs h.zero (fun k hk => (h.gb1 k (by rw [← h.glen]; exact hk)).1) n (by rw [h.glen, ← h.pow]; exact Nat.le_refl _) n (Nat.le_refl _)
theorem MG.neg {s : Int} {n m : Nat} {xs gs : List Int} (h : MG s n m xs gs) : ∀ k, k < m → inG (nth (negTo gs m) k) := fun k hk => by
  rw [negTo_nth _ _ _ hk]; have := h.gb k hk; unfold inG at *; omega
theorem nthL_len {w : World} {ao : Option Addr} {n : Nat} {xs : List Int} (h : IntsAt w ao n xs) : xs.length = n := h.len
end Go.Proofs.Ytnbjhmghobljaaa
