/- Means: l3Whole, LowestMean, MeanOf both. The act between the safest and the boldest one: BetweenAct both. Means and fractions that the laws call: LowestMean, HighestMean, AddFractions, LessFraction. -/
import Derived.Test.YtnbjhmghobljaaaW13
import Derived.Test.YtnbjhmghobljaaaW11
import Derived.Test.YtnbjhmghobljaaaM1
set_option linter.unusedSimpArgs false
set_option linter.unusedVariables false
namespace Go.Proofs.Ytnbjhmghobljaaa
open Go.RowKit
theorem sumIn_mass {s : Int} {xs : List Int} (h : massOk s xs = true) : sumIn 1000000 xs = isum xs := by
  simp only [massOk, Bool.and_eq_true] at h
  unfold sumIn; rw [if_pos h.1.1.2]
theorem l3Whole_any (s : Int) (ao : Option Addr) (n c : Nat) (xs : List Int) (w : World) (hx : IntsAt w ao n xs) (hm : massOk s xs = true) :
    Calls Try.prog 57 #[.agg #[.int .i64 s, .slice ao n c]] w fun e w' => e = .returned (.int .i64 (isum xs)) ∧ Below w.heap.size w w' := by
  have hn16 : n ≤ 16 := by have := (massOk_facts' hm).2.2.1; have := hx.len; omega
  have HS := hid (sumIn_mass hm)
  go_enter Try.func57, Try.ntmps57
  go_wp2_with (first | (go_at_call 99; refine (l3Sum_any _ _ _ _ _ _ (hx.below (below_alloc w _)) hn16 (by decide) (by decide)).mono ?_; rw [HS.out]; rintro e w' ⟨rfl, rfl⟩))
  go_ret
  exact ⟨rfl, below_alloc w _⟩
/-- the mean of gains by the least gains of sets -/
def meanM (s : Int) (xs gs : List Int) : FR := if normalOk s xs && gainsOk s gs then redF (sumF 1000 xs gs xs.length) (isum xs) else FR.no
def meanC (s : Int) (xs gs : List Int) : FR := if chanceOk s xs && gainsOk s gs then redF (sumF 1000 xs gs xs.length) (isum xs) else FR.no
theorem meanM_bad {s : Int} {xs gs : List Int} (h : normalOk s xs = false ∨ gainsOk s gs = false) : meanM s xs gs = FR.no := by
  rcases h with h | h <;> simp [meanM, h]
theorem meanC_bad {s : Int} {xs gs : List Int} (h : chanceOk s xs = false ∨ gainsOk s gs = false) : meanC s xs gs = FR.no := by
  rcases h with h | h <;> simp [meanC, h]
theorem meanC_M {s : Int} {xs gs : List Int} (h : chanceOk s xs = true) : meanC s xs gs = meanM s xs gs := by
  have h1 := chance_normal h
  have h2 : normalOk s xs = true := by simp [normalOk, h1.1, h1.2]
  unfold meanC meanM; rw [h, h2]
/-- the score of an act between bounds -/
def betS (num den : Int) (xs gs : List Int) : Int := num * sumF 1000 xs gs xs.length + (den - num) * -(sumF 1000 xs (negTo gs gs.length) xs.length)
def betOk (s : Int) (xs : List Int) (acts : List (List Int)) (num den : Int) : Bool := actsOk s xs acts && (shareOk num den && decide (den ≤ 1000))
theorem mul_bd3 (p b : Int) (h0 : 0 ≤ p) (h1 : p ≤ 1000) (h2 : -32000000000 ≤ b) (h3 : b ≤ 32000000000) : -32000000000000 ≤ p * b ∧ p * b ≤ 32000000000000 := by
  have e1 : p * b ≤ p * 32000000000 := Int.mul_le_mul_of_nonneg_left h3 h0
  have e2 : p * (-32000000000) ≤ p * b := Int.mul_le_mul_of_nonneg_left h2 h0
  omega
theorem MG.lo_bd {s : Int} {n m : Nat} {xs gs : List Int} (h : MG s n m xs gs) : -32000000000 ≤ sumF 1000 xs gs n ∧ sumF 1000 xs gs n ≤ 32000000000 := by
  have h1 := sumF_bd 1000 (by omega) xs gs n h.xb (fun k hk => h.gb k (by rw [← h.glen]; exact hk)) n (Nat.le_refl _)
  have := h.n16; omega
theorem MG.hi_bd {s : Int} {n m : Nat} {xs gs : List Int} (h : MG s n m xs gs) : -32000000000 ≤ -(sumF 1000 xs (negTo gs m) n) ∧ -(sumF 1000 xs (negTo gs m) n) ≤ 32000000000 := by
  have h1 := sumF_bd 1000 (by omega) xs (negTo gs m) n h.xb (fun k hk => h.neg k (by rw [negTo_len] at hk; exact hk)) n (Nat.le_refl _)
  have := h.n16; omega
theorem shareOk_facts {num den : Int} (h : shareOk num den = true) : 0 ≤ num ∧ num ≤ den ∧ 1 ≤ den := by
  simp only [shareOk, fracOk, Bool.and_eq_true, inB_iff] at h; omega
theorem betOk_cases {s : Int} {xs : List Int} {acts : List (List Int)} {num den : Int} (h : betOk s xs acts num den = false) :
    actsOk s xs acts = false ∨ (actsOk s xs acts = true ∧ shareOk num den = false) ∨ (actsOk s xs acts = true ∧ shareOk num den = true ∧ 1000 < den) := by
  cases h1 : actsOk s xs acts
  · exact .inl rfl
  · cases h2 : shareOk num den
    · exact .inr (.inl ⟨rfl, rfl⟩)
    · refine .inr (.inr ⟨rfl, rfl, ?_⟩)
      simp [betOk, h1, h2] at h; omega
theorem norm_facts {s : Int} {xs : List Int} (h : normalOk s xs = true) : massOk s xs = true ∧ nth xs 0 = 0 := by
  unfold normalOk at h
  rw [Bool.and_eq_true] at h
  refine ⟨h.1, ?_⟩
  have := h.2
  first | exact eq_of_beq this | simpa using this
/-- the mean of gains by the greatest gains of sets -/
def meanH (s : Int) (xs gs : List Int) : FR := if normalOk s xs && gainsOk s gs then redF (-(sumF 1000 xs (negTo gs gs.length) xs.length)) (isum xs) else FR.no
theorem meanH_bad {s : Int} {xs gs : List Int} (h : normalOk s xs = false ∨ gainsOk s gs = false) : meanH s xs gs = FR.no := by
  rcases h with h | h <;> simp [meanH, h]
theorem frac_bd {a b : Int} (h : fracOk a b = true) : -1000000000 ≤ a ∧ a ≤ 1000000000 ∧ 1 ≤ b ∧ b ≤ 1000000000 := by
  simp only [fracOk, Bool.and_eq_true, inB_iff] at h; omega
theorem mul9 (a d : Int) (a0 : -1000000000 ≤ a) (a1 : a ≤ 1000000000) (d0 : 0 ≤ d) (d1 : d ≤ 1000000000) : -1000000000000000000 ≤ a * d ∧ a * d ≤ 1000000000000000000 := by
  have e1 : a * d ≤ 1000000000 * d := Int.mul_le_mul_of_nonneg_right a1 d0
  have e2 : -1000000000 * d ≤ a * d := Int.mul_le_mul_of_nonneg_right a0 d0
  omega
def addF (a b c d : Int) : FR := if fracOk a b && fracOk c d then redF (a * d + c * b) (b * d) else FR.no
end Go.Proofs.Ytnbjhmghobljaaa
