/- Acts compared: lowestSum, l12Low, l12Beats, BeatsAct both. -/
import Derived.Test.YtaplpgmkobokhaaW7
set_option linter.unusedSimpArgs false
set_option linter.unusedVariables false
namespace Go.Proofs.Ytaplpgmkobokhaa
open Go.RowKit
theorem minClos_any (x y : Int) (w : World) :
    Calls Try.prog 98 #[.int .i64 x, .int .i64 y] w fun e w' => e = .returned (.int .i64 (min x y)) ∧ w = w' := by
  go_enter Try.func98, Try.ntmps98
  go_wp2
  all_goals go_ret
  all_goals (refine ⟨ret_int ?_, rfl⟩; omega)
theorem minClos_call (vs : Array Value) (w' : World) : Sem.run Try.prog (callFunc 98 vs) w' = .ok (.enter 98 vs) w' := by
  have h1 : (Try.f98.name == "runtime.NumGoroutine") = false := by kernel_rfl
  have h2 : Try.f98.body.isNone = false := by kernel_rfl
  have h1' : ¬ Try.f98.name = "runtime.NumGoroutine" := by simpa using h1
  have h2' : ¬ Try.f98.body = none := by intro e; rw [e] at h2; simp at h2
  simp only [callFunc, Sem.run_bind, run_program, Result.andThen_ok, Try.func98, beq_iff_eq, Option.isNone_iff_eq_none, if_neg h1', if_neg h2', Sem.run_pure]
theorem min_inG (x y : Int) (h1 : inG x) (h2 : inG y) : inG (min x y) := by unfold inG at *; omega
theorem lowestSum_any (s : Int) (ao bo : Option Addr) (n c m d : Nat) (xs gs : List Int) (w : World) (hx : IntsAt w ao n xs) (hy : IntsAt w bo m gs)
    (hn : n ≤ 16) (hm : m ≤ 29) (hxb : ∀ k, k < n → 0 ≤ nth xs k ∧ nth xs k ≤ 1000000) (hgb : ∀ k, k < m → inG (nth gs k)) :
    Calls Try.prog 56 #[.agg #[.int .i64 s, .slice ao n c], .slice bo m d] w fun e w' => e = .returned (.int .i64 (gainSum min xs gs)) ∧ Below w.heap.size w w' := by
  have HXB := hid hxb; clear hxb
  have HGB := hid hgb; clear hgb
  go_enter Try.func56, Try.ntmps56
  go_wp2_with fail
  refine (sumOfGains_any s ao bo n c m d xs gs 98 #[] min _ (hx.below (below_alloc w _)) (hy.below (below_alloc w _)) minClos_call (fun x y w' => minClos_any x y w') min_inG hn hm HXB.out HGB.out).mono ?_; rintro e w1 ⟨rfl, hb1⟩
  obtain ⟨_, _, hB1⟩ := box2 hb1
  clear hb1
  go_wp2
  go_ret
  exact ⟨rfl, hB1⟩
theorem min_eq (x y : Int) : (if y < x then y else x) = min x y := by split <;> omega
def lowTo (gs : List Int) (a k : Nat) : Int := iter (fun x t => if hasB a x then min t (nth gs x) else t) 2000 k
theorem lowTo_bd (gs : List Int) (a n : Nat) (h : ∀ k, k < n → inG (nth gs k)) (k : Nat) (hk : k ≤ n) : inG (lowTo gs a k) := by
  induction k with
  | zero => exact (⟨by decide, by decide⟩ : inG 2000)
  | succ k ih =>
    have h1 := ih (by omega)
    have h2 := h k (by omega)
    show inG (if hasB a k then min (lowTo gs a k) (nth gs k) else lowTo gs a k)
    split
    · exact min_inG _ _ h1 h2
    · exact h1
theorem massOk_facts' {s : Int} {xs : List Int} (h : massOk s xs = true) : okSize s = true ∧ xs.length = nsets s ∧ xs.length ≤ 16 ∧ (∀ k, k < xs.length → 0 ≤ nth xs k ∧ nth xs k ≤ 1000000) ∧ 1 ≤ isum xs ∧ isum xs ≤ 1000000 ∧ gcdL xs = 1 := by
  simp only [massOk, Bool.and_eq_true, beq_iff_eq] at h
  obtain ⟨⟨⟨⟨h1, h2⟩, h3⟩, h4⟩, h5⟩ := h
  refine ⟨h1, h2, by have := nsets_le h1; omega, fun k hk => inB_iff.1 ((allN_iff _ _).1 h3 k hk), (inB_iff.1 h4).1, (inB_iff.1 h4).2, h5⟩
def lowSumTo (xs gs : List Int) (k : Nat) : Int := iter (fun a t => t + nth xs a * lowTo gs a gs.length) 0 k
theorem lowSumTo_bd (xs gs : List Int) (n : Nat) (hx : ∀ k, k < n → 0 ≤ nth xs k ∧ nth xs k ≤ 1000000) (h : ∀ k, k < gs.length → inG (nth gs k)) (k : Nat) (hk : k ≤ n) : -2000000000 * (k : Int) ≤ lowSumTo xs gs k ∧ lowSumTo xs gs k ≤ 2000000000 * (k : Int) := by
  induction k with
  | zero => exact ⟨by simp [lowSumTo, iter], by simp [lowSumTo, iter]⟩
  | succ k ih =>
    have h1 := ih (by omega)
    have h2 := hx k (by omega)
    have h3 := lowTo_bd gs k gs.length h gs.length (Nat.le_refl _)
    have h4 := mul_bd _ _ h2.1 h2.2 h3.1 h3.2
    show _ ≤ lowSumTo xs gs k + nth xs k * lowTo gs k gs.length ∧ lowSumTo xs gs k + nth xs k * lowTo gs k gs.length ≤ _
    push_cast
    omega
theorem best_low (gs : List Int) (a n : Nat) (h : ∀ k, k < n → inG (nth gs k)) (k : Nat) (hk : k ≤ n) :
    ((∀ j, j < k → hasB a j = false) ∧ bestTo min gs a k = (0, false) ∧ lowTo gs a k = 2000) ∨ bestTo min gs a k = (lowTo gs a k, true) := by
  induction k with
  | zero => exact .inl ⟨fun j hj => by omega, rfl, rfl⟩
  | succ k ih =>
    have hs : bestTo min gs a (k + 1) = if hasB a k then (if (bestTo min gs a k).2 then min (bestTo min gs a k).1 (nth gs k) else nth gs k, true) else bestTo min gs a k := rfl
    have hl : lowTo gs a (k + 1) = if hasB a k then min (lowTo gs a k) (nth gs k) else lowTo gs a k := rfl
    have hg := h k (by omega)
    unfold inG at hg
    cases ht : hasB a k
    · rw [ht] at hs hl
      rw [hs, hl]
      rcases ih (by omega) with ⟨h1, h2, h3⟩ | h1
      · refine .inl ⟨fun j hj => ?_, h2, h3⟩
        by_cases e : j = k
        · rw [e]; exact ht
        · exact h1 j (by omega)
      · exact .inr h1
    · rw [ht] at hs hl
      rw [hs, hl]
      rcases ih (by omega) with ⟨h1, h2, h3⟩ | h1
      · right
        rw [h2, h3]
        show (nth gs k, true) = (min 2000 (nth gs k), true)
        congr 1; omega
      · right; rw [h1]; rfl
theorem some_bit {a m : Nat} (h0 : a ≠ 0) (hm : a < 2 ^ m) : ∃ j, j < m ∧ hasB a j = true := by
  refine Classical.byContradiction fun hc => h0 (Nat.eq_of_testBit_eq fun i => ?_)
  rw [Nat.zero_testBit]
  by_cases hi : i < m
  · cases ht : a.testBit i
    · rfl
    · exact absurd ⟨i, hi, ht⟩ hc
  · exact Nat.testBit_lt_two_pow (Nat.lt_of_lt_of_le hm (Nat.pow_le_pow_right (by decide) (by omega)))
theorem gain_low (xs gs : List Int) (h0 : nth xs 0 = 0) (h : ∀ k, k < gs.length → inG (nth gs k)) (n : Nat) (hn : n ≤ 2 ^ gs.length) (k : Nat) (hk : k ≤ n) : gainTo min xs gs k = lowSumTo xs gs k := by
  induction k with
  | zero => rfl
  | succ k ih =>
    show gainTo min xs gs k + nth xs k * (bestTo min gs k gs.length).1 = lowSumTo xs gs k + nth xs k * lowTo gs k gs.length
    rw [ih (by omega)]
    by_cases e : k = 0
    · subst e; rw [h0, Int.zero_mul, Int.zero_mul]
    · rcases best_low gs k gs.length h gs.length (Nat.le_refl _) with ⟨h1, _, _⟩ | h1
      · obtain ⟨j, hj, hb⟩ := some_bit e (show k < 2 ^ gs.length by omega)
        rw [h1 j hj] at hb; cases hb
      · rw [h1]
def gainOkN (s : Int) (gs : List Int) : Bool := gainsOk s gs
/-- the first act's least mean is beyond the other's at every corner -/
def beatsM (s : Int) (xs f g : List Int) : Bool := normalOk s xs && (gainsOk s f && (gainsOk s g && decide (0 < lowSumTo xs (subTo f g f.length) xs.length)))
theorem gainsOk_facts {s : Int} {gs : List Int} (h : gainsOk s gs = true) : (gs.length : Int) = s ∧ ∀ k, k < gs.length → -1000 ≤ nth gs k ∧ nth gs k ≤ 1000 := by
  simp only [gainsOk, Bool.and_eq_true, beq_iff_eq] at h
  exact ⟨h.1, fun k hk => inB_iff.1 ((allN_iff _ _).1 h.2 k hk)⟩
theorem normalOk_facts {s : Int} {xs : List Int} (h : normalOk s xs = true) : massOk s xs = true ∧ nth xs 0 = 0 := by
  simpa [normalOk] using h
end Go.Proofs.Ytaplpgmkobokhaa
