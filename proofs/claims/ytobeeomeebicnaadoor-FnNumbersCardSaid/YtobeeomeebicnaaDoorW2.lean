/- Contracts of the reference's small functions on numbers, sizes and masses. -/
import Derived.Test.YtobeeomeebicnaaDoorW1
set_option linter.unusedSimpArgs false
set_option linter.unusedVariables false
namespace Go.Proofs.YtobeeomeebicnaaDoor
open Go.RowKit
theorem l1In_any (n lo hi : Int) (w : World) :
    Calls Tryd.prog 31 #[.int .i64 n, .int .i64 lo, .int .i64 hi] w fun e w' => e = .returned (.bool (inB lo hi n)) ∧ w = w' := by
  unfold inB
  go_enter Tryd.func31, Tryd.ntmps31
  go_wp2
  all_goals go_ret
  all_goals simp [*]
  omega
theorem l2Part_any (n : Int) (w : World) :
    Calls Tryd.prog 21 #[.int .i64 n] w fun e w' => e = .returned (.bool (inB (-1000000000) 1000000000 n)) ∧ w = w' := by
  go_enter Tryd.func21, Tryd.ntmps21
  go_wp2_with (go_at_call 31; refine (l1In_any _ _ _ _).mono ?_; rintro e w' ⟨rfl, rfl⟩)
  go_ret
  exact ⟨rfl, rfl⟩
theorem gcdL_two (a b : Int) : gcdL [a, b] = Int.gcd a b := by simp [gcdL, gcdTo, iter, nth, Int.gcd]
theorem fracOk_num {num den : Int} (h : inB (-1000000000) 1000000000 num = false) : fracOk num den = false := by simp [fracOk, h]
theorem fracOk_den {num den : Int} (h : inB 1 1000000000 den = false) : fracOk num den = false := by simp [fracOk, h]
theorem fracOk_rest {num den : Int} (h1 : inB (-1000000000) 1000000000 num = true) (h2 : inB 1 1000000000 den = true) : fracOk num den = ((Int.gcd num den : Int) == 1) := by
  simp only [fracOk, h1, h2, Bool.true_and]; rw [Bool.eq_iff_iff]; simp; omega
theorem inB_m1 : inB 1 1000000 (-1) = false := by decide
theorem massOk_sum {s : Int} {xs : List Int} (h1 : okSize s = true) (h2 : xs.length = nsets s) : massOk s xs = (inB 1 1000000 (sumIn 1000000 xs) && (gcdL xs == 1)) := by
  simp only [massOk, h1, h2, sumIn]
  cases h : allN (fun k => inB 0 1000000 (nth xs k)) (nsets s) <;> simp [h, inB_m1]
end Go.Proofs.YtobeeomeebicnaaDoor
