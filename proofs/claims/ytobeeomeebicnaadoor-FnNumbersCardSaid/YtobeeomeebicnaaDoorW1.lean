/- Contracts of the program's small functions on numbers, sizes and masses. -/
import Derived.Test.YtobeeomeebicnaaDoorB0
set_option linter.unusedSimpArgs false
set_option linter.unusedVariables false
namespace Go.Proofs.YtobeeomeebicnaaDoor
open Go.RowKit
theorem isPart_any (n : Int) (w : World) :
    Calls Tryd.prog 24 #[.int .i64 n] w fun e w' => e = .returned (.bool (inB (-1000000000) 1000000000 n)) ∧ w = w' := by
  unfold inB
  go_enter Tryd.func24, Tryd.ntmps24
  go_wp2
  all_goals go_ret
  all_goals simp [*]
  omega
theorem massOk_size {s : Int} {xs : List Int} (h : okSize s = false) : massOk s xs = false := by simp [massOk, h]
theorem massOk_len {s : Int} {xs : List Int} (h : xs.length ≠ nsets s) : massOk s xs = false := by simp [massOk, h]
theorem massOk_bad {s : Int} {xs : List Int} {k : Nat} (hk : k < xs.length) (h : inB 0 1000000 (nth xs k) = false) : massOk s xs = false := by
  simp only [massOk]; rw [allN_false (p := fun k => inB 0 1000000 (nth xs k)) hk h]; simp
theorem massOk_rest {s : Int} {xs : List Int} (h1 : okSize s = true) (h2 : xs.length = nsets s) (h3 : ∀ k, k < xs.length → inB 0 1000000 (nth xs k) = true) :
    massOk s xs = (inB 1 1000000 (isum xs) && (gcdL xs == 1)) := by
  simp only [massOk]; rw [(allN_iff _ _).2 h3, h1, h2]; simp
