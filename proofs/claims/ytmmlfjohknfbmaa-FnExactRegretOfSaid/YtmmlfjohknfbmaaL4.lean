/- Contracts of the laws' helpers: comparison of fractions. -/
import Derived.Test.YtmmlfjohknfbmaaL2
set_option linter.unusedSimpArgs false
set_option linter.unusedVariables false
namespace Go.Proofs.Ytmmlfjohknfbmaa
open Go.RowKit
theorem eqFraction_same (a b : Int) (w : World) :
    Calls Try.prog 34 #[.agg #[.int .i64 a, .int .i64 b], .agg #[.int .i64 a, .int .i64 b]] w fun e w' => e = .returned (.bool true) ∧ Below w.heap.size w w' := by
  have h1 : (a != a) = false := by simp
  have h2 : (b != b) = false := by simp
  go_enter Try.func34, Try.ntmps34
  go_wp2
  go_ret
  refine ⟨rfl, ?_⟩
  (repeat (first | exact Below.refl _ _ | assumption | refine Below.alloc ?_ (by simp <;> omega) _ | refine Below.setCell ?_ (by simp <;> omega) _ | refine Below.drew ?_ | refine below_drewN ?_))
end Go.Proofs.Ytmmlfjohknfbmaa
