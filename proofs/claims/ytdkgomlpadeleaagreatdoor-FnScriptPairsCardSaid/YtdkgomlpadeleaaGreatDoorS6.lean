/- spec.MoveMass; SwapPairs. -/
import Derived.Test.YtdkgomlpadeleaaGreatDoorS5
set_option linter.unusedSimpArgs false
set_option linter.unusedVariables false
namespace Go.Proofs.YtdkgomlpadeleaaGreatDoor
open Go.RowKit
theorem l11Pairs_any (s : Int) (ao : Option Addr) (n c : Nat) (xs : List Int) (w : World) (hx : IntsAt w ao n xs) :
    Calls Tryz.prog 28 #[.agg #[.int .i64 s, .slice ao n c]] w fun e w' => e = .returned (.bool (massOk s xs && (s == 4))) ∧ Below w.heap.size w w' := by
  go_enter Tryz.func28, Tryz.ntmps28
  go_wp2_with fail
  refine (MassValid_any _ _ _ _ _ _ (hx.below (below_alloc w _))).mono ?_; rintro e w1 ⟨rfl, hb1⟩
  obtain ⟨h10, h11, hB1⟩ := box2 hb1
  cases hm : massOk s xs
  all_goals
    go_wp2
    go_ret
    exact ⟨ret_bool (by simp [hm]), hB1⟩
def swapM (s : Int) (xs : List Int) : MR := if massOk s xs && (s == 4) then moveM s xs [0, 2, 1, 3] else MR.no
end Go.Proofs.YtdkgomlpadeleaaGreatDoor
