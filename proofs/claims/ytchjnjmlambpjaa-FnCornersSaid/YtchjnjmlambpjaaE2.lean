/- Contracts that the laws by draws call: wholes, masses that are made. -/
import Derived.Test.YtchjnjmlambpjaaE1
set_option linter.unusedSimpArgs false
set_option linter.unusedVariables false
namespace Go.Proofs.Ytchjnjmlambpjaa
open Go.RowKit
def wholeM (s : Int) (xs : List Int) : Int := if massOk s xs then isum xs else -1
theorem WholeOf_any (s : Int) (ao : Option Addr) (n c : Nat) (xs : List Int) (w : World) (hx : IntsAt w ao n xs) :
    Calls Try.prog 30 #[.agg #[.int .i64 s, .slice ao n c]] w fun e w' => e = .returned (.int .i64 (wholeM s xs)) ∧ Below w.heap.size w w' := by
  cases hm : massOk s xs
  · have HR : Hid (wholeM s xs = -1) := by show wholeM s xs = _; simp [wholeM, hm]
    rw [HR.out]
    go_enter Try.func30, Try.ntmps30
    go_wp2_with fail
    refine (isMass_any _ _ _ _ xs _ (hx.below (below_alloc w _))).mono ?_; rw [hm]; rintro e w1 ⟨rfl, hb1⟩
    obtain ⟨_, _, hB1⟩ := box2 hb1
    clear hb1
    go_wp2
    go_ret
    exact ⟨rfl, hB1⟩
  · have HR : Hid (wholeM s xs = isum xs) := by show wholeM s xs = _; simp [wholeM, hm]
    obtain ⟨_, hl, h16, hb, _⟩ := massOk_facts hm
    have hl2 := hx.len
    have HB : Hid (∀ k, k < n → 0 ≤ nth xs k ∧ nth xs k ≤ 1000000000000000) := fun k hk => by have := hb k (by omega); omega
    have hn16 : n ≤ 16 := by omega
    clear hb
    rw [HR.out]
    go_enter Try.func30, Try.ntmps30
    go_wp2_with fail
    refine (isMass_any _ _ _ _ xs _ (hx.below (below_alloc w _))).mono ?_; rw [hm]; rintro e w1 ⟨rfl, hb1⟩
    obtain ⟨h10, h11, hB1⟩ := box2 hb1
    clear hb1
    go_wp2_with fail
    refine (wholeOf_any _ _ _ _ xs _ (hx.below hB1) HB.out hn16).mono ?_; rintro e w2 ⟨rfl, hb2⟩
    go_wp2
    go_ret
    exact ⟨rfl, chain hB1 hb2⟩
end Go.Proofs.Ytchjnjmlambpjaa
