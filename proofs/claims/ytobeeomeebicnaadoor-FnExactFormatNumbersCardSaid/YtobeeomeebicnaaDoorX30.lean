/- The law that the program's FormatNumbers is the reference's: its walk. -/
import Derived.Test.YtobeeomeebicnaaDoorT4
import Derived.Test.YtobeeomeebicnaaDoorL2
set_option linter.unusedSimpArgs false
set_option linter.unusedVariables false
namespace Go.Proofs.YtobeeomeebicnaaDoor
open Go.RowKit
set_option maxRecDepth 100000 in
set_option maxHeartbeats 1000000 in
theorem FnExactFormatNumbers_walk (ao : Option Addr) (n c : Nat) (xs : List Int) (w : World) (hx : IntsAt w ao n xs) (hb : I64 xs) (hp : Pow w) :
    Calls Tryd.prog 3 #[.slice ao n c] w fun e w' => e = .returned (.bool true) ∧ Below w.heap.size w w' := by
  have hcap := hx.cap
  by_cases hn : n ≤ 1048576
  · go_enter Tryd.func3, Tryd.ntmps3
    go_wp2_with fail
    refine (toIntS_any _ _ _ xs _ hx (by omega)).mono ?_; rintro e w1 ⟨v1, rfl, hr1, hb1⟩
    obtain ⟨a1, n1, c1, rfl, hi1⟩ := hr1.ints
    obtain rfl : n1 = n := by rw [← hi1.len, hx.len]
    have hB1 := hb1
    go_wp2_with fail
    refine (specFormat_any _ _ _ xs _ hi1 hb (by omega)).mono ?_; rintro e w2 ⟨rfl, hb2⟩
    have hB2 := hB1.trans (hb2.mono hB1.size)
    go_wp2_with fail
    refine (toIntS_any _ _ _ xs _ (hx.below hB2) (by omega)).mono ?_; rintro e w3 ⟨v3, rfl, hr3, hb3⟩
    obtain ⟨a3, n3, c3, rfl, hi3⟩ := hr3.ints
    obtain rfl : n3 = n1 := by rw [← hi3.len, hx.len]
    have hB3 := hB2.trans (hb3.mono hB2.size)
    go_wp2_with fail
    refine (implFormat_any _ _ _ xs _ hi3 hb (by omega) (hp.below hB3)).mono ?_; rintro e w4 ⟨rfl, hb4⟩
    have hB4 := hB3.trans (hb4.mono hB3.size)
    have hi4 := hi3.below hb4
    go_wp2_with fail
    refine (toIntS_any _ _ _ xs _ (hx.below hB4) (by omega)).mono ?_; rintro e w5 ⟨v5, rfl, hr5, hb5⟩
    obtain ⟨a5, n5, c5, rfl, hi5⟩ := hr5.ints
    obtain rfl : n5 = n3 := by rw [← hi5.len, hx.len]
    have hB5 := hB4.trans (hb5.mono hB4.size)
    go_wp2_with fail
    refine (eqIntS_same _ _ _ _ _ xs _ (hi4.below hb5) hi5).mono ?_; rintro e w6 ⟨rfl, hb6⟩
    have hB6 := hB5.trans (hb6.mono hB5.size)
    go_wp2
    go_ret
    exact ⟨rfl, hB6⟩
  · go_enter Tryd.func3, Tryd.ntmps3
    go_wp2
    go_ret
    exact ⟨rfl, Below.refl _ _⟩
end Go.Proofs.YtobeeomeebicnaaDoor
