/- The law that the program's RuleMass is the reference's: its walk. -/
import Derived.Test.YtefmlbahmakboaaGreatDoorW4
set_option linter.unusedSimpArgs false
set_option linter.unusedVariables false
namespace Go.Proofs.YtefmlbahmakboaaGreatDoor
open Go.RowKit
theorem keepO {w1 w2 : World} {b o : Nat} {v : Value} {row : Option Nat} (hg : w1.grownBy w2 row) (h : w1.cell? ⟨b, o, none⟩ = some v) (hne : some b ≠ row) : w2.cell? ⟨b, o, none⟩ = some v := hg.cell h hne
theorem parts_le (r : MR) (h : r.parts.length ≤ 16) : r.parts.length ≤ 100000000 := by omega
theorem mkMass_len (s : Int) (xs : List Int) : (mkMass s xs).parts.length ≤ xs.length := by
  unfold mkMass; split
  · simp [MR.no]
  · split <;> simp [MR.no]
theorem simpleM_len (s a num den : Int) (hs : okSize s = true) : (simpleM s a num den).parts.length ≤ 16 := by
  unfold simpleM; split
  · have := mkMass_len s (simpleParts (nsets s) a.toNat num den); rw [simpleParts_len] at this; have := (nsets_le hs).2; omega
  · simp [MR.no]
theorem ruleM_len (x y num den : Int) : (ruleM x y num den).parts.length ≤ 16 := by
  unfold ruleM; split
  · exact simpleM_len _ _ _ _ rfl
  · simp [MR.no]
end Go.Proofs.YtefmlbahmakboaaGreatDoor
