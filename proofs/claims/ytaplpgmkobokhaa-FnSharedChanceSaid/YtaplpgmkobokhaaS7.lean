/- Masses whose answers are put together: CoarsenMass both. -/
import Derived.Test.YtaplpgmkobokhaaS2
set_option linter.unusedSimpArgs false
set_option linter.unusedVariables false
namespace Go.Proofs.Ytaplpgmkobokhaa
open Go.RowKit
/-- a mass in which answers are put together -/
def coarseM (s : Int) (xs to : List Int) (size : Int) : MR :=
  if massOk s xs && okSize size && answersOk to s size then mkMass size (mapTo (fun a => imgTo a to to.length) xs (nsets size) xs.length) else MR.no
theorem coarseM_len (s : Int) (xs to : List Int) (size : Int) : (coarseM s xs to size).parts.length ≤ 16 := by
  unfold coarseM; split
  · rename_i h
    simp only [Bool.and_eq_true] at h
    have h1 : (mkMass size (mapTo (fun a => imgTo a to to.length) xs (nsets size) xs.length)).parts.length ≤ (mapTo (fun a => imgTo a to to.length) xs (nsets size) xs.length).length := by
      unfold mkMass; split
      · simp [MR.no]
      · split <;> simp [MR.no]
    rw [mapTo_len] at h1; have := (nsets_le h.1.2).2; omega
  · simp [MR.no]
end Go.Proofs.Ytaplpgmkobokhaa
