/- What the shells of the laws share: arguments as the walks take them. -/
import Derived.Test.YtefmlbahmakboaaGreatDoorB0
import Derived.ProofKit
import Derived.OpenShut
import Derived.ChangeOld
import Derived.Below
import Derived.Lib.SmallJoins
set_option linter.unusedSimpArgs false
set_option linter.unusedVariables false
namespace Go.Proofs.YtefmlbahmakboaaGreatDoor
open Go.ChangeShapes Go.WideShapes Go.ChangeAt Go.RowKit Go.Joins
theorem own : ownKnob Tryz.prog.godebug = none := by kernel_rfl
theorem laidOut : laidOutB Tryz.prog = true := by kernel_rfl
theorem ints_of_open {w : World} {a : Addr} {len cap : Nat} {zs : List Int} (hl : len ≤ zs.length) (hc : len ≤ cap) (hm : cap ≤ maxLen) (hcell : ∀ i, i < zs.length → w.cell? (a.add i) = some (.int .i64 (zs.getD i 0))) :
    IntsAt w (some a) len (zs.take len) := by
  refine ⟨by simp [hl], by unfold maxLen at hm; omega, fun h0 => ?_⟩
  have h1 := hcell 0 (by omega)
  have hs : a.spot = none := by
    have : (a.add 0) = a := rfl
    rw [this] at h1
    unfold World.cell? at h1
    split at h1
    · by_cases h : a.spot.isSome = true
      · simp [h] at h1
      · simpa using h
    · simp at h1
  obtain ⟨b, off, spot⟩ := a
  simp only at hs
  subst hs
  refine ⟨b, off, rfl, World.block_lt_of_cell? w _ h1, fun k hk => ?_⟩
  have hk2 := hcell k (by omega)
  have e : (⟨b, off, none⟩ : Addr).add k = ⟨b, off + k, none⟩ := by unfold Addr.add; split <;> simp_all
  rw [e] at hk2
  rw [hk2]
  have : nth (zs.take len) k = zs.getD k 0 := by
    rw [nth_eq _ _ (by simp; omega)]
    simp [List.getD_eq_getElem?_getD, show k < zs.length by omega]
  rw [this]
theorem ints_of_trod {H : Type} {enc : TypeId × Value → H} {w : World} {base : Nat} {held : Bool} {fuel : Nat} {v : Value} {y : DataW H × List MemPlace}
    (h : DataW.trod enc Tryz.prog w base (fun _ => true) held fuel 23 [v] = some y) : ∃ ao n c xs, v = .slice ao n c ∧ IntsAt w ao n xs := by
  rcases open_ints Tryz.underlying23 Tryz.underlying3 (by kernel_rfl) h with ⟨hcs, _⟩ | ⟨x, l, c, zs, hcs, _, hl, hm, hz, _, hcell, _⟩
  · obtain rfl : v = _ := by simpa using hcs
    exact ⟨none, 0, 0, [], rfl, rfl, by omega, fun h => by omega⟩
  · obtain rfl : v = _ := by simpa using hcs
    exact ⟨_, _, _, _, rfl, ints_of_open (by simp at hz; omega) hl hm hcell⟩
end Go.Proofs.YtefmlbahmakboaaGreatDoor
