/- What the shells of the laws by draws share: a slice of bytes as the walks take it. -/
import Derived.Test.YtefmlbahmakboaaGreatDoorRK
import Derived.Test.YtefmlbahmakboaaGreatDoorD2
set_option linter.unusedSimpArgs false
set_option linter.unusedVariables false
namespace Go.Proofs.YtefmlbahmakboaaGreatDoor
open Go.ChangeShapes Go.WideShapes Go.ChangeAt Go.RowKit Go.Joins
theorem bytes_of_trod {H : Type} {enc : TypeId × Value → H} {w : World} {base : Nat} {held : Bool} {fuel : Nat} {v : Value} {y : DataW H × List MemPlace}
    (h : DataW.trod enc Tryz.prog w base (fun _ => true) held fuel 22 [v] = some y) : ∃ ao n c, v = .slice ao n c ∧ (n ≤ 1048576 → BytesIn w w.heap.size ao n) ∧ n ≤ c ∧ n ≤ 9223372036854775807 := by
  rcases open_ints Tryz.underlying22 Tryz.underlying5 (by kernel_rfl) h with ⟨hcs, _⟩ | ⟨x, l, c, zs, hcs, _, hl, hm, hz, _, hcell, hwf⟩
  · obtain rfl : v = _ := by simpa using hcs
    exact ⟨none, 0, 0, rfl, fun _ => ⟨by omega, fun h => by omega⟩, by omega, by omega⟩
  · obtain rfl : v = _ := by simpa using hcs
    refine ⟨_, _, _, rfl, fun hn => ⟨by omega, fun h0 => ?_⟩, hl, by unfold maxLen at hm; omega⟩
    have hzl : zs.length = c := by simpa using hz
    have h1 := hcell 0 (by omega)
    have hs : x.spot = none := by
      have : (x.add 0) = x := rfl
      rw [this] at h1
      unfold World.cell? at h1
      split at h1
      · by_cases h : x.spot.isSome = true
        · simp [h] at h1
        · simpa using h
      · simp at h1
    obtain ⟨b, off, spot⟩ := x
    simp only at hs
    subst hs
    refine ⟨b, off, rfl, World.block_lt_of_cell? w _ h1, fun k hk => ?_⟩
    have hk2 := hcell k (by omega)
    have e : (⟨b, off, none⟩ : Addr).add k = ⟨b, off + k, none⟩ := by unfold Addr.add; split <;> simp_all
    rw [e] at hk2
    have hw := hwf (zs.getD k 0) (by rw [List.getD_eq_getElem?_getD, List.getElem?_eq_getElem (by omega)]; exact List.getElem_mem _)
    have hb := bounds_u8 hw
    exact ⟨_, hb.1, hb.2, hk2⟩
end Go.Proofs.YtefmlbahmakboaaGreatDoor
