/- What the shells share: an argument that is a slice of slices of integers. -/
import Derived.Test.YtchjnjmlambpjaaRK
import Derived.Test.YtchjnjmlambpjaaW6
import Derived.Deep.Matrix
set_option linter.unusedSimpArgs false
set_option linter.unusedVariables false
namespace Go.Proofs.Ytchjnjmlambpjaa
open Go.ChangeShapes Go.WideShapes Go.ChangeAt Go.RowKit Go.Joins Go.Deep
theorem spot_none {w : World} {a : Addr} {v : Value} (h1 : w.cell? a = some v) : a.spot = none := by
  unfold World.cell? at h1
  split at h1
  · by_cases h : a.spot.isSome = true
    · simp [h] at h1
    · simpa using h
  · simp at h1
theorem add_none (b off k : Nat) : (⟨b, off, none⟩ : Addr).add k = ⟨b, off + k, none⟩ := by unfold Addr.add; split <;> simp_all
theorem nthL_map (f : Nat → List Int) (n k : Nat) (h : k < n) : nthL ((List.range n).map f) k = f k := by simp [nthL, h]
theorem rows_of_trod {H : Type} {enc : TypeId × Value → H} {w : World} {base : Nat} {held : Bool} {fuel : Nat} {v : Value} {y : DataW H × List MemPlace}
    (h : DataW.trod enc Try.prog w base (fun _ => true) held fuel 57 [v] = some y) : ∃ ao n c xss, v = .slice ao n c ∧ RowsAt w ao n xss := by
  rcases open_int_rows Try.underlying57 Try.underlying22 Try.underlying3 (by kernel_rfl) (by kernel_rfl) h with ⟨hcs, _⟩ | ⟨a, len, cap, A, L, C, Z, hcs, _, hl, hm, _, hr⟩
  · obtain rfl : v = _ := by simpa using hcs
    exact ⟨none, 0, 0, [], rfl, rfl, by omega, fun h => by omega⟩
  · obtain rfl : v = _ := by simpa using hcs
    refine ⟨_, _, _, (List.range len).map fun r => (Z r).take (L r), rfl, by simp, by unfold maxLen at hm; omega, fun h0 => ?_⟩
    have hs := spot_none (hr 0 (by omega)).1
    obtain ⟨b, off, spot⟩ := a
    have hs' : spot = none := hs
    subst hs'
    have hb := World.block_lt_of_cell? w _ (hr 0 (by omega)).1
    refine ⟨b, off, rfl, hb, fun k hk => ?_⟩
    obtain ⟨h1, h2, h3, h4, _, h5, h6⟩ := hr k (by omega)
    rw [add_none] at h1
    refine ⟨A k, L k, C k, h1, ?_⟩
    rw [nthL_map _ _ _ hk]
    cases hA : A k with
    | none =>
      have hC := h5 hA
      have hL : L k = 0 := by omega
      rw [hL]
      exact ⟨by simp, by omega, fun h => by omega⟩
    | some a' => exact ints_of_open (by omega) h2 h3 (fun i hi => (h6 a' hA).2 i (by omega))
end Go.Proofs.Ytchjnjmlambpjaa
