/- The reference's LearnMass, and what it draws for laws on sets of masses. -/
import Derived.Test.YtefmlbahmakboaaGreatDoorD8
import Derived.Test.YtefmlbahmakboaaGreatDoorD13
import Derived.Test.YtefmlbahmakboaaGreatDoorU8
set_option linter.unusedSimpArgs false
set_option linter.unusedVariables false
namespace Go.Proofs.YtefmlbahmakboaaGreatDoor
open Go.RowKit
theorem learn_map {s : Int} {xs : List Int} {a : Nat} {N : Nat} (hN : xs.length = N) (hs : nsets s = N) (ha : a < N) (h2 : ∀ x, x < N → x &&& a < N) : togTo (fun x b => x &&& b) xs (sureP s a) N N N = mapTo (fun b => a &&& b) xs N N := by
  refine dot_ext _ _ N (togTo_len _ _ _ _ _ _) (mapTo_len _ _ _ _) fun g => ?_
  rw [(dot_togTo g (fun x b => x &&& b) xs (sureP s a) N N N (fun x b hx hb => Nat.lt_of_le_of_lt Nat.and_le_left hx)).1, dot_mapTo g _ xs N N]
  · refine dot_congr _ _ fun x hx => ?_
    congr 1
    have h3 := sureP_dot (fun b => g (x &&& b)) s a (by omega)
    rw [hs] at h3
    rw [h3, Nat.and_comm]
  · intro x hx; rw [Nat.and_comm]; exact h2 x hx
theorem mapTo_le {xs : List Int} {T : Nat → Nat} {N j : Nat} (hT : ∀ a, a < N → T a < N) (h0 : ∀ a, a < N → 0 ≤ nth xs a) (hj : j < N) : nth (mapTo T xs N N) j ≤ isumTo xs N := by
  have h1 := dot_mapTo (at1 j) T xs N N hT
  rw [dot_at1, if_pos hj] at h1
  rw [h1, ← dot_one]
  exact dot_mono xs N h0 fun a _ _ => by unfold at1; split <;> omega
theorem mass_sumT {s : Int} {xs : List Int} (h : massOk s xs = true) : isumTo xs xs.length ≤ 1000000 := by
  obtain ⟨_, _, _, _, _, h2, _⟩ := massOk_facts h
  exact h2
/-- some mass and some number -/
def SomeSet (base : Nat) (v : Value) (w' : World) : Prop := ∃ s p xs, ∃ a : Int, v = .tuple #[.agg #[.int .i64 s, p], .int .i64 a] ∧ Row w' base p xs ∧ xs.length ≤ 17
end Go.Proofs.YtefmlbahmakboaaGreatDoor
