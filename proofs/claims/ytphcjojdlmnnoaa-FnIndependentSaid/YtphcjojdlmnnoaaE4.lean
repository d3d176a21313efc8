/- Contracts that the laws by draws call: MassValid, FocalSets, CountSet. -/
import Derived.Test.YtphcjojdlmnnoaaE1
import Derived.Test.YtphcjojdlmnnoaaW15
set_option linter.unusedSimpArgs false
set_option linter.unusedVariables false
namespace Go.Proofs.Ytphcjojdlmnnoaa
open Go.RowKit
theorem iMassValid_any (s : Int) (ao : Option Addr) (n c : Nat) (xs : List Int) (w : World) (hx : IntsAt w ao n xs) :
    Calls Try.prog 37 #[.agg #[.int .i64 s, .slice ao n c]] w fun e w' => e = .returned (.bool (massOk s xs)) ∧ Below w.heap.size w w' := by
  go_enter Try.func37, Try.ntmps37
  go_wp2_with fail
  refine (isMass_any _ _ _ _ xs _ (hx.below (by (repeat (first | exact Below.refl _ _ | assumption | refine Below.alloc ?_ (by first | omega | (simp <;> omega)) _ | refine Below.setCell ?_ (by first | omega | (simp <;> omega)) _ | refine Below.drew ?_ | refine below_drewN ?_))))).mono ?_; rintro e w1 ⟨rfl, hb⟩
  go_wp2
  go_ret
  exact ⟨rfl, Below.trans (by (repeat (first | exact Below.refl _ _ | assumption | refine Below.alloc ?_ (by first | omega | (simp <;> omega)) _ | refine Below.setCell ?_ (by first | omega | (simp <;> omega)) _ | refine Below.drew ?_ | refine below_drewN ?_))) (hb.mono (by simp <;> omega))⟩
theorem FocalSets_any (s : Int) (ao : Option Addr) (n c : Nat) (xs : List Int) (w : World) (hx : IntsAt w ao n xs) (hm : massOk s xs = true) :
    Calls Try.prog 38 #[.agg #[.int .i64 s, .slice ao n c]] w fun e w' => ∃ v, e = .returned v ∧ Row w' w.heap.size v (focTo xs n) ∧ Below w.heap.size w w' := by
  have hn : n ≤ 100 := by have h := (massOk_facts hm).2.2.1; have := hx.len; omega
  go_enter Try.func38, Try.ntmps38
  go_wp2_with fail
  refine (isMass_any _ _ _ _ xs _ (hx.below (by (repeat (first | exact Below.refl _ _ | assumption | refine Below.alloc ?_ (by first | omega | (simp <;> omega)) _ | refine Below.setCell ?_ (by first | omega | (simp <;> omega)) _ | refine Below.drew ?_ | refine below_drewN ?_))))).mono ?_; rw [hm]; rintro e w1 ⟨rfl, hb⟩
  obtain ⟨h10, h11, hB1⟩ := box2 hb
  clear hb
  go_wp2_with fail
  refine (focalSets_any _ _ _ _ xs _ (hx.below hB1) hn).mono ?_; rintro e w2 ⟨v, rfl, hr, hb⟩
  have hz := hB1.size
  replace hr := hr.mono (base' := w.heap.size) (by omega)
  have hB2 := chain hB1 hb
  clear hb
  obtain ⟨a2, n2, c2, rfl, hi2⟩ := hr.ints
  go_wp2
  go_ret
  exact ⟨_, rfl, hr, hB2⟩
theorem CountSet_any (a : Nat) (w : World) (ha : a < 16) :
    Calls Try.prog 39 #[.int .i64 a] w fun e w' => e = .returned (.int .i64 (cnt a)) ∧ w = w' := by
  have h16 : nsets 4 = 16 := by decide
  have hin : inB 0 ((nsets 4 : Int) - 1) a = true := inB_iff.2 (by omega)
  have hw : IntKind.u64.wrap (a : Int) = (a : Int) := by
    have h : a = 0 ∨ a = 1 ∨ a = 2 ∨ a = 3 ∨ a = 4 ∨ a = 5 ∨ a = 6 ∨ a = 7 ∨ a = 8 ∨ a = 9 ∨ a = 10 ∨ a = 11 ∨ a = 12 ∨ a = 13 ∨ a = 14 ∨ a = 15 := by omega
    rcases h with rfl | rfl | rfl | rfl | rfl | rfl | rfl | rfl | rfl | rfl | rfl | rfl | rfl | rfl | rfl | rfl <;> rfl
  go_enter Try.func39, Try.ntmps39
  go_wp2_with fail
  refine (isSetOf_any 4 a _ (by decide)).mono ?_; rw [hin]; rintro e w1 ⟨rfl, rfl⟩
  go_wp2_with fail
  refine (OnesCount_any a _ ha).mono ?_; rintro e w1 ⟨rfl, rfl⟩
  go_wp2
  go_ret
  exact ⟨rfl, rfl⟩
end Go.Proofs.Ytphcjojdlmnnoaa
