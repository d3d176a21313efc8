/- PossiblePart of the program. AllowsChance of the program, in general. l4Implied of the reference. AllowsChance of the reference, in general. -/
import Derived.Test.YtefmlbahmakboaaGreatDoorN12
import Derived.Test.YtefmlbahmakboaaGreatDoorE6
import Derived.Test.YtefmlbahmakboaaGreatDoorW22
set_option linter.unusedSimpArgs false
set_option linter.unusedVariables false
namespace Go.Proofs.YtefmlbahmakboaaGreatDoor
open Go.RowKit
theorem and_meet : ∀ a b : Fin 16, (bits BinOp.and IntKind.i64 ((b.val : Nat) : Int) ((a.val : Nat) : Int) == 0) = decide (b.val &&& a.val = 0) := by decide +kernel
/-- do two sets meet? -/
def meetB (a : Nat) (b : Nat) : Bool := !decide (b &&& a = 0)
theorem posClos_any (a b B : Nat) (w : World) (ha : a < 16) (hb : b < 16) (hB : w.cell? ⟨B, 0, none⟩ = some (.int .i64 a)) :
    Calls Tryz.prog 141 #[.int .i64 b, .pointer (some ⟨B, 0, none⟩)] w fun e w' => e = .returned (.bool (meetB a b)) ∧ w = w' := by
  have h := and_meet ⟨a, ha⟩ ⟨b, hb⟩
  simp only at h
  unfold meetB
  rw [← h]
  clear h
  go_enter Tryz.func141, Tryz.ntmps141
  go_wp2
  go_ret
  exact ⟨rfl, rfl⟩
theorem posClos_call (vs : Array Value) (w' : World) : Sem.run Tryz.prog (callFunc 141 vs) w' = .ok (.enter 141 vs) w' := by
  have h1 : (Tryz.f141.name == "runtime.NumGoroutine") = false := by kernel_rfl
  have h2 : Tryz.f141.body.isNone = false := by kernel_rfl
  have h1' : ¬ Tryz.f141.name = "runtime.NumGoroutine" := by simpa using h1
  have h2' : ¬ Tryz.f141.body = none := by intro e; rw [e] at h2; simp at h2
  simp only [callFunc, Sem.run_bind, run_program, Result.andThen_ok, Tryz.func141, beq_iff_eq, Option.isNone_iff_eq_none, if_neg h1', if_neg h2', Sem.run_pure]
theorem possiblePart_any (s : Int) (a : Nat) (ao : Option Addr) (n c : Nat) (xs : List Int) (w : World) (hx : IntsAt w ao n xs) (ha : a < 16) (hn : n ≤ 16) (hxb : ∀ k, k < n → 0 ≤ nth xs k ∧ nth xs k ≤ 1000000) :
    Calls Tryz.prog 96 #[.agg #[.int .i64 s, .slice ao n c], .int .i64 a] w fun e w' => e = .returned (.int .i64 (dot (predI (meetB a)) xs n)) ∧ Below w.heap.size w w' := by
  have HXB := hid hxb
  clear hxb
  go_enter Tryz.func96, Tryz.ntmps96
  go_wp2_with fail
  refine (sumOver_any s ao n c xs 141 _ (meetB a) _ (hx.below (by (repeat (first | exact Below.refl _ _ | assumption | refine Below.alloc ?_ (by first | omega | (simp <;> omega)) _ | refine Below.setCell ?_ (by first | omega | (simp <;> omega)) _ | refine Below.drew ?_ | refine below_drewN ?_)))) posClos_call ?_ hn HXB.out).mono ?_
  · intro b w' hb hlt
    exact posClos_any a b (w.heap.size + 1) w' ha (by omega) (keep hb (a := ⟨w.heap.size + 1, 0, none⟩) (v := .int .i64 a) (by simp))
  rintro e w1 ⟨rfl, hb⟩
  go_wp2
  go_ret
  exact ⟨rfl, Below.trans (by (repeat (first | exact Below.refl _ _ | assumption | refine Below.alloc ?_ (by first | omega | (simp <;> omega)) _ | refine Below.setCell ?_ (by first | omega | (simp <;> omega)) _ | refine Below.drew ?_ | refine below_drewN ?_))) (hb.mono (by simp <;> omega))⟩
theorem PossiblePart_any (s : Int) (a : Nat) (ao : Option Addr) (n c : Nat) (xs : List Int) (w : World) (hx : IntsAt w ao n xs) (hm : massOk s xs = true) (ha : a < nsets s) :
    Calls Tryz.prog 162 #[.agg #[.int .i64 s, .slice ao n c], .int .i64 a] w fun e w' => e = .returned (.int .i64 (dot (predI (meetB a)) xs n)) ∧ Below w.heap.size w w' := by
  obtain ⟨hs, hl, h16, hb, _⟩ := massOk_facts hm
  have hxl := hx.len
  have hin : inB 0 ((nsets s : Int) - 1) a = true := inB_iff.2 (by omega)
  have HXB : Hid (∀ k, k < n → 0 ≤ nth xs k ∧ nth xs k ≤ 1000000) := fun k hk => hb k (by omega)
  have hn : n ≤ 16 := by omega
  have ha16 : a < 16 := by omega
  clear hb hl h16
  go_enter Tryz.func162, Tryz.ntmps162
  go_wp2_with fail
  refine (isMass_any _ _ _ _ xs _ (hx.below (by (repeat (first | exact Below.refl _ _ | assumption | refine Below.alloc ?_ (by first | omega | (simp <;> omega)) _ | refine Below.setCell ?_ (by first | omega | (simp <;> omega)) _ | refine Below.drew ?_ | refine below_drewN ?_))))).mono ?_; rw [hm]; rintro e w1 ⟨rfl, hb⟩
  obtain ⟨h10, h11, hB1⟩ := box2 hb
  clear hb
  go_wp2_with fail
  refine (isSetOf_any s a _ hs).mono ?_; rw [hin]; rintro e w' ⟨rfl, rfl⟩
  go_wp2_with fail
  refine (possiblePart_any s a _ _ _ xs _ (hx.below hB1) ha16 hn HXB.out).mono ?_; rintro e w2 ⟨rfl, hb⟩
  go_wp2
  go_ret
  exact ⟨rfl, chain hB1 hb⟩
def allowsM (s : Int) (xs : List Int) (u : Int) (ys : List Int) : Bool := oneQ s xs u ys && (normalOk s xs && (chanceOk u ys && allN (fun a => decide (impP a xs * isum ys ≤ impP a ys * isum xs)) xs.length))
end Go.Proofs.YtefmlbahmakboaaGreatDoor
