/- spec.MoveMass; SwapPairs. -/
import Derived.Test.YtphcjojdlmnnoaaS5
set_option linter.unusedSimpArgs false
set_option linter.unusedVariables false
namespace Go.Proofs.Ytphcjojdlmnnoaa
open Go.RowKit
theorem l11Pairs_any (s : Int) (ao : Option Addr) (n c : Nat) (xs : List Int) (w : World) (hx : IntsAt w ao n xs) :
    Calls Try.prog 63 #[.agg #[.int .i64 s, .slice ao n c]] w fun e w' => e = .returned (.bool (massOk s xs && (s == 4))) ∧ Below w.heap.size w w' := by
  go_enter Try.func63, Try.ntmps63
  go_wp2_with fail
  refine (MassValid_any _ _ _ _ _ _ (hx.below (below_alloc w _))).mono ?_; rintro e w1 ⟨rfl, hb1⟩
  obtain ⟨h10, h11, hB1⟩ := box2 hb1
  cases hm : massOk s xs
  all_goals
    go_wp2
    go_ret
    exact ⟨ret_bool (by simp [hm]), hB1⟩
def swapM (s : Int) (xs : List Int) : MR := if massOk s xs && (s == 4) then moveM s xs [0, 2, 1, 3] else MR.no
set_option maxHeartbeats 400000 in
theorem SwapPairs_any (s : Int) (ao : Option Addr) (n c : Nat) (xs : List Int) (w : World) (hx : IntsAt w ao n xs) :
    Calls Try.prog 16 #[.agg #[.int .i64 s, .slice ao n c]] w fun e w' => RetM (swapM s xs) w.heap.size e w' ∧ Below w.heap.size w w' := by
  have hxx := hx.below (w' := (w.alloc (.cells #[.int .i64 s, .slice ao n c] 29)).alloc (.cells #[.int .i64 0, .slice none 0 0] 29)) ((below_alloc w _).alloc (by simp) _)
  by_cases hok : massOk s xs = true ∧ s = 4
  · obtain ⟨hm, hs⟩ := hok
    have HR : Hid (swapM s xs = moveM s xs [0, 2, 1, 3]) := by show swapM s xs = _; subst hs; unfold swapM; rw [hm]; rfl
    rw [HR.out]
    subst hs
    go_enter Try.func16, Try.ntmps16
    go_wp2_with fail
    refine (isMass_any _ _ _ _ _ _ hxx).mono ?_; rintro e w1 ⟨rfl, hb1⟩
    obtain ⟨h10, h11, f20, f21⟩ := boxG (w.heap.size + 1) hb1 (by simp)
    have hB1 : Below w.heap.size w w1 := ((below_alloc w _).alloc (by simp) _).trans (hb1.mono (by simp <;> omega))
    have hp0 := keep hb1 (a := ⟨w.heap.size, 0, none⟩) (v := .int .i64 4) (by simp)
    have hp1 := keep hb1 (a := ⟨w.heap.size, 1, none⟩) (v := .slice ao n c) (by simp)
    have hz1 : w.heap.size + 1 < w1.heap.size := by have := World.block_lt_of_cell? w1 _ h10; simpa using this
    have hx1 := hx.below hB1
    clear hb1
    go_wp2_with fail
    refine (MoveMass_any _ _ _ _ _ _ _ _ [0, 2, 1, 3] _ (hx1.below (below_alloc _ _)) (ints_lit _ _ _ _ _ _ rfl rfl rfl (by decide))).mono ?_
    rintro e w7 ⟨⟨v, rfl, hr7⟩, hb7⟩
    obtain ⟨ao7, n7, c7, rfl, hi7⟩ := hr7.ints
    have hb7' := chain (below_alloc w1 _) hb7
    replace f20 := keepF hb7' h10 f20
    replace f21 := keepF hb7' h11 f21
    replace h10 := keep hb7' h10
    replace h11 := keep hb7' h11
    have hB7 := chain hB1 hb7'
    go_wp2
    refine bodyPost_ret (by simp [results, Try.results16, go_sem, h10, h11]) rfl ⟨⟨_, rfl, ((hr7.setBelow (by simp; omega) _).setBelow (by simp; omega) _).mono (by simp; omega)⟩, ?_⟩
    (repeat (first | exact Below.refl _ _ | assumption | refine Below.alloc ?_ (by simp <;> omega) _ | refine Below.setCell ?_ (by simp <;> omega) _ | refine Below.drew ?_ | refine below_drewN ?_))
  · have hbad : massOk s xs = false ∨ (massOk s xs = true ∧ s ≠ 4) := by
      cases h : massOk s xs
      · exact .inl rfl
      · exact .inr ⟨rfl, fun e => hok ⟨h, e⟩⟩
    have HR : Hid (swapM s xs = MR.no) := by show swapM s xs = _; unfold swapM; rcases hbad with h | ⟨h, h2⟩ <;> simp [h, *]
    rw [HR.out]
    have HN := hid hok; clear hok
    rcases hbad with hm | ⟨hm, hs⟩
    · go_enter Try.func16, Try.ntmps16
      go_wp2_with fail
      refine (isMass_any _ _ _ _ _ _ hxx).mono ?_; rintro e w1 ⟨rfl, hb1⟩
      obtain ⟨h10, h11, f20, f21⟩ := boxG (w.heap.size + 1) hb1 (by simp)
      have hB1 : Below w.heap.size w w1 := ((below_alloc w _).alloc (by simp) _).trans (hb1.mono (by simp <;> omega))
      clear hb1
      go_wp2
      refine bodyPost_ret (v := .tuple #[.agg #[.int .i64 0, .slice none 0 0], .bool false]) (by simp [results, Try.results16, go_sem, h10, h11]) rfl ⟨?_, ?_⟩
      · exact RetM.no _ _
      · (repeat (first | exact Below.refl _ _ | assumption | refine Below.alloc ?_ (by simp <;> omega) _ | refine Below.setCell ?_ (by simp <;> omega) _ | refine Below.drew ?_ | refine below_drewN ?_))
    · have hs2 : (s != 4) = true := by simpa using hs
      go_enter Try.func16, Try.ntmps16
      go_wp2_with fail
      refine (isMass_any _ _ _ _ _ _ hxx).mono ?_; rintro e w1 ⟨rfl, hb1⟩
      obtain ⟨h10, h11, f20, f21⟩ := boxG (w.heap.size + 1) hb1 (by simp)
      have hB1 : Below w.heap.size w w1 := ((below_alloc w _).alloc (by simp) _).trans (hb1.mono (by simp <;> omega))
      have hp0 := keep hb1 (a := ⟨w.heap.size, 0, none⟩) (v := .int .i64 s) (by simp)
      clear hb1
      go_wp2
      refine bodyPost_ret (v := .tuple #[.agg #[.int .i64 0, .slice none 0 0], .bool false]) (by simp [results, Try.results16, go_sem, h10, h11]) rfl ⟨?_, ?_⟩
      · exact RetM.no _ _
      · (repeat (first | exact Below.refl _ _ | assumption | refine Below.alloc ?_ (by simp <;> omega) _ | refine Below.setCell ?_ (by simp <;> omega) _ | refine Below.drew ?_ | refine below_drewN ?_))
end Go.Proofs.Ytphcjojdlmnnoaa
