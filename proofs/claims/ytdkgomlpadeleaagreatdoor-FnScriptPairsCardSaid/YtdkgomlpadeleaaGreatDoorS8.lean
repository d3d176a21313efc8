/- The sides of masses of pairs: FirstOf, SecondOf both. -/
import Derived.Test.YtdkgomlpadeleaaGreatDoorS7
import Derived.Test.YtdkgomlpadeleaaGreatDoorS3
import Derived.Test.YtdkgomlpadeleaaGreatDoorS6
set_option linter.unusedSimpArgs false
set_option linter.unusedVariables false
namespace Go.Proofs.YtdkgomlpadeleaaGreatDoor
open Go.RowKit
def sideM (second : Bool) (s : Int) (xs : List Int) : MR := if massOk s xs && (s == 4) then coarseM s xs (sideL second) 2 else MR.no
theorem sideM_bad {second : Bool} {s : Int} {xs : List Int} (h : massOk s xs = false ∨ s ≠ 4) : sideM second s xs = MR.no := by
  rcases h with h | h <;> simp [sideM, h]
theorem sideM_ok {second : Bool} {s : Int} {xs : List Int} (h : massOk s xs = true) (hs : s = 4) : sideM second s xs = coarseM s xs (sideL second) 2 := by
  subst hs; unfold sideM; rw [h]; rfl
theorem sideM_len (second : Bool) (s : Int) (xs : List Int) : (sideM second s xs).parts.length ≤ 100000000 := by
  unfold sideM; split
  · have := coarseM_len s xs (sideL second) 2; omega
  · simp [MR.no]
set_option maxHeartbeats 400000 in
theorem FirstOf_any (s : Int) (ao : Option Addr) (n c : Nat) (xs : List Int) (w : World) (hx : IntsAt w ao n xs) :
    Calls Tryz.prog 10 #[.agg #[.int .i64 s, .slice ao n c]] w fun e w' => RetM (sideM false s xs) w.heap.size e w' ∧ Below w.heap.size w w' := by
  have hxx := hx.below (w' := (w.alloc (.cells #[.int .i64 s, .slice ao n c] 25)).alloc (.cells #[.int .i64 0, .slice none 0 0] 25)) ((below_alloc w _).alloc (by simp) _)
  by_cases hok : massOk s xs = true ∧ s = 4
  · obtain ⟨hm, hs⟩ := hok
    have HR := hid (sideM_ok (second := false) hm hs)
    rw [HR.out]
    subst hs
    go_enter Tryz.func10, Tryz.ntmps10
    go_wp2_with fail
    refine (isMass_any _ _ _ _ _ _ hxx).mono ?_; rintro e w1 ⟨rfl, hb1⟩
    obtain ⟨h10, h11, f20, f21⟩ := boxG (w.heap.size + 1) hb1 (by simp)
    have hB1 : Below w.heap.size w w1 := ((below_alloc w _).alloc (by simp) _).trans (hb1.mono (by simp <;> omega))
    have hp0 := keep hb1 (a := ⟨w.heap.size, 0, none⟩) (v := .int .i64 4) (by simp)
    have hp1 := keep hb1 (a := ⟨w.heap.size, 1, none⟩) (v := .slice ao n c) (by simp)
    have hz1 : w.heap.size + 1 < w1.heap.size := by have := World.block_lt_of_cell? w1 _ h10; simpa using this
    have hx1 := hx.below hB1
    clear hb1
    go_wp2_with fail
    refine (CoarsenMass_any _ _ _ _ _ _ _ _ _ (sideL false) _ (hx1.below (below_alloc _ _)) (ints_lit _ _ _ _ _ _ rfl rfl rfl (by decide))).mono ?_
    rintro e w7 ⟨⟨v, rfl, hr7⟩, hb7⟩
    obtain ⟨ao7, n7, c7, rfl, hi7⟩ := hr7.ints
    have hb7' := chain (below_alloc w1 _) hb7
    replace f20 := keepF hb7' h10 f20
    replace f21 := keepF hb7' h11 f21
    replace h10 := keep hb7' h10
    replace h11 := keep hb7' h11
    have hB7 := chain hB1 hb7'
    go_wp2
    refine bodyPost_ret (by simp [results, Tryz.results10, go_sem, h10, h11]) rfl ⟨⟨_, rfl, ((hr7.setBelow (by simp; omega) _).setBelow (by simp; omega) _).mono (by simp; omega)⟩, ?_⟩
    (repeat (first | exact Below.refl _ _ | assumption | refine Below.alloc ?_ (by simp <;> omega) _ | refine Below.setCell ?_ (by simp <;> omega) _ | refine Below.drew ?_ | refine below_drewN ?_))
  · have hbad : massOk s xs = false ∨ (massOk s xs = true ∧ s ≠ 4) := by
      cases h : massOk s xs
      · exact .inl rfl
      · exact .inr ⟨rfl, fun e => hok ⟨h, e⟩⟩
    rw [sideM_bad (hbad.imp id And.right)]
    have HN := hid hok; clear hok
    rcases hbad with hm | ⟨hm, hs⟩
    · go_enter Tryz.func10, Tryz.ntmps10
      go_wp2_with fail
      refine (isMass_any _ _ _ _ _ _ hxx).mono ?_; rintro e w1 ⟨rfl, hb1⟩
      obtain ⟨h10, h11, f20, f21⟩ := boxG (w.heap.size + 1) hb1 (by simp)
      have hB1 : Below w.heap.size w w1 := ((below_alloc w _).alloc (by simp) _).trans (hb1.mono (by simp <;> omega))
      clear hb1
      go_wp2
      refine bodyPost_ret (v := .tuple #[.agg #[.int .i64 0, .slice none 0 0], .bool false]) (by simp [results, Tryz.results10, go_sem, h10, h11]) rfl ⟨?_, ?_⟩
      · exact RetM.no _ _
      · (repeat (first | exact Below.refl _ _ | assumption | refine Below.alloc ?_ (by simp <;> omega) _ | refine Below.setCell ?_ (by simp <;> omega) _ | refine Below.drew ?_ | refine below_drewN ?_))
    · have hs2 : (s != 4) = true := by simpa using hs
      go_enter Tryz.func10, Tryz.ntmps10
      go_wp2_with fail
      refine (isMass_any _ _ _ _ _ _ hxx).mono ?_; rintro e w1 ⟨rfl, hb1⟩
      obtain ⟨h10, h11, f20, f21⟩ := boxG (w.heap.size + 1) hb1 (by simp)
      have hB1 : Below w.heap.size w w1 := ((below_alloc w _).alloc (by simp) _).trans (hb1.mono (by simp <;> omega))
      have hp0 := keep hb1 (a := ⟨w.heap.size, 0, none⟩) (v := .int .i64 s) (by simp)
      clear hb1
      go_wp2
      refine bodyPost_ret (v := .tuple #[.agg #[.int .i64 0, .slice none 0 0], .bool false]) (by simp [results, Tryz.results10, go_sem, h10, h11]) rfl ⟨?_, ?_⟩
      · exact RetM.no _ _
      · (repeat (first | exact Below.refl _ _ | assumption | refine Below.alloc ?_ (by simp <;> omega) _ | refine Below.setCell ?_ (by simp <;> omega) _ | refine Below.drew ?_ | refine below_drewN ?_))
set_option maxHeartbeats 400000 in
theorem SecondOf_any (s : Int) (ao : Option Addr) (n c : Nat) (xs : List Int) (w : World) (hx : IntsAt w ao n xs) :
    Calls Tryz.prog 11 #[.agg #[.int .i64 s, .slice ao n c]] w fun e w' => RetM (sideM true s xs) w.heap.size e w' ∧ Below w.heap.size w w' := by
  have hxx := hx.below (w' := (w.alloc (.cells #[.int .i64 s, .slice ao n c] 25)).alloc (.cells #[.int .i64 0, .slice none 0 0] 25)) ((below_alloc w _).alloc (by simp) _)
  by_cases hok : massOk s xs = true ∧ s = 4
  · obtain ⟨hm, hs⟩ := hok
    have HR := hid (sideM_ok (second := true) hm hs)
    rw [HR.out]
    subst hs
    go_enter Tryz.func11, Tryz.ntmps11
    go_wp2_with fail
    refine (isMass_any _ _ _ _ _ _ hxx).mono ?_; rintro e w1 ⟨rfl, hb1⟩
    obtain ⟨h10, h11, f20, f21⟩ := boxG (w.heap.size + 1) hb1 (by simp)
    have hB1 : Below w.heap.size w w1 := ((below_alloc w _).alloc (by simp) _).trans (hb1.mono (by simp <;> omega))
    have hp0 := keep hb1 (a := ⟨w.heap.size, 0, none⟩) (v := .int .i64 4) (by simp)
    have hp1 := keep hb1 (a := ⟨w.heap.size, 1, none⟩) (v := .slice ao n c) (by simp)
    have hz1 : w.heap.size + 1 < w1.heap.size := by have := World.block_lt_of_cell? w1 _ h10; simpa using this
    have hx1 := hx.below hB1
    clear hb1
    go_wp2_with fail
    refine (CoarsenMass_any _ _ _ _ _ _ _ _ _ (sideL true) _ (hx1.below (below_alloc _ _)) (ints_lit _ _ _ _ _ _ rfl rfl rfl (by decide))).mono ?_
    rintro e w7 ⟨⟨v, rfl, hr7⟩, hb7⟩
    obtain ⟨ao7, n7, c7, rfl, hi7⟩ := hr7.ints
    have hb7' := chain (below_alloc w1 _) hb7
    replace f20 := keepF hb7' h10 f20
    replace f21 := keepF hb7' h11 f21
    replace h10 := keep hb7' h10
    replace h11 := keep hb7' h11
    have hB7 := chain hB1 hb7'
    go_wp2
    refine bodyPost_ret (by simp [results, Tryz.results11, go_sem, h10, h11]) rfl ⟨⟨_, rfl, ((hr7.setBelow (by simp; omega) _).setBelow (by simp; omega) _).mono (by simp; omega)⟩, ?_⟩
    (repeat (first | exact Below.refl _ _ | assumption | refine Below.alloc ?_ (by simp <;> omega) _ | refine Below.setCell ?_ (by simp <;> omega) _ | refine Below.drew ?_ | refine below_drewN ?_))
  · have hbad : massOk s xs = false ∨ (massOk s xs = true ∧ s ≠ 4) := by
      cases h : massOk s xs
      · exact .inl rfl
      · exact .inr ⟨rfl, fun e => hok ⟨h, e⟩⟩
    rw [sideM_bad (hbad.imp id And.right)]
    have HN := hid hok; clear hok
    rcases hbad with hm | ⟨hm, hs⟩
    · go_enter Tryz.func11, Tryz.ntmps11
      go_wp2_with fail
      refine (isMass_any _ _ _ _ _ _ hxx).mono ?_; rintro e w1 ⟨rfl, hb1⟩
      obtain ⟨h10, h11, f20, f21⟩ := boxG (w.heap.size + 1) hb1 (by simp)
      have hB1 : Below w.heap.size w w1 := ((below_alloc w _).alloc (by simp) _).trans (hb1.mono (by simp <;> omega))
      clear hb1
      go_wp2
      refine bodyPost_ret (v := .tuple #[.agg #[.int .i64 0, .slice none 0 0], .bool false]) (by simp [results, Tryz.results11, go_sem, h10, h11]) rfl ⟨?_, ?_⟩
      · exact RetM.no _ _
      · (repeat (first | exact Below.refl _ _ | assumption | refine Below.alloc ?_ (by simp <;> omega) _ | refine Below.setCell ?_ (by simp <;> omega) _ | refine Below.drew ?_ | refine below_drewN ?_))
    · have hs2 : (s != 4) = true := by simpa using hs
      go_enter Tryz.func11, Tryz.ntmps11
      go_wp2_with fail
      refine (isMass_any _ _ _ _ _ _ hxx).mono ?_; rintro e w1 ⟨rfl, hb1⟩
      obtain ⟨h10, h11, f20, f21⟩ := boxG (w.heap.size + 1) hb1 (by simp)
      have hB1 : Below w.heap.size w w1 := ((below_alloc w _).alloc (by simp) _).trans (hb1.mono (by simp <;> omega))
      have hp0 := keep hb1 (a := ⟨w.heap.size, 0, none⟩) (v := .int .i64 s) (by simp)
      clear hb1
      go_wp2
      refine bodyPost_ret (v := .tuple #[.agg #[.int .i64 0, .slice none 0 0], .bool false]) (by simp [results, Tryz.results11, go_sem, h10, h11]) rfl ⟨?_, ?_⟩
      · exact RetM.no _ _
      · (repeat (first | exact Below.refl _ _ | assumption | refine Below.alloc ?_ (by simp <;> omega) _ | refine Below.setCell ?_ (by simp <;> omega) _ | refine Below.drew ?_ | refine below_drewN ?_))
set_option maxHeartbeats 400000 in
theorem specSecondOf_any (s : Int) (ao : Option Addr) (n c : Nat) (xs : List Int) (w : World) (hx : IntsAt w ao n xs) :
    Calls Tryz.prog 30 #[.agg #[.int .i64 s, .slice ao n c]] w fun e w' => RetM (sideM true s xs) w.heap.size e w' ∧ Below w.heap.size w w' := by
  have hxx := hx.below (w' := (w.alloc (.cells #[.int .i64 s, .slice ao n c] 25)).alloc (.cells #[.int .i64 0, .slice none 0 0] 25)) ((below_alloc w _).alloc (by simp) _)
  cases hok : (massOk s xs && (s == 4))
  · have HR : Hid (sideM true s xs = MR.no) := by show sideM true s xs = _; unfold sideM; rw [hok]; rfl
    rw [HR.out]
    go_enter Tryz.func30, Tryz.ntmps30
    go_wp2_with fail
    refine (l11Pairs_any _ _ _ _ _ _ hxx).mono ?_; rw [hok]; rintro e w1 ⟨rfl, hb1⟩
    obtain ⟨h10, h11, f20, f21⟩ := boxG (w.heap.size + 1) hb1 (by simp)
    have hB1 : Below w.heap.size w w1 := ((below_alloc w _).alloc (by simp) _).trans (hb1.mono (by simp <;> omega))
    clear hb1
    go_wp2
    refine bodyPost_ret (v := .tuple #[.agg #[.int .i64 0, .slice none 0 0], .bool false]) (by simp [results, Tryz.results30, go_sem, h10, h11]) rfl ⟨?_, ?_⟩
    · exact RetM.no _ _
    · (repeat (first | exact Below.refl _ _ | assumption | refine Below.alloc ?_ (by simp <;> omega) _ | refine Below.setCell ?_ (by simp <;> omega) _ | refine Below.drew ?_ | refine below_drewN ?_))
  · have HR : Hid (sideM true s xs = coarseM s xs (sideL true) 2) := by show sideM true s xs = _; unfold sideM; rw [hok]; rfl
    rw [HR.out]
    go_enter Tryz.func30, Tryz.ntmps30
    go_wp2_with fail
    refine (l11Pairs_any _ _ _ _ _ _ hxx).mono ?_; rw [hok]; rintro e w1 ⟨rfl, hb1⟩
    obtain ⟨h10, h11, f20, f21⟩ := boxG (w.heap.size + 1) hb1 (by simp)
    have hB1 : Below w.heap.size w w1 := ((below_alloc w _).alloc (by simp) _).trans (hb1.mono (by simp <;> omega))
    have hp0 := keep hb1 (a := ⟨w.heap.size, 0, none⟩) (v := .int .i64 s) (by simp)
    have hp1 := keep hb1 (a := ⟨w.heap.size, 1, none⟩) (v := .slice ao n c) (by simp)
    have hz1 : w.heap.size + 1 < w1.heap.size := by have := World.block_lt_of_cell? w1 _ h10; simpa using this
    have hx1 := hx.below hB1
    clear hb1
    go_wp2
    go_region_with (first | (go_at_call 63; refine (l11Side_any _ _).mono ?_; rintro e w3 ⟨rfl, hi3, hb3⟩; have hb3a := chain (drew_below w1) hb3; have hp0 := keep hb3a hp0; have hp1 := keep hb3a hp1; have f20 := keepF hb3a h10 f20; have f21 := keepF hb3a h11 f21; have h10 := keep hb3a h10; have h11 := keep hb3a h11) | (go_at_call 66; refine (specCoarsenMass_any _ _ _ _ _ _ _ _ _ (sideL true) _ (hx1.below hb3a) hi3 rfl).mono ?_; rintro e w7 ⟨⟨v, rfl, hr7⟩, hb7⟩; obtain ⟨ao7, n7, c7, rfl, hi7⟩ := hr7.ints; have hb7b := chain hb3a hb7;  have f20 := keepF hb7 h10 f20; have f21 := keepF hb7 h11 f21; have h10 := keep hb7 h10; have h11 := keep hb7 h11))
    all_goals
      have hB7 := chain hB1 hb7b
      have hz3 := hb3a.size
      go_wp2
      refine bodyPost_ret (by simp [results, Tryz.results30, go_sem, h10, h11]) rfl ⟨⟨_, rfl, ((hr7.setBelow (by simp; omega) _).setBelow (by simp; omega) _).mono (by omega)⟩, ?_⟩
      (repeat (first | exact Below.refl _ _ | assumption | refine Below.alloc ?_ (by simp <;> omega) _ | refine Below.setCell ?_ (by simp <;> omega) _ | refine Below.drew ?_ | refine below_drewN ?_))
end Go.Proofs.YtdkgomlpadeleaaGreatDoor
