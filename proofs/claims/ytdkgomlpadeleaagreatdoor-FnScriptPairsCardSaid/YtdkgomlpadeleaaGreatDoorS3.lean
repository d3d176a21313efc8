/- Masses of a question told of pairs. -/
import Derived.Test.YtdkgomlpadeleaaGreatDoorS2
import Derived.RegionCalls
set_option linter.unusedSimpArgs false
set_option linter.unusedVariables false
namespace Go.Proofs.YtdkgomlpadeleaaGreatDoor
open Go.RowKit
def sideL (second : Bool) : List Int := if second then [0, 1, 0, 1] else [0, 0, 1, 1]
def extendM (second : Bool) (s : Int) (xs : List Int) : MR := if massOk s xs && (s == 2) then refineM s xs (sideL second) 4 else MR.no
theorem extendM_bad {second : Bool} {s : Int} {xs : List Int} (h : massOk s xs = false ∨ s ≠ 2) : extendM second s xs = MR.no := by
  rcases h with h | h <;> simp [extendM, h]
theorem extendM_ok {second : Bool} {s : Int} {xs : List Int} (h : massOk s xs = true) (hs : s = 2) : extendM second s xs = refineM s xs (sideL second) 4 := by
  subst hs; unfold extendM; rw [h]; rfl
theorem l11Single_any (s : Int) (ao : Option Addr) (n c : Nat) (xs : List Int) (w : World) (hx : IntsAt w ao n xs) :
    Calls Tryz.prog 61 #[.agg #[.int .i64 s, .slice ao n c]] w fun e w' => e = .returned (.bool (massOk s xs && (s == 2))) ∧ Below w.heap.size w w' := by
  go_enter Tryz.func61, Tryz.ntmps61
  go_wp2_with fail
  refine (MassValid_any _ _ _ _ _ _ (hx.below (below_alloc w _))).mono ?_; rintro e w1 ⟨rfl, hb1⟩
  obtain ⟨h10, h11, hB1⟩ := box2 hb1
  cases hm : massOk s xs
  all_goals
    go_wp2
    go_ret
    exact ⟨ret_bool (by simp [hm]), hB1⟩
theorem l11Side_any (second : Bool) (w : World) :
    Calls Tryz.prog 63 #[.bool second] w fun e w' => e = .returned (.slice (some ⟨w.heap.size, 0, none⟩) 4 4) ∧ IntsAt w' (some ⟨w.heap.size, 0, none⟩) 4 (sideL second) ∧ Below w.heap.size w w' := by
  cases second
  all_goals
    go_enter Tryz.func63, Tryz.ntmps63
    go_wp2
    go_ret
    exact ⟨rfl, ints_lit _ _ _ _ _ _ rfl rfl rfl (by decide), below_alloc w _⟩
set_option maxHeartbeats 400000 in
theorem ExtendFirst_any (s : Int) (ao : Option Addr) (n c : Nat) (xs : List Int) (w : World) (hx : IntsAt w ao n xs) :
    Calls Tryz.prog 25 #[.agg #[.int .i64 s, .slice ao n c]] w fun e w' => RetM (extendM false s xs) w.heap.size e w' ∧ Below w.heap.size w w' := by
  have hxx := hx.below (w' := (w.alloc (.cells #[.int .i64 s, .slice ao n c] 25)).alloc (.cells #[.int .i64 0, .slice none 0 0] 25)) ((below_alloc w _).alloc (by simp) _)
  by_cases hok : massOk s xs = true ∧ s = 2
  · obtain ⟨hm, hs⟩ := hok
    have HR := hid (extendM_ok (second := false) hm hs)
    rw [HR.out]
    subst hs
    go_enter Tryz.func25, Tryz.ntmps25
    go_wp2_with fail
    refine (isMass_any _ _ _ _ _ _ hxx).mono ?_; rintro e w1 ⟨rfl, hb1⟩
    obtain ⟨h10, h11, f20, f21⟩ := boxG (w.heap.size + 1) hb1 (by simp)
    have hB1 : Below w.heap.size w w1 := ((below_alloc w _).alloc (by simp) _).trans (hb1.mono (by simp <;> omega))
    have hp0 := keep hb1 (a := ⟨w.heap.size, 0, none⟩) (v := .int .i64 2) (by simp)
    have hp1 := keep hb1 (a := ⟨w.heap.size, 1, none⟩) (v := .slice ao n c) (by simp)
    have hz1 : w.heap.size + 1 < w1.heap.size := by have := World.block_lt_of_cell? w1 _ h10; simpa using this
    have hx1 := hx.below hB1
    clear hb1
    go_wp2_with fail
    refine (RefineMass_any _ _ _ _ _ _ _ _ _ (sideL false) _ (hx1.below (below_alloc _ _)) (ints_lit _ _ _ _ _ _ rfl rfl rfl (by decide))).mono ?_
    rintro e w7 ⟨⟨v, rfl, hr7⟩, hb7⟩
    obtain ⟨ao7, n7, c7, rfl, hi7⟩ := hr7.ints
    have hb7' := chain (below_alloc w1 _) hb7
    replace f20 := keepF hb7' h10 f20
    replace f21 := keepF hb7' h11 f21
    replace h10 := keep hb7' h10
    replace h11 := keep hb7' h11
    have hB7 := chain hB1 hb7'
    go_wp2
    refine bodyPost_ret (by simp [results, Tryz.results25, go_sem, h10, h11]) rfl ⟨⟨_, rfl, ((hr7.setBelow (by simp; omega) _).setBelow (by simp; omega) _).mono (by simp; omega)⟩, ?_⟩
    (repeat (first | exact Below.refl _ _ | assumption | refine Below.alloc ?_ (by simp <;> omega) _ | refine Below.setCell ?_ (by simp <;> omega) _ | refine Below.drew ?_ | refine below_drewN ?_))
  · have hbad : massOk s xs = false ∨ (massOk s xs = true ∧ s ≠ 2) := by
      cases h : massOk s xs
      · exact .inl rfl
      · exact .inr ⟨rfl, fun e => hok ⟨h, e⟩⟩
    rw [extendM_bad (hbad.imp id And.right)]
    have HN := hid hok; clear hok
    rcases hbad with hm | ⟨hm, hs⟩
    · go_enter Tryz.func25, Tryz.ntmps25
      go_wp2_with fail
      refine (isMass_any _ _ _ _ _ _ hxx).mono ?_; rintro e w1 ⟨rfl, hb1⟩
      obtain ⟨h10, h11, f20, f21⟩ := boxG (w.heap.size + 1) hb1 (by simp)
      have hB1 : Below w.heap.size w w1 := ((below_alloc w _).alloc (by simp) _).trans (hb1.mono (by simp <;> omega))
      clear hb1
      go_wp2
      refine bodyPost_ret (v := .tuple #[.agg #[.int .i64 0, .slice none 0 0], .bool false]) (by simp [results, Tryz.results25, go_sem, h10, h11]) rfl ⟨?_, ?_⟩
      · exact RetM.no _ _
      · (repeat (first | exact Below.refl _ _ | assumption | refine Below.alloc ?_ (by simp <;> omega) _ | refine Below.setCell ?_ (by simp <;> omega) _ | refine Below.drew ?_ | refine below_drewN ?_))
    · have hs2 : (s != 2) = true := by simpa using hs
      go_enter Tryz.func25, Tryz.ntmps25
      go_wp2_with fail
      refine (isMass_any _ _ _ _ _ _ hxx).mono ?_; rintro e w1 ⟨rfl, hb1⟩
      obtain ⟨h10, h11, f20, f21⟩ := boxG (w.heap.size + 1) hb1 (by simp)
      have hB1 : Below w.heap.size w w1 := ((below_alloc w _).alloc (by simp) _).trans (hb1.mono (by simp <;> omega))
      have hp0 := keep hb1 (a := ⟨w.heap.size, 0, none⟩) (v := .int .i64 s) (by simp)
      clear hb1
      go_wp2
      refine bodyPost_ret (v := .tuple #[.agg #[.int .i64 0, .slice none 0 0], .bool false]) (by simp [results, Tryz.results25, go_sem, h10, h11]) rfl ⟨?_, ?_⟩
      · exact RetM.no _ _
      · (repeat (first | exact Below.refl _ _ | assumption | refine Below.alloc ?_ (by simp <;> omega) _ | refine Below.setCell ?_ (by simp <;> omega) _ | refine Below.drew ?_ | refine below_drewN ?_))
set_option maxHeartbeats 400000 in
theorem specExtendFirst_any (s : Int) (ao : Option Addr) (n c : Nat) (xs : List Int) (w : World) (hx : IntsAt w ao n xs) :
    Calls Tryz.prog 27 #[.agg #[.int .i64 s, .slice ao n c]] w fun e w' => RetM (extendM false s xs) w.heap.size e w' ∧ Below w.heap.size w w' := by
  have hxx := hx.below (w' := (w.alloc (.cells #[.int .i64 s, .slice ao n c] 25)).alloc (.cells #[.int .i64 0, .slice none 0 0] 25)) ((below_alloc w _).alloc (by simp) _)
  cases hok : (massOk s xs && (s == 2))
  · have HR : Hid (extendM false s xs = MR.no) := by show extendM false s xs = _; unfold extendM; rw [hok]; rfl
    rw [HR.out]
    go_enter Tryz.func27, Tryz.ntmps27
    go_wp2_with fail
    refine (l11Single_any _ _ _ _ _ _ hxx).mono ?_; rw [hok]; rintro e w1 ⟨rfl, hb1⟩
    obtain ⟨h10, h11, f20, f21⟩ := boxG (w.heap.size + 1) hb1 (by simp)
    have hB1 : Below w.heap.size w w1 := ((below_alloc w _).alloc (by simp) _).trans (hb1.mono (by simp <;> omega))
    clear hb1
    go_wp2
    refine bodyPost_ret (v := .tuple #[.agg #[.int .i64 0, .slice none 0 0], .bool false]) (by simp [results, Tryz.results27, go_sem, h10, h11]) rfl ⟨?_, ?_⟩
    · exact RetM.no _ _
    · (repeat (first | exact Below.refl _ _ | assumption | refine Below.alloc ?_ (by simp <;> omega) _ | refine Below.setCell ?_ (by simp <;> omega) _ | refine Below.drew ?_ | refine below_drewN ?_))
  · have HR : Hid (extendM false s xs = refineM s xs (sideL false) 4) := by show extendM false s xs = _; unfold extendM; rw [hok]; rfl
    rw [HR.out]
    go_enter Tryz.func27, Tryz.ntmps27
    go_wp2_with fail
    refine (l11Single_any _ _ _ _ _ _ hxx).mono ?_; rw [hok]; rintro e w1 ⟨rfl, hb1⟩
    obtain ⟨h10, h11, f20, f21⟩ := boxG (w.heap.size + 1) hb1 (by simp)
    have hB1 : Below w.heap.size w w1 := ((below_alloc w _).alloc (by simp) _).trans (hb1.mono (by simp <;> omega))
    have hp0 := keep hb1 (a := ⟨w.heap.size, 0, none⟩) (v := .int .i64 s) (by simp)
    have hp1 := keep hb1 (a := ⟨w.heap.size, 1, none⟩) (v := .slice ao n c) (by simp)
    have hz1 : w.heap.size + 1 < w1.heap.size := by have := World.block_lt_of_cell? w1 _ h10; simpa using this
    have hx1 := hx.below hB1
    clear hb1
    go_wp2
    go_region_with (first | (go_at_call 63; refine (l11Side_any _ _).mono ?_; rintro e w3 ⟨rfl, hi3, hb3⟩; have hb3a := chain (drew_below w1) hb3; have hp0 := keep hb3a hp0; have hp1 := keep hb3a hp1; have f20 := keepF hb3a h10 f20; have f21 := keepF hb3a h11 f21; have h10 := keep hb3a h10; have h11 := keep hb3a h11) | (go_at_call 62; refine (specRefineMass_any _ _ _ _ _ _ _ _ _ (sideL false) _ (hx1.below hb3a) hi3 rfl).mono ?_; rintro e w7 ⟨⟨v, rfl, hr7⟩, hb7⟩; obtain ⟨ao7, n7, c7, rfl, hi7⟩ := hr7.ints; have hb7b := chain hb3a hb7;  have f20 := keepF hb7 h10 f20; have f21 := keepF hb7 h11 f21; have h10 := keep hb7 h10; have h11 := keep hb7 h11))
    all_goals
      have hB7 := chain hB1 hb7b
      have hz3 := hb3a.size
      go_wp2
      refine bodyPost_ret (by simp [results, Tryz.results27, go_sem, h10, h11]) rfl ⟨⟨_, rfl, ((hr7.setBelow (by simp; omega) _).setBelow (by simp; omega) _).mono (by omega)⟩, ?_⟩
      (repeat (first | exact Below.refl _ _ | assumption | refine Below.alloc ?_ (by simp <;> omega) _ | refine Below.setCell ?_ (by simp <;> omega) _ | refine Below.drew ?_ | refine below_drewN ?_))
set_option maxHeartbeats 400000 in
theorem ExtendSecond_any (s : Int) (ao : Option Addr) (n c : Nat) (xs : List Int) (w : World) (hx : IntsAt w ao n xs) :
    Calls Tryz.prog 190 #[.agg #[.int .i64 s, .slice ao n c]] w fun e w' => RetM (extendM true s xs) w.heap.size e w' ∧ Below w.heap.size w w' := by
  have hxx := hx.below (w' := (w.alloc (.cells #[.int .i64 s, .slice ao n c] 25)).alloc (.cells #[.int .i64 0, .slice none 0 0] 25)) ((below_alloc w _).alloc (by simp) _)
  by_cases hok : massOk s xs = true ∧ s = 2
  · obtain ⟨hm, hs⟩ := hok
    have HR := hid (extendM_ok (second := true) hm hs)
    rw [HR.out]
    subst hs
    go_enter Tryz.func190, Tryz.ntmps190
    go_wp2_with fail
    refine (isMass_any _ _ _ _ _ _ hxx).mono ?_; rintro e w1 ⟨rfl, hb1⟩
    obtain ⟨h10, h11, f20, f21⟩ := boxG (w.heap.size + 1) hb1 (by simp)
    have hB1 : Below w.heap.size w w1 := ((below_alloc w _).alloc (by simp) _).trans (hb1.mono (by simp <;> omega))
    have hp0 := keep hb1 (a := ⟨w.heap.size, 0, none⟩) (v := .int .i64 2) (by simp)
    have hp1 := keep hb1 (a := ⟨w.heap.size, 1, none⟩) (v := .slice ao n c) (by simp)
    have hz1 : w.heap.size + 1 < w1.heap.size := by have := World.block_lt_of_cell? w1 _ h10; simpa using this
    have hx1 := hx.below hB1
    clear hb1
    go_wp2_with fail
    refine (RefineMass_any _ _ _ _ _ _ _ _ _ (sideL true) _ (hx1.below (below_alloc _ _)) (ints_lit _ _ _ _ _ _ rfl rfl rfl (by decide))).mono ?_
    rintro e w7 ⟨⟨v, rfl, hr7⟩, hb7⟩
    obtain ⟨ao7, n7, c7, rfl, hi7⟩ := hr7.ints
    have hb7' := chain (below_alloc w1 _) hb7
    replace f20 := keepF hb7' h10 f20
    replace f21 := keepF hb7' h11 f21
    replace h10 := keep hb7' h10
    replace h11 := keep hb7' h11
    have hB7 := chain hB1 hb7'
    go_wp2
    refine bodyPost_ret (by simp [results, Tryz.results190, go_sem, h10, h11]) rfl ⟨⟨_, rfl, ((hr7.setBelow (by simp; omega) _).setBelow (by simp; omega) _).mono (by simp; omega)⟩, ?_⟩
    (repeat (first | exact Below.refl _ _ | assumption | refine Below.alloc ?_ (by simp <;> omega) _ | refine Below.setCell ?_ (by simp <;> omega) _ | refine Below.drew ?_ | refine below_drewN ?_))
  · have hbad : massOk s xs = false ∨ (massOk s xs = true ∧ s ≠ 2) := by
      cases h : massOk s xs
      · exact .inl rfl
      · exact .inr ⟨rfl, fun e => hok ⟨h, e⟩⟩
    rw [extendM_bad (hbad.imp id And.right)]
    have HN := hid hok; clear hok
    rcases hbad with hm | ⟨hm, hs⟩
    · go_enter Tryz.func190, Tryz.ntmps190
      go_wp2_with fail
      refine (isMass_any _ _ _ _ _ _ hxx).mono ?_; rintro e w1 ⟨rfl, hb1⟩
      obtain ⟨h10, h11, f20, f21⟩ := boxG (w.heap.size + 1) hb1 (by simp)
      have hB1 : Below w.heap.size w w1 := ((below_alloc w _).alloc (by simp) _).trans (hb1.mono (by simp <;> omega))
      clear hb1
      go_wp2
      refine bodyPost_ret (v := .tuple #[.agg #[.int .i64 0, .slice none 0 0], .bool false]) (by simp [results, Tryz.results190, go_sem, h10, h11]) rfl ⟨?_, ?_⟩
      · exact RetM.no _ _
      · (repeat (first | exact Below.refl _ _ | assumption | refine Below.alloc ?_ (by simp <;> omega) _ | refine Below.setCell ?_ (by simp <;> omega) _ | refine Below.drew ?_ | refine below_drewN ?_))
    · have hs2 : (s != 2) = true := by simpa using hs
      go_enter Tryz.func190, Tryz.ntmps190
      go_wp2_with fail
      refine (isMass_any _ _ _ _ _ _ hxx).mono ?_; rintro e w1 ⟨rfl, hb1⟩
      obtain ⟨h10, h11, f20, f21⟩ := boxG (w.heap.size + 1) hb1 (by simp)
      have hB1 : Below w.heap.size w w1 := ((below_alloc w _).alloc (by simp) _).trans (hb1.mono (by simp <;> omega))
      have hp0 := keep hb1 (a := ⟨w.heap.size, 0, none⟩) (v := .int .i64 s) (by simp)
      clear hb1
      go_wp2
      refine bodyPost_ret (v := .tuple #[.agg #[.int .i64 0, .slice none 0 0], .bool false]) (by simp [results, Tryz.results190, go_sem, h10, h11]) rfl ⟨?_, ?_⟩
      · exact RetM.no _ _
      · (repeat (first | exact Below.refl _ _ | assumption | refine Below.alloc ?_ (by simp <;> omega) _ | refine Below.setCell ?_ (by simp <;> omega) _ | refine Below.drew ?_ | refine below_drewN ?_))
set_option maxHeartbeats 400000 in
theorem specExtendSecond_any (s : Int) (ao : Option Addr) (n c : Nat) (xs : List Int) (w : World) (hx : IntsAt w ao n xs) :
    Calls Tryz.prog 109 #[.agg #[.int .i64 s, .slice ao n c]] w fun e w' => RetM (extendM true s xs) w.heap.size e w' ∧ Below w.heap.size w w' := by
  have hxx := hx.below (w' := (w.alloc (.cells #[.int .i64 s, .slice ao n c] 25)).alloc (.cells #[.int .i64 0, .slice none 0 0] 25)) ((below_alloc w _).alloc (by simp) _)
  cases hok : (massOk s xs && (s == 2))
  · have HR : Hid (extendM true s xs = MR.no) := by show extendM true s xs = _; unfold extendM; rw [hok]; rfl
    rw [HR.out]
    go_enter Tryz.func109, Tryz.ntmps109
    go_wp2_with fail
    refine (l11Single_any _ _ _ _ _ _ hxx).mono ?_; rw [hok]; rintro e w1 ⟨rfl, hb1⟩
    obtain ⟨h10, h11, f20, f21⟩ := boxG (w.heap.size + 1) hb1 (by simp)
    have hB1 : Below w.heap.size w w1 := ((below_alloc w _).alloc (by simp) _).trans (hb1.mono (by simp <;> omega))
    clear hb1
    go_wp2
    refine bodyPost_ret (v := .tuple #[.agg #[.int .i64 0, .slice none 0 0], .bool false]) (by simp [results, Tryz.results109, go_sem, h10, h11]) rfl ⟨?_, ?_⟩
    · exact RetM.no _ _
    · (repeat (first | exact Below.refl _ _ | assumption | refine Below.alloc ?_ (by simp <;> omega) _ | refine Below.setCell ?_ (by simp <;> omega) _ | refine Below.drew ?_ | refine below_drewN ?_))
  · have HR : Hid (extendM true s xs = refineM s xs (sideL true) 4) := by show extendM true s xs = _; unfold extendM; rw [hok]; rfl
    rw [HR.out]
    go_enter Tryz.func109, Tryz.ntmps109
    go_wp2_with fail
    refine (l11Single_any _ _ _ _ _ _ hxx).mono ?_; rw [hok]; rintro e w1 ⟨rfl, hb1⟩
    obtain ⟨h10, h11, f20, f21⟩ := boxG (w.heap.size + 1) hb1 (by simp)
    have hB1 : Below w.heap.size w w1 := ((below_alloc w _).alloc (by simp) _).trans (hb1.mono (by simp <;> omega))
    have hp0 := keep hb1 (a := ⟨w.heap.size, 0, none⟩) (v := .int .i64 s) (by simp)
    have hp1 := keep hb1 (a := ⟨w.heap.size, 1, none⟩) (v := .slice ao n c) (by simp)
    have hz1 : w.heap.size + 1 < w1.heap.size := by have := World.block_lt_of_cell? w1 _ h10; simpa using this
    have hx1 := hx.below hB1
    clear hb1
    go_wp2
    go_region_with (first | (go_at_call 63; refine (l11Side_any _ _).mono ?_; rintro e w3 ⟨rfl, hi3, hb3⟩; have hb3a := chain (drew_below w1) hb3; have hp0 := keep hb3a hp0; have hp1 := keep hb3a hp1; have f20 := keepF hb3a h10 f20; have f21 := keepF hb3a h11 f21; have h10 := keep hb3a h10; have h11 := keep hb3a h11) | (go_at_call 62; refine (specRefineMass_any _ _ _ _ _ _ _ _ _ (sideL true) _ (hx1.below hb3a) hi3 rfl).mono ?_; rintro e w7 ⟨⟨v, rfl, hr7⟩, hb7⟩; obtain ⟨ao7, n7, c7, rfl, hi7⟩ := hr7.ints; have hb7b := chain hb3a hb7;  have f20 := keepF hb7 h10 f20; have f21 := keepF hb7 h11 f21; have h10 := keep hb7 h10; have h11 := keep hb7 h11))
    all_goals
      have hB7 := chain hB1 hb7b
      have hz3 := hb3a.size
      go_wp2
      refine bodyPost_ret (by simp [results, Tryz.results109, go_sem, h10, h11]) rfl ⟨⟨_, rfl, ((hr7.setBelow (by simp; omega) _).setBelow (by simp; omega) _).mono (by omega)⟩, ?_⟩
      (repeat (first | exact Below.refl _ _ | assumption | refine Below.alloc ?_ (by simp <;> omega) _ | refine Below.setCell ?_ (by simp <;> omega) _ | refine Below.drew ?_ | refine below_drewN ?_))
end Go.Proofs.YtdkgomlpadeleaaGreatDoor
