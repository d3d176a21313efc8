/- Pairs: PairMasses, PassOn, IsIndependent, each both ways. -/
import Derived.Test.YtdkgomlpadeleaaGreatDoorS8
import Derived.Test.YtdkgomlpadeleaaGreatDoorS9
import Derived.Test.YtdkgomlpadeleaaGreatDoorLE
set_option linter.unusedSimpArgs false
set_option linter.unusedVariables false
namespace Go.Proofs.YtdkgomlpadeleaaGreatDoor
open Go.RowKit
def andT : Nat → Nat → Nat := fun a b => a &&& b
/-- what two independent masses tell of pairs -/
def pairM (s : Int) (xs : List Int) (u : Int) (ys : List Int) : MR :=
  if (extendM false s xs).ok && (extendM true u ys).ok then togM (fun a b => a &&& b) (extendM false s xs).size (extendM false s xs).parts (extendM true u ys).size (extendM true u ys).parts else MR.no
theorem pairM_len (s : Int) (xs : List Int) (u : Int) (ys : List Int) : (pairM s xs u ys).parts.length ≤ 100000000 := by
  unfold pairM; split
  · have := togM_len (fun a b => a &&& b) (extendM false s xs).size (extendM false s xs).parts (extendM true u ys).size (extendM true u ys).parts; omega
  · simp [MR.no]
theorem mkMass_ok {s : Int} {xs : List Int} (h : (mkMass s xs).ok = true) : (mkMass s xs).size = s ∧ massOk s (mkMass s xs).parts = true := by
  unfold mkMass at *
  split at h
  · cases h
  · rename_i h1
    rw [if_neg h1]
    split at h
    · rename_i h2; rw [if_pos h2]; exact ⟨rfl, h2⟩
    · cases h
theorem extend_ok {second : Bool} {s : Int} {xs : List Int} (h : (extendM second s xs).ok = true) : (extendM second s xs).size = 4 ∧ massOk 4 (extendM second s xs).parts = true := by
  unfold extendM at *
  split at h
  · rename_i h1
    rw [if_pos h1]
    unfold refineM at *
    split at h
    · rename_i h2
      rw [if_pos h2]
      exact mkMass_ok h
    · cases h
  · cases h
theorem togM_ok {T : Nat → Nat → Nat} {s : Int} {xs : List Int} {u : Int} {ys : List Int} (h : (togM T s xs u ys).ok = true) : (togM T s xs u ys).size = s ∧ massOk s (togM T s xs u ys).parts = true := by
  unfold togM at *
  split at h
  · rename_i h1
    rw [if_pos h1]
    exact mkMass_ok h
  · cases h
/-- what is passed on to the second question -/
def passM (s : Int) (xs : List Int) (u : Int) (ys : List Int) : MR :=
  if (extendM false s xs).ok then (if (togM (fun a b => a &&& b) (extendM false s xs).size (extendM false s xs).parts u ys).ok then sideM true (togM (fun a b => a &&& b) (extendM false s xs).size (extendM false s xs).parts u ys).size (togM (fun a b => a &&& b) (extendM false s xs).size (extendM false s xs).parts u ys).parts else MR.no) else MR.no
theorem passM_len (s : Int) (xs : List Int) (u : Int) (ys : List Int) : (passM s xs u ys).parts.length ≤ 100000000 := by
  unfold passM; split
  · split
    · exact sideM_len _ _ _
    · simp [MR.no]
  · simp [MR.no]
theorem pass_bad {s : Int} {xs : List Int} {u : Int} {ys : List Int} (h : (massOk u ys && (u == 4)) = false) : passM s xs u ys = MR.no := by
  unfold passM
  cases h1 : (extendM false s xs).ok
  · rfl
  · have h2 := extend_ok h1
    have h3 : oneQ (extendM false s xs).size (extendM false s xs).parts u ys = false := by
      unfold oneQ
      rw [h2.1, h2.2]
      cases h4 : massOk u ys
      · rfl
      · rw [h4, Bool.true_and] at h
        rw [Bool.true_and, Bool.true_and]
        simp at h ⊢; omega
    rw [togM_bad h3]; rfl
/-- is a mass of pairs that of its sides? -/
def indepM (s : Int) (xs : List Int) : Bool :=
  (sideM false s xs).ok && ((sideM true s xs).ok && ((pairM (sideM false s xs).size (sideM false s xs).parts (sideM true s xs).size (sideM true s xs).parts).ok && sameL (pairM (sideM false s xs).size (sideM false s xs).parts (sideM true s xs).size (sideM true s xs).parts).parts xs))
set_option maxHeartbeats 2000000 in
theorem PairMasses_any (s u : Int) (ao bo : Option Addr) (n c m d : Nat) (xs ys : List Int) (w : World) (hx : IntsAt w ao n xs) (hy : IntsAt w bo m ys) :
    Calls Tryz.prog 138 #[.agg #[.int .i64 s, .slice ao n c], .agg #[.int .i64 u, .slice bo m d]] w fun e w' => RetM (pairM s xs u ys) w.heap.size e w' ∧ Below w.heap.size w w' := by
  have hB0 : Below w.heap.size w (((w.alloc (.cells #[.int .i64 s, .slice ao n c] 25)).alloc (.cells #[.int .i64 u, .slice bo m d] 25)).alloc (.cells #[.int .i64 0, .slice none 0 0] 25)) := ((below_alloc w _).alloc (by simp) _).alloc (by simp <;> omega) _
  obtain ⟨r1, HR1⟩ : ∃ r, Hid (extendM false s xs = r) := ⟨_, rfl⟩
  obtain ⟨r2, HR2⟩ : ∃ r, Hid (extendM true u ys = r) := ⟨_, rfl⟩
  have HR : Hid (pairM s xs u ys = if r1.ok && r2.ok then togM (fun a b => a &&& b) r1.size r1.parts r2.size r2.parts else MR.no) := by rw [← HR1.out, ← HR2.out]; rfl
  go_enter Tryz.func138, Tryz.ntmps138
  go_wp2_with fail
  refine (ExtendFirst_any _ _ _ _ xs _ (hx.below hB0)).mono ?_; rw [HR1.out]; rintro e w1 ⟨⟨v, rfl, hr1⟩, hb1⟩
  obtain ⟨a1, n1, c1, rfl, hi1⟩ := hr1.ints
  obtain ⟨h10, h11, f20, f21⟩ := boxG (w.heap.size + 1 + 1) hb1 (by simp)
  have hq0 := keep hb1 (a := ⟨w.heap.size + 1, 0, none⟩) (v := .int .i64 u) (by simp)
  have hq1 := keep hb1 (a := ⟨w.heap.size + 1, 1, none⟩) (v := .slice bo m d) (by simp)
  have hB1 : Below w.heap.size w w1 := Below.trans (by (repeat (first | exact Below.refl _ _ | assumption | refine Below.alloc ?_ (by first | omega | (simp <;> omega)) _ | refine Below.setCell ?_ (by first | omega | (simp <;> omega)) _ | refine Below.drew ?_ | refine below_drewN ?_))) (hb1.mono (by simp <;> omega))
  have hsz1 := hB1.size
  have hz1 : w.heap.size + 1 + 1 < w1.heap.size := by have := World.block_lt_of_cell? w1 _ h10; simpa using this
  clear hb1 hr1
  go_wp2_with fail
  refine (ExtendSecond_any _ _ _ _ ys _ ((hy.below hB1).below (by (repeat (first | exact Below.refl _ _ | assumption | refine Below.alloc ?_ (by first | omega | (simp <;> omega)) _ | refine Below.setCell ?_ (by first | omega | (simp <;> omega)) _ | refine Below.drew ?_ | refine below_drewN ?_))))).mono ?_; rw [HR2.out]; rintro e w2 ⟨⟨v, rfl, hr2⟩, hb2⟩
  obtain ⟨a2, n2, c2, rfl, hi2⟩ := hr2.ints
  have hp0 := keep hb2 (a := ⟨w1.heap.size, 0, none⟩) (v := .int .i64 r1.size) (by simp)
  have hp1 := keep hb2 (a := ⟨w1.heap.size, 1, none⟩) (v := .slice a1 n1 c1) (by simp)
  have hd : Below w1.heap.size w1 w2 := Below.trans (by (repeat (first | exact Below.refl _ _ | assumption | refine Below.alloc ?_ (by first | omega | (simp <;> omega)) _ | refine Below.setCell ?_ (by first | omega | (simp <;> omega)) _ | refine Below.drew ?_ | refine below_drewN ?_))) (hb2.mono (by simp <;> omega))
  replace f20 := keepF hd h10 f20
  replace f21 := keepF hd h11 f21
  replace h10 := keep hd h10
  replace h11 := keep hd h11
  replace hi1 := hi1.below hd
  have hB2 := chain hB1 hd
  have hsz2 := hB2.size
  have hz2 : w1.heap.size < w2.heap.size := by have := World.block_lt_of_cell? w2 _ hp0; simpa using this
  clear hb2 hr2 hd
  cases ho1 : r1.ok
  · go_wp2
    refine bodyPost_ret (v := .tuple #[.agg #[.int .i64 0, .slice none 0 0], .bool false]) (by simp [results, Tryz.results138, go_sem, h10, h11, hz1, World.cell?_alloc_lt]) rfl ⟨?_, ?_⟩
    · rw [HR.out, ho1]; exact RetM.no _ _
    · (repeat (first | exact Below.refl _ _ | assumption | refine Below.alloc ?_ (by first | omega | (simp <;> omega)) _ | refine Below.setCell ?_ (by first | omega | (simp <;> omega)) _ | refine Below.drew ?_ | refine below_drewN ?_))
  · cases ho2 : r2.ok
    · go_wp2
      refine bodyPost_ret (v := .tuple #[.agg #[.int .i64 0, .slice none 0 0], .bool false]) (by simp [results, Tryz.results138, go_sem, h10, h11, hz1, World.cell?_alloc_lt]) rfl ⟨?_, ?_⟩
      · rw [HR.out, ho1, ho2]; exact RetM.no _ _
      · (repeat (first | exact Below.refl _ _ | assumption | refine Below.alloc ?_ (by first | omega | (simp <;> omega)) _ | refine Below.setCell ?_ (by first | omega | (simp <;> omega)) _ | refine Below.drew ?_ | refine below_drewN ?_))
    · go_wp2_with fail
      refine (ConjoinMasses_any _ _ _ _ _ _ _ _ r1.parts r2.parts _ (hi1.below (by (repeat (first | exact Below.refl _ _ | assumption | refine Below.alloc ?_ (by first | omega | (simp <;> omega)) _ | refine Below.setCell ?_ (by first | omega | (simp <;> omega)) _ | refine Below.drew ?_ | refine below_drewN ?_)))) (hi2.below (by (repeat (first | exact Below.refl _ _ | assumption | refine Below.alloc ?_ (by first | omega | (simp <;> omega)) _ | refine Below.setCell ?_ (by first | omega | (simp <;> omega)) _ | refine Below.drew ?_ | refine below_drewN ?_))))).mono ?_; rintro e w3 ⟨⟨v, rfl, hr3⟩, hb3⟩
      obtain ⟨a3, n3, c3, rfl, hi3⟩ := hr3.ints
      have hd : Below w2.heap.size w2 w3 := Below.trans (by (repeat (first | exact Below.refl _ _ | assumption | refine Below.alloc ?_ (by first | omega | (simp <;> omega)) _ | refine Below.setCell ?_ (by first | omega | (simp <;> omega)) _ | refine Below.drew ?_ | refine below_drewN ?_))) (hb3.mono (by simp <;> omega))
      replace f20 := keepF hd h10 f20
      replace f21 := keepF hd h11 f21
      replace h10 := keep hd h10
      replace h11 := keep hd h11
      have hB3 := chain hB2 hd
      have hsz3 := hB3.size
      replace hr3 := hr3.mono (base' := w2.heap.size) (by simp <;> omega)
      clear hb3 hd
      go_wp2
      refine bodyPost_ret (v := .tuple #[.agg #[.int .i64 (togM (fun a b => a &&& b) r1.size r1.parts r2.size r2.parts).size, .slice a3 n3 c3], .bool (togM (fun a b => a &&& b) r1.size r1.parts r2.size r2.parts).ok]) (by simp [results, Tryz.results138, go_sem, h10, h11]) rfl ⟨?_, ?_⟩
      · rw [HR.out, ho1, ho2]; exact ⟨_, rfl, ((hr3.setBelow (by simp; omega) _).setBelow (by simp; omega) _).mono (by omega)⟩
      · (repeat (first | exact Below.refl _ _ | assumption | refine Below.alloc ?_ (by first | omega | (simp <;> omega)) _ | refine Below.setCell ?_ (by first | omega | (simp <;> omega)) _ | refine Below.drew ?_ | refine below_drewN ?_))
set_option maxHeartbeats 2000000 in
theorem specPairMasses_any (s u : Int) (ao bo : Option Addr) (n c m d : Nat) (xs ys : List Int) (w : World) (hx : IntsAt w ao n xs) (hy : IntsAt w bo m ys) :
    Calls Tryz.prog 57 #[.agg #[.int .i64 s, .slice ao n c], .agg #[.int .i64 u, .slice bo m d]] w fun e w' => RetM (pairM s xs u ys) w.heap.size e w' ∧ Below w.heap.size w w' := by
  have hB0 : Below w.heap.size w (((w.alloc (.cells #[.int .i64 s, .slice ao n c] 25)).alloc (.cells #[.int .i64 u, .slice bo m d] 25)).alloc (.cells #[.int .i64 0, .slice none 0 0] 25)) := ((below_alloc w _).alloc (by simp) _).alloc (by simp <;> omega) _
  obtain ⟨r1, HR1⟩ : ∃ r, Hid (extendM false s xs = r) := ⟨_, rfl⟩
  obtain ⟨r2, HR2⟩ : ∃ r, Hid (extendM true u ys = r) := ⟨_, rfl⟩
  have HR : Hid (pairM s xs u ys = if r1.ok && r2.ok then togM (fun a b => a &&& b) r1.size r1.parts r2.size r2.parts else MR.no) := by rw [← HR1.out, ← HR2.out]; rfl
  go_enter Tryz.func57, Tryz.ntmps57
  go_wp2_with fail
  refine (specExtendFirst_any _ _ _ _ xs _ (hx.below hB0)).mono ?_; rw [HR1.out]; rintro e w1 ⟨⟨v, rfl, hr1⟩, hb1⟩
  obtain ⟨a1, n1, c1, rfl, hi1⟩ := hr1.ints
  obtain ⟨h10, h11, f20, f21⟩ := boxG (w.heap.size + 1 + 1) hb1 (by simp)
  have hq0 := keep hb1 (a := ⟨w.heap.size + 1, 0, none⟩) (v := .int .i64 u) (by simp)
  have hq1 := keep hb1 (a := ⟨w.heap.size + 1, 1, none⟩) (v := .slice bo m d) (by simp)
  have hB1 : Below w.heap.size w w1 := Below.trans (by (repeat (first | exact Below.refl _ _ | assumption | refine Below.alloc ?_ (by first | omega | (simp <;> omega)) _ | refine Below.setCell ?_ (by first | omega | (simp <;> omega)) _ | refine Below.drew ?_ | refine below_drewN ?_))) (hb1.mono (by simp <;> omega))
  have hsz1 := hB1.size
  have hz1 : w.heap.size + 1 + 1 < w1.heap.size := by have := World.block_lt_of_cell? w1 _ h10; simpa using this
  clear hb1 hr1
  go_wp2_with fail
  refine (specExtendSecond_any _ _ _ _ ys _ ((hy.below hB1).below (by (repeat (first | exact Below.refl _ _ | assumption | refine Below.alloc ?_ (by first | omega | (simp <;> omega)) _ | refine Below.setCell ?_ (by first | omega | (simp <;> omega)) _ | refine Below.drew ?_ | refine below_drewN ?_))))).mono ?_; rw [HR2.out]; rintro e w2 ⟨⟨v, rfl, hr2⟩, hb2⟩
  obtain ⟨a2, n2, c2, rfl, hi2⟩ := hr2.ints
  have hp0 := keep hb2 (a := ⟨w1.heap.size, 0, none⟩) (v := .int .i64 r1.size) (by simp)
  have hp1 := keep hb2 (a := ⟨w1.heap.size, 1, none⟩) (v := .slice a1 n1 c1) (by simp)
  have hd : Below w1.heap.size w1 w2 := Below.trans (by (repeat (first | exact Below.refl _ _ | assumption | refine Below.alloc ?_ (by first | omega | (simp <;> omega)) _ | refine Below.setCell ?_ (by first | omega | (simp <;> omega)) _ | refine Below.drew ?_ | refine below_drewN ?_))) (hb2.mono (by simp <;> omega))
  replace f20 := keepF hd h10 f20
  replace f21 := keepF hd h11 f21
  replace h10 := keep hd h10
  replace h11 := keep hd h11
  replace hi1 := hi1.below hd
  have hB2 := chain hB1 hd
  have hsz2 := hB2.size
  have hz2 : w1.heap.size < w2.heap.size := by have := World.block_lt_of_cell? w2 _ hp0; simpa using this
  clear hb2 hr2 hd
  cases ho1 : r1.ok
  · go_wp2
    refine bodyPost_ret (v := .tuple #[.agg #[.int .i64 0, .slice none 0 0], .bool false]) (by simp [results, Tryz.results57, go_sem, h10, h11, hz1, World.cell?_alloc_lt]) rfl ⟨?_, ?_⟩
    · rw [HR.out, ho1]; exact RetM.no _ _
    · (repeat (first | exact Below.refl _ _ | assumption | refine Below.alloc ?_ (by first | omega | (simp <;> omega)) _ | refine Below.setCell ?_ (by first | omega | (simp <;> omega)) _ | refine Below.drew ?_ | refine below_drewN ?_))
  · cases ho2 : r2.ok
    · go_wp2
      refine bodyPost_ret (v := .tuple #[.agg #[.int .i64 0, .slice none 0 0], .bool false]) (by simp [results, Tryz.results57, go_sem, h10, h11, hz1, World.cell?_alloc_lt]) rfl ⟨?_, ?_⟩
      · rw [HR.out, ho1, ho2]; exact RetM.no _ _
      · (repeat (first | exact Below.refl _ _ | assumption | refine Below.alloc ?_ (by first | omega | (simp <;> omega)) _ | refine Below.setCell ?_ (by first | omega | (simp <;> omega)) _ | refine Below.drew ?_ | refine below_drewN ?_))
    · go_wp2_with fail
      refine (specConjoinMasses_any _ _ _ _ _ _ _ _ r1.parts r2.parts _ (hi1.below (by (repeat (first | exact Below.refl _ _ | assumption | refine Below.alloc ?_ (by first | omega | (simp <;> omega)) _ | refine Below.setCell ?_ (by first | omega | (simp <;> omega)) _ | refine Below.drew ?_ | refine below_drewN ?_)))) (hi2.below (by (repeat (first | exact Below.refl _ _ | assumption | refine Below.alloc ?_ (by first | omega | (simp <;> omega)) _ | refine Below.setCell ?_ (by first | omega | (simp <;> omega)) _ | refine Below.drew ?_ | refine below_drewN ?_))))).mono ?_; rintro e w3 ⟨⟨v, rfl, hr3⟩, hb3⟩
      obtain ⟨a3, n3, c3, rfl, hi3⟩ := hr3.ints
      have hd : Below w2.heap.size w2 w3 := Below.trans (by (repeat (first | exact Below.refl _ _ | assumption | refine Below.alloc ?_ (by first | omega | (simp <;> omega)) _ | refine Below.setCell ?_ (by first | omega | (simp <;> omega)) _ | refine Below.drew ?_ | refine below_drewN ?_))) (hb3.mono (by simp <;> omega))
      replace f20 := keepF hd h10 f20
      replace f21 := keepF hd h11 f21
      replace h10 := keep hd h10
      replace h11 := keep hd h11
      have hB3 := chain hB2 hd
      have hsz3 := hB3.size
      replace hr3 := hr3.mono (base' := w2.heap.size) (by simp <;> omega)
      clear hb3 hd
      go_wp2
      refine bodyPost_ret (v := .tuple #[.agg #[.int .i64 (togM (fun a b => a &&& b) r1.size r1.parts r2.size r2.parts).size, .slice a3 n3 c3], .bool (togM (fun a b => a &&& b) r1.size r1.parts r2.size r2.parts).ok]) (by simp [results, Tryz.results57, go_sem, h10, h11]) rfl ⟨?_, ?_⟩
      · rw [HR.out, ho1, ho2]; exact ⟨_, rfl, ((hr3.setBelow (by simp; omega) _).setBelow (by simp; omega) _).mono (by omega)⟩
      · (repeat (first | exact Below.refl _ _ | assumption | refine Below.alloc ?_ (by first | omega | (simp <;> omega)) _ | refine Below.setCell ?_ (by first | omega | (simp <;> omega)) _ | refine Below.drew ?_ | refine below_drewN ?_))
set_option maxHeartbeats 2000000 in
theorem PassOn_any (s u : Int) (ao bo : Option Addr) (n c m d : Nat) (xs ys : List Int) (w : World) (hx : IntsAt w ao n xs) (hy : IntsAt w bo m ys) :
    Calls Tryz.prog 6 #[.agg #[.int .i64 s, .slice ao n c], .agg #[.int .i64 u, .slice bo m d]] w fun e w' => RetM (passM s xs u ys) w.heap.size e w' ∧ Below w.heap.size w w' := by
  have hB0 : Below w.heap.size w (((w.alloc (.cells #[.int .i64 s, .slice ao n c] 25)).alloc (.cells #[.int .i64 u, .slice bo m d] 25)).alloc (.cells #[.int .i64 0, .slice none 0 0] 25)) := ((below_alloc w _).alloc (by simp) _).alloc (by simp <;> omega) _
  obtain ⟨r1, HR1⟩ : ∃ r, Hid (extendM false s xs = r) := ⟨_, rfl⟩
  obtain ⟨r2, HR2⟩ : ∃ r, Hid (togM (fun a b => a &&& b) r1.size r1.parts u ys = r) := ⟨_, rfl⟩
  have HR : Hid (passM s xs u ys = if r1.ok then (if r2.ok then sideM true r2.size r2.parts else MR.no) else MR.no) := by rw [← HR2.out, ← HR1.out]; rfl
  go_enter Tryz.func6, Tryz.ntmps6
  go_wp2_with fail
  refine (ExtendFirst_any _ _ _ _ xs _ (hx.below hB0)).mono ?_; rw [HR1.out]; rintro e w1 ⟨⟨v, rfl, hr1⟩, hb1⟩
  obtain ⟨a1, n1, c1, rfl, hi1⟩ := hr1.ints
  obtain ⟨h10, h11, f20, f21⟩ := boxG (w.heap.size + 1 + 1) hb1 (by simp)
  have hq0 := keep hb1 (a := ⟨w.heap.size + 1, 0, none⟩) (v := .int .i64 u) (by simp)
  have hq1 := keep hb1 (a := ⟨w.heap.size + 1, 1, none⟩) (v := .slice bo m d) (by simp)
  have hB1 : Below w.heap.size w w1 := Below.trans (by (repeat (first | exact Below.refl _ _ | assumption | refine Below.alloc ?_ (by first | omega | (simp <;> omega)) _ | refine Below.setCell ?_ (by first | omega | (simp <;> omega)) _ | refine Below.drew ?_ | refine below_drewN ?_))) (hb1.mono (by simp <;> omega))
  have hsz1 := hB1.size
  have hz1 : w.heap.size + 1 + 1 < w1.heap.size := by have := World.block_lt_of_cell? w1 _ h10; simpa using this
  clear hb1 hr1
  cases ho1 : r1.ok
  · go_wp2
    refine bodyPost_ret (v := .tuple #[.agg #[.int .i64 0, .slice none 0 0], .bool false]) (by simp [results, Tryz.results6, go_sem, h10, h11, hz1, World.cell?_alloc_lt]) rfl ⟨?_, ?_⟩
    · rw [HR.out, ho1]; exact RetM.no _ _
    · (repeat (first | exact Below.refl _ _ | assumption | refine Below.alloc ?_ (by first | omega | (simp <;> omega)) _ | refine Below.setCell ?_ (by first | omega | (simp <;> omega)) _ | refine Below.drew ?_ | refine below_drewN ?_))
  · have hB2 := hB1
    go_wp2_with fail
    refine (ConjoinMasses_any _ _ _ _ _ _ _ _ r1.parts ys _ (hi1.below (by (repeat (first | exact Below.refl _ _ | assumption | refine Below.alloc ?_ (by first | omega | (simp <;> omega)) _ | refine Below.setCell ?_ (by first | omega | (simp <;> omega)) _ | refine Below.drew ?_ | refine below_drewN ?_)))) ((hy.below hB2).below (by (repeat (first | exact Below.refl _ _ | assumption | refine Below.alloc ?_ (by first | omega | (simp <;> omega)) _ | refine Below.setCell ?_ (by first | omega | (simp <;> omega)) _ | refine Below.drew ?_ | refine below_drewN ?_))))).mono ?_; rw [HR2.out]; rintro e w3 ⟨⟨v, rfl, hr3⟩, hb3⟩
    obtain ⟨a3, n3, c3, rfl, hi3⟩ := hr3.ints
    have hd : Below w1.heap.size w1 w3 := Below.trans (by (repeat (first | exact Below.refl _ _ | assumption | refine Below.alloc ?_ (by first | omega | (simp <;> omega)) _ | refine Below.setCell ?_ (by first | omega | (simp <;> omega)) _ | refine Below.drew ?_ | refine below_drewN ?_))) (hb3.mono (by simp <;> omega))
    replace f20 := keepF hd h10 f20
    replace f21 := keepF hd h11 f21
    replace h10 := keep hd h10
    replace h11 := keep hd h11
    have hB3 := chain hB2 hd
    have hsz3 := hB3.size
    have hz3 := hd.size
    clear hb3 hd hr3
    cases ho2 : r2.ok
    · go_wp2
      refine bodyPost_ret (v := .tuple #[.agg #[.int .i64 0, .slice none 0 0], .bool false]) (by simp [results, Tryz.results6, go_sem, h10, h11, hz1, World.cell?_alloc_lt]) rfl ⟨?_, ?_⟩
      · rw [HR.out, ho1, ho2]; exact RetM.no _ _
      · (repeat (first | exact Below.refl _ _ | assumption | refine Below.alloc ?_ (by first | omega | (simp <;> omega)) _ | refine Below.setCell ?_ (by first | omega | (simp <;> omega)) _ | refine Below.drew ?_ | refine below_drewN ?_))
    · go_wp2_with fail
      refine (SecondOf_any _ _ _ _ r2.parts _ (hi3.below (by (repeat (first | exact Below.refl _ _ | assumption | refine Below.alloc ?_ (by first | omega | (simp <;> omega)) _ | refine Below.setCell ?_ (by first | omega | (simp <;> omega)) _ | refine Below.drew ?_ | refine below_drewN ?_))))).mono ?_; rintro e w4 ⟨⟨v, rfl, hr4⟩, hb4⟩
      obtain ⟨a4, n4, c4, rfl, hi4⟩ := hr4.ints
      have hd : Below w3.heap.size w3 w4 := Below.trans (by (repeat (first | exact Below.refl _ _ | assumption | refine Below.alloc ?_ (by first | omega | (simp <;> omega)) _ | refine Below.setCell ?_ (by first | omega | (simp <;> omega)) _ | refine Below.drew ?_ | refine below_drewN ?_))) (hb4.mono (by simp <;> omega))
      replace f20 := keepF hd h10 f20
      replace f21 := keepF hd h11 f21
      replace h10 := keep hd h10
      replace h11 := keep hd h11
      have hB4 := chain hB3 hd
      have hsz4 := hB4.size
      replace hr4 := hr4.mono (base' := w3.heap.size) (by simp <;> omega)
      clear hb4 hd
      go_wp2
      refine bodyPost_ret (v := .tuple #[.agg #[.int .i64 (sideM true r2.size r2.parts).size, .slice a4 n4 c4], .bool (sideM true r2.size r2.parts).ok]) (by simp [results, Tryz.results6, go_sem, h10, h11]) rfl ⟨?_, ?_⟩
      · rw [HR.out, ho1, ho2]; exact ⟨_, rfl, ((hr4.setBelow (by simp; omega) _).setBelow (by simp; omega) _).mono (by omega)⟩
      · (repeat (first | exact Below.refl _ _ | assumption | refine Below.alloc ?_ (by first | omega | (simp <;> omega)) _ | refine Below.setCell ?_ (by first | omega | (simp <;> omega)) _ | refine Below.drew ?_ | refine below_drewN ?_))
set_option maxHeartbeats 2000000 in
theorem specPassOn_any (s u : Int) (ao bo : Option Addr) (n c m d : Nat) (xs ys : List Int) (w : World) (hx : IntsAt w ao n xs) (hy : IntsAt w bo m ys) :
    Calls Tryz.prog 7 #[.agg #[.int .i64 s, .slice ao n c], .agg #[.int .i64 u, .slice bo m d]] w fun e w' => RetM (passM s xs u ys) w.heap.size e w' ∧ Below w.heap.size w w' := by
  have hB0 : Below w.heap.size w (((w.alloc (.cells #[.int .i64 s, .slice ao n c] 25)).alloc (.cells #[.int .i64 u, .slice bo m d] 25)).alloc (.cells #[.int .i64 0, .slice none 0 0] 25)) := ((below_alloc w _).alloc (by simp) _).alloc (by simp <;> omega) _
  obtain ⟨r1, HR1⟩ : ∃ r, Hid (extendM false s xs = r) := ⟨_, rfl⟩
  obtain ⟨r2, HR2⟩ : ∃ r, Hid (togM (fun a b => a &&& b) r1.size r1.parts u ys = r) := ⟨_, rfl⟩
  have HR : Hid (passM s xs u ys = if r1.ok then (if r2.ok then sideM true r2.size r2.parts else MR.no) else MR.no) := by rw [← HR2.out, ← HR1.out]; rfl
  go_enter Tryz.func7, Tryz.ntmps7
  go_wp2_with fail
  refine (specExtendFirst_any _ _ _ _ xs _ (hx.below hB0)).mono ?_; rw [HR1.out]; rintro e w1 ⟨⟨v, rfl, hr1⟩, hb1⟩
  obtain ⟨a1, n1, c1, rfl, hi1⟩ := hr1.ints
  obtain ⟨h10, h11, f20, f21⟩ := boxG (w.heap.size + 1 + 1) hb1 (by simp)
  have hq0 := keep hb1 (a := ⟨w.heap.size + 1, 0, none⟩) (v := .int .i64 u) (by simp)
  have hq1 := keep hb1 (a := ⟨w.heap.size + 1, 1, none⟩) (v := .slice bo m d) (by simp)
  have hB1 : Below w.heap.size w w1 := Below.trans (by (repeat (first | exact Below.refl _ _ | assumption | refine Below.alloc ?_ (by first | omega | (simp <;> omega)) _ | refine Below.setCell ?_ (by first | omega | (simp <;> omega)) _ | refine Below.drew ?_ | refine below_drewN ?_))) (hb1.mono (by simp <;> omega))
  have hsz1 := hB1.size
  have hz1 : w.heap.size + 1 + 1 < w1.heap.size := by have := World.block_lt_of_cell? w1 _ h10; simpa using this
  clear hb1 hr1
  cases hq : (massOk u ys && (u == 4))
  · have HB := hid (pass_bad (s := s) (xs := xs) hq)
    cases ho1 : r1.ok
    · go_wp2
      refine bodyPost_ret (v := .tuple #[.agg #[.int .i64 0, .slice none 0 0], .bool false]) (by simp [results, Tryz.results7, go_sem, h10, h11, hz1, World.cell?_alloc_lt]) rfl ⟨?_, ?_⟩
      · rw [HB.out]; exact RetM.no _ _
      · (repeat (first | exact Below.refl _ _ | assumption | refine Below.alloc ?_ (by first | omega | (simp <;> omega)) _ | refine Below.setCell ?_ (by first | omega | (simp <;> omega)) _ | refine Below.drew ?_ | refine below_drewN ?_))
    · go_wp2_with fail
      refine (l11Pairs_any _ _ _ _ _ _ ((hy.below hB1).below (by (repeat (first | exact Below.refl _ _ | assumption | refine Below.alloc ?_ (by first | omega | (simp <;> omega)) _ | refine Below.setCell ?_ (by first | omega | (simp <;> omega)) _ | refine Below.drew ?_ | refine below_drewN ?_))))).mono ?_; rw [hq]; rintro e w2 ⟨rfl, hb2⟩
      have hd : Below w1.heap.size w1 w2 := Below.trans (by (repeat (first | exact Below.refl _ _ | assumption | refine Below.alloc ?_ (by first | omega | (simp <;> omega)) _ | refine Below.setCell ?_ (by first | omega | (simp <;> omega)) _ | refine Below.drew ?_ | refine below_drewN ?_))) (hb2.mono (by simp <;> omega))
      replace f20 := keepF hd h10 f20
      replace f21 := keepF hd h11 f21
      replace h10 := keep hd h10
      replace h11 := keep hd h11
      have hB2 := chain hB1 hd
      have hsz2 := hB2.size
      clear hb2 hd
      go_wp2
      refine bodyPost_ret (v := .tuple #[.agg #[.int .i64 0, .slice none 0 0], .bool false]) (by simp [results, Tryz.results7, go_sem, h10, h11, hz1, World.cell?_alloc_lt]) rfl ⟨?_, ?_⟩
      · rw [HB.out]; exact RetM.no _ _
      · (repeat (first | exact Below.refl _ _ | assumption | refine Below.alloc ?_ (by first | omega | (simp <;> omega)) _ | refine Below.setCell ?_ (by first | omega | (simp <;> omega)) _ | refine Below.drew ?_ | refine below_drewN ?_))
  · cases ho1 : r1.ok
    · go_wp2
      refine bodyPost_ret (v := .tuple #[.agg #[.int .i64 0, .slice none 0 0], .bool false]) (by simp [results, Tryz.results7, go_sem, h10, h11, hz1, World.cell?_alloc_lt]) rfl ⟨?_, ?_⟩
      · rw [HR.out, ho1]; exact RetM.no _ _
      · (repeat (first | exact Below.refl _ _ | assumption | refine Below.alloc ?_ (by first | omega | (simp <;> omega)) _ | refine Below.setCell ?_ (by first | omega | (simp <;> omega)) _ | refine Below.drew ?_ | refine below_drewN ?_))
    · go_wp2_with fail
      refine (l11Pairs_any _ _ _ _ _ _ ((hy.below hB1).below (by (repeat (first | exact Below.refl _ _ | assumption | refine Below.alloc ?_ (by first | omega | (simp <;> omega)) _ | refine Below.setCell ?_ (by first | omega | (simp <;> omega)) _ | refine Below.drew ?_ | refine below_drewN ?_))))).mono ?_; rw [hq]; rintro e w2 ⟨rfl, hb2⟩
      have hp0 := keep hb2 (a := ⟨w1.heap.size, 0, none⟩) (v := .int .i64 r1.size) (by simp)
      have hp1 := keep hb2 (a := ⟨w1.heap.size, 1, none⟩) (v := .slice a1 n1 c1) (by simp)
      have hd : Below w1.heap.size w1 w2 := Below.trans (by (repeat (first | exact Below.refl _ _ | assumption | refine Below.alloc ?_ (by first | omega | (simp <;> omega)) _ | refine Below.setCell ?_ (by first | omega | (simp <;> omega)) _ | refine Below.drew ?_ | refine below_drewN ?_))) (hb2.mono (by simp <;> omega))
      replace f20 := keepF hd h10 f20
      replace f21 := keepF hd h11 f21
      replace h10 := keep hd h10
      replace h11 := keep hd h11
      replace hq0 := keep hd hq0
      replace hq1 := keep hd hq1
      replace hi1 := hi1.below hd
      have hB2 := chain hB1 hd
      have hsz2 := hB2.size
      have hz2 : w1.heap.size < w2.heap.size := by have := World.block_lt_of_cell? w2 _ hp0; simpa using this
      clear hb2 hd
      go_wp2_with fail
      refine (specConjoinMasses_any _ _ _ _ _ _ _ _ r1.parts ys _ (hi1.below (by (repeat (first | exact Below.refl _ _ | assumption | refine Below.alloc ?_ (by first | omega | (simp <;> omega)) _ | refine Below.setCell ?_ (by first | omega | (simp <;> omega)) _ | refine Below.drew ?_ | refine below_drewN ?_)))) ((hy.below hB2).below (by (repeat (first | exact Below.refl _ _ | assumption | refine Below.alloc ?_ (by first | omega | (simp <;> omega)) _ | refine Below.setCell ?_ (by first | omega | (simp <;> omega)) _ | refine Below.drew ?_ | refine below_drewN ?_))))).mono ?_; rw [HR2.out]; rintro e w3 ⟨⟨v, rfl, hr3⟩, hb3⟩
      obtain ⟨a3, n3, c3, rfl, hi3⟩ := hr3.ints
      have hd : Below w2.heap.size w2 w3 := Below.trans (by (repeat (first | exact Below.refl _ _ | assumption | refine Below.alloc ?_ (by first | omega | (simp <;> omega)) _ | refine Below.setCell ?_ (by first | omega | (simp <;> omega)) _ | refine Below.drew ?_ | refine below_drewN ?_))) (hb3.mono (by simp <;> omega))
      replace f20 := keepF hd h10 f20
      replace f21 := keepF hd h11 f21
      replace h10 := keep hd h10
      replace h11 := keep hd h11
      have hB3 := chain hB2 hd
      have hsz3 := hB3.size
      have hz3 := hd.size
      clear hb3 hd hr3
      cases ho2 : r2.ok
      · go_wp2
        refine bodyPost_ret (v := .tuple #[.agg #[.int .i64 0, .slice none 0 0], .bool false]) (by simp [results, Tryz.results7, go_sem, h10, h11, hz1, World.cell?_alloc_lt]) rfl ⟨?_, ?_⟩
        · rw [HR.out, ho1, ho2]; exact RetM.no _ _
        · (repeat (first | exact Below.refl _ _ | assumption | refine Below.alloc ?_ (by first | omega | (simp <;> omega)) _ | refine Below.setCell ?_ (by first | omega | (simp <;> omega)) _ | refine Below.drew ?_ | refine below_drewN ?_))
      · go_wp2_with fail
        refine (specSecondOf_any _ _ _ _ r2.parts _ (hi3.below (by (repeat (first | exact Below.refl _ _ | assumption | refine Below.alloc ?_ (by first | omega | (simp <;> omega)) _ | refine Below.setCell ?_ (by first | omega | (simp <;> omega)) _ | refine Below.drew ?_ | refine below_drewN ?_))))).mono ?_; rintro e w4 ⟨⟨v, rfl, hr4⟩, hb4⟩
        obtain ⟨a4, n4, c4, rfl, hi4⟩ := hr4.ints
        have hd : Below w3.heap.size w3 w4 := Below.trans (by (repeat (first | exact Below.refl _ _ | assumption | refine Below.alloc ?_ (by first | omega | (simp <;> omega)) _ | refine Below.setCell ?_ (by first | omega | (simp <;> omega)) _ | refine Below.drew ?_ | refine below_drewN ?_))) (hb4.mono (by simp <;> omega))
        replace f20 := keepF hd h10 f20
        replace f21 := keepF hd h11 f21
        replace h10 := keep hd h10
        replace h11 := keep hd h11
        have hB4 := chain hB3 hd
        have hsz4 := hB4.size
        replace hr4 := hr4.mono (base' := w3.heap.size) (by simp <;> omega)
        clear hb4 hd
        go_wp2
        refine bodyPost_ret (v := .tuple #[.agg #[.int .i64 (sideM true r2.size r2.parts).size, .slice a4 n4 c4], .bool (sideM true r2.size r2.parts).ok]) (by simp [results, Tryz.results7, go_sem, h10, h11]) rfl ⟨?_, ?_⟩
        · rw [HR.out, ho1, ho2]; exact ⟨_, rfl, ((hr4.setBelow (by simp; omega) _).setBelow (by simp; omega) _).mono (by omega)⟩
        · (repeat (first | exact Below.refl _ _ | assumption | refine Below.alloc ?_ (by first | omega | (simp <;> omega)) _ | refine Below.setCell ?_ (by first | omega | (simp <;> omega)) _ | refine Below.drew ?_ | refine below_drewN ?_))
theorem pair_ok {s : Int} {xs : List Int} {u : Int} {ys : List Int} (h : (pairM s xs u ys).ok = true) : (pairM s xs u ys).size = 4 ∧ massOk 4 (pairM s xs u ys).parts = true := by
  unfold pairM at *
  split at h
  · rename_i h1
    rw [if_pos h1]
    simp only [Bool.and_eq_true] at h1
    have h2 := togM_ok h
    have h3 := extend_ok h1.1
    rw [h3.1] at h2
    rw [h3.1]
    exact h2
  · cases h
set_option maxHeartbeats 2000000 in
theorem IsIndependent_any (s : Int) (ao : Option Addr) (n c : Nat) (xs : List Int) (w : World) (hx : IntsAt w ao n xs) :
    Calls Tryz.prog 249 #[.agg #[.int .i64 s, .slice ao n c]] w fun e w' => e = .returned (.bool (indepM s xs)) ∧ Below w.heap.size w w' := by
  have hB0 : Below w.heap.size w (w.alloc (.cells #[.int .i64 s, .slice ao n c] 25)) := below_alloc w _
  obtain ⟨r1, HR1⟩ : ∃ r, Hid (sideM false s xs = r) := ⟨_, rfl⟩
  obtain ⟨r2, HR2⟩ : ∃ r, Hid (sideM true s xs = r) := ⟨_, rfl⟩
  obtain ⟨r3, HR3⟩ : ∃ r, Hid (pairM r1.size r1.parts r2.size r2.parts = r) := ⟨_, rfl⟩
  have HR : Hid (indepM s xs = (r1.ok && (r2.ok && (r3.ok && sameL r3.parts xs)))) := by rw [← HR3.out, ← HR1.out, ← HR2.out]; rfl
  go_enter Tryz.func249, Tryz.ntmps249
  go_wp2_with fail
  refine (FirstOf_any _ _ _ _ xs _ (hx.below hB0)).mono ?_; rw [HR1.out]; rintro e w1 ⟨⟨v, rfl, hr1⟩, hb1⟩
  obtain ⟨a1, n1, c1, rfl, hi1⟩ := hr1.ints
  have hp0 := keep hb1 (a := ⟨w.heap.size, 0, none⟩) (v := .int .i64 s) (by simp)
  have hp1 := keep hb1 (a := ⟨w.heap.size, 1, none⟩) (v := .slice ao n c) (by simp)
  have hB1 : Below w.heap.size w w1 := Below.trans (by (repeat (first | exact Below.refl _ _ | assumption | refine Below.alloc ?_ (by first | omega | (simp <;> omega)) _ | refine Below.setCell ?_ (by first | omega | (simp <;> omega)) _ | refine Below.drew ?_ | refine below_drewN ?_))) (hb1.mono (by simp <;> omega))
  have hsz1 := hB1.size
  clear hb1 hr1
  go_wp2_with fail
  refine (SecondOf_any _ _ _ _ xs _ ((hx.below hB1).below (by (repeat (first | exact Below.refl _ _ | assumption | refine Below.alloc ?_ (by first | omega | (simp <;> omega)) _ | refine Below.setCell ?_ (by first | omega | (simp <;> omega)) _ | refine Below.drew ?_ | refine below_drewN ?_))))).mono ?_; rw [HR2.out]; rintro e w2 ⟨⟨v, rfl, hr2⟩, hb2⟩
  obtain ⟨a2, n2, c2, rfl, hi2⟩ := hr2.ints
  have hq0 := keep hb2 (a := ⟨w1.heap.size, 0, none⟩) (v := .int .i64 r1.size) (by simp)
  have hq1 := keep hb2 (a := ⟨w1.heap.size, 1, none⟩) (v := .slice a1 n1 c1) (by simp)
  have hd : Below w1.heap.size w1 w2 := Below.trans (by (repeat (first | exact Below.refl _ _ | assumption | refine Below.alloc ?_ (by first | omega | (simp <;> omega)) _ | refine Below.setCell ?_ (by first | omega | (simp <;> omega)) _ | refine Below.drew ?_ | refine below_drewN ?_))) (hb2.mono (by simp <;> omega))
  replace hp0 := keep hd hp0
  replace hp1 := keep hd hp1
  replace hi1 := hi1.below hd
  have hB2 := chain hB1 hd
  have hsz2 := hB2.size
  clear hb2 hr2 hd
  cases ho1 : r1.ok
  · go_wp2
    go_ret
    exact ⟨ret_bool (by rw [HR.out, ho1]; rfl), by (repeat (first | exact Below.refl _ _ | assumption | refine Below.alloc ?_ (by first | omega | (simp <;> omega)) _ | refine Below.setCell ?_ (by first | omega | (simp <;> omega)) _ | refine Below.drew ?_ | refine below_drewN ?_))⟩
  · cases ho2 : r2.ok
    · go_wp2
      go_ret
      exact ⟨ret_bool (by rw [HR.out, ho1, ho2]; rfl), by (repeat (first | exact Below.refl _ _ | assumption | refine Below.alloc ?_ (by first | omega | (simp <;> omega)) _ | refine Below.setCell ?_ (by first | omega | (simp <;> omega)) _ | refine Below.drew ?_ | refine below_drewN ?_))⟩
    · go_wp2_with fail
      refine (PairMasses_any _ _ _ _ _ _ _ _ r1.parts r2.parts _ (hi1.below (by (repeat (first | exact Below.refl _ _ | assumption | refine Below.alloc ?_ (by first | omega | (simp <;> omega)) _ | refine Below.setCell ?_ (by first | omega | (simp <;> omega)) _ | refine Below.drew ?_ | refine below_drewN ?_)))) (hi2.below (by (repeat (first | exact Below.refl _ _ | assumption | refine Below.alloc ?_ (by first | omega | (simp <;> omega)) _ | refine Below.setCell ?_ (by first | omega | (simp <;> omega)) _ | refine Below.drew ?_ | refine below_drewN ?_))))).mono ?_; rw [HR3.out]; rintro e w3 ⟨⟨v, rfl, hr3⟩, hb3⟩
      obtain ⟨a3, n3, c3, rfl, hi3⟩ := hr3.ints
      have hd : Below w2.heap.size w2 w3 := Below.trans (by (repeat (first | exact Below.refl _ _ | assumption | refine Below.alloc ?_ (by first | omega | (simp <;> omega)) _ | refine Below.setCell ?_ (by first | omega | (simp <;> omega)) _ | refine Below.drew ?_ | refine below_drewN ?_))) (hb3.mono (by simp <;> omega))
      replace hp0 := keep hd hp0
      replace hp1 := keep hd hp1
      have hB3 := chain hB2 hd
      have hsz3 := hB3.size
      clear hb3 hd hr3
      cases ho3 : r3.ok
      · go_wp2
        go_ret
        exact ⟨ret_bool (by rw [HR.out, ho1, ho2, ho3]; rfl), by (repeat (first | exact Below.refl _ _ | assumption | refine Below.alloc ?_ (by first | omega | (simp <;> omega)) _ | refine Below.setCell ?_ (by first | omega | (simp <;> omega)) _ | refine Below.drew ?_ | refine below_drewN ?_))⟩
      · go_wp2_with fail
        refine (EqualI_any _ _ _ _ _ _ r3.parts xs _ (hi3.below (by (repeat (first | exact Below.refl _ _ | assumption | refine Below.alloc ?_ (by first | omega | (simp <;> omega)) _ | refine Below.setCell ?_ (by first | omega | (simp <;> omega)) _ | refine Below.drew ?_ | refine below_drewN ?_)))) ((hx.below hB3).below (by (repeat (first | exact Below.refl _ _ | assumption | refine Below.alloc ?_ (by first | omega | (simp <;> omega)) _ | refine Below.setCell ?_ (by first | omega | (simp <;> omega)) _ | refine Below.drew ?_ | refine below_drewN ?_)))) ).mono ?_; rintro e w4 ⟨rfl, hb4⟩
        have hd : Below w3.heap.size w3 w4 := Below.trans (by (repeat (first | exact Below.refl _ _ | assumption | refine Below.alloc ?_ (by first | omega | (simp <;> omega)) _ | refine Below.setCell ?_ (by first | omega | (simp <;> omega)) _ | refine Below.drew ?_ | refine below_drewN ?_))) (hb4.mono (by simp <;> omega))
        have hB4 := chain hB3 hd
        have hsz4 := hB4.size
        clear hb4 hd
        go_wp2
        go_ret
        exact ⟨ret_bool (by rw [HR.out, ho1, ho2, ho3]; rfl), hB4⟩
end Go.Proofs.YtdkgomlpadeleaaGreatDoor
