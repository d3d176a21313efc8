/- The chance of an order: both sides' ChanceOfOrder (printed by ordgen.py). -/
import Derived.Test.YtnbjhmghobljaaaC4
import Derived.Test.YtnbjhmghobljaaaS5
import Derived.Test.YtnbjhmghobljaaaW6
set_option linter.unusedSimpArgs false
set_option linter.unusedVariables false
namespace Go.Proofs.Ytnbjhmghobljaaa
open Go.RowKit
def coM (s : Int) (xs o : List Int) : MR := if normalOk s xs && ordS s o then chanceM s xs o else MR.no
theorem ordF1 : ∀ a : Fin 1, ordS 1 [(a.val : Int)] = true → okB 1 [(a.val : Int)] = true := by decide +kernel
theorem ordF2 : ∀ a b : Fin 2, ordS 2 [(a.val : Int), b.val] = true → okB 2 [(a.val : Int), b.val] = true := by decide +kernel
theorem ordF3 : ∀ a b c : Fin 3, ordS 3 [(a.val : Int), b.val, c.val] = true → okB 3 [(a.val : Int), b.val, c.val] = true := by decide +kernel
theorem ordF4 : ∀ a b c d : Fin 4, ordS 4 [(a.val : Int), b.val, c.val, d.val] = true → okB 4 [(a.val : Int), b.val, c.val, d.val] = true := by decide +kernel
theorem ordS_ok {s : Int} {o : List Int} (hs : okSize s = true) (h : ordS s o = true) : OrdOk s.toNat o ∧ o.length = s.toNat := by
  obtain ⟨hl, hb⟩ := ordS_facts hs h
  have hl2 : o.length = s.toNat := by omega
  refine ⟨?_, hl2⟩
  rw [← okB_iff]
  have hk : ∀ k, k < o.length → 0 ≤ o.getD k 0 ∧ o.getD k 0 ≤ s - 1 := hb
  rcases okSize_iff.1 hs with rfl | rfl | rfl | rfl
  · match o, hl2, hk with
    | [a], _, hk =>
      obtain ⟨a, rfl⟩ := fin_of (n := 1) (hk 0 (by simp))
      exact ordF1 a h
  · match o, hl2, hk with
    | [a, b], _, hk =>
      obtain ⟨a, rfl⟩ := fin_of (n := 2) (hk 0 (by simp))
      obtain ⟨b, rfl⟩ := fin_of (n := 2) (hk 1 (by simp))
      exact ordF2 a b h
  · match o, hl2, hk with
    | [a, b, c], _, hk =>
      obtain ⟨a, rfl⟩ := fin_of (n := 3) (hk 0 (by simp))
      obtain ⟨b, rfl⟩ := fin_of (n := 3) (hk 1 (by simp))
      obtain ⟨c, rfl⟩ := fin_of (n := 3) (hk 2 (by simp))
      exact ordF3 a b c h
  · match o, hl2, hk with
    | [a, b, c, d], _, hk =>
      obtain ⟨a, rfl⟩ := fin_of (n := 4) (hk 0 (by simp))
      obtain ⟨b, rfl⟩ := fin_of (n := 4) (hk 1 (by simp))
      obtain ⟨c, rfl⟩ := fin_of (n := 4) (hk 2 (by simp))
      obtain ⟨d, rfl⟩ := fin_of (n := 4) (hk 3 (by simp))
      exact ordF4 a b c d h
theorem normal_facts {s : Int} {xs : List Int} (h : normalOk s xs = true) : massOk s xs = true ∧ nth xs 0 = 0 := by
  unfold normalOk at h; simpa using h
set_option maxHeartbeats 1000000 in
theorem ChanceOfOrder_any (s : Int) (ao bo : Option Addr) (n c m d : Nat) (xs o : List Int) (w : World) (hx : IntsAt w ao n xs) (hy : IntsAt w bo m o) :
    Calls Try.prog 7 #[.agg #[.int .i64 s, .slice ao n c], .slice bo m d] w fun e w' => RetM (coM s xs o) w.heap.size e w' ∧ Below w.heap.size w w' := by
  have hxx := hx.below (w' := (w.alloc (.cells #[.int .i64 s, .slice ao n c] 25)).alloc (.cells #[.int .i64 0, .slice none 0 0] 25)) ((below_alloc w _).alloc (by simp) _)
  cases hn : normalOk s xs with
  | false =>
    have HR : Hid (coM s xs o = MR.no) := by show coM s xs o = MR.no; unfold coM; rw [hn]; rfl
    rw [HR.out]
    have HN := hid hn
    clear hn
    go_enter Try.func7, Try.ntmps7
    go_wp2_with fail
    refine (isNormal_any _ _ _ _ xs _ hxx).mono ?_; rw [HN.out]; rintro e w1 ⟨rfl, hb1⟩
    obtain ⟨h10, h11, f20, f21⟩ := boxG (w.heap.size + 1) hb1 (by simp)
    have hB1 : Below w.heap.size w w1 := ((below_alloc w _).alloc (by simp) _).trans (hb1.mono (by simp <;> omega))
    clear hb1
    go_wp2
    refine bodyPost_ret (v := .tuple #[.agg #[.int .i64 0, .slice none 0 0], .bool false]) (by simp [results, Try.results7, go_sem, h10, h11]) rfl ⟨?_, ?_⟩
    · exact RetM.no _ _
    · (repeat (first | exact Below.refl _ _ | assumption | refine Below.alloc ?_ (by simp <;> omega) _ | refine Below.setCell ?_ (by simp <;> omega) _ | refine Below.drew ?_ | refine below_drewN ?_))
  | true =>
    have hm := (normal_facts hn).1
    have h0 := (normal_facts hn).2
    have hsz := (massOk_facts hm).1
    have HN := hid hn
    have HM := hid hm
    have H0 := hid h0
    cases ho : ordS s o with
    | false =>
      have HR : Hid (coM s xs o = MR.no) := by show coM s xs o = MR.no; unfold coM; rw [ho]; simp
      rw [HR.out]
      clear hn hm h0
      go_enter Try.func7, Try.ntmps7
      go_wp2_with fail
      refine (isNormal_any _ _ _ _ xs _ hxx).mono ?_; rw [HN.out]; rintro e w1 ⟨rfl, hb1⟩
      obtain ⟨h10, h11, f20, f21⟩ := boxG (w.heap.size + 1) hb1 (by simp)
      have hp0 := keep hb1 (a := ⟨w.heap.size, 0, none⟩) (v := .int .i64 s) (by simp)
      have hB1 : Below w.heap.size w w1 := ((below_alloc w _).alloc (by simp) _).trans (hb1.mono (by simp <;> omega))
      have hy1 := hy.below hB1
      clear hb1
      go_wp2_with fail
      refine (isOrder_any _ _ _ _ o _ hy1 hsz).mono ?_; rw [(ord_facts hsz).1, ho]; rintro e w' ⟨rfl, rfl⟩
      go_wp2
      refine bodyPost_ret (v := .tuple #[.agg #[.int .i64 0, .slice none 0 0], .bool false]) (by simp [results, Try.results7, go_sem, h10, h11]) rfl ⟨?_, ?_⟩
      · exact RetM.no _ _
      · (repeat (first | exact Below.refl _ _ | assumption | refine Below.alloc ?_ (by simp <;> omega) _ | refine Below.setCell ?_ (by simp <;> omega) _ | refine Below.drew ?_ | refine below_drewN ?_))
    | true =>
      have HR : Hid (coM s xs o = chanceM s xs o) := by show coM s xs o = _; unfold coM; rw [hn, ho]; rfl
      rw [HR.out]
      have HO := hid (ordS_ok hsz ho).1
      clear hn hm h0
      go_enter Try.func7, Try.ntmps7
      go_wp2_with fail
      refine (isNormal_any _ _ _ _ xs _ hxx).mono ?_; rw [HN.out]; rintro e w1 ⟨rfl, hb1⟩
      obtain ⟨h10, h11, f20, f21⟩ := boxG (w.heap.size + 1) hb1 (by simp)
      have hp0 := keep hb1 (a := ⟨w.heap.size, 0, none⟩) (v := .int .i64 s) (by simp)
      have hp1 := keep hb1 (a := ⟨w.heap.size, 1, none⟩) (v := .slice ao n c) (by simp)
      have hz1 : w.heap.size + 1 < w1.heap.size := by have := World.block_lt_of_cell? w1 _ h10; simpa using this
      have hB1 : Below w.heap.size w w1 := ((below_alloc w _).alloc (by simp) _).trans (hb1.mono (by simp <;> omega))
      have hy1 := hy.below hB1
      have hx1 := hx.below hB1
      clear hb1
      go_wp2_with fail
      refine (isOrder_any _ _ _ _ o _ hy1 hsz).mono ?_; rw [(ord_facts hsz).1, ho]; rintro e w' ⟨rfl, rfl⟩
      go_wp2_with fail
      refine (chanceOfOrder_any s _ _ _ _ _ _ xs o _ hx1 hy1 HM.out HO.out).mono ?_
      rintro e w7 ⟨⟨v, rfl, hr7⟩, hb7⟩
      obtain ⟨ao7, n7, c7, rfl, hi7⟩ := hr7.ints
      replace f20 := keepF hb7 h10 f20
      replace f21 := keepF hb7 h11 f21
      replace h10 := keep hb7 h10
      replace h11 := keep hb7 h11
      have hB7 := chain hB1 hb7
      go_wp2
      refine bodyPost_ret (by simp [results, Try.results7, go_sem, h10, h11]) rfl ⟨⟨_, rfl, ((hr7.setBelow (by first | omega | (simp; omega)) _).setBelow (by first | omega | (simp; omega)) _).mono (by first | omega | (simp; omega))⟩, ?_⟩
      (repeat (first | exact Below.refl _ _ | assumption | refine Below.alloc ?_ (by simp <;> omega) _ | refine Below.setCell ?_ (by simp <;> omega) _ | refine Below.drew ?_ | refine below_drewN ?_))
set_option maxHeartbeats 1000000 in
theorem specChanceOfOrder_any (s : Int) (ao bo : Option Addr) (n c m d : Nat) (xs o : List Int) (w : World) (hx : IntsAt w ao n xs) (hy : IntsAt w bo m o) :
    Calls Try.prog 8 #[.agg #[.int .i64 s, .slice ao n c], .slice bo m d] w fun e w' => RetM (coM s xs o) w.heap.size e w' ∧ Below w.heap.size w w' := by
  have hxx := hx.below (w' := (w.alloc (.cells #[.int .i64 s, .slice ao n c] 25)).alloc (.cells #[.int .i64 0, .slice none 0 0] 25)) ((below_alloc w _).alloc (by simp) _)
  cases hn : normalOk s xs with
  | false =>
    have HR : Hid (coM s xs o = MR.no) := by show coM s xs o = MR.no; unfold coM; rw [hn]; rfl
    rw [HR.out]
    have HN := hid hn
    clear hn
    go_enter Try.func8, Try.ntmps8
    go_wp2_with fail
    refine (IsNormal_any _ _ _ _ xs _ hxx).mono ?_; rw [HN.out]; rintro e w1 ⟨rfl, hb1⟩
    obtain ⟨h10, h11, f20, f21⟩ := boxG (w.heap.size + 1) hb1 (by simp)
    have hB1 : Below w.heap.size w w1 := ((below_alloc w _).alloc (by simp) _).trans (hb1.mono (by simp <;> omega))
    clear hb1
    go_wp2
    refine bodyPost_ret (v := .tuple #[.agg #[.int .i64 0, .slice none 0 0], .bool false]) (by simp [results, Try.results8, go_sem, h10, h11]) rfl ⟨?_, ?_⟩
    · exact RetM.no _ _
    · (repeat (first | exact Below.refl _ _ | assumption | refine Below.alloc ?_ (by simp <;> omega) _ | refine Below.setCell ?_ (by simp <;> omega) _ | refine Below.drew ?_ | refine below_drewN ?_))
  | true =>
    have hm := (normal_facts hn).1
    have h0 := (normal_facts hn).2
    have hsz := (massOk_facts hm).1
    have HN := hid hn
    have HM := hid hm
    have H0 := hid h0
    cases ho : ordS s o with
    | false =>
      have HR : Hid (coM s xs o = MR.no) := by show coM s xs o = MR.no; unfold coM; rw [ho]; simp
      rw [HR.out]
      clear hn hm h0
      go_enter Try.func8, Try.ntmps8
      go_wp2_with fail
      refine (IsNormal_any _ _ _ _ xs _ hxx).mono ?_; rw [HN.out]; rintro e w1 ⟨rfl, hb1⟩
      obtain ⟨h10, h11, f20, f21⟩ := boxG (w.heap.size + 1) hb1 (by simp)
      have hp0 := keep hb1 (a := ⟨w.heap.size, 0, none⟩) (v := .int .i64 s) (by simp)
      have hB1 : Below w.heap.size w w1 := ((below_alloc w _).alloc (by simp) _).trans (hb1.mono (by simp <;> omega))
      have hy1 := hy.below hB1
      clear hb1
      go_wp2_with fail
      refine (l1Moves_any _ _ _ _ o _ hy1 hsz).mono ?_; rw [ho]; rintro e w' ⟨rfl, rfl⟩
      go_wp2
      refine bodyPost_ret (v := .tuple #[.agg #[.int .i64 0, .slice none 0 0], .bool false]) (by simp [results, Try.results8, go_sem, h10, h11]) rfl ⟨?_, ?_⟩
      · exact RetM.no _ _
      · (repeat (first | exact Below.refl _ _ | assumption | refine Below.alloc ?_ (by simp <;> omega) _ | refine Below.setCell ?_ (by simp <;> omega) _ | refine Below.drew ?_ | refine below_drewN ?_))
    | true =>
      have HR : Hid (coM s xs o = chanceM s xs o) := by show coM s xs o = _; unfold coM; rw [hn, ho]; rfl
      rw [HR.out]
      have HO := hid (ordS_ok hsz ho).1
      clear hn hm h0
      go_enter Try.func8, Try.ntmps8
      go_wp2_with fail
      refine (IsNormal_any _ _ _ _ xs _ hxx).mono ?_; rw [HN.out]; rintro e w1 ⟨rfl, hb1⟩
      obtain ⟨h10, h11, f20, f21⟩ := boxG (w.heap.size + 1) hb1 (by simp)
      have hp0 := keep hb1 (a := ⟨w.heap.size, 0, none⟩) (v := .int .i64 s) (by simp)
      have hp1 := keep hb1 (a := ⟨w.heap.size, 1, none⟩) (v := .slice ao n c) (by simp)
      have hz1 : w.heap.size + 1 < w1.heap.size := by have := World.block_lt_of_cell? w1 _ h10; simpa using this
      have hB1 : Below w.heap.size w w1 := ((below_alloc w _).alloc (by simp) _).trans (hb1.mono (by simp <;> omega))
      have hy1 := hy.below hB1
      have hx1 := hx.below hB1
      clear hb1
      go_wp2_with fail
      refine (l1Moves_any _ _ _ _ o _ hy1 hsz).mono ?_; rw [ho]; rintro e w' ⟨rfl, rfl⟩
      go_wp2_with fail
      refine (l10Order_any s _ _ _ _ _ _ xs o _ hx1 hy1 HM.out H0.out HO.out).mono ?_
      rintro e w7 ⟨⟨v, rfl, hr7⟩, hb7⟩
      obtain ⟨ao7, n7, c7, rfl, hi7⟩ := hr7.ints
      replace f20 := keepF hb7 h10 f20
      replace f21 := keepF hb7 h11 f21
      replace h10 := keep hb7 h10
      replace h11 := keep hb7 h11
      have hB7 := chain hB1 hb7
      go_wp2
      refine bodyPost_ret (by simp [results, Try.results8, go_sem, h10, h11]) rfl ⟨⟨_, rfl, ((hr7.setBelow (by first | omega | (simp; omega)) _).setBelow (by first | omega | (simp; omega)) _).mono (by first | omega | (simp; omega))⟩, ?_⟩
      (repeat (first | exact Below.refl _ _ | assumption | refine Below.alloc ?_ (by simp <;> omega) _ | refine Below.setCell ?_ (by simp <;> omega) _ | refine Below.drew ?_ | refine below_drewN ?_))
end Go.Proofs.Ytnbjhmghobljaaa
