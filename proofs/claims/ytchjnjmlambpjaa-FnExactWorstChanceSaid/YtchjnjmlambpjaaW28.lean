/- The chance of the least mean: the program's WorstChance. -/
import Derived.Test.YtchjnjmlambpjaaW27
set_option linter.unusedSimpArgs false
set_option linter.unusedVariables false
namespace Go.Proofs.Ytchjnjmlambpjaa
open Go.RowKit
theorem restL_succ (k : Nat) : restL 0 (k + 1) = restL 0 k ++ [(k : Int)] := by
  unfold restL
  rw [Nat.sub_zero, Nat.sub_zero, List.range_succ, List.map_append]
  simp
set_option maxHeartbeats 2000000 in
theorem WorstChance_any (s : Int) (ao bo : Option Addr) (n c m d : Nat) (xs gs : List Int) (w : World) (hx : IntsAt w ao n xs) (hy : IntsAt w bo m gs) :
    Calls Try.prog 23 #[.agg #[.int .i64 s, .slice ao n c], .slice bo m d] w fun e w' => RetM (worstM s xs gs) w.heap.size e w' ∧ Below w.heap.size w w' := by
  have hcap := hy.cap
  obtain ⟨W, HW⟩ : ∃ W, Hid (((w.alloc (.cells #[.int .i64 s, .slice ao n c] 28)).alloc (.cells #[.slice bo m d] 22)).alloc (.cells #[.int .i64 0, .slice none 0 0] 28) = W) := ⟨_, rfl⟩
  have hB0 : Below w.heap.size w W := by rw [← HW.out]; (repeat (first | exact Below.refl _ _ | assumption | refine Below.alloc ?_ (by first | omega | (simp <;> omega)) _ | refine Below.setCell ?_ (by first | omega | (simp <;> omega)) _ | refine Below.drew ?_ | refine below_drewN ?_))
  have hq : W.cell? ⟨w.heap.size + 1, 0, none⟩ = some (.slice bo m d) := by rw [← HW.out]; simp
  have hp0 : W.cell? ⟨w.heap.size, 0, none⟩ = some (.int .i64 s) := by rw [← HW.out]; simp
  have hp1 : W.cell? ⟨w.heap.size, 1, none⟩ = some (.slice ao n c) := by rw [← HW.out]; simp
  obtain ⟨h10, h11, f20, f21⟩ := newBox ((w.alloc (.cells #[.int .i64 s, .slice ao n c] 28)).alloc (.cells #[.slice bo m d] 22)) (.int .i64 0) (.slice none 0 0) 28 (w.heap.size + 1 + 1) (by simp)
  rw [HW.out] at h10 h11 f20 f21
  have hzW : w.heap.size + 1 + 1 < W.heap.size := by rw [← HW.out]; simp
  have hxW := hx.below hB0
  have hyW := hy.below hB0
  cases hno : normalOk s xs
  · have HR : Hid (worstM s xs gs = MR.no) := worstM_bad (.inl hno)
    rw [HR.out]
    go_enter Try.func23, Try.ntmps23
    go_wp2_with fail
    rw [HW.out]
    refine (isNormal_any _ _ _ _ _ _ hxW).mono ?_; rw [hno]; rintro e w1 ⟨rfl, hb1⟩
    replace f20 := keepF hb1 h10 f20
    replace f21 := keepF hb1 h11 f21
    replace h10 := keep hb1 h10
    replace h11 := keep hb1 h11
    have hB1 := chain hB0 hb1
    clear hb1
    go_wp2
    refine bodyPost_ret (by simp [results, Try.results23, go_sem, h10, h11]) rfl ⟨RetM.no _ _, ?_⟩
    (repeat (first | exact Below.refl _ _ | assumption | refine Below.alloc ?_ (by first | omega | (simp <;> omega)) _ | refine Below.setCell ?_ (by first | omega | (simp <;> omega)) _ | refine Below.drew ?_ | refine below_drewN ?_))
  · cases hga : gainsOk s gs
    · have HR : Hid (worstM s xs gs = MR.no) := worstM_bad (.inr hga)
      rw [HR.out]
      go_enter Try.func23, Try.ntmps23
      go_wp2_with fail
      rw [HW.out]
      refine (isNormal_any _ _ _ _ _ _ hxW).mono ?_; rw [hno]; rintro e w1 ⟨rfl, hb1⟩
      replace f20 := keepF hb1 h10 f20
      replace f21 := keepF hb1 h11 f21
      replace h10 := keep hb1 h10
      replace h11 := keep hb1 h11
      replace hp0 := keep hb1 hp0
      replace hp1 := keep hb1 hp1
      replace hq := keep hb1 hq
      have hyW1 := hyW.below hb1
      have hB1 := chain hB0 hb1
      clear hb1
      go_wp2_with fail
      refine (areGains_any _ _ _ _ _ _ _ hyW1).mono ?_; rw [hga]; rintro e w2 ⟨rfl, hb2⟩
      replace f20 := keepF hb2 h10 f20
      replace f21 := keepF hb2 h11 f21
      replace h10 := keep hb2 h10
      replace h11 := keep hb2 h11
      have hB2 := chain hB1 hb2
      clear hb2
      go_wp2
      refine bodyPost_ret (by simp [results, Try.results23, go_sem, h10, h11]) rfl ⟨RetM.no _ _, ?_⟩
      (repeat (first | exact Below.refl _ _ | assumption | refine Below.alloc ?_ (by first | omega | (simp <;> omega)) _ | refine Below.setCell ?_ (by first | omega | (simp <;> omega)) _ | refine Below.drew ?_ | refine below_drewN ?_))
    · obtain ⟨p1, p4, _, _, hmo, hsz⟩ := norm_size hno
      obtain ⟨hgl, _⟩ := gainsOk_facts hga
      have hml := hid hy.len
      have hms : m = s.toNat := by rw [hml.out] at hgl; omega
      have HR : Hid (worstM s xs gs = chanceM s xs (sortTo gs m)) := by rw [Hid]; unfold worstM; rw [hno, hga, hml.out]; rfl
      have HOK : Hid (OrdOk s.toNat (sortTo gs m)) := by rw [Hid, ← hms]; exact sortTo_ok gs m
      have HMO := hid hmo
      have HNE : Hid (∀ b off, bo = some ⟨b, off, none⟩ → b < w.heap.size) := fun b off e => by
        obtain ⟨b2, o2, e2, h1, _⟩ := hy.at (Below.refl _ _) (show 0 < m by omega)
        rw [e] at e2
        injection e2 with e3
        injection e3 with e4 e5
        omega
      have hm4 : m ≤ 4 := by omega
      have hm1 : 1 ≤ m := by omega
      clear hgl hsz hms hmo p1 p4
      rw [HR.out]
      go_enter Try.func23, Try.ntmps23
      go_wp2_with fail
      rw [HW.out]
      refine (isNormal_any _ _ _ _ _ _ hxW).mono ?_; rw [hno]; rintro e w1 ⟨rfl, hb1⟩
      replace f20 := keepF hb1 h10 f20
      replace f21 := keepF hb1 h11 f21
      replace h10 := keep hb1 h10
      replace h11 := keep hb1 h11
      replace hp0 := keep hb1 hp0
      replace hp1 := keep hb1 hp1
      replace hq := keep hb1 hq
      have hyW1 := hyW.below hb1
      have hB1 := chain hB0 hb1
      have hz1 := hb1.size
      clear hb1
      go_wp2_with fail
      refine (areGains_any _ _ _ _ _ _ _ hyW1).mono ?_; rw [hga]; rintro e w2 ⟨rfl, hb2⟩
      replace f20 := keepF hb2 h10 f20
      replace f21 := keepF hb2 h11 f21
      replace h10 := keep hb2 h10
      replace h11 := keep hb2 h11
      replace hp0 := keep hb2 hp0
      replace hp1 := keep hb2 hp1
      replace hq := keep hb2 hq
      have hB2 := chain hB1 hb2
      have hz2 := hb2.size
      clear hb2
      have hr0 := Row.lit w2
      go_wp2
      go_loopw [6, 7, 21] (fun o _ i wr => ∃ (k : Nat) (v : Value), k ≤ m ∧ i = .int .i64 k ∧ o = v ∧ Row wr w2.heap.size v (restL 0 k) ∧ Below w2.heap.size w2 wr) (fun _ _ i _ => m - (intOf i).toNat)
      case atStart => exact ⟨0, _, by omega, rfl, rfl, hr0, below_alloc _ _⟩
      case round =>
        clear hr0
        obtain ⟨k, v, hk, rfl, rfl, hrow, hBr⟩ := hrel
        have hB := chain hB2 hBr
        have hzr := hBr.size
        by_cases hlt : k < m
        · have hlk := restL_len 0 k
          have HN := hid (restL_succ k)
          obtain ⟨L, hL⟩ : ∃ L, restL 0 k = L := ⟨_, rfl⟩
          rw [hL] at hrow hlk HN
          rw [Nat.sub_zero] at hlk
          go_wp2_with (at_builtin; refine wpList_append_int rfl _ _ rfl w2.heap.size _ _ k hlk (by rfl) (hrow.below (below_alloc wr _)) _ _ (k : Int) (by rfl) (by simp) (by omega) (by simp; omega) ?_; intro g' c' w' hrow' hgrow)
          have HB' := hid (below_grownBy (B := w2.heap.size) (hBr.alloc (by omega) _) (by simp; omega) hgrow (fun b e => (hrow.block b e).1))
          clear hgrow hrow hB hBr
          go_roundw
          case rel => first | exact ⟨k + 1, _, by omega, by go_num, rfl, by rw [HN.out]; exact hrow', HB'.out⟩ | exact ⟨_, ⟨k + 1, _, by omega, by go_num, rfl, by rw [HN.out]; exact hrow', HB'.out⟩, rfl⟩ | exact ⟨_, _, ⟨k + 1, _, by omega, by go_num, rfl, by rw [HN.out]; exact hrow', HB'.out⟩, rfl, rfl⟩ | exact ⟨_, _, _, ⟨k + 1, _, by omega, by go_num, rfl, by rw [HN.out]; exact hrow', HB'.out⟩, rfl, rfl, rfl⟩ | exact ⟨_, _, _, _, ⟨k + 1, _, by omega, by go_num, rfl, by rw [HN.out]; exact hrow', HB'.out⟩, rfl, rfl, rfl, rfl⟩ | exact ⟨_, _, _, _, _, ⟨k + 1, _, by omega, by go_num, rfl, by rw [HN.out]; exact hrow', HB'.out⟩, rfl, rfl, rfl, rfl, rfl⟩
          case measure => simp [intOf]; omega
        · obtain rfl : k = m := by omega
          obtain ⟨g, c', he, hgb, hgs, _⟩ := hrow.form (by rw [restL_len]; omega)
          rw [restL_len, Nat.sub_zero] at he
          subst he
          replace hq := keep hBr hq
          replace hp0 := keep hBr hp0
          replace hp1 := keep hBr hp1
          replace f20 := keepF hBr h10 f20
          replace f21 := keepF hBr h11 f21
          replace h10 := keep hBr h10
          replace h11 := keep hBr h11
          have hyr := hy.below hB
          have hxr := hx.below hB
          go_wp2_with fail
          refine (sortStable_any g k c' w2.heap.size (w.heap.size + 1) gs wr hm1 (by omega) hrow (fun w' x y hG h1 h2 => worstClos_any _ _ _ _ _ _ _ w' (keepG hG hq (by omega)) (hyr.grown hG (fun b off e e2 => by injection e2 with e2; have := HNE.out b off e; omega)) h1 h2)).mono ?_
          rintro e w5 ⟨rfl, hr5, hg5⟩
          have hB5 : Below w2.heap.size w2 w5 := belowG hBr hzr hg5 hgb
          have hz5 := hg5.size
          have hz8 : w.heap.size + 1 + 1 < w5.heap.size := by omega
          obtain ⟨a5, n5, c5, e5, hi5⟩ := hr5.ints
          injection e5 with q1 q2 q3
          subst q1 q2 q3
          replace f20 := keepGF hg5 h10 (by omega) f20
          replace f21 := keepGF hg5 h11 (by omega) f21
          replace h10 := keepG hg5 h10 (by omega)
          replace h11 := keepG hg5 h11 (by omega)
          replace hp0 := keepG hg5 hp0 (by omega)
          replace hp1 := keepG hg5 hp1 (by omega)
          have hBw5 := chain hB2 hB5
          have hx5 := hx.below hBw5
          clear hg5 hB hBr hyr hxr hrow hq
          go_wp2_with fail
          refine (chanceOfOrder_any s ao _ n c _ _ xs (sortTo gs k) _ hx5 hi5 HMO.out HOK.out).mono ?_
          rintro e w7 ⟨⟨v, rfl, hr7⟩, hb7⟩
          obtain ⟨ao7, n7, c7, rfl, hi7⟩ := hr7.ints
          replace f20 := keepF hb7 h10 f20
          replace f21 := keepF hb7 h11 f21
          replace h10 := keep hb7 h10
          replace h11 := keep hb7 h11
          have hB7 := chain hBw5 hb7
          go_wp2
          refine bodyPost_ret (by simp [results, Try.results23, go_sem, h10, h11]) rfl ⟨⟨_, rfl, ((hr7.setBelow (a := ⟨w.heap.size + 1 + 1, 0, none⟩) hz8 _).setBelow (a := ⟨w.heap.size + 1 + 1, 1, none⟩) hz8 _).mono (by omega)⟩, ?_⟩
          (repeat (first | exact Below.refl _ _ | assumption | refine Below.alloc ?_ (by first | omega | (simp <;> omega)) _ | refine Below.setCell ?_ (by first | omega | (simp <;> omega)) _ | refine Below.drew ?_ | refine below_drewN ?_))
theorem worst_len (s : Int) (xs gs : List Int) : (worstM s xs gs).parts.length ≤ 100000000 := by
  unfold worstM
  split
  · rename_i h
    rw [Bool.and_eq_true] at h
    obtain ⟨_, _, _, _, hmo, hsz⟩ := norm_size h.1
    have hgl := (gainsOk_facts h.2).1
    have ho : OrdOk s.toNat (sortTo gs gs.length) := by
      have e : s.toNat = gs.length := by omega
      rw [e]; exact sortTo_ok gs _
    obtain ⟨_, _, _, _, hl, _⟩ := corner_facts h.1 ho
    have := (massOk_facts hmo).2.2.1
    rw [hl]; omega
  · simp [MR.no]
end Go.Proofs.Ytchjnjmlambpjaa
