/- Means: l3Whole, LowestMean, MeanOf both. -/
import Derived.Test.YtchjnjmlambpjaaW13
set_option linter.unusedSimpArgs false
set_option linter.unusedVariables false
namespace Go.Proofs.Ytchjnjmlambpjaa
open Go.RowKit
theorem sumIn_mass {s : Int} {xs : List Int} (h : massOk s xs = true) : sumIn 1000000 xs = isum xs := by
  simp only [massOk, Bool.and_eq_true] at h
  unfold sumIn; rw [if_pos h.1.1.2]
theorem l3Whole_any (s : Int) (ao : Option Addr) (n c : Nat) (xs : List Int) (w : World) (hx : IntsAt w ao n xs) (hm : massOk s xs = true) :
    Calls Try.prog 88 #[.agg #[.int .i64 s, .slice ao n c]] w fun e w' => e = .returned (.int .i64 (isum xs)) ∧ Below w.heap.size w w' := by
  have hn16 : n ≤ 16 := by have := (massOk_facts' hm).2.2.1; have := hx.len; omega
  have HS := hid (sumIn_mass hm)
  go_enter Try.func88, Try.ntmps88
  go_wp2_with (first | (go_at_call 136; refine (l3Sum_any _ _ _ _ _ _ (hx.below (below_alloc w _)) hn16 (by decide) (by decide)).mono ?_; rw [HS.out]; rintro e w' ⟨rfl, rfl⟩))
  go_ret
  exact ⟨rfl, below_alloc w _⟩
/-- the mean of gains by the least gains of sets -/
def meanM (s : Int) (xs gs : List Int) : FR := if normalOk s xs && gainsOk s gs then redF (sumF 1000 xs gs xs.length) (isum xs) else FR.no
def meanC (s : Int) (xs gs : List Int) : FR := if chanceOk s xs && gainsOk s gs then redF (sumF 1000 xs gs xs.length) (isum xs) else FR.no
theorem meanM_bad {s : Int} {xs gs : List Int} (h : normalOk s xs = false ∨ gainsOk s gs = false) : meanM s xs gs = FR.no := by
  rcases h with h | h <;> simp [meanM, h]
theorem meanC_bad {s : Int} {xs gs : List Int} (h : chanceOk s xs = false ∨ gainsOk s gs = false) : meanC s xs gs = FR.no := by
  rcases h with h | h <;> simp [meanC, h]
theorem meanC_M {s : Int} {xs gs : List Int} (h : chanceOk s xs = true) : meanC s xs gs = meanM s xs gs := by
  have h1 := chance_normal h
  have h2 : normalOk s xs = true := by simp [normalOk, h1.1, h1.2]
  unfold meanC meanM; rw [h, h2]
set_option maxHeartbeats 2000000 in
theorem specLowestMean_any (s : Int) (ao bo : Option Addr) (n c m d : Nat) (xs gs : List Int) (w : World) (hx : IntsAt w ao n xs) (hy : IntsAt w bo m gs) :
    Calls Try.prog 36 #[.agg #[.int .i64 s, .slice ao n c], .slice bo m d] w fun e w' => e = .returned (.tuple #[.agg #[.int .i64 (meanM s xs gs).num, .int .i64 (meanM s xs gs).den], .bool (meanM s xs gs).ok]) ∧ Below w.heap.size w w' := by
  have hB0 : Below w.heap.size w ((w.alloc (.cells #[.int .i64 s, .slice ao n c] 28)).alloc (.cells #[.int .i64 0, .int .i64 0] 49)) := (below_alloc w _).alloc (by simp) _
  have hxx := hx.below hB0
  have hyy := hy.below hB0
  cases hok : (massOk s xs && gainsOk s gs)
  · have HR : Hid (meanM s xs gs = FR.no) := meanM_bad (by
      cases h1 : massOk s xs
      · left; simp [normalOk, h1]
      · right; simpa [h1] using hok)
    go_enter Try.func36, Try.ntmps36
    go_wp2_with fail
    refine (l10Gains_any _ _ _ _ _ _ _ xs gs _ hxx hyy).mono ?_; rw [hok]; rintro e w1 ⟨rfl, hb1⟩
    obtain ⟨h10, h11, f20, f21⟩ := boxG (w.heap.size + 1) hb1 (by simp)
    have hB1 : Below w.heap.size w w1 := Below.trans (by (repeat (first | exact Below.refl _ _ | assumption | refine Below.alloc ?_ (by simp <;> omega) _ | refine Below.setCell ?_ (by simp <;> omega) _ | refine Below.drew ?_ | refine below_drewN ?_))) (hb1.mono (by simp <;> omega))
    clear hb1
    go_wp2
    refine bodyPost_ret (v := .tuple #[.agg #[.int .i64 0, .int .i64 0], .bool false]) (by simp [results, Try.results36, go_sem, h10, h11]) rfl ⟨?_, ?_⟩
    · rw [HR.out]; rfl
    · (repeat (first | exact Below.refl _ _ | assumption | refine Below.alloc ?_ (by simp <;> omega) _ | refine Below.setCell ?_ (by simp <;> omega) _ | refine Below.drew ?_ | refine below_drewN ?_))
  · cases hN : normalOk s xs
    · have HR : Hid (meanM s xs gs = FR.no) := meanM_bad (.inl hN)
      go_enter Try.func36, Try.ntmps36
      go_wp2_with fail
      refine (l10Gains_any _ _ _ _ _ _ _ xs gs _ hxx hyy).mono ?_; rw [hok]; rintro e w1 ⟨rfl, hb1⟩
      obtain ⟨h10, h11, f20, f21⟩ := boxG (w.heap.size + 1) hb1 (by simp)
      have hp0 := keep hb1 (a := ⟨w.heap.size, 0, none⟩) (v := .int .i64 s) (by simp)
      have hp1 := keep hb1 (a := ⟨w.heap.size, 1, none⟩) (v := .slice ao n c) (by simp)
      have hB1 : Below w.heap.size w w1 := Below.trans (by (repeat (first | exact Below.refl _ _ | assumption | refine Below.alloc ?_ (by simp <;> omega) _ | refine Below.setCell ?_ (by simp <;> omega) _ | refine Below.drew ?_ | refine below_drewN ?_))) (hb1.mono (by simp <;> omega))
      clear hb1
      go_wp2_with fail
      refine (IsNormal_any _ _ _ _ _ _ (hx.below hB1)).mono ?_; rw [hN]; rintro e w2 ⟨rfl, hb2⟩
      replace f20 := keepF hb2 h10 f20
      replace f21 := keepF hb2 h11 f21
      replace h10 := keep hb2 h10
      replace h11 := keep hb2 h11
      have hB2 := chain hB1 hb2
      clear hb2
      go_wp2
      refine bodyPost_ret (v := .tuple #[.agg #[.int .i64 0, .int .i64 0], .bool false]) (by simp [results, Try.results36, go_sem, h10, h11]) rfl ⟨?_, ?_⟩
      · rw [HR.out]; rfl
      · (repeat (first | exact Below.refl _ _ | assumption | refine Below.alloc ?_ (by simp <;> omega) _ | refine Below.setCell ?_ (by simp <;> omega) _ | refine Below.drew ?_ | refine below_drewN ?_))
    · have hg : gainsOk s gs = true := by simp only [Bool.and_eq_true] at hok; exact hok.2
      obtain ⟨hm, h0⟩ := normalOk_facts hN
      have HR : Hid (meanM s xs gs = redF (sumF 1000 xs gs n) (isum xs)) := by show meanM s xs gs = _; unfold meanM; rw [hN, hg, hx.len]; rfl
      have HG := hid (mg_of hm h0 hg hx.len hy.len)
      obtain ⟨_, _, _, _, hs1, hs2, _⟩ := massOk_facts' hm
      have HLS := hid (sumF_bd 1000 (by omega) xs gs n HG.out.xb (fun k hk => HG.out.gb k (by rw [← HG.out.glen]; exact hk)))
      have hn16 := HG.out.n16
      have hn1 := HG.out.n1
      have hcap := hx.cap
      have HST : Hid (sumF 1000 xs gs 1 = 0) := by
        show (0 : Int) + nth xs 0 * lowF 1000 gs 0 gs.length = 0
        rw [HG.out.zero, Int.zero_mul]; rfl
      have hm4 : m ≤ 29 := by have := HG.out.m4; omega
      clear h0
      go_enter Try.func36, Try.ntmps36
      go_wp2_with fail
      refine (l10Gains_any _ _ _ _ _ _ _ xs gs _ hxx hyy).mono ?_; rw [hok]; rintro e w1 ⟨rfl, hb1⟩
      obtain ⟨h10, h11, f20, f21⟩ := boxG (w.heap.size + 1) hb1 (by simp)
      have hp0 := keep hb1 (a := ⟨w.heap.size, 0, none⟩) (v := .int .i64 s) (by simp)
      have hp1 := keep hb1 (a := ⟨w.heap.size, 1, none⟩) (v := .slice ao n c) (by simp)
      have hB1 : Below w.heap.size w w1 := Below.trans (by (repeat (first | exact Below.refl _ _ | assumption | refine Below.alloc ?_ (by simp <;> omega) _ | refine Below.setCell ?_ (by simp <;> omega) _ | refine Below.drew ?_ | refine below_drewN ?_))) (hb1.mono (by simp <;> omega))
      have hz1 : w.heap.size + 1 < w1.heap.size := by have := World.block_lt_of_cell? w1 _ h10; simpa using this
      clear hb1
      go_wp2_with fail
      refine (IsNormal_any _ _ _ _ _ _ (hx.below hB1)).mono ?_; rw [hN]; rintro e w2 ⟨rfl, hb2⟩
      replace f20 := keepF hb2 h10 f20
      replace f21 := keepF hb2 h11 f21
      replace h10 := keep hb2 h10
      replace h11 := keep hb2 h11
      replace hp0 := keep hb2 hp0
      replace hp1 := keep hb2 hp1
      have hB2 := chain hB1 hb2
      clear hb2
      go_wp2
      go_loopw [6, 7] (fun t i wr => ∃ k : Nat, 1 ≤ k ∧ k ≤ n ∧ i = .int .i64 k ∧ t = .int .i64 (sumF 1000 xs gs k) ∧ Below w2.heap.size w2 wr) (fun _ i _ => n - (intOf i).toNat)
      case atStart => exact ⟨1, by omega, hn1, rfl, by rw [HST.out], Below.refl _ _⟩
      case round =>
        obtain ⟨k, hk1, hk, rfl, rfl, hBr⟩ := hrel
        have hB := chain hB2 hBr
        have hq0 := keep hBr hp0
        have hq1 := keep hBr hp1
        have hyr := hy.below hB
        by_cases hlt : k < n
        · obtain ⟨b, off, rfl, hbs, hbs', hck⟩ := hx.at hB hlt
          have hp := HG.out.xb k hlt
          have hlb := lowF_bd 1000 (by omega) gs k m HG.out.gb m (Nat.le_refl _)
          have hlb1 := hlb.1
          have hlb2 := hlb.2
          have hmul := mul_bd _ _ hp.1 hp.2 hlb1 hlb2
          have hs := HLS.out k (by omega)
          have HN : Hid (sumF 1000 xs gs (k + 1) = sumF 1000 xs gs k + nth xs k * lowF 1000 gs k m) := by
            show sumF 1000 xs gs k + nth xs k * lowF 1000 gs k gs.length = _; rw [HG.out.glen]
          have hk16 : (k : Int) ≤ 16 := by omega
          have hk0 : (0 : Int) ≤ (k : Int) := by omega
          have hkn : (k : Int) < (n : Int) := by omega
          clear hlb
          go_wp2
          refine wp_region_ov (by kernel_rfl) (by kernel_rfl) ?_
          repeat (first | go_big_quiet_step ((go_at_call 86; exact ov_same (l10Least_any _ _ _ _ _ _ (by omega) (hyr.below (ov_below _ _)) hm4))) | quiet_step ((go_at_call 86; exact ov_same (l10Least_any _ _ _ _ _ _ (by omega) (hyr.below (ov_below _ _)) hm4))))
          refine wpQuiet_nil ?_
          intro _ hw_ov
          obtain ⟨x_ov, hw_ov2⟩ := hw_ov
          subst hw_ov2
          obtain ⟨w3, hw_ov3, hb3⟩ := ov_gen _ x_ov
          rw [hw_ov3]
          clear hw_ov3 x_ov
          have HB3 := hid (chain hBr hb3)
          clear hb3
          go_wp2
          go_roundw
          case rel => first | exact ⟨k + 1, by omega, by omega, by go_num, by rw [HN.out], HB3.out⟩ | exact ⟨_, ⟨k + 1, by omega, by omega, by go_num, by rw [HN.out], HB3.out⟩, rfl⟩ | exact ⟨_, _, ⟨k + 1, by omega, by omega, by go_num, by rw [HN.out], HB3.out⟩, rfl, rfl⟩ | exact ⟨_, _, _, ⟨k + 1, by omega, by omega, by go_num, by rw [HN.out], HB3.out⟩, rfl, rfl, rfl⟩ | exact ⟨_, _, _, _, ⟨k + 1, by omega, by omega, by go_num, by rw [HN.out], HB3.out⟩, rfl, rfl, rfl, rfl⟩ | exact ⟨_, _, _, _, _, ⟨k + 1, by omega, by omega, by go_num, by rw [HN.out], HB3.out⟩, rfl, rfl, rfl, rfl, rfl⟩
          case measure => simp [intOf]; omega
        · have hkn : k = n := by omega
          have hs := HLS.out k (by omega)
          have HK := hid hkn
          have hkn16 : (k : Int) ≤ 16 := by omega
          clear hkn
          replace f20 := keepF hBr h10 f20
          replace f21 := keepF hBr h11 f21
          replace h10 := keep hBr h10
          replace h11 := keep hBr h11
          go_wp2_with fail
          refine (l3Whole_any _ _ _ _ xs _ (hx.below hB) hm).mono ?_; rintro e w4 ⟨rfl, hb4⟩
          replace f20 := keepF hb4 h10 f20
          replace f21 := keepF hb4 h11 f21
          replace h10 := keep hb4 h10
          replace h11 := keep hb4 h11
          have hB4 := chain hB hb4
          clear hb4
          go_wp2_with fail
          refine (l2Made_any _ _ _ (by omega) (by omega) (by omega) (by omega) (by omega)).mono ?_; rintro e w5 ⟨rfl, hb5⟩
          replace f20 := keepF hb5 h10 f20
          replace f21 := keepF hb5 h11 f21
          replace h10 := keep hb5 h10
          replace h11 := keep hb5 h11
          have hB5 := chain hB4 hb5
          clear hb5
          go_wp2
          refine bodyPost_ret (v := .tuple #[.agg #[.int .i64 (redF (sumF 1000 xs gs k) (isum xs)).num, .int .i64 (redF (sumF 1000 xs gs k) (isum xs)).den], .bool (redF (sumF 1000 xs gs k) (isum xs)).ok]) (by simp [results, Try.results36, go_sem, h10, h11]) rfl ⟨?_, ?_⟩
          · rw [HR.out, ← HK.out]
          · (repeat (first | exact Below.refl _ _ | assumption | refine Below.alloc ?_ (by simp <;> omega) _ | refine Below.setCell ?_ (by simp <;> omega) _ | refine Below.drew ?_ | refine below_drewN ?_))
set_option maxHeartbeats 1000000 in
theorem MeanOf_any (s : Int) (ao bo : Option Addr) (n c m d : Nat) (xs gs : List Int) (w : World) (hx : IntsAt w ao n xs) (hy : IntsAt w bo m gs) :
    Calls Try.prog 39 #[.agg #[.int .i64 s, .slice ao n c], .slice bo m d] w fun e w' => e = .returned (.tuple #[.agg #[.int .i64 (meanC s xs gs).num, .int .i64 (meanC s xs gs).den], .bool (meanC s xs gs).ok]) ∧ Below w.heap.size w w' := by
  have hB0 : Below w.heap.size w ((w.alloc (.cells #[.int .i64 s, .slice ao n c] 28)).alloc (.cells #[.int .i64 0, .int .i64 0] 49)) := (below_alloc w _).alloc (by simp) _
  have hxx := hx.below hB0
  cases hok : chanceOk s xs
  · have HR : Hid (meanC s xs gs = FR.no) := meanC_bad (.inl hok)
    go_enter Try.func39, Try.ntmps39
    go_wp2_with fail
    refine (isChance_any _ _ _ _ xs _ hxx).mono ?_; rw [hok]; rintro e w1 ⟨rfl, hb1⟩
    obtain ⟨h10, h11, f20, f21⟩ := boxG (w.heap.size + 1) hb1 (by simp)
    have hB1 : Below w.heap.size w w1 := Below.trans (by (repeat (first | exact Below.refl _ _ | assumption | refine Below.alloc ?_ (by simp <;> omega) _ | refine Below.setCell ?_ (by simp <;> omega) _ | refine Below.drew ?_ | refine below_drewN ?_))) (hb1.mono (by simp <;> omega))
    clear hb1
    go_wp2
    refine bodyPost_ret (v := .tuple #[.agg #[.int .i64 0, .int .i64 0], .bool false]) (by simp [results, Try.results39, go_sem, h10, h11]) rfl ⟨?_, ?_⟩
    · rw [HR.out]; rfl
    · (repeat (first | exact Below.refl _ _ | assumption | refine Below.alloc ?_ (by simp <;> omega) _ | refine Below.setCell ?_ (by simp <;> omega) _ | refine Below.drew ?_ | refine below_drewN ?_))
  · cases hg : gainsOk s gs
    · have HR : Hid (meanC s xs gs = FR.no) := meanC_bad (.inr hg)
      go_enter Try.func39, Try.ntmps39
      go_wp2_with fail
      refine (isChance_any _ _ _ _ xs _ hxx).mono ?_; rw [hok]; rintro e w1 ⟨rfl, hb1⟩
      obtain ⟨h10, h11, f20, f21⟩ := boxG (w.heap.size + 1) hb1 (by simp)
      have hp0 := keep hb1 (a := ⟨w.heap.size, 0, none⟩) (v := .int .i64 s) (by simp)
      have hp1 := keep hb1 (a := ⟨w.heap.size, 1, none⟩) (v := .slice ao n c) (by simp)
      have hB1 : Below w.heap.size w w1 := Below.trans (by (repeat (first | exact Below.refl _ _ | assumption | refine Below.alloc ?_ (by simp <;> omega) _ | refine Below.setCell ?_ (by simp <;> omega) _ | refine Below.drew ?_ | refine below_drewN ?_))) (hb1.mono (by simp <;> omega))
      clear hb1
      go_wp2_with fail
      refine (areGains_any s _ _ _ _ gs _ (hy.below hB1)).mono ?_; rw [hg]; rintro e w2 ⟨rfl, hb2⟩
      replace f20 := keepF hb2 h10 f20
      replace f21 := keepF hb2 h11 f21
      replace h10 := keep hb2 h10
      replace h11 := keep hb2 h11
      have hB2 := chain hB1 hb2
      clear hb2
      go_wp2
      refine bodyPost_ret (v := .tuple #[.agg #[.int .i64 0, .int .i64 0], .bool false]) (by simp [results, Try.results39, go_sem, h10, h11]) rfl ⟨?_, ?_⟩
      · rw [HR.out]; rfl
      · (repeat (first | exact Below.refl _ _ | assumption | refine Below.alloc ?_ (by simp <;> omega) _ | refine Below.setCell ?_ (by simp <;> omega) _ | refine Below.drew ?_ | refine below_drewN ?_))
    · obtain ⟨hm, h0⟩ := chance_normal hok
      have HG := hid (mg_of hm h0 hg hx.len hy.len)
      have HLO := hid HG.out.lo
      have HR : Hid (meanC s xs gs = redF (sumF 1000 xs gs n) (isum xs)) := by show meanC s xs gs = _; unfold meanC; rw [hok, hg, hx.len]; rfl
      obtain ⟨_, _, _, hxb, hs1, hs2, _⟩ := massOk_facts' hm
      have HLS := hid (sumF_bd 1000 (by omega) xs gs n HG.out.xb (fun k hk => HG.out.gb k (by rw [← HG.out.glen]; exact hk)) n (Nat.le_refl _))
      have hn16 := HG.out.n16
      have hm4 : m ≤ 29 := by have := HG.out.m4; omega
      have HXB : Hid (∀ k, k < n → 0 ≤ nth xs k ∧ nth xs k ≤ 1000000000000000) := fun k hk => by have := HG.out.xb k hk; omega
      clear h0 hxb
      go_enter Try.func39, Try.ntmps39
      go_wp2_with fail
      refine (isChance_any _ _ _ _ xs _ hxx).mono ?_; rw [hok]; rintro e w1 ⟨rfl, hb1⟩
      obtain ⟨h10, h11, f20, f21⟩ := boxG (w.heap.size + 1) hb1 (by simp)
      have hp0 := keep hb1 (a := ⟨w.heap.size, 0, none⟩) (v := .int .i64 s) (by simp)
      have hp1 := keep hb1 (a := ⟨w.heap.size, 1, none⟩) (v := .slice ao n c) (by simp)
      have hB1 : Below w.heap.size w w1 := Below.trans (by (repeat (first | exact Below.refl _ _ | assumption | refine Below.alloc ?_ (by simp <;> omega) _ | refine Below.setCell ?_ (by simp <;> omega) _ | refine Below.drew ?_ | refine below_drewN ?_))) (hb1.mono (by simp <;> omega))
      clear hb1
      go_wp2_with fail
      refine (areGains_any s _ _ _ _ gs _ (hy.below hB1)).mono ?_; rw [hg]; rintro e w2 ⟨rfl, hb2⟩
      replace f20 := keepF hb2 h10 f20
      replace f21 := keepF hb2 h11 f21
      replace h10 := keep hb2 h10
      replace h11 := keep hb2 h11
      replace hp0 := keep hb2 hp0
      replace hp1 := keep hb2 hp1
      have hB2 := chain hB1 hb2
      clear hb2
      go_wp2
      refine wp_region_ov_tail 5 (by kernel_rfl) (by kernel_rfl) (fun _ _ _ _ _ h => h) ?_
      simp only [List.take_succ_cons, List.take_zero, List.drop_succ_cons, List.drop_zero]
      repeat (first | go_big_quiet_step ((first | (go_at_call 85; exact ov_call (lowestSum_any s _ _ _ _ _ _ xs gs _ ((hx.below hB2).below (ov_below _ _)) ((hy.below hB2).below (ov_below _ _)) hn16 hm4 HG.out.xb HG.out.gb)) | (go_at_call 80; exact ov_call (wholeOf_any s _ _ _ xs _ ((hx.below hB2).below (ov_below _ _)) HXB.out hn16)))) | quiet_step ((first | (go_at_call 85; exact ov_call (lowestSum_any s _ _ _ _ _ _ xs gs _ ((hx.below hB2).below (ov_below _ _)) ((hy.below hB2).below (ov_below _ _)) hn16 hm4 HG.out.xb HG.out.gb)) | (go_at_call 80; exact ov_call (wholeOf_any s _ _ _ xs _ ((hx.below hB2).below (ov_below _ _)) HXB.out hn16)))))
      refine wpQuiet_nil ?_
      intro _ hw_ov
      obtain ⟨x_ov, hw_ov2⟩ := hw_ov
      subst hw_ov2
      obtain ⟨w3, hw_ov3, hb3⟩ := ov_gen _ x_ov
      rw [hw_ov3]
      clear hw_ov3 x_ov
      rw [HLO.out]
      have hs := HLS.out
      have hn16' : (n : Int) ≤ 16 := by omega
      replace f20 := keepF hb3 h10 f20
      replace f21 := keepF hb3 h11 f21
      replace h10 := keep hb3 h10
      replace h11 := keep hb3 h11
      have hB3 := chain hB2 hb3
      clear hb3
      go_wp2_with fail
      refine (lowest_any _ _ _ (by omega) (by omega) (by omega) (by omega) (by omega)).mono ?_; rintro e w5 ⟨rfl, hb5⟩
      replace f20 := keepF hb5 h10 f20
      replace f21 := keepF hb5 h11 f21
      replace h10 := keep hb5 h10
      replace h11 := keep hb5 h11
      have hB5 := chain hB3 hb5
      clear hb5
      go_wp2
      refine bodyPost_ret (v := .tuple #[.agg #[.int .i64 (redF (sumF 1000 xs gs n) (isum xs)).num, .int .i64 (redF (sumF 1000 xs gs n) (isum xs)).den], .bool (redF (sumF 1000 xs gs n) (isum xs)).ok]) (by simp [results, Try.results39, go_sem, h10, h11]) rfl ⟨?_, ?_⟩
      · rw [HR.out]
      · (repeat (first | exact Below.refl _ _ | assumption | refine Below.alloc ?_ (by simp <;> omega) _ | refine Below.setCell ?_ (by simp <;> omega) _ | refine Below.drew ?_ | refine below_drewN ?_))
end Go.Proofs.Ytchjnjmlambpjaa
