/- Means and fractions that the laws call: LowestMean, HighestMean, AddFractions, LessFraction. -/
import Derived.Test.YtchjnjmlambpjaaW14
import Derived.Test.YtchjnjmlambpjaaW18
import Derived.Test.YtchjnjmlambpjaaM1
set_option linter.unusedSimpArgs false
set_option linter.unusedVariables false
namespace Go.Proofs.Ytchjnjmlambpjaa
open Go.RowKit
theorem norm_facts {s : Int} {xs : List Int} (h : normalOk s xs = true) : massOk s xs = true ∧ nth xs 0 = 0 := by
  unfold normalOk at h
  rw [Bool.and_eq_true] at h
  refine ⟨h.1, ?_⟩
  have := h.2
  first | exact eq_of_beq this | simpa using this
/-- the mean of gains by the greatest gains of sets -/
def meanH (s : Int) (xs gs : List Int) : FR := if normalOk s xs && gainsOk s gs then redF (-(sumF 1000 xs (negTo gs gs.length) xs.length)) (isum xs) else FR.no
theorem meanH_bad {s : Int} {xs gs : List Int} (h : normalOk s xs = false ∨ gainsOk s gs = false) : meanH s xs gs = FR.no := by
  rcases h with h | h <;> simp [meanH, h]
set_option maxHeartbeats 1000000 in
theorem LowestMean_any (s : Int) (ao bo : Option Addr) (n c m d : Nat) (xs gs : List Int) (w : World) (hx : IntsAt w ao n xs) (hy : IntsAt w bo m gs) :
    Calls Try.prog 35 #[.agg #[.int .i64 s, .slice ao n c], .slice bo m d] w fun e w' => e = .returned (.tuple #[.agg #[.int .i64 (meanM s xs gs).num, .int .i64 (meanM s xs gs).den], .bool (meanM s xs gs).ok]) ∧ Below w.heap.size w w' := by
  have hB0 : Below w.heap.size w ((w.alloc (.cells #[.int .i64 s, .slice ao n c] 28)).alloc (.cells #[.int .i64 0, .int .i64 0] 49)) := (below_alloc w _).alloc (by simp) _
  have hxx := hx.below hB0
  cases hok : normalOk s xs
  · have HR : Hid (meanM s xs gs = FR.no) := meanM_bad (.inl hok)
    go_enter Try.func35, Try.ntmps35
    go_wp2_with fail
    refine (isNormal_any _ _ _ _ xs _ hxx).mono ?_; rw [hok]; rintro e w1 ⟨rfl, hb1⟩
    obtain ⟨h10, h11, f20, f21⟩ := boxG (w.heap.size + 1) hb1 (by simp)
    have hB1 : Below w.heap.size w w1 := Below.trans (by (repeat (first | exact Below.refl _ _ | assumption | refine Below.alloc ?_ (by simp <;> omega) _ | refine Below.setCell ?_ (by simp <;> omega) _ | refine Below.drew ?_ | refine below_drewN ?_))) (hb1.mono (by simp <;> omega))
    clear hb1
    go_wp2
    refine bodyPost_ret (v := .tuple #[.agg #[.int .i64 0, .int .i64 0], .bool false]) (by simp [results, Try.results35, go_sem, h10, h11]) rfl ⟨?_, ?_⟩
    · rw [HR.out]; rfl
    · (repeat (first | exact Below.refl _ _ | assumption | refine Below.alloc ?_ (by simp <;> omega) _ | refine Below.setCell ?_ (by simp <;> omega) _ | refine Below.drew ?_ | refine below_drewN ?_))
  · cases hg : gainsOk s gs
    · have HR : Hid (meanM s xs gs = FR.no) := meanM_bad (.inr hg)
      go_enter Try.func35, Try.ntmps35
      go_wp2_with fail
      refine (isNormal_any _ _ _ _ xs _ hxx).mono ?_; rw [hok]; rintro e w1 ⟨rfl, hb1⟩
      obtain ⟨h10, h11, f20, f21⟩ := boxG (w.heap.size + 1) hb1 (by simp)
      have hp0 := keep hb1 (a := ⟨w.heap.size, 0, none⟩) (v := .int .i64 s) (by simp)
      have hp1 := keep hb1 (a := ⟨w.heap.size, 1, none⟩) (v := .slice ao n c) (by simp)
      have hB1 : Below w.heap.size w w1 := Below.trans (by (repeat (first | exact Below.refl _ _ | assumption | refine Below.alloc ?_ (by simp <;> omega) _ | refine Below.setCell ?_ (by simp <;> omega) _ | refine Below.drew ?_ | refine below_drewN ?_))) (hb1.mono (by simp <;> omega))
      clear hb1
      go_wp2_with fail
      refine (areGains_any s _ _ _ _ gs _ (hy.below hB1)).mono ?_; rw [hg]; rintro e w2 ⟨rfl, hb2⟩
      replace f20 := keepF hb2 h10 f20
      replace f21 := keepF hb2 h11 f21
      replace h10 := keep hb2 h10
      replace h11 := keep hb2 h11
      have hB2 := chain hB1 hb2
      clear hb2
      go_wp2
      refine bodyPost_ret (v := .tuple #[.agg #[.int .i64 0, .int .i64 0], .bool false]) (by simp [results, Try.results35, go_sem, h10, h11]) rfl ⟨?_, ?_⟩
      · rw [HR.out]; rfl
      · (repeat (first | exact Below.refl _ _ | assumption | refine Below.alloc ?_ (by simp <;> omega) _ | refine Below.setCell ?_ (by simp <;> omega) _ | refine Below.drew ?_ | refine below_drewN ?_))
    · obtain ⟨hm, h0⟩ := norm_facts hok
      have HG := hid (mg_of hm h0 hg hx.len hy.len)
      have HLO := hid HG.out.lo
      have HR : Hid (meanM s xs gs = redF (sumF 1000 xs gs n) (isum xs)) := by show meanM s xs gs = _; unfold meanM; rw [hok, hg, hx.len]; rfl
      obtain ⟨_, _, _, hxb, hs1, hs2, _⟩ := massOk_facts' hm
      have HLS := hid (sumF_bd 1000 (by omega) xs gs n HG.out.xb (fun k hk => HG.out.gb k (by rw [← HG.out.glen]; exact hk)) n (Nat.le_refl _))
      have hn16 := HG.out.n16
      have hm4 : m ≤ 29 := by have := HG.out.m4; omega
      have HXB : Hid (∀ k, k < n → 0 ≤ nth xs k ∧ nth xs k ≤ 1000000000000000) := fun k hk => by have := HG.out.xb k hk; omega
      clear h0 hxb
      go_enter Try.func35, Try.ntmps35
      go_wp2_with fail
      refine (isNormal_any _ _ _ _ xs _ hxx).mono ?_; rw [hok]; rintro e w1 ⟨rfl, hb1⟩
      obtain ⟨h10, h11, f20, f21⟩ := boxG (w.heap.size + 1) hb1 (by simp)
      have hp0 := keep hb1 (a := ⟨w.heap.size, 0, none⟩) (v := .int .i64 s) (by simp)
      have hp1 := keep hb1 (a := ⟨w.heap.size, 1, none⟩) (v := .slice ao n c) (by simp)
      have hB1 : Below w.heap.size w w1 := Below.trans (by (repeat (first | exact Below.refl _ _ | assumption | refine Below.alloc ?_ (by simp <;> omega) _ | refine Below.setCell ?_ (by simp <;> omega) _ | refine Below.drew ?_ | refine below_drewN ?_))) (hb1.mono (by simp <;> omega))
      clear hb1
      go_wp2_with fail
      refine (areGains_any s _ _ _ _ gs _ (hy.below hB1)).mono ?_; rw [hg]; rintro e w2 ⟨rfl, hb2⟩
      replace f20 := keepF hb2 h10 f20
      replace f21 := keepF hb2 h11 f21
      replace h10 := keep hb2 h10
      replace h11 := keep hb2 h11
      replace hp0 := keep hb2 hp0
      replace hp1 := keep hb2 hp1
      have hB2 := chain hB1 hb2
      clear hb2
      go_wp2
      refine wp_region_ov_tail 5 (by kernel_rfl) (by kernel_rfl) (fun _ _ _ _ _ h => h) ?_
      simp only [List.take_succ_cons, List.take_zero, List.drop_succ_cons, List.drop_zero]
      repeat (first | go_big_quiet_step ((first | (go_at_call 85; exact ov_call (lowestSum_any s _ _ _ _ _ _ xs gs _ ((hx.below hB2).below (ov_below _ _)) ((hy.below hB2).below (ov_below _ _)) hn16 hm4 HG.out.xb HG.out.gb)) | (go_at_call 80; exact ov_call (wholeOf_any s _ _ _ xs _ ((hx.below hB2).below (ov_below _ _)) HXB.out hn16)))) | quiet_step ((first | (go_at_call 85; exact ov_call (lowestSum_any s _ _ _ _ _ _ xs gs _ ((hx.below hB2).below (ov_below _ _)) ((hy.below hB2).below (ov_below _ _)) hn16 hm4 HG.out.xb HG.out.gb)) | (go_at_call 80; exact ov_call (wholeOf_any s _ _ _ xs _ ((hx.below hB2).below (ov_below _ _)) HXB.out hn16)))))
      refine wpQuiet_nil ?_
      intro _ hw_ov
      obtain ⟨x_ov, hw_ov2⟩ := hw_ov
      subst hw_ov2
      obtain ⟨w3, hw_ov3, hb3⟩ := ov_gen _ x_ov
      rw [hw_ov3]
      clear hw_ov3 x_ov
      rw [HLO.out]
      have hs := HLS.out
      have hn16' : (n : Int) ≤ 16 := by omega
      replace f20 := keepF hb3 h10 f20
      replace f21 := keepF hb3 h11 f21
      replace h10 := keep hb3 h10
      replace h11 := keep hb3 h11
      have hB3 := chain hB2 hb3
      clear hb3
      go_wp2_with fail
      refine (lowest_any _ _ _ (by omega) (by omega) (by omega) (by omega) (by omega)).mono ?_; rintro e w5 ⟨rfl, hb5⟩
      replace f20 := keepF hb5 h10 f20
      replace f21 := keepF hb5 h11 f21
      replace h10 := keep hb5 h10
      replace h11 := keep hb5 h11
      have hB5 := chain hB3 hb5
      clear hb5
      go_wp2
      refine bodyPost_ret (v := .tuple #[.agg #[.int .i64 (redF (sumF 1000 xs gs n) (isum xs)).num, .int .i64 (redF (sumF 1000 xs gs n) (isum xs)).den], .bool (redF (sumF 1000 xs gs n) (isum xs)).ok]) (by simp [results, Try.results35, go_sem, h10, h11]) rfl ⟨?_, ?_⟩
      · rw [HR.out]
      · (repeat (first | exact Below.refl _ _ | assumption | refine Below.alloc ?_ (by simp <;> omega) _ | refine Below.setCell ?_ (by simp <;> omega) _ | refine Below.drew ?_ | refine below_drewN ?_))
set_option maxHeartbeats 1000000 in
theorem HighestMean_any (s : Int) (ao bo : Option Addr) (n c m d : Nat) (xs gs : List Int) (w : World) (hx : IntsAt w ao n xs) (hy : IntsAt w bo m gs) :
    Calls Try.prog 37 #[.agg #[.int .i64 s, .slice ao n c], .slice bo m d] w fun e w' => e = .returned (.tuple #[.agg #[.int .i64 (meanH s xs gs).num, .int .i64 (meanH s xs gs).den], .bool (meanH s xs gs).ok]) ∧ Below w.heap.size w w' := by
  have hB0 : Below w.heap.size w ((w.alloc (.cells #[.int .i64 s, .slice ao n c] 28)).alloc (.cells #[.int .i64 0, .int .i64 0] 49)) := (below_alloc w _).alloc (by simp) _
  have hxx := hx.below hB0
  cases hok : normalOk s xs
  · have HR : Hid (meanH s xs gs = FR.no) := meanH_bad (.inl hok)
    go_enter Try.func37, Try.ntmps37
    go_wp2_with fail
    refine (isNormal_any _ _ _ _ xs _ hxx).mono ?_; rw [hok]; rintro e w1 ⟨rfl, hb1⟩
    obtain ⟨h10, h11, f20, f21⟩ := boxG (w.heap.size + 1) hb1 (by simp)
    have hB1 : Below w.heap.size w w1 := Below.trans (by (repeat (first | exact Below.refl _ _ | assumption | refine Below.alloc ?_ (by simp <;> omega) _ | refine Below.setCell ?_ (by simp <;> omega) _ | refine Below.drew ?_ | refine below_drewN ?_))) (hb1.mono (by simp <;> omega))
    clear hb1
    go_wp2
    refine bodyPost_ret (v := .tuple #[.agg #[.int .i64 0, .int .i64 0], .bool false]) (by simp [results, Try.results37, go_sem, h10, h11]) rfl ⟨?_, ?_⟩
    · rw [HR.out]; rfl
    · (repeat (first | exact Below.refl _ _ | assumption | refine Below.alloc ?_ (by simp <;> omega) _ | refine Below.setCell ?_ (by simp <;> omega) _ | refine Below.drew ?_ | refine below_drewN ?_))
  · cases hg : gainsOk s gs
    · have HR : Hid (meanH s xs gs = FR.no) := meanH_bad (.inr hg)
      go_enter Try.func37, Try.ntmps37
      go_wp2_with fail
      refine (isNormal_any _ _ _ _ xs _ hxx).mono ?_; rw [hok]; rintro e w1 ⟨rfl, hb1⟩
      obtain ⟨h10, h11, f20, f21⟩ := boxG (w.heap.size + 1) hb1 (by simp)
      have hp0 := keep hb1 (a := ⟨w.heap.size, 0, none⟩) (v := .int .i64 s) (by simp)
      have hp1 := keep hb1 (a := ⟨w.heap.size, 1, none⟩) (v := .slice ao n c) (by simp)
      have hB1 : Below w.heap.size w w1 := Below.trans (by (repeat (first | exact Below.refl _ _ | assumption | refine Below.alloc ?_ (by simp <;> omega) _ | refine Below.setCell ?_ (by simp <;> omega) _ | refine Below.drew ?_ | refine below_drewN ?_))) (hb1.mono (by simp <;> omega))
      clear hb1
      go_wp2_with fail
      refine (areGains_any s _ _ _ _ gs _ (hy.below hB1)).mono ?_; rw [hg]; rintro e w2 ⟨rfl, hb2⟩
      replace f20 := keepF hb2 h10 f20
      replace f21 := keepF hb2 h11 f21
      replace h10 := keep hb2 h10
      replace h11 := keep hb2 h11
      have hB2 := chain hB1 hb2
      clear hb2
      go_wp2
      refine bodyPost_ret (v := .tuple #[.agg #[.int .i64 0, .int .i64 0], .bool false]) (by simp [results, Try.results37, go_sem, h10, h11]) rfl ⟨?_, ?_⟩
      · rw [HR.out]; rfl
      · (repeat (first | exact Below.refl _ _ | assumption | refine Below.alloc ?_ (by simp <;> omega) _ | refine Below.setCell ?_ (by simp <;> omega) _ | refine Below.drew ?_ | refine below_drewN ?_))
    · obtain ⟨hm, h0⟩ := norm_facts hok
      have HG := hid (mg_of hm h0 hg hx.len hy.len)
      have HLO := hid HG.out.hi
      have HR : Hid (meanH s xs gs = redF (-(sumF 1000 xs (negTo gs m) n)) (isum xs)) := by show meanH s xs gs = _; unfold meanH; rw [hok, hg, hx.len, hy.len]; rfl
      obtain ⟨_, _, _, hxb, hs1, hs2, _⟩ := massOk_facts' hm
      have HLS := hid (HG.out.hi_bd)
      have hn16 := HG.out.n16
      have hm4 : m ≤ 29 := by have := HG.out.m4; omega
      have HXB : Hid (∀ k, k < n → 0 ≤ nth xs k ∧ nth xs k ≤ 1000000000000000) := fun k hk => by have := HG.out.xb k hk; omega
      clear h0 hxb
      go_enter Try.func37, Try.ntmps37
      go_wp2_with fail
      refine (isNormal_any _ _ _ _ xs _ hxx).mono ?_; rw [hok]; rintro e w1 ⟨rfl, hb1⟩
      obtain ⟨h10, h11, f20, f21⟩ := boxG (w.heap.size + 1) hb1 (by simp)
      have hp0 := keep hb1 (a := ⟨w.heap.size, 0, none⟩) (v := .int .i64 s) (by simp)
      have hp1 := keep hb1 (a := ⟨w.heap.size, 1, none⟩) (v := .slice ao n c) (by simp)
      have hB1 : Below w.heap.size w w1 := Below.trans (by (repeat (first | exact Below.refl _ _ | assumption | refine Below.alloc ?_ (by simp <;> omega) _ | refine Below.setCell ?_ (by simp <;> omega) _ | refine Below.drew ?_ | refine below_drewN ?_))) (hb1.mono (by simp <;> omega))
      clear hb1
      go_wp2_with fail
      refine (areGains_any s _ _ _ _ gs _ (hy.below hB1)).mono ?_; rw [hg]; rintro e w2 ⟨rfl, hb2⟩
      replace f20 := keepF hb2 h10 f20
      replace f21 := keepF hb2 h11 f21
      replace h10 := keep hb2 h10
      replace h11 := keep hb2 h11
      replace hp0 := keep hb2 hp0
      replace hp1 := keep hb2 hp1
      have hB2 := chain hB1 hb2
      clear hb2
      go_wp2
      refine wp_region_ov_tail 5 (by kernel_rfl) (by kernel_rfl) (fun _ _ _ _ _ h => h) ?_
      simp only [List.take_succ_cons, List.take_zero, List.drop_succ_cons, List.drop_zero]
      repeat (first | go_big_quiet_step ((first | (go_at_call 89; exact ov_call (highestSum_any s _ _ _ _ _ _ xs gs _ ((hx.below hB2).below (ov_below _ _)) ((hy.below hB2).below (ov_below _ _)) hn16 hm4 HG.out.xb HG.out.gb)) | (go_at_call 80; exact ov_call (wholeOf_any s _ _ _ xs _ ((hx.below hB2).below (ov_below _ _)) HXB.out hn16)))) | quiet_step ((first | (go_at_call 89; exact ov_call (highestSum_any s _ _ _ _ _ _ xs gs _ ((hx.below hB2).below (ov_below _ _)) ((hy.below hB2).below (ov_below _ _)) hn16 hm4 HG.out.xb HG.out.gb)) | (go_at_call 80; exact ov_call (wholeOf_any s _ _ _ xs _ ((hx.below hB2).below (ov_below _ _)) HXB.out hn16)))))
      refine wpQuiet_nil ?_
      intro _ hw_ov
      obtain ⟨x_ov, hw_ov2⟩ := hw_ov
      subst hw_ov2
      obtain ⟨w3, hw_ov3, hb3⟩ := ov_gen _ x_ov
      rw [hw_ov3]
      clear hw_ov3 x_ov
      rw [HLO.out]
      have hs := HLS.out
      have hn16' : (n : Int) ≤ 16 := by omega
      replace f20 := keepF hb3 h10 f20
      replace f21 := keepF hb3 h11 f21
      replace h10 := keep hb3 h10
      replace h11 := keep hb3 h11
      have hB3 := chain hB2 hb3
      clear hb3
      go_wp2_with fail
      refine (lowest_any _ _ _ (by omega) (by omega) (by omega) (by omega) (by omega)).mono ?_; rintro e w5 ⟨rfl, hb5⟩
      replace f20 := keepF hb5 h10 f20
      replace f21 := keepF hb5 h11 f21
      replace h10 := keep hb5 h10
      replace h11 := keep hb5 h11
      have hB5 := chain hB3 hb5
      clear hb5
      go_wp2
      refine bodyPost_ret (v := .tuple #[.agg #[.int .i64 (redF (-(sumF 1000 xs (negTo gs m) n)) (isum xs)).num, .int .i64 (redF (-(sumF 1000 xs (negTo gs m) n)) (isum xs)).den], .bool (redF (-(sumF 1000 xs (negTo gs m) n)) (isum xs)).ok]) (by simp [results, Try.results37, go_sem, h10, h11]) rfl ⟨?_, ?_⟩
      · rw [HR.out]
      · (repeat (first | exact Below.refl _ _ | assumption | refine Below.alloc ?_ (by simp <;> omega) _ | refine Below.setCell ?_ (by simp <;> omega) _ | refine Below.drew ?_ | refine below_drewN ?_))
theorem frac_bd {a b : Int} (h : fracOk a b = true) : -1000000000 ≤ a ∧ a ≤ 1000000000 ∧ 1 ≤ b ∧ b ≤ 1000000000 := by
  simp only [fracOk, Bool.and_eq_true, inB_iff] at h; omega
theorem mul9 (a d : Int) (a0 : -1000000000 ≤ a) (a1 : a ≤ 1000000000) (d0 : 0 ≤ d) (d1 : d ≤ 1000000000) : -1000000000000000000 ≤ a * d ∧ a * d ≤ 1000000000000000000 := by
  have e1 : a * d ≤ 1000000000 * d := Int.mul_le_mul_of_nonneg_right a1 d0
  have e2 : -1000000000 * d ≤ a * d := Int.mul_le_mul_of_nonneg_right a0 d0
  omega
set_option maxHeartbeats 1000000 in
theorem LessFraction_any (a b c d : Int) (w : World) :
    Calls Try.prog 40 #[.agg #[.int .i64 a, .int .i64 b], .agg #[.int .i64 c, .int .i64 d]] w fun e w' => e = .returned (.bool (lessF a b c d)) ∧ Below w.heap.size w w' := by
  cases h1 : fracOk a b
  · have HR : Hid (lessF a b c d = false) := by show lessF a b c d = _; unfold lessF; rw [h1]; rfl
    rw [HR.out]
    go_enter Try.func40, Try.ntmps40
    go_wp2_with fail
    refine (isFraction_any a b _).mono ?_; rw [h1]; rintro e w1 ⟨rfl, hb⟩
    go_wp2
    go_ret
    exact ⟨rfl, Below.trans (by (repeat (first | exact Below.refl _ _ | assumption | refine Below.alloc ?_ (by first | omega | (simp <;> omega)) _ | refine Below.setCell ?_ (by first | omega | (simp <;> omega)) _ | refine Below.drew ?_ | refine below_drewN ?_))) (hb.mono (by simp <;> omega))⟩
  · cases h2 : fracOk c d
    · have HR : Hid (lessF a b c d = false) := by show lessF a b c d = _; unfold lessF; rw [h2, Bool.false_and, Bool.and_false]
      rw [HR.out]
      go_enter Try.func40, Try.ntmps40
      go_wp2_with fail
      refine (isFraction_any a b _).mono ?_; rw [h1]; rintro e w1 ⟨rfl, hb⟩
      have p0 := keep hb (a := ⟨w.heap.size + 1, 0, none⟩) (v := .int .i64 c) (by simp)
      have p1 := keep hb (a := ⟨w.heap.size + 1, 1, none⟩) (v := .int .i64 d) (by simp)
      have hB1 : Below w.heap.size w w1 := Below.trans (by (repeat (first | exact Below.refl _ _ | assumption | refine Below.alloc ?_ (by first | omega | (simp <;> omega)) _ | refine Below.setCell ?_ (by first | omega | (simp <;> omega)) _ | refine Below.drew ?_ | refine below_drewN ?_))) (hb.mono (by simp <;> omega))
      clear hb
      go_wp2_with fail
      refine (isFraction_any c d _).mono ?_; rw [h2]; rintro e w2 ⟨rfl, hb⟩
      go_wp2
      go_ret
      exact ⟨rfl, chain hB1 hb⟩
    · have HR : Hid (lessF a b c d = decide (a * d < c * b)) := by show lessF a b c d = _; unfold lessF; rw [h1, h2, Bool.true_and, Bool.true_and]
      rw [HR.out]
      obtain ⟨a0, a1, b0, b1⟩ := frac_bd h1
      obtain ⟨c0, c1, d0, d1⟩ := frac_bd h2
      have m1 := mul9 a d a0 a1 (by omega) d1
      have m2 := mul9 c b c0 c1 (by omega) b1
      go_enter Try.func40, Try.ntmps40
      go_wp2_with fail
      refine (isFraction_any a b _).mono ?_; rw [h1]; rintro e w1 ⟨rfl, hb⟩
      have q0 := keep hb (a := ⟨w.heap.size, 0, none⟩) (v := .int .i64 a) (by simp)
      have q1 := keep hb (a := ⟨w.heap.size, 1, none⟩) (v := .int .i64 b) (by simp)
      have p0 := keep hb (a := ⟨w.heap.size + 1, 0, none⟩) (v := .int .i64 c) (by simp)
      have p1 := keep hb (a := ⟨w.heap.size + 1, 1, none⟩) (v := .int .i64 d) (by simp)
      have hB1 : Below w.heap.size w w1 := Below.trans (by (repeat (first | exact Below.refl _ _ | assumption | refine Below.alloc ?_ (by first | omega | (simp <;> omega)) _ | refine Below.setCell ?_ (by first | omega | (simp <;> omega)) _ | refine Below.drew ?_ | refine below_drewN ?_))) (hb.mono (by simp <;> omega))
      clear hb
      go_wp2_with fail
      refine (isFraction_any c d _).mono ?_; rw [h2]; rintro e w2 ⟨rfl, hb⟩
      replace q0 := keep hb q0
      replace q1 := keep hb q1
      replace p0 := keep hb p0
      replace p1 := keep hb p1
      have hB2 := chain hB1 hb
      clear hb
      go_wp2
      go_ret
      exact ⟨rfl, hB2⟩
def addF (a b c d : Int) : FR := if fracOk a b && fracOk c d then redF (a * d + c * b) (b * d) else FR.no
set_option maxHeartbeats 1000000 in
theorem AddFractions_any (a b c d : Int) (w : World) (h1 : fracOk a b = true) (h2 : fracOk c d = true) :
    Calls Try.prog 50 #[.agg #[.int .i64 a, .int .i64 b], .agg #[.int .i64 c, .int .i64 d]] w fun e w' => e = .returned (.tuple #[.agg #[.int .i64 (addF a b c d).num, .int .i64 (addF a b c d).den], .bool (addF a b c d).ok]) ∧ Below w.heap.size w w' := by
  have HR : Hid (addF a b c d = redF (a * d + c * b) (b * d)) := by show addF a b c d = _; unfold addF; rw [h1, h2]; rfl
  rw [HR.out]
  obtain ⟨a0, a1, b0, b1⟩ := frac_bd h1
  obtain ⟨c0, c1, d0, d1⟩ := frac_bd h2
  have m1 := mul9 a d a0 a1 (by omega) d1
  have m2 := mul9 c b c0 c1 (by omega) b1
  have m3 := mul9 b d (by omega) b1 (by omega) d1
  have m4 : 1 * 1 ≤ b * d := Int.mul_le_mul b0 d0 (by decide) (by omega)
  obtain ⟨p1, hp1⟩ : ∃ p1, a * d = p1 := ⟨_, rfl⟩
  obtain ⟨p2, hp2⟩ : ∃ p2, c * b = p2 := ⟨_, rfl⟩
  obtain ⟨p3, hp3⟩ : ∃ p3, b * d = p3 := ⟨_, rfl⟩
  rw [hp1] at m1
  rw [hp2] at m2
  rw [hp3] at m3 m4
  rw [hp1, hp2, hp3]
  obtain ⟨fn, hfn⟩ : ∃ r, Hid (redF (p1 + p2) p3 = r) := ⟨_, rfl⟩
  rw [hfn.out]
  go_enter Try.func50, Try.ntmps50
  go_wp2_with fail
  refine (isFraction_any a b _).mono ?_; rw [h1]; rintro e w1 ⟨rfl, hb⟩
  have q0 := keep hb (a := ⟨w.heap.size, 0, none⟩) (v := .int .i64 a) (by simp)
  have q1 := keep hb (a := ⟨w.heap.size, 1, none⟩) (v := .int .i64 b) (by simp)
  have r0 := keep hb (a := ⟨w.heap.size + 1, 0, none⟩) (v := .int .i64 c) (by simp)
  have r1 := keep hb (a := ⟨w.heap.size + 1, 1, none⟩) (v := .int .i64 d) (by simp)
  obtain ⟨h10, h11, f20, f21⟩ := boxG (w.heap.size + 1 + 1) hb (by simp)
  have hB1 : Below w.heap.size w w1 := Below.trans (by (repeat (first | exact Below.refl _ _ | assumption | refine Below.alloc ?_ (by first | omega | (simp <;> omega)) _ | refine Below.setCell ?_ (by first | omega | (simp <;> omega)) _ | refine Below.drew ?_ | refine below_drewN ?_))) (hb.mono (by simp <;> omega))
  clear hb
  go_wp2_with fail
  refine (isFraction_any c d _).mono ?_; rw [h2]; rintro e w2 ⟨rfl, hb⟩
  replace q0 := keep hb q0
  replace q1 := keep hb q1
  replace r0 := keep hb r0
  replace r1 := keep hb r1
  replace f20 := keepF hb h10 f20
  replace f21 := keepF hb h11 f21
  replace h10 := keep hb h10
  replace h11 := keep hb h11
  have hB2 := chain hB1 hb
  clear hb
  go_wp2_with fail
  have e1 : IntKind.i64.wrap (IntKind.i64.wrap (a * d) + IntKind.i64.wrap (c * b)) = p1 + p2 := by rw [hp1, hp2, IntWalk.i64_in p1 (by omega), IntWalk.i64_in p2 (by omega), IntWalk.i64_in _ (by omega)]
  have e3 : IntKind.i64.wrap (b * d) = p3 := by rw [hp3, IntWalk.i64_in p3 (by omega)]
  refine (lowest_any (p1 + p2) p3 _ (by omega) (by omega) (by omega) (by omega) (by omega)).mono ?_; rw [hfn.out]; rintro e w3 ⟨rfl, hb⟩
  replace f20 := keepF hb h10 f20
  replace f21 := keepF hb h11 f21
  replace h10 := keep hb h10
  replace h11 := keep hb h11
  have hB3 := chain hB2 hb
  clear hb
  go_wp2
  refine bodyPost_ret (v := .tuple #[.agg #[.int .i64 fn.num, .int .i64 fn.den], .bool fn.ok]) (by simp [results, Try.results50, go_sem, h10, h11, f20, f21]) rfl ⟨?_, ?_⟩
  · rfl
  · (repeat (first | exact Below.refl _ _ | assumption | refine Below.alloc ?_ (by first | omega | (simp <;> omega)) _ | refine Below.setCell ?_ (by first | omega | (simp <;> omega)) _ | refine Below.drew ?_ | refine below_drewN ?_))
end Go.Proofs.Ytchjnjmlambpjaa
