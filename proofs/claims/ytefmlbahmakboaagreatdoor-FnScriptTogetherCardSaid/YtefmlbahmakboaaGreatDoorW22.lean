/- Means: l3Whole, LowestMean, MeanOf both. The act between the safest and the boldest one: BetweenAct both. Means and fractions that the laws call: LowestMean, HighestMean, AddFractions, LessFraction. -/
import Derived.Test.YtefmlbahmakboaaGreatDoorW13
import Derived.Test.YtefmlbahmakboaaGreatDoorW11
import Derived.Test.YtefmlbahmakboaaGreatDoorM1
set_option linter.unusedSimpArgs false
set_option linter.unusedVariables false
namespace Go.Proofs.YtefmlbahmakboaaGreatDoor
open Go.RowKit
theorem sumIn_mass {s : Int} {xs : List Int} (h : massOk s xs = true) : sumIn 1000000 xs = isum xs := by
  simp only [massOk, Bool.and_eq_true] at h
  unfold sumIn; rw [if_pos h.1.1.2]
/-- the mean of gains by the least gains of sets -/
def meanM (s : Int) (xs gs : List Int) : FR := if normalOk s xs && gainsOk s gs then redF (sumF 1000 xs gs xs.length) (isum xs) else FR.no
def meanC (s : Int) (xs gs : List Int) : FR := if chanceOk s xs && gainsOk s gs then redF (sumF 1000 xs gs xs.length) (isum xs) else FR.no
theorem meanM_bad {s : Int} {xs gs : List Int} (h : normalOk s xs = false ∨ gainsOk s gs = false) : meanM s xs gs = FR.no := by
  rcases h with h | h <;> simp [meanM, h]
theorem meanC_bad {s : Int} {xs gs : List Int} (h : chanceOk s xs = false ∨ gainsOk s gs = false) : meanC s xs gs = FR.no := by
  rcases h with h | h <;> simp [meanC, h]
theorem meanC_M {s : Int} {xs gs : List Int} (h : chanceOk s xs = true) : meanC s xs gs = meanM s xs gs := by
  have h1 := chance_normal h
  have h2 : normalOk s xs = true := by simp [normalOk, h1.1, h1.2]
  unfold meanC meanM; rw [h, h2]
/-- the score of an act between bounds -/
def betS (num den : Int) (xs gs : List Int) : Int := num * sumF 1000 xs gs xs.length + (den - num) * -(sumF 1000 xs (negTo gs gs.length) xs.length)
def betOk (s : Int) (xs : List Int) (acts : List (List Int)) (num den : Int) : Bool := actsOk s xs acts && (shareOk num den && decide (den ≤ 1000))
theorem mul_bd3 (p b : Int) (h0 : 0 ≤ p) (h1 : p ≤ 1000) (h2 : -32000000000 ≤ b) (h3 : b ≤ 32000000000) : -32000000000000 ≤ p * b ∧ p * b ≤ 32000000000000 := by
  have e1 : p * b ≤ p * 32000000000 := Int.mul_le_mul_of_nonneg_left h3 h0
  have e2 : p * (-32000000000) ≤ p * b := Int.mul_le_mul_of_nonneg_left h2 h0
  omega
theorem MG.lo_bd {s : Int} {n m : Nat} {xs gs : List Int} (h : MG s n m xs gs) : -32000000000 ≤ sumF 1000 xs gs n ∧ sumF 1000 xs gs n ≤ 32000000000 := by
  have h1 := sumF_bd 1000 (by omega) xs gs n h.xb (fun k hk => h.gb k (by rw [← h.glen]; exact hk)) n (Nat.le_refl _)
  have := h.n16; omega
theorem MG.hi_bd {s : Int} {n m : Nat} {xs gs : List Int} (h : MG s n m xs gs) : -32000000000 ≤ -(sumF 1000 xs (negTo gs m) n) ∧ -(sumF 1000 xs (negTo gs m) n) ≤ 32000000000 := by
  have h1 := sumF_bd 1000 (by omega) xs (negTo gs m) n h.xb (fun k hk => h.neg k (by rw [negTo_len] at hk; exact hk)) n (Nat.le_refl _)
  have := h.n16; omega
theorem shareOk_facts {num den : Int} (h : shareOk num den = true) : 0 ≤ num ∧ num ≤ den ∧ 1 ≤ den := by
  simp only [shareOk, fracOk, Bool.and_eq_true, inB_iff] at h; omega
theorem betOk_cases {s : Int} {xs : List Int} {acts : List (List Int)} {num den : Int} (h : betOk s xs acts num den = false) :
    actsOk s xs acts = false ∨ (actsOk s xs acts = true ∧ shareOk num den = false) ∨ (actsOk s xs acts = true ∧ shareOk num den = true ∧ 1000 < den) := by
  cases h1 : actsOk s xs acts
  · exact .inl rfl
  · cases h2 : shareOk num den
    · exact .inr (.inl ⟨rfl, rfl⟩)
    · refine .inr (.inr ⟨rfl, rfl, ?_⟩)
      simp [betOk, h1, h2] at h; omega
theorem norm_facts {s : Int} {xs : List Int} (h : normalOk s xs = true) : massOk s xs = true ∧ nth xs 0 = 0 := by
  unfold normalOk at h
  rw [Bool.and_eq_true] at h
  refine ⟨h.1, ?_⟩
  have := h.2
  first | exact eq_of_beq this | simpa using this
/-- the mean of gains by the greatest gains of sets -/
def meanH (s : Int) (xs gs : List Int) : FR := if normalOk s xs && gainsOk s gs then redF (-(sumF 1000 xs (negTo gs gs.length) xs.length)) (isum xs) else FR.no
theorem meanH_bad {s : Int} {xs gs : List Int} (h : normalOk s xs = false ∨ gainsOk s gs = false) : meanH s xs gs = FR.no := by
  rcases h with h | h <;> simp [meanH, h]
set_option maxHeartbeats 1000000 in
theorem LowestMean_any (s : Int) (ao bo : Option Addr) (n c m d : Nat) (xs gs : List Int) (w : World) (hx : IntsAt w ao n xs) (hy : IntsAt w bo m gs) :
    Calls Tryz.prog 27 #[.agg #[.int .i64 s, .slice ao n c], .slice bo m d] w fun e w' => e = .returned (.tuple #[.agg #[.int .i64 (meanM s xs gs).num, .int .i64 (meanM s xs gs).den], .bool (meanM s xs gs).ok]) ∧ Below w.heap.size w w' := by
  have hB0 : Below w.heap.size w ((w.alloc (.cells #[.int .i64 s, .slice ao n c] 25)).alloc (.cells #[.int .i64 0, .int .i64 0] 33)) := (below_alloc w _).alloc (by simp) _
  have hxx := hx.below hB0
  cases hok : normalOk s xs
  · have HR : Hid (meanM s xs gs = FR.no) := meanM_bad (.inl hok)
    go_enter Tryz.func27, Tryz.ntmps27
    go_wp2_with fail
    refine (isNormal_any _ _ _ _ xs _ hxx).mono ?_; rw [hok]; rintro e w1 ⟨rfl, hb1⟩
    obtain ⟨h10, h11, f20, f21⟩ := boxG (w.heap.size + 1) hb1 (by simp)
    have hB1 : Below w.heap.size w w1 := Below.trans (by (repeat (first | exact Below.refl _ _ | assumption | refine Below.alloc ?_ (by simp <;> omega) _ | refine Below.setCell ?_ (by simp <;> omega) _ | refine Below.drew ?_ | refine below_drewN ?_))) (hb1.mono (by simp <;> omega))
    clear hb1
    go_wp2
    refine bodyPost_ret (v := .tuple #[.agg #[.int .i64 0, .int .i64 0], .bool false]) (by simp [results, Tryz.results27, go_sem, h10, h11]) rfl ⟨?_, ?_⟩
    · rw [HR.out]; rfl
    · (repeat (first | exact Below.refl _ _ | assumption | refine Below.alloc ?_ (by simp <;> omega) _ | refine Below.setCell ?_ (by simp <;> omega) _ | refine Below.drew ?_ | refine below_drewN ?_))
  · cases hg : gainsOk s gs
    · have HR : Hid (meanM s xs gs = FR.no) := meanM_bad (.inr hg)
      go_enter Tryz.func27, Tryz.ntmps27
      go_wp2_with fail
      refine (isNormal_any _ _ _ _ xs _ hxx).mono ?_; rw [hok]; rintro e w1 ⟨rfl, hb1⟩
      obtain ⟨h10, h11, f20, f21⟩ := boxG (w.heap.size + 1) hb1 (by simp)
      have hp0 := keep hb1 (a := ⟨w.heap.size, 0, none⟩) (v := .int .i64 s) (by simp)
      have hp1 := keep hb1 (a := ⟨w.heap.size, 1, none⟩) (v := .slice ao n c) (by simp)
      have hB1 : Below w.heap.size w w1 := Below.trans (by (repeat (first | exact Below.refl _ _ | assumption | refine Below.alloc ?_ (by simp <;> omega) _ | refine Below.setCell ?_ (by simp <;> omega) _ | refine Below.drew ?_ | refine below_drewN ?_))) (hb1.mono (by simp <;> omega))
      clear hb1
      go_wp2_with fail
      refine (areGains_any s _ _ _ _ gs _ (hy.below hB1)).mono ?_; rw [hg]; rintro e w2 ⟨rfl, hb2⟩
      replace f20 := keepF hb2 h10 f20
      replace f21 := keepF hb2 h11 f21
      replace h10 := keep hb2 h10
      replace h11 := keep hb2 h11
      have hB2 := chain hB1 hb2
      clear hb2
      go_wp2
      refine bodyPost_ret (v := .tuple #[.agg #[.int .i64 0, .int .i64 0], .bool false]) (by simp [results, Tryz.results27, go_sem, h10, h11]) rfl ⟨?_, ?_⟩
      · rw [HR.out]; rfl
      · (repeat (first | exact Below.refl _ _ | assumption | refine Below.alloc ?_ (by simp <;> omega) _ | refine Below.setCell ?_ (by simp <;> omega) _ | refine Below.drew ?_ | refine below_drewN ?_))
    · obtain ⟨hm, h0⟩ := norm_facts hok
      have HG := hid (mg_of hm h0 hg hx.len hy.len)
      have HLO := hid HG.out.lo
      have HR : Hid (meanM s xs gs = redF (sumF 1000 xs gs n) (isum xs)) := by show meanM s xs gs = _; unfold meanM; rw [hok, hg, hx.len]; rfl
      obtain ⟨_, _, _, hxb, hs1, hs2, _⟩ := massOk_facts' hm
      have HLS := hid (sumF_bd 1000 (by omega) xs gs n HG.out.xb (fun k hk => HG.out.gb k (by rw [← HG.out.glen]; exact hk)) n (Nat.le_refl _))
      have hn16 := HG.out.n16
      have hm4 : m ≤ 29 := by have := HG.out.m4; omega
      have HXB : Hid (∀ k, k < n → 0 ≤ nth xs k ∧ nth xs k ≤ 1000000000000000) := fun k hk => by have := HG.out.xb k hk; omega
      clear h0 hxb
      go_enter Tryz.func27, Tryz.ntmps27
      go_wp2_with fail
      refine (isNormal_any _ _ _ _ xs _ hxx).mono ?_; rw [hok]; rintro e w1 ⟨rfl, hb1⟩
      obtain ⟨h10, h11, f20, f21⟩ := boxG (w.heap.size + 1) hb1 (by simp)
      have hp0 := keep hb1 (a := ⟨w.heap.size, 0, none⟩) (v := .int .i64 s) (by simp)
      have hp1 := keep hb1 (a := ⟨w.heap.size, 1, none⟩) (v := .slice ao n c) (by simp)
      have hB1 : Below w.heap.size w w1 := Below.trans (by (repeat (first | exact Below.refl _ _ | assumption | refine Below.alloc ?_ (by simp <;> omega) _ | refine Below.setCell ?_ (by simp <;> omega) _ | refine Below.drew ?_ | refine below_drewN ?_))) (hb1.mono (by simp <;> omega))
      clear hb1
      go_wp2_with fail
      refine (areGains_any s _ _ _ _ gs _ (hy.below hB1)).mono ?_; rw [hg]; rintro e w2 ⟨rfl, hb2⟩
      replace f20 := keepF hb2 h10 f20
      replace f21 := keepF hb2 h11 f21
      replace h10 := keep hb2 h10
      replace h11 := keep hb2 h11
      replace hp0 := keep hb2 hp0
      replace hp1 := keep hb2 hp1
      have hB2 := chain hB1 hb2
      clear hb2
      go_wp2
      refine wp_region_ov_tail 5 (by kernel_rfl) (by kernel_rfl) (fun _ _ _ _ _ h => h) ?_
      simp only [List.take_succ_cons, List.take_zero, List.drop_succ_cons, List.drop_zero]
      repeat (first | go_big_quiet_step ((first | (go_at_call 63; exact ov_call (lowestSum_any s _ _ _ _ _ _ xs gs _ ((hx.below hB2).below (ov_below _ _)) ((hy.below hB2).below (ov_below _ _)) hn16 hm4 HG.out.xb HG.out.gb)) | (go_at_call 48; exact ov_call (wholeOf_any s _ _ _ xs _ ((hx.below hB2).below (ov_below _ _)) HXB.out hn16)))) | quiet_step ((first | (go_at_call 63; exact ov_call (lowestSum_any s _ _ _ _ _ _ xs gs _ ((hx.below hB2).below (ov_below _ _)) ((hy.below hB2).below (ov_below _ _)) hn16 hm4 HG.out.xb HG.out.gb)) | (go_at_call 48; exact ov_call (wholeOf_any s _ _ _ xs _ ((hx.below hB2).below (ov_below _ _)) HXB.out hn16)))))
      refine wpQuiet_nil ?_
      intro _ hw_ov
      obtain ⟨x_ov, hw_ov2⟩ := hw_ov
      subst hw_ov2
      obtain ⟨w3, hw_ov3, hb3⟩ := ov_gen _ x_ov
      rw [hw_ov3]
      clear hw_ov3 x_ov
      rw [HLO.out]
      have hs := HLS.out
      have hn16' : (n : Int) ≤ 16 := by omega
      replace f20 := keepF hb3 h10 f20
      replace f21 := keepF hb3 h11 f21
      replace h10 := keep hb3 h10
      replace h11 := keep hb3 h11
      have hB3 := chain hB2 hb3
      clear hb3
      go_wp2_with fail
      refine (lowest_any _ _ _ (by omega) (by omega) (by omega) (by omega) (by omega)).mono ?_; rintro e w5 ⟨rfl, hb5⟩
      replace f20 := keepF hb5 h10 f20
      replace f21 := keepF hb5 h11 f21
      replace h10 := keep hb5 h10
      replace h11 := keep hb5 h11
      have hB5 := chain hB3 hb5
      clear hb5
      go_wp2
      refine bodyPost_ret (v := .tuple #[.agg #[.int .i64 (redF (sumF 1000 xs gs n) (isum xs)).num, .int .i64 (redF (sumF 1000 xs gs n) (isum xs)).den], .bool (redF (sumF 1000 xs gs n) (isum xs)).ok]) (by simp [results, Tryz.results27, go_sem, h10, h11]) rfl ⟨?_, ?_⟩
      · rw [HR.out]
      · (repeat (first | exact Below.refl _ _ | assumption | refine Below.alloc ?_ (by simp <;> omega) _ | refine Below.setCell ?_ (by simp <;> omega) _ | refine Below.drew ?_ | refine below_drewN ?_))
set_option maxHeartbeats 1000000 in
theorem HighestMean_any (s : Int) (ao bo : Option Addr) (n c m d : Nat) (xs gs : List Int) (w : World) (hx : IntsAt w ao n xs) (hy : IntsAt w bo m gs) :
    Calls Tryz.prog 28 #[.agg #[.int .i64 s, .slice ao n c], .slice bo m d] w fun e w' => e = .returned (.tuple #[.agg #[.int .i64 (meanH s xs gs).num, .int .i64 (meanH s xs gs).den], .bool (meanH s xs gs).ok]) ∧ Below w.heap.size w w' := by
  have hB0 : Below w.heap.size w ((w.alloc (.cells #[.int .i64 s, .slice ao n c] 25)).alloc (.cells #[.int .i64 0, .int .i64 0] 33)) := (below_alloc w _).alloc (by simp) _
  have hxx := hx.below hB0
  cases hok : normalOk s xs
  · have HR : Hid (meanH s xs gs = FR.no) := meanH_bad (.inl hok)
    go_enter Tryz.func28, Tryz.ntmps28
    go_wp2_with fail
    refine (isNormal_any _ _ _ _ xs _ hxx).mono ?_; rw [hok]; rintro e w1 ⟨rfl, hb1⟩
    obtain ⟨h10, h11, f20, f21⟩ := boxG (w.heap.size + 1) hb1 (by simp)
    have hB1 : Below w.heap.size w w1 := Below.trans (by (repeat (first | exact Below.refl _ _ | assumption | refine Below.alloc ?_ (by simp <;> omega) _ | refine Below.setCell ?_ (by simp <;> omega) _ | refine Below.drew ?_ | refine below_drewN ?_))) (hb1.mono (by simp <;> omega))
    clear hb1
    go_wp2
    refine bodyPost_ret (v := .tuple #[.agg #[.int .i64 0, .int .i64 0], .bool false]) (by simp [results, Tryz.results28, go_sem, h10, h11]) rfl ⟨?_, ?_⟩
    · rw [HR.out]; rfl
    · (repeat (first | exact Below.refl _ _ | assumption | refine Below.alloc ?_ (by simp <;> omega) _ | refine Below.setCell ?_ (by simp <;> omega) _ | refine Below.drew ?_ | refine below_drewN ?_))
  · cases hg : gainsOk s gs
    · have HR : Hid (meanH s xs gs = FR.no) := meanH_bad (.inr hg)
      go_enter Tryz.func28, Tryz.ntmps28
      go_wp2_with fail
      refine (isNormal_any _ _ _ _ xs _ hxx).mono ?_; rw [hok]; rintro e w1 ⟨rfl, hb1⟩
      obtain ⟨h10, h11, f20, f21⟩ := boxG (w.heap.size + 1) hb1 (by simp)
      have hp0 := keep hb1 (a := ⟨w.heap.size, 0, none⟩) (v := .int .i64 s) (by simp)
      have hp1 := keep hb1 (a := ⟨w.heap.size, 1, none⟩) (v := .slice ao n c) (by simp)
      have hB1 : Below w.heap.size w w1 := Below.trans (by (repeat (first | exact Below.refl _ _ | assumption | refine Below.alloc ?_ (by simp <;> omega) _ | refine Below.setCell ?_ (by simp <;> omega) _ | refine Below.drew ?_ | refine below_drewN ?_))) (hb1.mono (by simp <;> omega))
      clear hb1
      go_wp2_with fail
      refine (areGains_any s _ _ _ _ gs _ (hy.below hB1)).mono ?_; rw [hg]; rintro e w2 ⟨rfl, hb2⟩
      replace f20 := keepF hb2 h10 f20
      replace f21 := keepF hb2 h11 f21
      replace h10 := keep hb2 h10
      replace h11 := keep hb2 h11
      have hB2 := chain hB1 hb2
      clear hb2
      go_wp2
      refine bodyPost_ret (v := .tuple #[.agg #[.int .i64 0, .int .i64 0], .bool false]) (by simp [results, Tryz.results28, go_sem, h10, h11]) rfl ⟨?_, ?_⟩
      · rw [HR.out]; rfl
      · (repeat (first | exact Below.refl _ _ | assumption | refine Below.alloc ?_ (by simp <;> omega) _ | refine Below.setCell ?_ (by simp <;> omega) _ | refine Below.drew ?_ | refine below_drewN ?_))
    · obtain ⟨hm, h0⟩ := norm_facts hok
      have HG := hid (mg_of hm h0 hg hx.len hy.len)
      have HLO := hid HG.out.hi
      have HR : Hid (meanH s xs gs = redF (-(sumF 1000 xs (negTo gs m) n)) (isum xs)) := by show meanH s xs gs = _; unfold meanH; rw [hok, hg, hx.len, hy.len]; rfl
      obtain ⟨_, _, _, hxb, hs1, hs2, _⟩ := massOk_facts' hm
      have HLS := hid (HG.out.hi_bd)
      have hn16 := HG.out.n16
      have hm4 : m ≤ 29 := by have := HG.out.m4; omega
      have HXB : Hid (∀ k, k < n → 0 ≤ nth xs k ∧ nth xs k ≤ 1000000000000000) := fun k hk => by have := HG.out.xb k hk; omega
      clear h0 hxb
      go_enter Tryz.func28, Tryz.ntmps28
      go_wp2_with fail
      refine (isNormal_any _ _ _ _ xs _ hxx).mono ?_; rw [hok]; rintro e w1 ⟨rfl, hb1⟩
      obtain ⟨h10, h11, f20, f21⟩ := boxG (w.heap.size + 1) hb1 (by simp)
      have hp0 := keep hb1 (a := ⟨w.heap.size, 0, none⟩) (v := .int .i64 s) (by simp)
      have hp1 := keep hb1 (a := ⟨w.heap.size, 1, none⟩) (v := .slice ao n c) (by simp)
      have hB1 : Below w.heap.size w w1 := Below.trans (by (repeat (first | exact Below.refl _ _ | assumption | refine Below.alloc ?_ (by simp <;> omega) _ | refine Below.setCell ?_ (by simp <;> omega) _ | refine Below.drew ?_ | refine below_drewN ?_))) (hb1.mono (by simp <;> omega))
      clear hb1
      go_wp2_with fail
      refine (areGains_any s _ _ _ _ gs _ (hy.below hB1)).mono ?_; rw [hg]; rintro e w2 ⟨rfl, hb2⟩
      replace f20 := keepF hb2 h10 f20
      replace f21 := keepF hb2 h11 f21
      replace h10 := keep hb2 h10
      replace h11 := keep hb2 h11
      replace hp0 := keep hb2 hp0
      replace hp1 := keep hb2 hp1
      have hB2 := chain hB1 hb2
      clear hb2
      go_wp2
      refine wp_region_ov_tail 5 (by kernel_rfl) (by kernel_rfl) (fun _ _ _ _ _ h => h) ?_
      simp only [List.take_succ_cons, List.take_zero, List.drop_succ_cons, List.drop_zero]
      repeat (first | go_big_quiet_step ((first | (go_at_call 68; exact ov_call (highestSum_any s _ _ _ _ _ _ xs gs _ ((hx.below hB2).below (ov_below _ _)) ((hy.below hB2).below (ov_below _ _)) hn16 hm4 HG.out.xb HG.out.gb)) | (go_at_call 48; exact ov_call (wholeOf_any s _ _ _ xs _ ((hx.below hB2).below (ov_below _ _)) HXB.out hn16)))) | quiet_step ((first | (go_at_call 68; exact ov_call (highestSum_any s _ _ _ _ _ _ xs gs _ ((hx.below hB2).below (ov_below _ _)) ((hy.below hB2).below (ov_below _ _)) hn16 hm4 HG.out.xb HG.out.gb)) | (go_at_call 48; exact ov_call (wholeOf_any s _ _ _ xs _ ((hx.below hB2).below (ov_below _ _)) HXB.out hn16)))))
      refine wpQuiet_nil ?_
      intro _ hw_ov
      obtain ⟨x_ov, hw_ov2⟩ := hw_ov
      subst hw_ov2
      obtain ⟨w3, hw_ov3, hb3⟩ := ov_gen _ x_ov
      rw [hw_ov3]
      clear hw_ov3 x_ov
      rw [HLO.out]
      have hs := HLS.out
      have hn16' : (n : Int) ≤ 16 := by omega
      replace f20 := keepF hb3 h10 f20
      replace f21 := keepF hb3 h11 f21
      replace h10 := keep hb3 h10
      replace h11 := keep hb3 h11
      have hB3 := chain hB2 hb3
      clear hb3
      go_wp2_with fail
      refine (lowest_any _ _ _ (by omega) (by omega) (by omega) (by omega) (by omega)).mono ?_; rintro e w5 ⟨rfl, hb5⟩
      replace f20 := keepF hb5 h10 f20
      replace f21 := keepF hb5 h11 f21
      replace h10 := keep hb5 h10
      replace h11 := keep hb5 h11
      have hB5 := chain hB3 hb5
      clear hb5
      go_wp2
      refine bodyPost_ret (v := .tuple #[.agg #[.int .i64 (redF (-(sumF 1000 xs (negTo gs m) n)) (isum xs)).num, .int .i64 (redF (-(sumF 1000 xs (negTo gs m) n)) (isum xs)).den], .bool (redF (-(sumF 1000 xs (negTo gs m) n)) (isum xs)).ok]) (by simp [results, Tryz.results28, go_sem, h10, h11]) rfl ⟨?_, ?_⟩
      · rw [HR.out]
      · (repeat (first | exact Below.refl _ _ | assumption | refine Below.alloc ?_ (by simp <;> omega) _ | refine Below.setCell ?_ (by simp <;> omega) _ | refine Below.drew ?_ | refine below_drewN ?_))
theorem frac_bd {a b : Int} (h : fracOk a b = true) : -1000000000 ≤ a ∧ a ≤ 1000000000 ∧ 1 ≤ b ∧ b ≤ 1000000000 := by
  simp only [fracOk, Bool.and_eq_true, inB_iff] at h; omega
theorem mul9 (a d : Int) (a0 : -1000000000 ≤ a) (a1 : a ≤ 1000000000) (d0 : 0 ≤ d) (d1 : d ≤ 1000000000) : -1000000000000000000 ≤ a * d ∧ a * d ≤ 1000000000000000000 := by
  have e1 : a * d ≤ 1000000000 * d := Int.mul_le_mul_of_nonneg_right a1 d0
  have e2 : -1000000000 * d ≤ a * d := Int.mul_le_mul_of_nonneg_right a0 d0
  omega
def addF (a b c d : Int) : FR := if fracOk a b && fracOk c d then redF (a * d + c * b) (b * d) else FR.no
end Go.Proofs.YtefmlbahmakboaaGreatDoor
