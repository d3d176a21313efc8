/- Sums of least and greatest gains, and the best of several acts. -/
import Derived.Test.YtefmlbahmakboaaGreatDoorW8
set_option linter.unusedSimpArgs false
set_option linter.unusedVariables false
namespace Go.Proofs.YtefmlbahmakboaaGreatDoor
open Go.RowKit
/-- the least of M and of the gains that a set has -/
def lowF (M : Int) (gs : List Int) (a k : Nat) : Int := iter (fun x t => if hasB a x then min t (nth gs x) else t) M k
def sumF (M : Int) (xs gs : List Int) (k : Nat) : Int := iter (fun a t => t + nth xs a * lowF M gs a gs.length) 0 k
/-- gains with the other sign -/
def negTo (gs : List Int) (k : Nat) : List Int := iter (fun j l => l ++ [-(nth gs j)]) [] k
theorem negTo_len (gs : List Int) (k : Nat) : (negTo gs k).length = k := by
  induction k with
  | zero => rfl
  | succ k ih => show (negTo gs k ++ [_]).length = _; rw [List.length_append, ih]; rfl
theorem negTo_nth (gs : List Int) (k j : Nat) (h : j < k) : nth (negTo gs k) j = -(nth gs j) := by
  induction k with
  | zero => omega
  | succ k ih =>
    show nth (negTo gs k ++ [-(nth gs k)]) j = _
    by_cases e : j < k
    · rw [nth_append_left _ _ _ (by rw [negTo_len]; exact e)]; exact ih e
    · have e2 : j = k := by omega
      subst e2
      have hl := negTo_len gs j
      rw [nth_eq _ _ (by simp [hl])]
      simp [hl]
theorem lowF_bd (M : Int) (hM : 0 ≤ M ∧ M ≤ 2000) (gs : List Int) (a n : Nat) (h : ∀ k, k < n → inG (nth gs k)) (k : Nat) (hk : k ≤ n) : inG (lowF M gs a k) := by
  induction k with
  | zero => exact (⟨by show -2000 ≤ M; omega, by show M ≤ 2000; omega⟩ : inG M)
  | succ k ih =>
    have h1 := ih (by omega)
    have h2 := h k (by omega)
    show inG (if hasB a k then min (lowF M gs a k) (nth gs k) else lowF M gs a k)
    split
    · exact min_inG _ _ h1 h2
    · exact h1
theorem sumF_bd (M : Int) (hM : 0 ≤ M ∧ M ≤ 2000) (xs gs : List Int) (n : Nat) (hx : ∀ k, k < n → 0 ≤ nth xs k ∧ nth xs k ≤ 1000000) (h : ∀ k, k < gs.length → inG (nth gs k)) (k : Nat) (hk : k ≤ n) : -2000000000 * (k : Int) ≤ sumF M xs gs k ∧ sumF M xs gs k ≤ 2000000000 * (k : Int) := by
  induction k with
  | zero => exact ⟨by simp [sumF, iter], by simp [sumF, iter]⟩
  | succ k ih =>
    have h1 := ih (by omega)
    have h2 := hx k (by omega)
    have h3 := lowF_bd M hM gs k gs.length h gs.length (Nat.le_refl _)
    have h4 := mul_bd _ _ h2.1 h2.2 h3.1 h3.2
    show _ ≤ sumF M xs gs k + nth xs k * lowF M gs k gs.length ∧ sumF M xs gs k + nth xs k * lowF M gs k gs.length ≤ _
    push_cast
    omega
theorem best_minF (M : Int) (gs : List Int) (a n : Nat) (h : ∀ k, k < n → nth gs k ≤ M) (k : Nat) (hk : k ≤ n) :
    ((∀ j, j < k → hasB a j = false) ∧ bestTo min gs a k = (0, false) ∧ lowF M gs a k = M) ∨ bestTo min gs a k = (lowF M gs a k, true) := by
  induction k with
  | zero => exact .inl ⟨fun j hj => by omega, rfl, rfl⟩
  | succ k ih =>
    have hs : bestTo min gs a (k + 1) = if hasB a k then (if (bestTo min gs a k).2 then min (bestTo min gs a k).1 (nth gs k) else nth gs k, true) else bestTo min gs a k := rfl
    have hl : lowF M gs a (k + 1) = if hasB a k then min (lowF M gs a k) (nth gs k) else lowF M gs a k := rfl
    have hg := h k (by omega)
    cases ht : hasB a k
    · rw [ht] at hs hl
      rw [hs, hl]
      rcases ih (by omega) with ⟨h1, h2, h3⟩ | h1
      · refine .inl ⟨fun j hj => ?_, h2, h3⟩
        by_cases e : j = k
        · rw [e]; exact ht
        · exact h1 j (by omega)
      · exact .inr h1
    · rw [ht] at hs hl
      rw [hs, hl]
      rcases ih (by omega) with ⟨h1, h2, h3⟩ | h1
      · right
        rw [h2, h3]
        show (nth gs k, true) = (min M (nth gs k), true)
        congr 1; omega
      · right; rw [h1]; rfl
theorem best_maxF (M : Int) (gs ng : List Int) (a n : Nat) (h : ∀ k, k < n → -M ≤ nth gs k) (hn : ∀ k, k < n → nth ng k = -(nth gs k)) (k : Nat) (hk : k ≤ n) :
    ((∀ j, j < k → hasB a j = false) ∧ bestTo max gs a k = (0, false) ∧ lowF M ng a k = M) ∨ bestTo max gs a k = (-(lowF M ng a k), true) := by
  induction k with
  | zero => exact .inl ⟨fun j hj => by omega, rfl, rfl⟩
  | succ k ih =>
    have hs : bestTo max gs a (k + 1) = if hasB a k then (if (bestTo max gs a k).2 then max (bestTo max gs a k).1 (nth gs k) else nth gs k, true) else bestTo max gs a k := rfl
    have hl : lowF M ng a (k + 1) = if hasB a k then min (lowF M ng a k) (nth ng k) else lowF M ng a k := rfl
    have hg := h k (by omega)
    have hg2 := hn k (by omega)
    cases ht : hasB a k
    · rw [ht] at hs hl
      rw [hs, hl]
      rcases ih (by omega) with ⟨h1, h2, h3⟩ | h1
      · refine .inl ⟨fun j hj => ?_, h2, h3⟩
        by_cases e : j = k
        · rw [e]; exact ht
        · exact h1 j (by omega)
      · exact .inr h1
    · rw [ht] at hs hl
      rw [hs, hl]
      rcases ih (by omega) with ⟨h1, h2, h3⟩ | h1
      · right
        rw [h2, h3]
        show (nth gs k, true) = (-(min M (nth ng k)), true)
        congr 1; omega
      · right
        rw [h1]
        show (max (-(lowF M ng a k)) (nth gs k), true) = (-(min (lowF M ng a k) (nth ng k)), true)
        congr 1; omega
theorem gain_minF (M : Int) (xs gs : List Int) (h0 : nth xs 0 = 0) (h : ∀ k, k < gs.length → nth gs k ≤ M) (n : Nat) (hn : n ≤ 2 ^ gs.length) (k : Nat) (hk : k ≤ n) : gainTo min xs gs k = sumF M xs gs k := by
  induction k with
  | zero => rfl
  | succ k ih =>
    show gainTo min xs gs k + nth xs k * (bestTo min gs k gs.length).1 = sumF M xs gs k + nth xs k * lowF M gs k gs.length
    rw [ih (by omega)]
    by_cases e : k = 0
    · subst e; rw [h0, Int.zero_mul, Int.zero_mul]
    · rcases best_minF M gs k gs.length h gs.length (Nat.le_refl _) with ⟨h1, _, _⟩ | h1
      · obtain ⟨j, hj, hb⟩ := some_bit e (show k < 2 ^ gs.length by omega)
        rw [h1 j hj] at hb; cases hb
      · rw [h1]
theorem gain_maxF (M : Int) (xs gs : List Int) (h0 : nth xs 0 = 0) (h : ∀ k, k < gs.length → -M ≤ nth gs k) (n : Nat) (hn : n ≤ 2 ^ gs.length) (k : Nat) (hk : k ≤ n) : gainTo max xs gs k = -(sumF M xs (negTo gs gs.length) k) := by
  induction k with
  | zero => rfl
  | succ k ih =>
    show gainTo max xs gs k + nth xs k * (bestTo max gs k gs.length).1 = -(sumF M xs (negTo gs gs.length) k + nth xs k * lowF M (negTo gs gs.length) k (negTo gs gs.length).length)
    rw [ih (by omega), negTo_len]
    by_cases e : k = 0
    · subst e; rw [h0, Int.zero_mul, Int.zero_mul]; omega
    · rcases best_maxF M gs (negTo gs gs.length) k gs.length h (fun j hj => negTo_nth _ _ _ hj) gs.length (Nat.le_refl _) with ⟨h1, _, _⟩ | h1
      · obtain ⟨j, hj, hb⟩ := some_bit e (show k < 2 ^ gs.length by omega)
        rw [h1 j hj] at hb; cases hb
      · rw [h1]
        show _ + nth xs k * -(lowF M (negTo gs gs.length) k gs.length) = _
        rw [Int.mul_neg]; omega
/-- the first index below n at which f is greatest -/
def argTo (f : Nat → Int) (n : Nat) : Nat := iter (fun i b => if f b < f i then i else b) 0 n
theorem argTo_lt (f : Nat → Int) (n : Nat) (h : 0 < n) : argTo f n < n := by
  induction n with
  | zero => omega
  | succ n ih =>
    show (if f (argTo f n) < f n then n else argTo f n) < n + 1
    split
    · omega
    · by_cases e : n = 0
      · subst e; show 0 < 1; omega
      · have := ih (by omega); omega
theorem argTo_le (f : Nat → Int) (n : Nat) : argTo f n ≤ n := by
  by_cases h : 0 < n
  · exact Nat.le_of_lt (argTo_lt f n h)
  · obtain rfl : n = 0 := by omega
    exact Nat.le_refl _
theorem argTo_congr (f g : Nat → Int) (n : Nat) (h : ∀ k, k < n → f k = g k) : argTo f n = argTo g n := by
  induction n with
  | zero => rfl
  | succ n ih =>
    have e := ih fun k hk => h k (by omega)
    show (if f (argTo f n) < f n then n else argTo f n) = (if g (argTo g n) < g n then n else argTo g n)
    by_cases h0 : n = 0
    · subst h0
      show (if f 0 < f 0 then 0 else 0) = (if g 0 < g 0 then 0 else 0)
      rw [if_neg (by omega), if_neg (by omega)]
    · have h1 := argTo_lt f n (by omega)
      rw [e, h n (by omega), h (argTo g n) (by rw [← e]; omega)]
theorem maxClos_any (x y : Int) (w : World) :
    Calls Tryz.prog 117 #[.int .i64 x, .int .i64 y] w fun e w' => e = .returned (.int .i64 (max x y)) ∧ w = w' := by
  go_enter Tryz.func117, Tryz.ntmps117
  go_wp2
  all_goals go_ret
  all_goals (refine ⟨ret_int ?_, rfl⟩; omega)
theorem maxClos_call (vs : Array Value) (w' : World) : Sem.run Tryz.prog (callFunc 117 vs) w' = .ok (.enter 117 vs) w' := by
  have h1 : (Tryz.f117.name == "runtime.NumGoroutine") = false := by kernel_rfl
  have h2 : Tryz.f117.body.isNone = false := by kernel_rfl
  have h1' : ¬ Tryz.f117.name = "runtime.NumGoroutine" := by simpa using h1
  have h2' : ¬ Tryz.f117.body = none := by intro e; rw [e] at h2; simp at h2
  simp only [callFunc, Sem.run_bind, run_program, Result.andThen_ok, Tryz.func117, beq_iff_eq, Option.isNone_iff_eq_none, if_neg h1', if_neg h2', Sem.run_pure]
theorem max_inG (x y : Int) (h1 : inG x) (h2 : inG y) : inG (max x y) := by unfold inG at *; omega
theorem highestSum_any (s : Int) (ao bo : Option Addr) (n c m d : Nat) (xs gs : List Int) (w : World) (hx : IntsAt w ao n xs) (hy : IntsAt w bo m gs)
    (hn : n ≤ 16) (hm : m ≤ 29) (hxb : ∀ k, k < n → 0 ≤ nth xs k ∧ nth xs k ≤ 1000000) (hgb : ∀ k, k < m → inG (nth gs k)) :
    Calls Tryz.prog 68 #[.agg #[.int .i64 s, .slice ao n c], .slice bo m d] w fun e w' => e = .returned (.int .i64 (gainSum max xs gs)) ∧ Below w.heap.size w w' := by
  have HXB := hid hxb; clear hxb
  have HGB := hid hgb; clear hgb
  go_enter Tryz.func68, Tryz.ntmps68
  go_wp2_with fail
  refine (sumOfGains_any s ao bo n c m d xs gs 117 #[] max _ (hx.below (below_alloc w _)) (hy.below (below_alloc w _)) maxClos_call (fun x y w' => maxClos_any x y w') max_inG hn hm HXB.out HGB.out).mono ?_; rintro e w1 ⟨rfl, hb1⟩
  obtain ⟨_, _, hB1⟩ := box2 hb1
  clear hb1
  go_wp2
  go_ret
  exact ⟨rfl, hB1⟩
set_option maxHeartbeats 400000 in
theorem l10Least_any (a : Nat) (ao : Option Addr) (n c : Nat) (gs : List Int) (w : World) (ha : a < 1000000000) (hx : IntsAt w ao n gs) (hn : n ≤ 29) :
    Calls Tryz.prog 116 #[.int .i64 a, .slice ao n c] w fun e w' => e = .returned (.int .i64 (lowF 1000 gs a n)) ∧ w = w' := by
  have hcap := hx.cap
  go_enter Tryz.func116, Tryz.ntmps116
  go_wp2
  go_loop [5, 6] (fun t i => ∃ k : Nat, k ≤ n ∧ i = .int .i64 k ∧ t = .int .i64 (lowF 1000 gs a k)) (fun _ i => n - (intOf i).toNat)
  case atStart => exact ⟨0, by omega, rfl, rfl⟩
  case round =>
    obtain ⟨k, hk, rfl, rfl⟩ := hrel
    by_cases hlt : k < n
    · obtain ⟨b, off, rfl, hbs, hbs', hck⟩ := hx.at (Below.refl _ _) hlt
      have HS : Hid (lowF 1000 gs a (k + 1) = if hasB a k then min (lowF 1000 gs a k) (nth gs k) else lowF 1000 gs a k) := rfl
      cases ht : hasB a k
      all_goals
        go_wp2_with (first | (go_at_call 179; refine (l1Has_any _ _ _ ha (by omega) (by omega)).mono ?_; rintro e w' ⟨rfl, rfl⟩))
        go_round
        case rel => first | exact ⟨k + 1, by omega, by go_num, by rw [HS.out, ht]; first | rfl | (rw [min_eq]; rfl)⟩ | exact ⟨_, ⟨k + 1, by omega, by go_num, by rw [HS.out, ht]; first | rfl | (rw [min_eq]; rfl)⟩, rfl⟩ | exact ⟨_, _, ⟨k + 1, by omega, by go_num, by rw [HS.out, ht]; first | rfl | (rw [min_eq]; rfl)⟩, rfl, rfl⟩ | exact ⟨_, _, _, ⟨k + 1, by omega, by go_num, by rw [HS.out, ht]; first | rfl | (rw [min_eq]; rfl)⟩, rfl, rfl, rfl⟩ | exact ⟨_, _, _, _, ⟨k + 1, by omega, by go_num, by rw [HS.out, ht]; first | rfl | (rw [min_eq]; rfl)⟩, rfl, rfl, rfl, rfl⟩ | exact ⟨_, _, _, _, _, ⟨k + 1, by omega, by go_num, by rw [HS.out, ht]; first | rfl | (rw [min_eq]; rfl)⟩, rfl, rfl, rfl, rfl, rfl⟩
        case measure => simp [intOf]; omega
    · have hkn : k = n := by omega
      subst hkn
      go_wp2
      go_ret
      exact ⟨rfl, rfl⟩
set_option maxHeartbeats 1000000 in
theorem l12Least_any (s : Int) (ao bo : Option Addr) (n c m d : Nat) (xs gs : List Int) (w : World) (hx : IntsAt w ao n xs) (hy : IntsAt w bo m gs)
    (hn : n ≤ 16) (hn1 : 1 ≤ n) (hm : m ≤ 29) (h0 : nth xs 0 = 0) (hxb : ∀ k, k < n → 0 ≤ nth xs k ∧ nth xs k ≤ 1000000) (hgb : ∀ k, k < m → inG (nth gs k)) :
    Calls Tryz.prog 65 #[.agg #[.int .i64 s, .slice ao n c], .slice bo m d] w fun e w' => e = .returned (.int .i64 (sumF 1000 xs gs n)) ∧ Below w.heap.size w w' := by
  have HXB := hid hxb; clear hxb
  have HGB := hid hgb; clear hgb
  have HY := hid hy.len
  have HLS := hid (sumF_bd 1000 (by omega) xs gs n HXB.out (fun k hk => HGB.out k (by rw [← HY.out]; exact hk)))
  have H0 := hid h0; clear h0
  have hcap := hx.cap
  have hB1 := below_alloc w (.cells #[.int .i64 s, .slice ao n c] 25)
  have HST : Hid (sumF 1000 xs gs 1 = 0) := by
    show (0 : Int) + nth xs 0 * lowF 1000 gs 0 gs.length = 0
    rw [H0.out, Int.zero_mul]; rfl
  obtain ⟨W, HW⟩ : ∃ W, Hid (w.alloc (.cells #[.int .i64 s, .slice ao n c] 25) = W) := ⟨_, rfl⟩
  have hp1 : W.cell? ⟨w.heap.size, 1, none⟩ = some (.slice ao n c) := by rw [← HW.out]; simp
  rw [HW.out] at hB1
  go_enter Tryz.func65, Tryz.ntmps65
  go_wp2
  rw [HW.out]
  go_loopw [5, 6] (fun t i wr => ∃ k : Nat, 1 ≤ k ∧ k ≤ n ∧ i = .int .i64 k ∧ t = .int .i64 (sumF 1000 xs gs k) ∧ Below W.heap.size W wr) (fun _ i _ => n - (intOf i).toNat)
  case atStart => exact ⟨1, by omega, hn1, rfl, by rw [HST.out], Below.refl _ _⟩
  case round =>
    obtain ⟨k, hk1, hk, rfl, rfl, hBr⟩ := hrel
    have hB := chain hB1 hBr
    have hq1 := keep hBr hp1
    have hyr := hy.below hB
    by_cases hlt : k < n
    · obtain ⟨b, off, rfl, hbs, hbs', hck⟩ := hx.at hB hlt
      have hp := HXB.out k hlt
      have hlb := lowF_bd 1000 (by omega) gs k m HGB.out m (Nat.le_refl _)
      have hlb1 := hlb.1
      have hlb2 := hlb.2
      have hmul := mul_bd _ _ hp.1 hp.2 hlb1 hlb2
      have hs := HLS.out k (by omega)
      have HN : Hid (sumF 1000 xs gs (k + 1) = sumF 1000 xs gs k + nth xs k * lowF 1000 gs k m) := by
        show sumF 1000 xs gs k + nth xs k * lowF 1000 gs k gs.length = _; rw [HY.out]
      have hk16 : (k : Int) ≤ 16 := by omega
      have hk0 : (0 : Int) ≤ (k : Int) := by omega
      have hkn : (k : Int) < (n : Int) := by omega
      clear hlb
      go_wp2
      refine wp_region_ov (by kernel_rfl) (by kernel_rfl) ?_
      repeat (first | go_big_quiet_step ((go_at_call 116; exact ov_same (l10Least_any _ _ _ _ _ _ (by omega) (hyr.below (ov_below _ _)) (by omega)))) | quiet_step ((go_at_call 116; exact ov_same (l10Least_any _ _ _ _ _ _ (by omega) (hyr.below (ov_below _ _)) (by omega)))))
      refine wpQuiet_nil ?_
      intro _ hw_ov
      obtain ⟨x_ov, hw_ov2⟩ := hw_ov
      subst hw_ov2
      obtain ⟨w3, hw_ov3, hb3⟩ := ov_gen _ x_ov
      rw [hw_ov3]
      clear hw_ov3 x_ov
      have HB3 := hid (chain hBr hb3)
      clear hb3
      go_wp2
      go_roundw
      case rel => first | exact ⟨k + 1, by omega, by omega, by go_num, by rw [HN.out], HB3.out⟩ | exact ⟨_, ⟨k + 1, by omega, by omega, by go_num, by rw [HN.out], HB3.out⟩, rfl⟩ | exact ⟨_, _, ⟨k + 1, by omega, by omega, by go_num, by rw [HN.out], HB3.out⟩, rfl, rfl⟩ | exact ⟨_, _, _, ⟨k + 1, by omega, by omega, by go_num, by rw [HN.out], HB3.out⟩, rfl, rfl, rfl⟩ | exact ⟨_, _, _, _, ⟨k + 1, by omega, by omega, by go_num, by rw [HN.out], HB3.out⟩, rfl, rfl, rfl, rfl⟩ | exact ⟨_, _, _, _, _, ⟨k + 1, by omega, by omega, by go_num, by rw [HN.out], HB3.out⟩, rfl, rfl, rfl, rfl, rfl⟩
      case measure => simp [intOf]; omega
    · have hkn : k = n := by omega
      have HK := hid hkn
      clear hkn
      go_wp2
      go_ret
      exact ⟨ret_int (by rw [← HK.out]), hB⟩
set_option maxHeartbeats 400000 in
theorem l12Best_any (ao : Option Addr) (n c : Nat) (xs : List Int) (w : World) (hx : IntsAt w ao n xs) (hn : n ≤ 100000000) (hn1 : 1 ≤ n) :
    Calls Tryz.prog 66 #[.slice ao n c] w fun e w' => e = .returned (.int .i64 (argTo (nth xs) n)) ∧ Below w.heap.size w w' := by
  have hcap := hx.cap
  go_enter Tryz.func66, Tryz.ntmps66
  go_wp2
  go_loopw [3, 4] (fun t i wr => ∃ k : Nat, 1 ≤ k ∧ k ≤ n ∧ i = .int .i64 k ∧ t = .int .i64 (argTo (nth xs) k) ∧ Below w.heap.size w wr) (fun _ i _ => n - (intOf i).toNat)
  case atStart => exact ⟨1, by omega, hn1, rfl, by show _ = Value.int .i64 ((if nth xs 0 < nth xs 0 then 0 else 0 : Nat) : Int); simp, Below.refl _ _⟩
  case round =>
    obtain ⟨k, hk1, hk, rfl, rfl, hB⟩ := hrel
    by_cases hlt : k < n
    · have ha := argTo_lt (nth xs) k (by omega)
      obtain ⟨q, HQ⟩ : ∃ q, Hid (argTo (nth xs) k = q) := ⟨_, rfl⟩
      rw [HQ.out] at ha
      rw [HQ.out]
      obtain ⟨b, off, rfl, hbs, hbs', hck⟩ := hx.at hB hlt
      obtain ⟨b2, off2, e2, _, _, hcq⟩ := hx.at hB (show q < n by omega)
      injection e2 with e2
      injection e2 with e3 e4
      subst e3 e4
      have HS : Hid (argTo (nth xs) (k + 1) = if nth xs q < nth xs k then k else q) := by rw [← HQ.out]; rfl
      have hk0 : (0 : Int) ≤ (k : Int) := by omega
      have hk1 : (k : Int) < (n : Int) := by omega
      have hq0 : (0 : Int) ≤ (q : Int) := by omega
      have hq1 : (q : Int) < (n : Int) := by omega
      by_cases hc : nth xs q < nth xs k
      all_goals
        go_wp2
        refine wp_region_ov (by kernel_rfl) (by kernel_rfl) ?_
        repeat (first | go_big_quiet_step ((fail)) | quiet_step ((fail)))
        refine wpQuiet_nil ?_
        intro _ hw_ov
        obtain ⟨x_ov, hw_ov2⟩ := hw_ov
        subst hw_ov2
        obtain ⟨w3, hw_ov3, hb3⟩ := ov_gen _ x_ov
        rw [hw_ov3]
        clear hw_ov3 x_ov
        have HB3 := hid (chain hB hb3)
        clear hb3
        go_wp2
        go_roundw
        case rel => first | exact ⟨k + 1, by omega, by omega, by go_num, by rw [HS.out]; first | rw [if_pos (by omega)] | rw [if_neg (by omega)], HB3.out⟩ | exact ⟨_, ⟨k + 1, by omega, by omega, by go_num, by rw [HS.out]; first | rw [if_pos (by omega)] | rw [if_neg (by omega)], HB3.out⟩, rfl⟩ | exact ⟨_, _, ⟨k + 1, by omega, by omega, by go_num, by rw [HS.out]; first | rw [if_pos (by omega)] | rw [if_neg (by omega)], HB3.out⟩, rfl, rfl⟩ | exact ⟨_, _, _, ⟨k + 1, by omega, by omega, by go_num, by rw [HS.out]; first | rw [if_pos (by omega)] | rw [if_neg (by omega)], HB3.out⟩, rfl, rfl, rfl⟩ | exact ⟨_, _, _, _, ⟨k + 1, by omega, by omega, by go_num, by rw [HS.out]; first | rw [if_pos (by omega)] | rw [if_neg (by omega)], HB3.out⟩, rfl, rfl, rfl, rfl⟩ | exact ⟨_, _, _, _, _, ⟨k + 1, by omega, by omega, by go_num, by rw [HS.out]; first | rw [if_pos (by omega)] | rw [if_neg (by omega)], HB3.out⟩, rfl, rfl, rfl, rfl, rfl⟩
        case measure => simp [intOf]; omega
    · have hkn : k = n := by omega
      subst hkn
      go_wp2
      go_ret
      exact ⟨rfl, hB⟩
set_option maxHeartbeats 1000000 in
theorem bestAct_any (ao : Option Addr) (n c : Nat) (vals : Nat → Value) (fid : FuncId) (caps : Array Value) (f : Nat → Int) (w : World) (hn : n ≤ 100000000)
    (hcf : ∀ (vs : Array Value) (w' : World), Sem.run Tryz.prog (callFunc fid vs) w' = .ok (.enter fid vs) w')
    (hel : ∀ k, k < n → ∃ b off, ao = some ⟨b, off, none⟩ ∧ b < w.heap.size ∧ w.cell? ⟨b, off + k, none⟩ = some (vals k))
    (hto : ∀ (k : Nat) (w' : World), k < n → Below w.heap.size w w' → Calls Tryz.prog fid (#[vals k] ++ caps) w' fun e w'' => e = .returned (.int .i64 (f k)) ∧ Below w'.heap.size w' w'') :
    Calls Tryz.prog 61 #[.slice ao n c, .func (.func fid) #[] caps] w fun e w' => e = .returned (.int .i64 (argTo f n)) ∧ Below w.heap.size w w' := by
  have HTO := hid hto; clear hto
  have HEL := hid hel; clear hel
  go_enter Tryz.func61, Tryz.ntmps61
  go_wp2
  go_loopw [5, 6, 7, 10] (fun t _ _ i wr => ∃ k : Nat, k ≤ n ∧ i = .int .i64 k ∧ t = .int .i64 (argTo f k) ∧ Below w.heap.size w wr) (fun _ _ _ i _ => n - (intOf i).toNat)
  case atStart => exact ⟨0, by omega, rfl, rfl, Below.refl _ _⟩
  case round =>
    obtain ⟨k, hk, rfl, rfl, hB⟩ := hrel
    by_cases hlt : k < n
    · have ha : argTo f k < n := by have := argTo_le f k; omega
      obtain ⟨q, HQ⟩ : ∃ q, Hid (argTo f k = q) := ⟨_, rfl⟩
      rw [HQ.out] at ha
      rw [HQ.out]
      obtain ⟨b, off, rfl, hbs, hck⟩ := HEL.out k hlt
      obtain ⟨b2, off2, e2, _, hcq⟩ := HEL.out q ha
      injection e2 with e2
      injection e2 with e3 e4
      subst e3 e4
      replace hck := (hB.cell (p := ⟨b, off + k, none⟩) hbs).trans hck
      replace hcq := (hB.cell (p := ⟨b, off + q, none⟩) hbs).trans hcq
      have hbs' : b < wr.heap.size := Nat.lt_of_lt_of_le hbs hB.size
      have HS : Hid (argTo f (k + 1) = if f q < f k then k else q) := by rw [← HQ.out]; rfl
      have hk0 : (0 : Int) ≤ (k : Int) := by omega
      have hk1 : (k : Int) < (n : Int) := by omega
      have hq0 : (0 : Int) ≤ (q : Int) := by omega
      have hq1 : (q : Int) < (n : Int) := by omega
      by_cases hc : f q < f k
      all_goals
        go_wp2
        refine wp_region_ov (by kernel_rfl) (by kernel_rfl) ?_
        repeat (first | go_big_quiet_step ((first | exact ov_call (HTO.out k _ hlt (hB.trans ((ov_below _ _).mono hB.size))) | exact ov_call (HTO.out q _ ha (hB.trans ((ov_below _ _).mono hB.size))))) | quiet_step ((first | exact ov_call (HTO.out k _ hlt (hB.trans ((ov_below _ _).mono hB.size))) | exact ov_call (HTO.out q _ ha (hB.trans ((ov_below _ _).mono hB.size))))))
        refine wpQuiet_nil ?_
        intro _ hw_ov
        obtain ⟨x_ov, hw_ov2⟩ := hw_ov
        subst hw_ov2
        obtain ⟨w3, hw_ov3, hb3⟩ := ov_gen _ x_ov
        rw [hw_ov3]
        clear hw_ov3 x_ov
        have HB3 := hid (chain hB hb3)
        clear hb3
        go_wp2
        go_roundw
        case rel => first | exact ⟨k + 1, by omega, by go_num, by rw [HS.out]; first | rw [if_pos (by omega)] | rw [if_neg (by omega)], HB3.out⟩ | exact ⟨_, ⟨k + 1, by omega, by go_num, by rw [HS.out]; first | rw [if_pos (by omega)] | rw [if_neg (by omega)], HB3.out⟩, rfl⟩ | exact ⟨_, _, ⟨k + 1, by omega, by go_num, by rw [HS.out]; first | rw [if_pos (by omega)] | rw [if_neg (by omega)], HB3.out⟩, rfl, rfl⟩ | exact ⟨_, _, _, ⟨k + 1, by omega, by go_num, by rw [HS.out]; first | rw [if_pos (by omega)] | rw [if_neg (by omega)], HB3.out⟩, rfl, rfl, rfl⟩ | exact ⟨_, _, _, _, ⟨k + 1, by omega, by go_num, by rw [HS.out]; first | rw [if_pos (by omega)] | rw [if_neg (by omega)], HB3.out⟩, rfl, rfl, rfl, rfl⟩ | exact ⟨_, _, _, _, _, ⟨k + 1, by omega, by go_num, by rw [HS.out]; first | rw [if_pos (by omega)] | rw [if_neg (by omega)], HB3.out⟩, rfl, rfl, rfl, rfl, rfl⟩
        case measure => simp [intOf]; omega
    · have hkn : k = n := by omega
      subst hkn
      go_wp2
      go_ret
      exact ⟨rfl, hB⟩
end Go.Proofs.YtefmlbahmakboaaGreatDoor
