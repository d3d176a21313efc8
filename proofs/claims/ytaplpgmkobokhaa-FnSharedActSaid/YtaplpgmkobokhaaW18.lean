/- The act between the safest and the boldest one: BetweenAct both. -/
import Derived.Test.YtaplpgmkobokhaaW11
set_option linter.unusedSimpArgs false
set_option linter.unusedVariables false
namespace Go.Proofs.Ytaplpgmkobokhaa
open Go.RowKit
/-- the score of an act between bounds -/
def betS (num den : Int) (xs gs : List Int) : Int := num * sumF 1000 xs gs xs.length + (den - num) * -(sumF 1000 xs (negTo gs gs.length) xs.length)
def betOk (s : Int) (xs : List Int) (acts : List (List Int)) (num den : Int) : Bool := actsOk s xs acts && (shareOk num den && decide (den ≤ 1000))
theorem mul_bd3 (p b : Int) (h0 : 0 ≤ p) (h1 : p ≤ 1000) (h2 : -32000000000 ≤ b) (h3 : b ≤ 32000000000) : -32000000000000 ≤ p * b ∧ p * b ≤ 32000000000000 := by
  have e1 : p * b ≤ p * 32000000000 := Int.mul_le_mul_of_nonneg_left h3 h0
  have e2 : p * (-32000000000) ≤ p * b := Int.mul_le_mul_of_nonneg_left h2 h0
  omega
theorem MG.lo_bd {s : Int} {n m : Nat} {xs gs : List Int} (h : MG s n m xs gs) : -32000000000 ≤ sumF 1000 xs gs n ∧ sumF 1000 xs gs n ≤ 32000000000 := by
  have h1 := sumF_bd 1000 (by omega) xs gs n h.xb (fun k hk => h.gb k (by rw [← h.glen]; exact hk)) n (Nat.le_refl _)
  have := h.n16; omega
theorem MG.hi_bd {s : Int} {n m : Nat} {xs gs : List Int} (h : MG s n m xs gs) : -32000000000 ≤ -(sumF 1000 xs (negTo gs m) n) ∧ -(sumF 1000 xs (negTo gs m) n) ≤ 32000000000 := by
  have h1 := sumF_bd 1000 (by omega) xs (negTo gs m) n h.xb (fun k hk => h.neg k (by rw [negTo_len] at hk; exact hk)) n (Nat.le_refl _)
  have := h.n16; omega
theorem shareOk_facts {num den : Int} (h : shareOk num den = true) : 0 ≤ num ∧ num ≤ den ∧ 1 ≤ den := by
  simp only [shareOk, fracOk, Bool.and_eq_true, inB_iff] at h; omega
set_option maxHeartbeats 1000000 in
theorem betClos_any (A B : Nat) (s num den : Int) (ao bo : Option Addr) (n c m d : Nat) (xs gs : List Int) (w : World) (hx : IntsAt w ao n xs) (hy : IntsAt w bo m gs) (hmg : MG s n m xs gs) (hf0 : 0 ≤ num) (hf1 : num ≤ den) (hf2 : den ≤ 1000)
    (ha0 : w.cell? ⟨A, 0, none⟩ = some (.int .i64 num)) (ha1 : w.cell? ⟨A, 1, none⟩ = some (.int .i64 den)) (hp0 : w.cell? ⟨B, 0, none⟩ = some (.int .i64 s)) (hp1 : w.cell? ⟨B, 1, none⟩ = some (.slice ao n c)) :
    Calls Try.prog 72 #[.slice bo m d, .pointer (some ⟨A, 0, none⟩), .pointer (some ⟨B, 0, none⟩)] w fun e w' => e = .returned (.int .i64 (betS num den xs gs)) ∧ Below w.heap.size w w' := by
  have HG := hid hmg
  clear hmg
  obtain ⟨lo, HLo⟩ : ∃ lo : Int, Hid (sumF 1000 xs gs n = lo) := ⟨_, rfl⟩
  obtain ⟨hi, HHi⟩ : ∃ hi : Int, Hid (-(sumF 1000 xs (negTo gs m) n) = hi) := ⟨_, rfl⟩
  have hlo := HG.out.lo_bd
  have hhi := HG.out.hi_bd
  rw [HLo.out] at hlo
  rw [HHi.out] at hhi
  have hm1 := mul_bd3 num lo hf0 (by omega) hlo.1 hlo.2
  have hm2 := mul_bd3 (den - num) hi (by omega) (by omega) hhi.1 hhi.2
  have HR : Hid (betS num den xs gs = num * lo + (den - num) * hi) := by show betS num den xs gs = _; unfold betS; rw [HG.out.glen, HG.out.xlen, HLo.out, HHi.out]
  have hm4 : m ≤ 29 := by have := HG.out.m4; omega
  have HC1 : Hid (∀ w', IntsAt w' ao n xs → IntsAt w' bo m gs → Calls Try.prog 56 #[.agg #[.int .i64 s, .slice ao n c], .slice bo m d] w' fun e' w'' => e' = .returned (.int .i64 lo) ∧ Below w'.heap.size w' w'') := fun w' h1 h2 => by
    rw [← HLo.out, ← HG.out.lo]; exact lowestSum_any s _ _ _ _ _ _ xs gs _ h1 h2 HG.out.n16 hm4 HG.out.xb HG.out.gb
  have HC2 : Hid (∀ w', IntsAt w' ao n xs → IntsAt w' bo m gs → Calls Try.prog 53 #[.agg #[.int .i64 s, .slice ao n c], .slice bo m d] w' fun e' w'' => e' = .returned (.int .i64 hi) ∧ Below w'.heap.size w' w'') := fun w' h1 h2 => by
    rw [← HHi.out, ← HG.out.hi]; exact highestSum_any s _ _ _ _ _ _ xs gs _ h1 h2 HG.out.n16 hm4 HG.out.xb HG.out.gb
  go_enter Try.func72, Try.ntmps72
  go_wp2
  refine wp_region_ov (by kernel_rfl) (by kernel_rfl) ?_
  repeat (first | go_big_quiet_step ((first | (go_at_call 56; (with_reducible exact ov_call (HC1.out _ (hx.below (ov_below _ _)) (hy.below (ov_below _ _))))) | (go_at_call 53; (with_reducible exact ov_call (HC2.out _ (hx.below (ov_below _ _)) (hy.below (ov_below _ _))))))) | quiet_step ((first | (go_at_call 56; (with_reducible exact ov_call (HC1.out _ (hx.below (ov_below _ _)) (hy.below (ov_below _ _))))) | (go_at_call 53; (with_reducible exact ov_call (HC2.out _ (hx.below (ov_below _ _)) (hy.below (ov_below _ _))))))))
  refine wpQuiet_nil ?_
  intro _ hw_ov
  obtain ⟨x_ov, hw_ov2⟩ := hw_ov
  subst hw_ov2
  obtain ⟨w3, hw_ov3, hb3⟩ := ov_gen _ x_ov
  rw [hw_ov3]
  clear hw_ov3 x_ov
  go_wp2
  go_ret
  exact ⟨ret_int (by rw [HR.out]), hb3⟩
theorem betClos_call (vs : Array Value) (w' : World) : Sem.run Try.prog (callFunc 72 vs) w' = .ok (.enter 72 vs) w' := by
  have h1 : (Try.f72.name == "runtime.NumGoroutine") = false := by kernel_rfl
  have h2 : Try.f72.body.isNone = false := by kernel_rfl
  have h1' : ¬ Try.f72.name = "runtime.NumGoroutine" := by simpa using h1
  have h2' : ¬ Try.f72.body = none := by intro e; rw [e] at h2; simp at h2
  simp only [callFunc, Sem.run_bind, run_program, Result.andThen_ok, Try.func72, beq_iff_eq, Option.isNone_iff_eq_none, if_neg h1', if_neg h2', Sem.run_pure]
theorem betOk_cases {s : Int} {xs : List Int} {acts : List (List Int)} {num den : Int} (h : betOk s xs acts num den = false) :
    actsOk s xs acts = false ∨ (actsOk s xs acts = true ∧ shareOk num den = false) ∨ (actsOk s xs acts = true ∧ shareOk num den = true ∧ 1000 < den) := by
  cases h1 : actsOk s xs acts
  · exact .inl rfl
  · cases h2 : shareOk num den
    · exact .inr (.inl ⟨rfl, rfl⟩)
    · refine .inr (.inr ⟨rfl, rfl, ?_⟩)
      simp [betOk, h1, h2] at h; omega
set_option maxHeartbeats 1000000 in
theorem BetweenAct_any (s num den : Int) (ao bo : Option Addr) (n c m d : Nat) (xs : List Int) (acts : List (List Int)) (w : World) (hx : IntsAt w ao n xs) (hy : RowsAt w bo m acts) :
    Calls Try.prog 30 #[.agg #[.int .i64 s, .slice ao n c], .slice bo m d, .agg #[.int .i64 num, .int .i64 den]] w fun e w' => e = .returned (.int .i64 (bestM (betOk s xs acts num den) (fun k => betS num den xs (nthL acts k)) m)) ∧ Below w.heap.size w w' := by
  have hBa : Below w.heap.size w ((w.alloc (.cells #[.int .i64 s, .slice ao n c] 25)).alloc (.cells #[.int .i64 num, .int .i64 den] 31)) := (below_alloc w _).alloc (by simp) _
  cases hOK : betOk s xs acts num den
  · rcases betOk_cases hOK with hA | ⟨hA, hS⟩ | ⟨hA, hS, hD⟩
    · go_enter Try.func30, Try.ntmps30
      go_wp2_with fail
      refine (areActs_any _ _ _ _ _ _ _ xs acts _ (hx.below hBa) (hy.below hBa)).mono ?_; rw [hA]; rintro e w1 ⟨rfl, hb1⟩
      have hB1 : Below w.heap.size w w1 := Below.trans (by (repeat (first | exact Below.refl _ _ | assumption | refine Below.alloc ?_ (by simp <;> omega) _ | refine Below.setCell ?_ (by simp <;> omega) _ | refine Below.drew ?_ | refine below_drewN ?_))) (hb1.mono (by simp <;> omega))
      clear hb1
      go_wp2
      go_ret
      exact ⟨rfl, hB1⟩
    all_goals
      go_enter Try.func30, Try.ntmps30
      go_wp2_with fail
      refine (areActs_any _ _ _ _ _ _ _ xs acts _ (hx.below hBa) (hy.below hBa)).mono ?_; rw [hA]; rintro e w1 ⟨rfl, hb1⟩
      have ha0 := keep hb1 (a := ⟨w.heap.size + 1, 0, none⟩) (v := .int .i64 num) (by simp)
      have ha1 := keep hb1 (a := ⟨w.heap.size + 1, 1, none⟩) (v := .int .i64 den) (by simp)
      have hB1 : Below w.heap.size w w1 := Below.trans (by (repeat (first | exact Below.refl _ _ | assumption | refine Below.alloc ?_ (by simp <;> omega) _ | refine Below.setCell ?_ (by simp <;> omega) _ | refine Below.drew ?_ | refine below_drewN ?_))) (hb1.mono (by simp <;> omega))
      clear hb1
      go_wp2_with fail
      refine (isShare_any _ _ _).mono ?_; rw [hS]; rintro e w2 ⟨rfl, hb2⟩
      replace ha0 := keep hb2 ha0
      replace ha1 := keep hb2 ha1
      have hB2 := chain hB1 hb2
      clear hb2
      go_wp2
      go_ret
      exact ⟨rfl, hB2⟩
  · have hOK2 := hOK
    simp only [betOk, Bool.and_eq_true, decide_eq_true_eq] at hOK2
    obtain ⟨hA, hS, hD⟩ := hOK2
    obtain ⟨hf0, hf1, hf2⟩ := shareOk_facts hS
    obtain ⟨hm, hz, ha1', ha8, hag⟩ := actsOk_facts hA
    have HAG := hid hag; clear hag
    have HZ := hid hz; clear hz
    have hyl := hid hy.len
    have hxl := hid hx.len
    obtain ⟨vals, hv⟩ := hy.vals
    have HV := hid hv; clear hv
    have hm8 : m ≤ 100000000 := by have := hyl.out; omega
    go_enter Try.func30, Try.ntmps30
    go_wp2_with fail
    refine (areActs_any _ _ _ _ _ _ _ xs acts _ (hx.below hBa) (hy.below hBa)).mono ?_; rw [hA]; rintro e w1 ⟨rfl, hb1⟩
    have hp0 := keep hb1 (a := ⟨w.heap.size, 0, none⟩) (v := .int .i64 s) (by simp)
    have hp1 := keep hb1 (a := ⟨w.heap.size, 1, none⟩) (v := .slice ao n c) (by simp)
    have ha0 := keep hb1 (a := ⟨w.heap.size + 1, 0, none⟩) (v := .int .i64 num) (by simp)
    have ha1 := keep hb1 (a := ⟨w.heap.size + 1, 1, none⟩) (v := .int .i64 den) (by simp)
    have hB1 : Below w.heap.size w w1 := Below.trans (by (repeat (first | exact Below.refl _ _ | assumption | refine Below.alloc ?_ (by simp <;> omega) _ | refine Below.setCell ?_ (by simp <;> omega) _ | refine Below.drew ?_ | refine below_drewN ?_))) (hb1.mono (by simp <;> omega))
    clear hb1
    go_wp2_with fail
    refine (isShare_any _ _ _).mono ?_; rw [hS]; rintro e w2 ⟨rfl, hb2⟩
    replace hp0 := keep hb2 hp0
    replace hp1 := keep hb2 hp1
    replace ha0 := keep hb2 ha0
    replace ha1 := keep hb2 ha1
    have hB2 := chain hB1 hb2
    clear hb2
    go_wp2_with fail
    refine (bestAct_any bo m d vals 72 #[.pointer (some ⟨w.heap.size + 1, 0, none⟩), .pointer (some ⟨w.heap.size, 0, none⟩)] (fun k => betS num den xs (nthL acts k)) _ hm8 betClos_call ?_ ?_).mono ?_
    · intro k hk
      obtain ⟨⟨b, off, e, hb, hc⟩, _⟩ := HV.out k hk
      exact ⟨b, off, e, Nat.lt_of_lt_of_le hb hB2.size, keep hB2 hc⟩
    · intro k w' hk hb'
      obtain ⟨_, a', n', c', e, hi⟩ := HV.out k hk
      have hmg : MG s n n' xs (nthL acts k) := mg_of hm HZ.out (HAG.out k (by rw [hyl.out]; exact hk)) hxl.out hi.len
      rw [e]
      exact betClos_any (w.heap.size + 1) w.heap.size s num den _ _ _ _ _ _ xs (nthL acts k) w' ((hx.below hB2).below hb') ((hi.below hB2).below hb') hmg hf0 hf1 hD (keep hb' ha0) (keep hb' ha1) (keep hb' hp0) (keep hb' hp1)
    rintro e w3 ⟨rfl, hb3⟩
    go_wp2
    go_ret
    exact ⟨rfl, chain hB2 hb3⟩
set_option maxHeartbeats 2000000 in
theorem specBetweenAct_any (s num den : Int) (ao bo : Option Addr) (n c m d : Nat) (xs : List Int) (acts : List (List Int)) (w : World) (hx : IntsAt w ao n xs) (hy : RowsAt w bo m acts) :
    Calls Try.prog 31 #[.agg #[.int .i64 s, .slice ao n c], .slice bo m d, .agg #[.int .i64 num, .int .i64 den]] w fun e w' => e = .returned (.int .i64 (bestM (betOk s xs acts num den) (fun k => betS num den xs (nthL acts k)) m)) ∧ Below w.heap.size w w' := by
  have hBa : Below w.heap.size w (((w.alloc (.cells #[.int .i64 s, .slice ao n c] 25)).alloc (.cells #[.int .i64 num, .int .i64 den] 31)).alloc (.cells #[] 3)) := ((below_alloc w _).alloc (by simp) _).alloc (by simp <;> omega) _
  cases hOK : betOk s xs acts num den
  · rcases betOk_cases hOK with hA | ⟨hA, hS⟩ | ⟨hA, hS, hD⟩
    · go_enter Try.func31, Try.ntmps31
      go_wp2_with fail
      refine (specActsValid_any _ _ _ _ _ _ _ xs acts _ (hx.below hBa) (hy.below hBa)).mono ?_; rw [hA]; rintro e w1 ⟨rfl, hb1⟩
      have hB1 : Below w.heap.size w w1 := Below.trans (by (repeat (first | exact Below.refl _ _ | assumption | refine Below.alloc ?_ (by simp <;> omega) _ | refine Below.setCell ?_ (by simp <;> omega) _ | refine Below.drew ?_ | refine below_drewN ?_))) (hb1.mono (by simp <;> omega))
      clear hb1
      go_wp2
      go_ret
      exact ⟨rfl, hB1⟩
    all_goals
      go_enter Try.func31, Try.ntmps31
      go_wp2_with fail
      refine (specActsValid_any _ _ _ _ _ _ _ xs acts _ (hx.below hBa) (hy.below hBa)).mono ?_; rw [hA]; rintro e w1 ⟨rfl, hb1⟩
      have ha0 := keep hb1 (a := ⟨w.heap.size + 1, 0, none⟩) (v := .int .i64 num) (by simp)
      have ha1 := keep hb1 (a := ⟨w.heap.size + 1, 1, none⟩) (v := .int .i64 den) (by simp)
      have hB1 : Below w.heap.size w w1 := Below.trans (by (repeat (first | exact Below.refl _ _ | assumption | refine Below.alloc ?_ (by simp <;> omega) _ | refine Below.setCell ?_ (by simp <;> omega) _ | refine Below.drew ?_ | refine below_drewN ?_))) (hb1.mono (by simp <;> omega))
      clear hb1
      go_wp2_with fail
      refine (l3Share_any _ _ _).mono ?_; rw [hS]; rintro e w2 ⟨rfl, hb2⟩
      replace ha0 := keep hb2 ha0
      replace ha1 := keep hb2 ha1
      have hB2 := chain hB1 hb2
      clear hb2
      go_wp2
      go_ret
      exact ⟨rfl, hB2⟩
  · have hOK2 := hOK
    simp only [betOk, Bool.and_eq_true, decide_eq_true_eq] at hOK2
    obtain ⟨hA, hS, hD⟩ := hOK2
    obtain ⟨hf0, hf1, hf2⟩ := shareOk_facts hS
    obtain ⟨hm, hz, ha1', ha8, hag⟩ := actsOk_facts hA
    have HAG := hid hag; clear hag
    have HZ := hid hz; clear hz
    have hyl := hid hy.len
    have hxl := hid hx.len
    have hcap := hy.cap
    have hm1 : 1 ≤ m := by have := hyl.out; omega
    have hm8 : m ≤ 8 := by have := hyl.out; omega
    obtain ⟨f, HF⟩ : ∃ f : Nat → Int, Hid (f = fun k => betS num den xs (nthL acts k)) := ⟨_, rfl⟩
    have HF2 : Hid (∀ k, f k = betS num den xs (nthL acts k)) := fun k => by rw [HF.out]
    rw [← HF.out]
    go_enter Try.func31, Try.ntmps31
    go_wp2_with fail
    refine (specActsValid_any _ _ _ _ _ _ _ xs acts _ (hx.below hBa) (hy.below hBa)).mono ?_; rw [hA]; rintro e w1 ⟨rfl, hb1⟩
    have hp0 := keep hb1 (a := ⟨w.heap.size, 0, none⟩) (v := .int .i64 s) (by simp)
    have hp1 := keep hb1 (a := ⟨w.heap.size, 1, none⟩) (v := .slice ao n c) (by simp)
    have ha0 := keep hb1 (a := ⟨w.heap.size + 1, 0, none⟩) (v := .int .i64 num) (by simp)
    have ha1 := keep hb1 (a := ⟨w.heap.size + 1, 1, none⟩) (v := .int .i64 den) (by simp)
    have hr1 : Row w1 (w.heap.size + 2) (.slice (some ⟨w.heap.size + 2, 0, none⟩) 0 0) (scTo f 0) := by
      refine Row.below ?_ hb1
      have : Row (((w.alloc (.cells #[.int .i64 s, .slice ao n c] 25)).alloc (.cells #[.int .i64 num, .int .i64 den] 31)).alloc (.cells #[] 3)) ((w.alloc (.cells #[.int .i64 s, .slice ao n c] 25)).alloc (.cells #[.int .i64 num, .int .i64 den] 31)).heap.size (.slice (some ⟨((w.alloc (.cells #[.int .i64 s, .slice ao n c] 25)).alloc (.cells #[.int .i64 num, .int .i64 den] 31)).heap.size, 0, none⟩) 0 0) [] := World.ownsRow_lit _ #[] 0 (Nat.le_refl _) (by unfold maxLen; omega) rfl
      simpa [scTo, iter] using this
    have hz1 : w.heap.size + 2 < w1.heap.size := by have := hb1.size; simp at this; omega
    have hB1 : Below w.heap.size w w1 := Below.trans (by (repeat (first | exact Below.refl _ _ | assumption | refine Below.alloc ?_ (by simp <;> omega) _ | refine Below.setCell ?_ (by simp <;> omega) _ | refine Below.drew ?_ | refine below_drewN ?_))) (hb1.mono (by simp <;> omega))
    clear hb1
    go_wp2_with fail
    refine (l3Share_any _ _ _).mono ?_; rw [hS]; rintro e w2 ⟨rfl, hb2⟩
    replace hp0 := keep hb2 hp0
    replace hp1 := keep hb2 hp1
    replace ha0 := keep hb2 ha0
    replace ha1 := keep hb2 ha1
    have hB2 := chain hB1 hb2
    have hr2 := hr1.below hb2
    have hz2 : w.heap.size + 2 < w2.heap.size := by have := hb2.size; omega
    clear hb2 hr1
    go_wp2
    go_loopw [7, 8] (fun o i wr => ∃ (k : Nat) (v : Value), k ≤ m ∧ i = .int .i64 k ∧ o = v ∧ Row wr (w.heap.size + 2) v (scTo f k) ∧ Below (w.heap.size + 2) w2 wr ∧ w2.heap.size ≤ wr.heap.size) (fun o i _ => m - (intOf i).toNat)
    case atStart => exact ⟨0, _, by omega, rfl, rfl, hr2, Below.refl _ _, Nat.le_refl _⟩
    case round =>
      obtain ⟨k, v, hk, rfl, rfl, hrow, hBr, hzr⟩ := hrel
      have hB : Below w.heap.size w wr := hB2.trans (hBr.mono (by omega))
      have hq0 := keepB hBr (by omega) hp0
      have hq1 := keepB hBr (by omega) hp1
      have hg0 := keepB hBr (by omega) ha0
      have hg1 := keepB hBr (by omega) ha1
      by_cases hlt : k < m
      · obtain ⟨b, off, a', n', c', rfl, hbs, hbs', hck, hi⟩ := hy.at hB hlt
        have hmg : MG s n n' xs (nthL acts k) := mg_of hm HZ.out (HAG.out k (by rw [hyl.out]; exact hlt)) hxl.out hi.len
        have HG := hid hmg; clear hmg
        have HLn := hid (scTo_len f k)
        obtain ⟨lo, HLo⟩ : ∃ lo : Int, Hid (sumF 1000 xs (nthL acts k) n = lo) := ⟨_, rfl⟩
        obtain ⟨hi2, HHi⟩ : ∃ hi : Int, Hid (-(sumF 1000 xs (negTo (nthL acts k) n') n) = hi) := ⟨_, rfl⟩
        have hlo := HG.out.lo_bd
        have hhi := HG.out.hi_bd
        rw [HLo.out] at hlo
        rw [HHi.out] at hhi
        have hmm1 := mul_bd3 num lo hf0 (by omega) hlo.1 hlo.2
        have hmm2 := mul_bd3 (den - num) hi2 (by omega) (by omega) hhi.1 hhi.2
        have HFK : Hid (num * lo + (den - num) * hi2 = f k) := by rw [HF2.out k]; unfold betS; rw [HG.out.glen, HG.out.xlen, HLo.out, HHi.out]; exact rfl
        have HC1 : Hid (∀ w', IntsAt w' ao n xs → IntsAt w' a' n' (nthL acts k) → Calls Try.prog 63 #[.agg #[.int .i64 s, .slice ao n c], .slice a' n' c'] w' fun e' w'' => e' = .returned (.int .i64 lo) ∧ Below w'.heap.size w' w'') := fun w' h1 h2 => by
          rw [← HLo.out]; exact l12Least_any s _ _ _ _ _ _ xs (nthL acts k) _ h1 h2 HG.out.n16 HG.out.n1 (by have := HG.out.m4; omega) HG.out.zero HG.out.xb HG.out.gb
        have HC2 : Hid (∀ w', IntsAt w' ao n xs → IntsAt w' a' n' (nthL acts k) → Calls Try.prog 65 #[.agg #[.int .i64 s, .slice ao n c], .slice a' n' c'] w' fun e' w'' => e' = .returned (.int .i64 hi2) ∧ Below w'.heap.size w' w'') := fun w' h1 h2 => by
          rw [← HHi.out]; exact l12Most_any s _ _ _ _ _ _ xs (nthL acts k) _ h1 h2 HG.out
        have hk0 : (0 : Int) ≤ (k : Int) := by omega
        have hk1 : (k : Int) < (m : Int) := by omega
        go_wp2
        refine wp_region_ov_tail1 23 _ _ (by kernel_rfl) (by kernel_rfl) rfl rfl rfl (fun _ _ _ _ _ h => h) ⟨_, rfl⟩ ?_
        simp only [List.take_succ_cons, List.take_zero, List.drop_succ_cons, List.drop_zero]
        repeat (first | go_big_quiet_step ((first | (go_at_call 63; (with_reducible exact ov_call (HC1.out _ ((hx.below hB).below (ov_below _ _)) (hi.below (ov_below _ _))))) | (go_at_call 65; (with_reducible exact ov_call (HC2.out _ ((hx.below hB).below (ov_below _ _)) (hi.below (ov_below _ _))))))) | quiet_step ((first | (go_at_call 63; (with_reducible exact ov_call (HC1.out _ ((hx.below hB).below (ov_below _ _)) (hi.below (ov_below _ _))))) | (go_at_call 65; (with_reducible exact ov_call (HC2.out _ ((hx.below hB).below (ov_below _ _)) (hi.below (ov_below _ _))))))))
        refine wpQuiet_nil ?_
        intro _ hw_ov
        obtain ⟨x_ov, hw_ov2⟩ := hw_ov
        subst hw_ov2
        obtain ⟨w3, hw_ov3, hb3⟩ := ov_gen _ x_ov
        rw [hw_ov3]
        clear hw_ov3 x_ov
        have hrow3 := hrow.below hb3
        have hz3 := hb3.size
        rw [HFK.out]
        go_wp2_with (at_builtin; refine wpList_append_int rfl _ _ rfl (w.heap.size + 2) _ _ k HLn.out (by rfl) (hrow3.below (below_alloc w3 _)) _ _ (f k) (by rfl) (by simp) (by omega) (by simp; omega) ?_; intro g' c' w' hrow' hgrow)
        have HB' := hid (below_grownBy (B := w.heap.size + 2) ((hBr.trans (hb3.mono (by omega))).alloc (by omega) _) (by simp; omega) hgrow (fun b e => (hrow3.block b e).1))
        have hz' : w2.heap.size ≤ w'.heap.size := by have := hgrow.size; simp at this; omega
        clear hgrow hrow hrow3 hB hBr hb3
        go_roundw
        case rel => first | exact ⟨k + 1, _, by omega, by go_num, rfl, hrow', HB'.out, hz'⟩ | exact ⟨_, ⟨k + 1, _, by omega, by go_num, rfl, hrow', HB'.out, hz'⟩, rfl⟩ | exact ⟨_, _, ⟨k + 1, _, by omega, by go_num, rfl, hrow', HB'.out, hz'⟩, rfl, rfl⟩ | exact ⟨_, _, _, ⟨k + 1, _, by omega, by go_num, rfl, hrow', HB'.out, hz'⟩, rfl, rfl, rfl⟩ | exact ⟨_, _, _, _, ⟨k + 1, _, by omega, by go_num, rfl, hrow', HB'.out, hz'⟩, rfl, rfl, rfl, rfl⟩ | exact ⟨_, _, _, _, _, ⟨k + 1, _, by omega, by go_num, rfl, hrow', HB'.out, hz'⟩, rfl, rfl, rfl, rfl, rfl⟩
        case measure => simp [intOf]; omega
      · have hkn : k = m := by omega
        subst hkn
        obtain ⟨ao', n', c', rfl, hi⟩ := hrow.ints
        have hn' : n' = k := by rw [← hi.len]; exact scTo_len f k
        subst hn'
        have HI := hid hi
        go_wp2_with fail
        refine (l12Best_any _ _ _ _ _ HI.out (by omega) hm1).mono ?_; rintro e w4 ⟨rfl, hb4⟩
        go_wp2
        go_ret
        exact ⟨by rw [arg_scTo]; rfl, chain hB hb4⟩
end Go.Proofs.Ytaplpgmkobokhaa
