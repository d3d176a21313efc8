/- The act of the shared chance: l12Shared, SharedAct both. -/
import Derived.Test.YtaplpgmkobokhaaW16
set_option linter.unusedSimpArgs false
set_option linter.unusedVariables false
namespace Go.Proofs.Ytaplpgmkobokhaa
open Go.RowKit
set_option maxHeartbeats 1000000 in
theorem l12Shared_any (s : Int) (ao bo : Option Addr) (n c m d : Nat) (xs gs : List Int) (w : World) (hx : IntsAt w ao n xs) (hy : IntsAt w bo m gs) (hmg : MG s n m xs gs) :
    Calls Try.prog 75 #[.agg #[.int .i64 s, .slice ao n c], .slice bo m d] w fun e w' => e = .returned (.int .i64 (shTo xs gs m)) ∧ Below w.heap.size w w' := by
    have hB1 := below_alloc w (.cells #[.int .i64 s, .slice ao n c] 25)
    have HG := hid hmg
    have hn16 := HG.out.n16
    have hn1 := HG.out.n1
    have hm4 := HG.out.m4
    clear hmg
    obtain ⟨W, HW⟩ : ∃ W, Hid (w.alloc (.cells #[.int .i64 s, .slice ao n c] 25) = W) := ⟨_, rfl⟩
    have hp0 : W.cell? ⟨w.heap.size, 0, none⟩ = some (.int .i64 s) := by rw [← HW.out]; simp
    have hp1 : W.cell? ⟨w.heap.size, 1, none⟩ = some (.slice ao n c) := by rw [← HW.out]; simp
    rw [HW.out] at hB1
    go_enter Try.func75, Try.ntmps75
    go_wp2
    rw [HW.out]
    go_loopw [5, 6] (fun t i wr => ∃ k : Nat, k ≤ m ∧ i = .int .i64 k ∧ t = .int .i64 (shTo xs gs k) ∧ Below W.heap.size W wr) (fun _ i _ => m - (intOf i).toNat)
    case atStart => exact ⟨0, by omega, rfl, rfl, Below.refl _ _⟩
    case round =>
      obtain ⟨k, hk, rfl, rfl, hBr⟩ := hrel
      have hB := chain hB1 hBr
      have hq0 := keep hBr hp0
      have hq1 := keep hBr hp1
      by_cases hlt : k < m
      · obtain ⟨b, off, rfl, hbs, hbs', hck⟩ := hy.at hB hlt
        have hg := HG.out.gb1 k hlt
        have hs := shTo_bd HG.out k hk
        have hsl := shl_nat k (by omega)
        have hpw := pow_lt16 k (by omega)
        have HN : Hid (shTo xs gs (k + 1) = shTo xs gs k + nth gs k * evenTo xs (2 ^ k) n) := by show shTo xs gs k + nth gs k * evenTo xs (2 ^ k) xs.length = _; rw [HG.out.xlen]
        have HEV : Hid (0 ≤ evenTo xs (2 ^ k) n ∧ evenTo xs (2 ^ k) n ≤ 48000000 * (n : Int)) := evenTo_bd xs (2 ^ k) n hn16 HG.out.xb n (Nat.le_refl _)
        obtain ⟨p, HP⟩ : ∃ p : Nat, Hid (2 ^ k = p) := ⟨_, rfl⟩
        rw [HP.out] at hpw hsl
        obtain ⟨e, HE⟩ : ∃ e : Int, Hid (evenTo xs p n = e) := ⟨_, rfl⟩
        have he0 : 0 ≤ e := by rw [← HE.out, ← HP.out]; exact HEV.out.1
        have he1 : e ≤ 768000000 := by rw [← HE.out, ← HP.out]; have := HEV.out.2; omega
        have hmul := mul_bd2 (nth gs k) e hg.1 hg.2 he0 he1
        have HCE : Hid (∀ w', IntsAt w' ao n xs → Calls Try.prog 42 #[.agg #[.int .i64 s, .slice ao n c], .int .i64 (p : Int)] w' fun e' w'' => e' = .returned (.int .i64 e) ∧ Below w'.heap.size w' w'') := fun w' hx' => by rw [← HE.out]; exact l4Even_any s _ _ _ p xs _ hx' hn16 hn1 hpw HG.out.xb
        have hk0 : (0 : Int) ≤ (k : Int) := by omega
        have hkn : (k : Int) < (m : Int) := by omega
        have hk4 : (k : Int) < 4 := by omega
        go_wp2
        refine wp_region_ov (by kernel_rfl) (by kernel_rfl) ?_
        repeat (first | go_big_quiet_step ((go_at_call 42; (with_reducible exact ov_call (HCE.out _ ((hx.below hB).below (ov_below _ _)))))) | quiet_step ((go_at_call 42; (with_reducible exact ov_call (HCE.out _ ((hx.below hB).below (ov_below _ _)))))))
        refine wpQuiet_nil ?_
        intro _ hw_ov
        obtain ⟨x_ov, hw_ov2⟩ := hw_ov
        subst hw_ov2
        obtain ⟨w3, hw_ov3, hb3⟩ := ov_gen _ x_ov
        rw [hw_ov3]
        clear hw_ov3 x_ov
        have HB3 := hid (chain hBr hb3)
        clear hb3
        go_wp2
        go_roundw
        case rel => first | exact ⟨k + 1, by omega, by go_num, by rw [HN.out, HP.out, HE.out], HB3.out⟩ | exact ⟨_, ⟨k + 1, by omega, by go_num, by rw [HN.out, HP.out, HE.out], HB3.out⟩, rfl⟩ | exact ⟨_, _, ⟨k + 1, by omega, by go_num, by rw [HN.out, HP.out, HE.out], HB3.out⟩, rfl, rfl⟩ | exact ⟨_, _, _, ⟨k + 1, by omega, by go_num, by rw [HN.out, HP.out, HE.out], HB3.out⟩, rfl, rfl, rfl⟩ | exact ⟨_, _, _, _, ⟨k + 1, by omega, by go_num, by rw [HN.out, HP.out, HE.out], HB3.out⟩, rfl, rfl, rfl, rfl⟩ | exact ⟨_, _, _, _, _, ⟨k + 1, by omega, by go_num, by rw [HN.out, HP.out, HE.out], HB3.out⟩, rfl, rfl, rfl, rfl, rfl⟩
        case measure => simp [intOf]; omega
      · have hkn : k = m := by omega
        have HK := hid hkn
        clear hkn
        go_wp2
        go_ret
        exact ⟨ret_int (by rw [← HK.out]), hB⟩
set_option maxHeartbeats 1000000 in
theorem sharedClos_any (B : Nat) (s : Int) (ao bo : Option Addr) (n c m d : Nat) (xs gs : List Int) (w : World) (hx : IntsAt w ao n xs) (hy : IntsAt w bo m gs) (hmg : MG s n m xs gs) (hp0 : w.cell? ⟨B, 0, none⟩ = some (.int .i64 s)) (hp1 : w.cell? ⟨B, 1, none⟩ = some (.slice ao n c)) :
    Calls Try.prog 74 #[.slice bo m d, .pointer (some ⟨B, 0, none⟩)] w fun e w' => e = .returned (.int .i64 (shTo xs gs m)) ∧ Below w.heap.size w w' := by
    have hB1 := Below.refl w.heap.size w
    have HG := hid hmg
    have hn16 := HG.out.n16
    have hn1 := HG.out.n1
    have hm4 := HG.out.m4
    clear hmg
    go_enter Try.func74, Try.ntmps74
    go_wp2
    go_loopw [4, 5, 6, 9] (fun t _ _ i wr => ∃ k : Nat, k ≤ m ∧ i = .int .i64 k ∧ t = .int .i64 (shTo xs gs k) ∧ Below w.heap.size w wr) (fun _ _ _ i _ => m - (intOf i).toNat)
    case atStart => exact ⟨0, by omega, rfl, rfl, Below.refl _ _⟩
    case round =>
      obtain ⟨k, hk, rfl, rfl, hBr⟩ := hrel
      have hB := chain hB1 hBr
      have hq0 := keep hBr hp0
      have hq1 := keep hBr hp1
      by_cases hlt : k < m
      · obtain ⟨b, off, rfl, hbs, hbs', hck⟩ := hy.at hB hlt
        have hg := HG.out.gb1 k hlt
        have hs := shTo_bd HG.out k hk
        have hsl := shl_nat k (by omega)
        have hpw := pow_lt16 k (by omega)
        have HN : Hid (shTo xs gs (k + 1) = shTo xs gs k + nth gs k * evenTo xs (2 ^ k) n) := by show shTo xs gs k + nth gs k * evenTo xs (2 ^ k) xs.length = _; rw [HG.out.xlen]
        have HEV : Hid (0 ≤ evenTo xs (2 ^ k) n ∧ evenTo xs (2 ^ k) n ≤ 48000000 * (n : Int)) := evenTo_bd xs (2 ^ k) n hn16 HG.out.xb n (Nat.le_refl _)
        obtain ⟨p, HP⟩ : ∃ p : Nat, Hid (2 ^ k = p) := ⟨_, rfl⟩
        rw [HP.out] at hpw hsl
        obtain ⟨e, HE⟩ : ∃ e : Int, Hid (evenTo xs p n = e) := ⟨_, rfl⟩
        have he0 : 0 ≤ e := by rw [← HE.out, ← HP.out]; exact HEV.out.1
        have he1 : e ≤ 768000000 := by rw [← HE.out, ← HP.out]; have := HEV.out.2; omega
        have hmul := mul_bd2 (nth gs k) e hg.1 hg.2 he0 he1
        have HCE : Hid (∀ w', IntsAt w' ao n xs → Calls Try.prog 39 #[.agg #[.int .i64 s, .slice ao n c], .int .i64 (p : Int)] w' fun e' w'' => e' = .returned (.int .i64 e) ∧ Below w'.heap.size w' w'') := fun w' hx' => by rw [← HE.out]; exact sharedPart_any s _ _ _ p xs _ hx' hn16 hpw HG.out.xb
        have hk0 : (0 : Int) ≤ (k : Int) := by omega
        have hkn : (k : Int) < (m : Int) := by omega
        have hk4 : (k : Int) < 4 := by omega
        go_wp2
        refine wp_region_ov (by kernel_rfl) (by kernel_rfl) ?_
        repeat (first | go_big_quiet_step ((go_at_call 39; (with_reducible exact ov_call (HCE.out _ ((hx.below hB).below (ov_below _ _)))))) | quiet_step ((go_at_call 39; (with_reducible exact ov_call (HCE.out _ ((hx.below hB).below (ov_below _ _)))))))
        refine wpQuiet_nil ?_
        intro _ hw_ov
        obtain ⟨x_ov, hw_ov2⟩ := hw_ov
        subst hw_ov2
        obtain ⟨w3, hw_ov3, hb3⟩ := ov_gen _ x_ov
        rw [hw_ov3]
        clear hw_ov3 x_ov
        have HB3 := hid (chain hBr hb3)
        clear hb3
        go_wp2
        go_roundw
        case rel => first | exact ⟨k + 1, by omega, by go_num, by rw [HN.out, HP.out, HE.out], HB3.out⟩ | exact ⟨_, ⟨k + 1, by omega, by go_num, by rw [HN.out, HP.out, HE.out], HB3.out⟩, rfl⟩ | exact ⟨_, _, ⟨k + 1, by omega, by go_num, by rw [HN.out, HP.out, HE.out], HB3.out⟩, rfl, rfl⟩ | exact ⟨_, _, _, ⟨k + 1, by omega, by go_num, by rw [HN.out, HP.out, HE.out], HB3.out⟩, rfl, rfl, rfl⟩ | exact ⟨_, _, _, _, ⟨k + 1, by omega, by go_num, by rw [HN.out, HP.out, HE.out], HB3.out⟩, rfl, rfl, rfl, rfl⟩ | exact ⟨_, _, _, _, _, ⟨k + 1, by omega, by go_num, by rw [HN.out, HP.out, HE.out], HB3.out⟩, rfl, rfl, rfl, rfl, rfl⟩
        case measure => simp [intOf]; omega
      · have hkn : k = m := by omega
        have HK := hid hkn
        clear hkn
        go_wp2
        go_ret
        exact ⟨ret_int (by rw [← HK.out]), hB⟩
theorem sharedClos_call (vs : Array Value) (w' : World) : Sem.run Try.prog (callFunc 74 vs) w' = .ok (.enter 74 vs) w' := by
  have h1 : (Try.f74.name == "runtime.NumGoroutine") = false := by kernel_rfl
  have h2 : Try.f74.body.isNone = false := by kernel_rfl
  have h1' : ¬ Try.f74.name = "runtime.NumGoroutine" := by simpa using h1
  have h2' : ¬ Try.f74.body = none := by intro e; rw [e] at h2; simp at h2
  simp only [callFunc, Sem.run_bind, run_program, Result.andThen_ok, Try.func74, beq_iff_eq, Option.isNone_iff_eq_none, if_neg h1', if_neg h2', Sem.run_pure]
set_option maxHeartbeats 1000000 in
theorem SharedAct_any (s : Int) (ao bo : Option Addr) (n c m d : Nat) (xs : List Int) (acts : List (List Int)) (w : World) (hx : IntsAt w ao n xs) (hy : RowsAt w bo m acts) :
    Calls Try.prog 33 #[.agg #[.int .i64 s, .slice ao n c], .slice bo m d] w fun e w' => e = .returned (.int .i64 (bestM (actsOk s xs acts) (fun k => shTo xs (nthL acts k) (nthL acts k).length) m)) ∧ Below w.heap.size w w' := by
  have hBa := below_alloc w (.cells #[.int .i64 s, .slice ao n c] 25)
  cases hA : actsOk s xs acts
  · go_enter Try.func33, Try.ntmps33
    go_wp2_with fail
    refine (areActs_any _ _ _ _ _ _ _ xs acts _ (hx.below hBa) (hy.below hBa)).mono ?_; rw [hA]; rintro e w1 ⟨rfl, hb1⟩
    obtain ⟨_, _, hB1⟩ := box2 hb1
    clear hb1
    go_wp2
    go_ret
    exact ⟨rfl, hB1⟩
  · obtain ⟨hm, hz, ha1, ha8, hag⟩ := actsOk_facts hA
    have HAG := hid hag; clear hag
    have HZ := hid hz; clear hz
    have hyl := hid hy.len
    have hxl := hid hx.len
    obtain ⟨vals, hv⟩ := hy.vals
    have HV := hid hv; clear hv
    have hm8 : m ≤ 100000000 := by have := hyl.out; omega
    go_enter Try.func33, Try.ntmps33
    go_wp2_with fail
    refine (areActs_any _ _ _ _ _ _ _ xs acts _ (hx.below hBa) (hy.below hBa)).mono ?_; rw [hA]; rintro e w1 ⟨rfl, hb1⟩
    obtain ⟨hp0, hp1, hB1⟩ := box2 hb1
    clear hb1
    go_wp2_with fail
    refine (bestAct_any bo m d vals 74 #[.pointer (some ⟨w.heap.size, 0, none⟩)] (fun k => shTo xs (nthL acts k) (nthL acts k).length) _ hm8 sharedClos_call ?_ ?_).mono ?_
    · intro k hk
      obtain ⟨⟨b, off, e, hb, hc⟩, _⟩ := HV.out k hk
      exact ⟨b, off, e, Nat.lt_of_lt_of_le hb hB1.size, keep hB1 hc⟩
    · intro k w' hk hb'
      obtain ⟨_, a', n', c', e, hi⟩ := HV.out k hk
      have hmg : MG s n n' xs (nthL acts k) := mg_of hm HZ.out (HAG.out k (by rw [hyl.out]; exact hk)) hxl.out hi.len
      rw [e]
      refine (sharedClos_any w.heap.size s _ _ _ _ _ _ xs (nthL acts k) w' ((hx.below hB1).below hb') ((hi.below hB1).below hb') hmg (keep hb' hp0) (keep hb' hp1)).mono ?_
      rintro e w'' ⟨rfl, hb''⟩
      refine ⟨ret_int ?_, hb''⟩
      rw [hmg.glen]
    rintro e w2 ⟨rfl, hb2⟩
    go_wp2
    go_ret
    exact ⟨rfl, chain hB1 hb2⟩
set_option maxHeartbeats 2000000 in
theorem specSharedAct_any (s : Int) (ao bo : Option Addr) (n c m d : Nat) (xs : List Int) (acts : List (List Int)) (w : World) (hx : IntsAt w ao n xs) (hy : RowsAt w bo m acts) :
    Calls Try.prog 34 #[.agg #[.int .i64 s, .slice ao n c], .slice bo m d] w fun e w' => e = .returned (.int .i64 (bestM (actsOk s xs acts) (fun k => shTo xs (nthL acts k) (nthL acts k).length) m)) ∧ Below w.heap.size w w' := by
  have hBa : Below w.heap.size w ((w.alloc (.cells #[.int .i64 s, .slice ao n c] 25)).alloc (.cells #[] 3)) := (below_alloc w _).alloc (by simp) _
  cases hA : actsOk s xs acts
  · go_enter Try.func34, Try.ntmps34
    go_wp2_with fail
    refine (specActsValid_any _ _ _ _ _ _ _ xs acts _ (hx.below (by (repeat (first | exact Below.refl _ _ | assumption | refine Below.alloc ?_ (by simp <;> omega) _ | refine Below.setCell ?_ (by simp <;> omega) _ | refine Below.drew ?_ | refine below_drewN ?_)))) (hy.below (by (repeat (first | exact Below.refl _ _ | assumption | refine Below.alloc ?_ (by simp <;> omega) _ | refine Below.setCell ?_ (by simp <;> omega) _ | refine Below.drew ?_ | refine below_drewN ?_))))).mono ?_; rw [hA]; rintro e w1 ⟨rfl, hb1⟩
    have hB1 : Below w.heap.size w w1 := Below.trans (by (repeat (first | exact Below.refl _ _ | assumption | refine Below.alloc ?_ (by simp <;> omega) _ | refine Below.setCell ?_ (by simp <;> omega) _ | refine Below.drew ?_ | refine below_drewN ?_))) (hb1.mono (by simp <;> omega))
    clear hb1
    go_wp2
    go_ret
    exact ⟨rfl, hB1⟩
  · obtain ⟨hm, hz, ha1, ha8, hag⟩ := actsOk_facts hA
    have HAG := hid hag; clear hag
    have HZ := hid hz; clear hz
    have hyl := hid hy.len
    have hxl := hid hx.len
    have hcap := hy.cap
    have hm1 : 1 ≤ m := by have := hyl.out; omega
    have hm8 : m ≤ 8 := by have := hyl.out; omega
    obtain ⟨f, HF⟩ : ∃ f : Nat → Int, Hid (f = fun k => shTo xs (nthL acts k) (nthL acts k).length) := ⟨_, rfl⟩
    have HF2 : Hid (∀ k, f k = shTo xs (nthL acts k) (nthL acts k).length) := fun k => by rw [HF.out]
    rw [← HF.out]
    go_enter Try.func34, Try.ntmps34
    go_wp2_with fail
    refine (specActsValid_any _ _ _ _ _ _ _ xs acts _ (hx.below (by (repeat (first | exact Below.refl _ _ | assumption | refine Below.alloc ?_ (by simp <;> omega) _ | refine Below.setCell ?_ (by simp <;> omega) _ | refine Below.drew ?_ | refine below_drewN ?_)))) (hy.below (by (repeat (first | exact Below.refl _ _ | assumption | refine Below.alloc ?_ (by simp <;> omega) _ | refine Below.setCell ?_ (by simp <;> omega) _ | refine Below.drew ?_ | refine below_drewN ?_))))).mono ?_; rw [hA]; rintro e w1 ⟨rfl, hb1⟩
    have hp0 := keep hb1 (a := ⟨w.heap.size, 0, none⟩) (v := .int .i64 s) (by simp)
    have hp1 := keep hb1 (a := ⟨w.heap.size, 1, none⟩) (v := .slice ao n c) (by simp)
    have hr1 : Row w1 (w.heap.size + 1) (.slice (some ⟨w.heap.size + 1, 0, none⟩) 0 0) (scTo f 0) := by
      refine Row.below ?_ hb1
      have : Row ((w.alloc (.cells #[.int .i64 s, .slice ao n c] 25)).alloc (.cells #[] 3)) (w.alloc (.cells #[.int .i64 s, .slice ao n c] 25)).heap.size (.slice (some ⟨(w.alloc (.cells #[.int .i64 s, .slice ao n c] 25)).heap.size, 0, none⟩) 0 0) [] := World.ownsRow_lit _ #[] 0 (Nat.le_refl _) (by unfold maxLen; omega) rfl
      simpa [scTo, iter] using this
    have hz1 : w.heap.size + 1 < w1.heap.size := by have := hb1.size; simp at this; omega
    have hB1 : Below w.heap.size w w1 := Below.trans (by (repeat (first | exact Below.refl _ _ | assumption | refine Below.alloc ?_ (by simp <;> omega) _ | refine Below.setCell ?_ (by simp <;> omega) _ | refine Below.drew ?_ | refine below_drewN ?_))) (hb1.mono (by simp <;> omega))
    clear hb1
    go_wp2
    go_loopw [5, 6] (fun o i wr => ∃ (k : Nat) (v : Value), k ≤ m ∧ i = .int .i64 k ∧ o = v ∧ Row wr (w.heap.size + 1) v (scTo f k) ∧ Below (w.heap.size + 1) w1 wr ∧ w1.heap.size ≤ wr.heap.size) (fun o i _ => m - (intOf i).toNat)
    case atStart => exact ⟨0, _, by omega, rfl, rfl, hr1, Below.refl _ _, Nat.le_refl _⟩
    case round =>
      obtain ⟨k, v, hk, rfl, rfl, hrow, hBr, hzr⟩ := hrel
      have hB : Below w.heap.size w wr := hB1.trans (hBr.mono (by omega))
      have hq0 := keepB hBr (by omega) hp0
      have hq1 := keepB hBr (by omega) hp1
      by_cases hlt : k < m
      · obtain ⟨b, off, a', n', c', rfl, hbs, hbs', hck, hi⟩ := hy.at hB hlt
        have hmg : MG s n n' xs (nthL acts k) := mg_of hm HZ.out (HAG.out k (by rw [hyl.out]; exact hlt)) hxl.out hi.len
        have HMG := hid hmg; clear hmg
        have HLn := hid (scTo_len f k)
        have HFK : Hid (shTo xs (nthL acts k) n' = f k) := by rw [HF2.out k]; rw [HMG.out.glen]; exact rfl
        have hk0 : (0 : Int) ≤ (k : Int) := by omega
        have hk1 : (k : Int) < (m : Int) := by omega
        go_wp2
        refine wp_region_ov_tail1 7 _ _ (by kernel_rfl) (by kernel_rfl) rfl rfl rfl (fun _ _ _ _ _ h => h) ⟨_, rfl⟩ ?_
        simp only [List.take_succ_cons, List.take_zero, List.drop_succ_cons, List.drop_zero]
        repeat (first | go_big_quiet_step ((go_at_call 75; exact ov_call (l12Shared_any s _ _ _ _ _ _ xs (nthL acts k) _ ((hx.below hB).below (ov_below _ _)) (hi.below (ov_below _ _)) HMG.out))) | quiet_step ((go_at_call 75; exact ov_call (l12Shared_any s _ _ _ _ _ _ xs (nthL acts k) _ ((hx.below hB).below (ov_below _ _)) (hi.below (ov_below _ _)) HMG.out))))
        refine wpQuiet_nil ?_
        intro _ hw_ov
        obtain ⟨x_ov, hw_ov2⟩ := hw_ov
        subst hw_ov2
        obtain ⟨w3, hw_ov3, hb3⟩ := ov_gen _ x_ov
        rw [hw_ov3]
        clear hw_ov3 x_ov
        have hrow3 := hrow.below hb3
        rw [HFK.out]
        have hz3 := hb3.size
        go_wp2_with (at_builtin; refine wpList_append_int rfl _ _ rfl (w.heap.size + 1) _ _ k HLn.out (by rfl) (hrow3.below (below_alloc w3 _)) _ _ (f k) (by rfl) (by simp) (by omega) (by simp; omega) ?_; intro g' c' w' hrow' hgrow)
        have HB' := hid (below_grownBy (B := w.heap.size + 1) ((hBr.trans (hb3.mono (by omega))).alloc (by omega) _) (by simp; omega) hgrow (fun b e => (hrow3.block b e).1))
        have hz' : w1.heap.size ≤ w'.heap.size := by have := hgrow.size; simp at this; omega
        clear hgrow hrow hrow3 hB hBr hb3
        go_roundw
        case rel => first | exact ⟨k + 1, _, by omega, by go_num, rfl, hrow', HB'.out, hz'⟩ | exact ⟨_, ⟨k + 1, _, by omega, by go_num, rfl, hrow', HB'.out, hz'⟩, rfl⟩ | exact ⟨_, _, ⟨k + 1, _, by omega, by go_num, rfl, hrow', HB'.out, hz'⟩, rfl, rfl⟩ | exact ⟨_, _, _, ⟨k + 1, _, by omega, by go_num, rfl, hrow', HB'.out, hz'⟩, rfl, rfl, rfl⟩ | exact ⟨_, _, _, _, ⟨k + 1, _, by omega, by go_num, rfl, hrow', HB'.out, hz'⟩, rfl, rfl, rfl, rfl⟩ | exact ⟨_, _, _, _, _, ⟨k + 1, _, by omega, by go_num, rfl, hrow', HB'.out, hz'⟩, rfl, rfl, rfl, rfl, rfl⟩
        case measure => simp [intOf]; omega
      · have hkn : k = m := by omega
        subst hkn
        obtain ⟨ao', n', c', rfl, hi⟩ := hrow.ints
        have hn' : n' = k := by rw [← hi.len]; exact scTo_len f k
        subst hn'
        have HI := hid hi
        go_wp2_with fail
        refine (l12Best_any _ _ _ _ _ HI.out (by omega) hm1).mono ?_; rintro e w4 ⟨rfl, hb4⟩
        go_wp2
        go_ret
        exact ⟨by rw [arg_scTo]; rfl, chain hB hb4⟩
end Go.Proofs.Ytaplpgmkobokhaa
