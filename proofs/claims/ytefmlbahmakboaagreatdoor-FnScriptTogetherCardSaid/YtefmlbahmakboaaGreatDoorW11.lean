/- The safest and the boldest act: SafestAct, BoldestAct both. -/
import Derived.Test.YtefmlbahmakboaaGreatDoorW10
import Derived.Test.YtefmlbahmakboaaGreatDoorS2
set_option linter.unusedSimpArgs false
set_option linter.unusedVariables false
namespace Go.Proofs.YtefmlbahmakboaaGreatDoor
open Go.RowKit
/-- the best of so many acts by their scores, -1 if they are not valid -/
def bestM (ok : Bool) (f : Nat → Int) (n : Nat) : Int := if ok then (argTo f n : Int) else -1
/-- the scores of the first k acts -/
def scTo (f : Nat → Int) (k : Nat) : List Int := iter (fun j l => l ++ [f j]) [] k
theorem scTo_len (f : Nat → Int) (k : Nat) : (scTo f k).length = k := by
  induction k with
  | zero => rfl
  | succ k ih => show (scTo f k ++ [_]).length = _; rw [List.length_append, ih]; rfl
theorem scTo_nth (f : Nat → Int) (k j : Nat) (h : j < k) : nth (scTo f k) j = f j := by
  induction k with
  | zero => omega
  | succ k ih =>
    show nth (scTo f k ++ [f k]) j = _
    by_cases e : j < k
    · rw [nth_append_left _ _ _ (by rw [scTo_len]; exact e)]; exact ih e
    · have e2 : j = k := by omega
      subst e2
      have hl := scTo_len f j
      rw [nth_eq _ _ (by simp [hl])]
      simp [hl]
theorem arg_scTo (f : Nat → Int) (n : Nat) : argTo (nth (scTo f n)) n = argTo f n := argTo_congr _ _ _ fun k hk => scTo_nth f n k hk
theorem actsOk_facts {s : Int} {xs : List Int} {acts : List (List Int)} (h : actsOk s xs acts = true) :
    massOk s xs = true ∧ nth xs 0 = 0 ∧ 1 ≤ acts.length ∧ acts.length ≤ 8 ∧ ∀ k, k < acts.length → gainsOk s (nthL acts k) = true := by
  simp only [actsOk, Bool.and_eq_true] at h
  obtain ⟨h1, h2, h3⟩ := h
  have h4 := normalOk_facts h1
  have h5 := inB_iff.1 h2
  exact ⟨h4.1, h4.2, by omega, by omega, (allN_iff _ _).1 h3⟩
/-- what is known of a mass and gains for it -/
structure MG (s : Int) (n m : Nat) (xs gs : List Int) : Prop where
  n16 : n ≤ 16
  n1 : 1 ≤ n
  m4 : m ≤ 4
  m1 : 1 ≤ m
  pow : n = 2 ^ m
  xlen : xs.length = n
  glen : gs.length = m
  zero : nth xs 0 = 0
  xb : ∀ k, k < n → 0 ≤ nth xs k ∧ nth xs k ≤ 1000000
  gb : ∀ k, k < m → inG (nth gs k)
  gb1 : ∀ k, k < m → -1000 ≤ nth gs k ∧ nth gs k ≤ 1000
theorem mg_of {s : Int} {xs gs : List Int} {n m : Nat} (hm : massOk s xs = true) (h0 : nth xs 0 = 0) (hg : gainsOk s gs = true) (hn : xs.length = n) (hl : gs.length = m) : MG s n m xs gs := by
  obtain ⟨hsz, hlen, h16, hbd, _, _, _⟩ := massOk_facts' hm
  obtain ⟨hgl, hgb⟩ := gainsOk_facts hg
  have hs4 := okSize_iff.1 hsz
  have hsn := nsets_le hsz
  have hst : s.toNat = m := by omega
  refine ⟨by omega, by omega, by omega, by omega, ?_, hn, hl, h0, fun k hk => hbd k (by omega), fun k hk => ?_, fun k hk => hgb k (by omega)⟩
  · rw [← hn, hlen, ← hst]; rfl
  · have := hgb k (by omega); unfold inG; omega
theorem MG.lo {s : Int} {n m : Nat} {xs gs : List Int} (h : MG s n m xs gs) : gainSum min xs gs = sumF 1000 xs gs n := by
  show gainTo min xs gs xs.length = _
  rw [h.xlen]
  exact gain_minF 1000 xs gs h.zero (fun k hk => (h.gb1 k (by rw [← h.glen]; exact hk)).2) n (by rw [h.glen, ← h.pow]; exact Nat.le_refl _) n (Nat.le_refl _)
theorem MG.hi {s : Int} {n m : Nat} {xs gs : List Int} (h : MG s n m xs gs) : gainSum max xs gs = -(sumF 1000 xs (negTo gs m) n) := by
  show gainTo max xs gs xs.length = _
  rw [h.xlen, ← h.glen]
  exact gain_maxF 1000 xs gs h.zero (fun k hk => (h.gb1 k (by rw [← h.glen]; exact hk)).1) n (by rw [h.glen, ← h.pow]; exact Nat.le_refl _) n (Nat.le_refl _)
theorem MG.neg {s : Int} {n m : Nat} {xs gs : List Int} (h : MG s n m xs gs) : ∀ k, k < m → inG (nth (negTo gs m) k) := fun k hk => by
  rw [negTo_nth _ _ _ hk]; have := h.gb k hk; unfold inG at *; omega
theorem nthL_len {w : World} {ao : Option Addr} {n : Nat} {xs : List Int} (h : IntsAt w ao n xs) : xs.length = n := h.len
theorem safestClos_any (B : Nat) (s : Int) (ao bo : Option Addr) (n c m d : Nat) (xs gs : List Int) (w : World) (hx : IntsAt w ao n xs) (hy : IntsAt w bo m gs) (hg : MG s n m xs gs) (h0 : w.cell? ⟨B, 0, none⟩ = some (.int .i64 s)) (h1 : w.cell? ⟨B, 1, none⟩ = some (.slice ao n c)) :
    Calls Tryz.prog 62 #[.slice bo m d, .pointer (some ⟨B, 0, none⟩)] w fun e w' => e = .returned (.int .i64 (gainSum min xs gs)) ∧ Below w.heap.size w w' := by
  have HG := hid hg; clear hg
  go_enter Tryz.func62, Tryz.ntmps62
  go_wp2_with fail
  refine (lowestSum_any s _ _ _ _ _ _ xs gs _ hx hy HG.out.n16 (by have := HG.out.m4; omega) HG.out.xb HG.out.gb).mono ?_; rintro e w1 ⟨rfl, hb1⟩
  go_wp2
  go_ret
  exact ⟨rfl, hb1⟩
theorem safestClos_call (vs : Array Value) (w' : World) : Sem.run Tryz.prog (callFunc 62 vs) w' = .ok (.enter 62 vs) w' := by
  have h1 : (Tryz.f62.name == "runtime.NumGoroutine") = false := by kernel_rfl
  have h2 : Tryz.f62.body.isNone = false := by kernel_rfl
  have h1' : ¬ Tryz.f62.name = "runtime.NumGoroutine" := by simpa using h1
  have h2' : ¬ Tryz.f62.body = none := by intro e; rw [e] at h2; simp at h2
  simp only [callFunc, Sem.run_bind, run_program, Result.andThen_ok, Tryz.func62, beq_iff_eq, Option.isNone_iff_eq_none, if_neg h1', if_neg h2', Sem.run_pure]
set_option maxHeartbeats 1000000 in
theorem SafestAct_any (s : Int) (ao bo : Option Addr) (n c m d : Nat) (xs : List Int) (acts : List (List Int)) (w : World) (hx : IntsAt w ao n xs) (hy : RowsAt w bo m acts) :
    Calls Tryz.prog 23 #[.agg #[.int .i64 s, .slice ao n c], .slice bo m d] w fun e w' => e = .returned (.int .i64 (bestM (actsOk s xs acts) (fun k => sumF 1000 xs (nthL acts k) xs.length) m)) ∧ Below w.heap.size w w' := by
  have hBa := below_alloc w (.cells #[.int .i64 s, .slice ao n c] 25)
  cases hA : actsOk s xs acts
  · go_enter Tryz.func23, Tryz.ntmps23
    go_wp2_with fail
    refine (areActs_any _ _ _ _ _ _ _ xs acts _ (hx.below hBa) (hy.below hBa)).mono ?_; rw [hA]; rintro e w1 ⟨rfl, hb1⟩
    obtain ⟨_, _, hB1⟩ := box2 hb1
    clear hb1
    go_wp2
    go_ret
    exact ⟨rfl, hB1⟩
  · obtain ⟨hm, hz, ha1, ha8, hag⟩ := actsOk_facts hA
    have HAG := hid hag; clear hag
    have HZ := hid hz; clear hz
    have hyl := hid hy.len
    have hxl := hid hx.len
    obtain ⟨vals, hv⟩ := hy.vals
    have HV := hid hv; clear hv
    have hm8 : m ≤ 100000000 := by have := hyl.out; omega
    go_enter Tryz.func23, Tryz.ntmps23
    go_wp2_with fail
    refine (areActs_any _ _ _ _ _ _ _ xs acts _ (hx.below hBa) (hy.below hBa)).mono ?_; rw [hA]; rintro e w1 ⟨rfl, hb1⟩
    obtain ⟨hp0, hp1, hB1⟩ := box2 hb1
    clear hb1
    go_wp2_with fail
    refine (bestAct_any bo m d vals 62 #[.pointer (some ⟨w.heap.size, 0, none⟩)] (fun k => sumF 1000 xs (nthL acts k) xs.length) _ hm8 safestClos_call ?_ ?_).mono ?_
    · intro k hk
      obtain ⟨⟨b, off, e, hb, hc⟩, _⟩ := HV.out k hk
      exact ⟨b, off, e, Nat.lt_of_lt_of_le hb hB1.size, keep hB1 hc⟩
    · intro k w' hk hb'
      obtain ⟨_, a', n', c', e, hi⟩ := HV.out k hk
      have hmg : MG s n n' xs (nthL acts k) := mg_of hm HZ.out (HAG.out k (by rw [hyl.out]; exact hk)) hxl.out hi.len
      rw [e]
      refine (safestClos_any w.heap.size s _ _ _ _ _ _ xs (nthL acts k) w' ((hx.below hB1).below hb') ((hi.below hB1).below hb') hmg (keep hb' hp0) (keep hb' hp1)).mono ?_
      rintro e w'' ⟨rfl, hb''⟩
      refine ⟨ret_int ?_, hb''⟩
      first | rw [hmg.lo, hmg.xlen, hmg.glen] | rw [hmg.lo, hmg.xlen]
    rintro e w2 ⟨rfl, hb2⟩
    go_wp2
    go_ret
    exact ⟨rfl, chain hB1 hb2⟩
set_option maxHeartbeats 2000000 in
theorem specSafestAct_any (s : Int) (ao bo : Option Addr) (n c m d : Nat) (xs : List Int) (acts : List (List Int)) (w : World) (hx : IntsAt w ao n xs) (hy : RowsAt w bo m acts) :
    Calls Tryz.prog 24 #[.agg #[.int .i64 s, .slice ao n c], .slice bo m d] w fun e w' => e = .returned (.int .i64 (bestM (actsOk s xs acts) (fun k => sumF 1000 xs (nthL acts k) xs.length) m)) ∧ Below w.heap.size w w' := by
  have hBa : Below w.heap.size w ((w.alloc (.cells #[.int .i64 s, .slice ao n c] 25)).alloc (.cells #[] 3)) := (below_alloc w _).alloc (by simp) _
  cases hA : actsOk s xs acts
  · go_enter Tryz.func24, Tryz.ntmps24
    go_wp2_with fail
    refine (specActsValid_any _ _ _ _ _ _ _ xs acts _ (hx.below (by (repeat (first | exact Below.refl _ _ | assumption | refine Below.alloc ?_ (by simp <;> omega) _ | refine Below.setCell ?_ (by simp <;> omega) _ | refine Below.drew ?_ | refine below_drewN ?_)))) (hy.below (by (repeat (first | exact Below.refl _ _ | assumption | refine Below.alloc ?_ (by simp <;> omega) _ | refine Below.setCell ?_ (by simp <;> omega) _ | refine Below.drew ?_ | refine below_drewN ?_))))).mono ?_; rw [hA]; rintro e w1 ⟨rfl, hb1⟩
    have hB1 : Below w.heap.size w w1 := Below.trans (by (repeat (first | exact Below.refl _ _ | assumption | refine Below.alloc ?_ (by simp <;> omega) _ | refine Below.setCell ?_ (by simp <;> omega) _ | refine Below.drew ?_ | refine below_drewN ?_))) (hb1.mono (by simp <;> omega))
    clear hb1
    go_wp2
    go_ret
    exact ⟨rfl, hB1⟩
  · obtain ⟨hm, hz, ha1, ha8, hag⟩ := actsOk_facts hA
    have HAG := hid hag; clear hag
    have HZ := hid hz; clear hz
    have hyl := hid hy.len
    have hxl := hid hx.len
    have hcap := hy.cap
    have hm1 : 1 ≤ m := by have := hyl.out; omega
    have hm8 : m ≤ 8 := by have := hyl.out; omega
    obtain ⟨f, HF⟩ : ∃ f : Nat → Int, Hid (f = fun k => sumF 1000 xs (nthL acts k) xs.length) := ⟨_, rfl⟩
    have HF2 : Hid (∀ k, f k = sumF 1000 xs (nthL acts k) xs.length) := fun k => by rw [HF.out]
    rw [← HF.out]
    go_enter Tryz.func24, Tryz.ntmps24
    go_wp2_with fail
    refine (specActsValid_any _ _ _ _ _ _ _ xs acts _ (hx.below (by (repeat (first | exact Below.refl _ _ | assumption | refine Below.alloc ?_ (by simp <;> omega) _ | refine Below.setCell ?_ (by simp <;> omega) _ | refine Below.drew ?_ | refine below_drewN ?_)))) (hy.below (by (repeat (first | exact Below.refl _ _ | assumption | refine Below.alloc ?_ (by simp <;> omega) _ | refine Below.setCell ?_ (by simp <;> omega) _ | refine Below.drew ?_ | refine below_drewN ?_))))).mono ?_; rw [hA]; rintro e w1 ⟨rfl, hb1⟩
    have hp0 := keep hb1 (a := ⟨w.heap.size, 0, none⟩) (v := .int .i64 s) (by simp)
    have hp1 := keep hb1 (a := ⟨w.heap.size, 1, none⟩) (v := .slice ao n c) (by simp)
    have hr1 : Row w1 (w.heap.size + 1) (.slice (some ⟨w.heap.size + 1, 0, none⟩) 0 0) (scTo f 0) := by
      refine Row.below ?_ hb1
      have : Row ((w.alloc (.cells #[.int .i64 s, .slice ao n c] 25)).alloc (.cells #[] 3)) (w.alloc (.cells #[.int .i64 s, .slice ao n c] 25)).heap.size (.slice (some ⟨(w.alloc (.cells #[.int .i64 s, .slice ao n c] 25)).heap.size, 0, none⟩) 0 0) [] := World.ownsRow_lit _ #[] 0 (Nat.le_refl _) (by unfold maxLen; omega) rfl
      simpa [scTo, iter] using this
    have hz1 : w.heap.size + 1 < w1.heap.size := by have := hb1.size; simp at this; omega
    have hB1 : Below w.heap.size w w1 := Below.trans (by (repeat (first | exact Below.refl _ _ | assumption | refine Below.alloc ?_ (by simp <;> omega) _ | refine Below.setCell ?_ (by simp <;> omega) _ | refine Below.drew ?_ | refine below_drewN ?_))) (hb1.mono (by simp <;> omega))
    clear hb1
    go_wp2
    go_loopw [5, 6] (fun o i wr => ∃ (k : Nat) (v : Value), k ≤ m ∧ i = .int .i64 k ∧ o = v ∧ Row wr (w.heap.size + 1) v (scTo f k) ∧ Below (w.heap.size + 1) w1 wr ∧ w1.heap.size ≤ wr.heap.size) (fun o i _ => m - (intOf i).toNat)
    case atStart => exact ⟨0, _, by omega, rfl, rfl, hr1, Below.refl _ _, Nat.le_refl _⟩
    case round =>
      obtain ⟨k, v, hk, rfl, rfl, hrow, hBr, hzr⟩ := hrel
      have hB : Below w.heap.size w wr := hB1.trans (hBr.mono (by omega))
      have hq0 := keepB hBr (by omega) hp0
      have hq1 := keepB hBr (by omega) hp1
      by_cases hlt : k < m
      · obtain ⟨b, off, a', n', c', rfl, hbs, hbs', hck, hi⟩ := hy.at hB hlt
        have hmg : MG s n n' xs (nthL acts k) := mg_of hm HZ.out (HAG.out k (by rw [hyl.out]; exact hlt)) hxl.out hi.len
        have HMG := hid hmg; clear hmg
        have HLn := hid (scTo_len f k)
        have HFK : Hid (sumF 1000 xs (nthL acts k) n = f k) := by rw [HF2.out k]; first | rw [HMG.out.xlen, HMG.out.glen]; exact rfl | rw [HMG.out.xlen]; exact rfl
        have hk0 : (0 : Int) ≤ (k : Int) := by omega
        have hk1 : (k : Int) < (m : Int) := by omega
        go_wp2
        refine wp_region_ov_tail1 7 _ _ (by kernel_rfl) (by kernel_rfl) rfl rfl rfl (fun _ _ _ _ _ h => h) ⟨_, rfl⟩ ?_
        simp only [List.take_succ_cons, List.take_zero, List.drop_succ_cons, List.drop_zero]
        repeat (first | go_big_quiet_step ((go_at_call 65; exact ov_call (l12Least_any s _ _ _ _ _ _ xs (nthL acts k) _ ((hx.below hB).below (ov_below _ _)) (hi.below (ov_below _ _)) HMG.out.n16 HMG.out.n1 (by have := HMG.out.m4; omega) HMG.out.zero HMG.out.xb HMG.out.gb))) | quiet_step ((go_at_call 65; exact ov_call (l12Least_any s _ _ _ _ _ _ xs (nthL acts k) _ ((hx.below hB).below (ov_below _ _)) (hi.below (ov_below _ _)) HMG.out.n16 HMG.out.n1 (by have := HMG.out.m4; omega) HMG.out.zero HMG.out.xb HMG.out.gb))))
        refine wpQuiet_nil ?_
        intro _ hw_ov
        obtain ⟨x_ov, hw_ov2⟩ := hw_ov
        subst hw_ov2
        obtain ⟨w3, hw_ov3, hb3⟩ := ov_gen _ x_ov
        rw [hw_ov3]
        clear hw_ov3 x_ov
        have hrow3 := hrow.below hb3
        rw [HFK.out]
        have hz3 := hb3.size
        go_wp2_with (at_builtin; refine wpList_append_int rfl _ _ rfl (w.heap.size + 1) _ _ k HLn.out (by rfl) (hrow3.below (below_alloc w3 _)) _ _ (f k) (by rfl) (by simp) (by omega) (by simp; omega) ?_; intro g' c' w' hrow' hgrow)
        have HB' := hid (below_grownBy (B := w.heap.size + 1) ((hBr.trans (hb3.mono (by omega))).alloc (by omega) _) (by simp; omega) hgrow (fun b e => (hrow3.block b e).1))
        have hz' : w1.heap.size ≤ w'.heap.size := by have := hgrow.size; simp at this; omega
        clear hgrow hrow hrow3 hB hBr hb3
        go_roundw
        case rel => first | exact ⟨k + 1, _, by omega, by go_num, rfl, hrow', HB'.out, hz'⟩ | exact ⟨_, ⟨k + 1, _, by omega, by go_num, rfl, hrow', HB'.out, hz'⟩, rfl⟩ | exact ⟨_, _, ⟨k + 1, _, by omega, by go_num, rfl, hrow', HB'.out, hz'⟩, rfl, rfl⟩ | exact ⟨_, _, _, ⟨k + 1, _, by omega, by go_num, rfl, hrow', HB'.out, hz'⟩, rfl, rfl, rfl⟩ | exact ⟨_, _, _, _, ⟨k + 1, _, by omega, by go_num, rfl, hrow', HB'.out, hz'⟩, rfl, rfl, rfl, rfl⟩ | exact ⟨_, _, _, _, _, ⟨k + 1, _, by omega, by go_num, rfl, hrow', HB'.out, hz'⟩, rfl, rfl, rfl, rfl, rfl⟩
        case measure => simp [intOf]; omega
      · have hkn : k = m := by omega
        subst hkn
        obtain ⟨ao', n', c', rfl, hi⟩ := hrow.ints
        have hn' : n' = k := by rw [← hi.len]; exact scTo_len f k
        subst hn'
        have HI := hid hi
        go_wp2_with fail
        refine (l12Best_any _ _ _ _ _ HI.out (by omega) hm1).mono ?_; rintro e w4 ⟨rfl, hb4⟩
        go_wp2
        go_ret
        exact ⟨by rw [arg_scTo]; rfl, chain hB hb4⟩
theorem boldestClos_any (B : Nat) (s : Int) (ao bo : Option Addr) (n c m d : Nat) (xs gs : List Int) (w : World) (hx : IntsAt w ao n xs) (hy : IntsAt w bo m gs) (hg : MG s n m xs gs) (h0 : w.cell? ⟨B, 0, none⟩ = some (.int .i64 s)) (h1 : w.cell? ⟨B, 1, none⟩ = some (.slice ao n c)) :
    Calls Tryz.prog 72 #[.slice bo m d, .pointer (some ⟨B, 0, none⟩)] w fun e w' => e = .returned (.int .i64 (gainSum max xs gs)) ∧ Below w.heap.size w w' := by
  have HG := hid hg; clear hg
  go_enter Tryz.func72, Tryz.ntmps72
  go_wp2_with fail
  refine (highestSum_any s _ _ _ _ _ _ xs gs _ hx hy HG.out.n16 (by have := HG.out.m4; omega) HG.out.xb HG.out.gb).mono ?_; rintro e w1 ⟨rfl, hb1⟩
  go_wp2
  go_ret
  exact ⟨rfl, hb1⟩
theorem boldestClos_call (vs : Array Value) (w' : World) : Sem.run Tryz.prog (callFunc 72 vs) w' = .ok (.enter 72 vs) w' := by
  have h1 : (Tryz.f72.name == "runtime.NumGoroutine") = false := by kernel_rfl
  have h2 : Tryz.f72.body.isNone = false := by kernel_rfl
  have h1' : ¬ Tryz.f72.name = "runtime.NumGoroutine" := by simpa using h1
  have h2' : ¬ Tryz.f72.body = none := by intro e; rw [e] at h2; simp at h2
  simp only [callFunc, Sem.run_bind, run_program, Result.andThen_ok, Tryz.func72, beq_iff_eq, Option.isNone_iff_eq_none, if_neg h1', if_neg h2', Sem.run_pure]
set_option maxHeartbeats 1000000 in
theorem BoldestAct_any (s : Int) (ao bo : Option Addr) (n c m d : Nat) (xs : List Int) (acts : List (List Int)) (w : World) (hx : IntsAt w ao n xs) (hy : RowsAt w bo m acts) :
    Calls Tryz.prog 29 #[.agg #[.int .i64 s, .slice ao n c], .slice bo m d] w fun e w' => e = .returned (.int .i64 (bestM (actsOk s xs acts) (fun k => -(sumF 1000 xs (negTo (nthL acts k) (nthL acts k).length) xs.length)) m)) ∧ Below w.heap.size w w' := by
  have hBa := below_alloc w (.cells #[.int .i64 s, .slice ao n c] 25)
  cases hA : actsOk s xs acts
  · go_enter Tryz.func29, Tryz.ntmps29
    go_wp2_with fail
    refine (areActs_any _ _ _ _ _ _ _ xs acts _ (hx.below hBa) (hy.below hBa)).mono ?_; rw [hA]; rintro e w1 ⟨rfl, hb1⟩
    obtain ⟨_, _, hB1⟩ := box2 hb1
    clear hb1
    go_wp2
    go_ret
    exact ⟨rfl, hB1⟩
  · obtain ⟨hm, hz, ha1, ha8, hag⟩ := actsOk_facts hA
    have HAG := hid hag; clear hag
    have HZ := hid hz; clear hz
    have hyl := hid hy.len
    have hxl := hid hx.len
    obtain ⟨vals, hv⟩ := hy.vals
    have HV := hid hv; clear hv
    have hm8 : m ≤ 100000000 := by have := hyl.out; omega
    go_enter Tryz.func29, Tryz.ntmps29
    go_wp2_with fail
    refine (areActs_any _ _ _ _ _ _ _ xs acts _ (hx.below hBa) (hy.below hBa)).mono ?_; rw [hA]; rintro e w1 ⟨rfl, hb1⟩
    obtain ⟨hp0, hp1, hB1⟩ := box2 hb1
    clear hb1
    go_wp2_with fail
    refine (bestAct_any bo m d vals 72 #[.pointer (some ⟨w.heap.size, 0, none⟩)] (fun k => -(sumF 1000 xs (negTo (nthL acts k) (nthL acts k).length) xs.length)) _ hm8 boldestClos_call ?_ ?_).mono ?_
    · intro k hk
      obtain ⟨⟨b, off, e, hb, hc⟩, _⟩ := HV.out k hk
      exact ⟨b, off, e, Nat.lt_of_lt_of_le hb hB1.size, keep hB1 hc⟩
    · intro k w' hk hb'
      obtain ⟨_, a', n', c', e, hi⟩ := HV.out k hk
      have hmg : MG s n n' xs (nthL acts k) := mg_of hm HZ.out (HAG.out k (by rw [hyl.out]; exact hk)) hxl.out hi.len
      rw [e]
      refine (boldestClos_any w.heap.size s _ _ _ _ _ _ xs (nthL acts k) w' ((hx.below hB1).below hb') ((hi.below hB1).below hb') hmg (keep hb' hp0) (keep hb' hp1)).mono ?_
      rintro e w'' ⟨rfl, hb''⟩
      refine ⟨ret_int ?_, hb''⟩
      first | rw [hmg.hi, hmg.xlen, hmg.glen] | rw [hmg.hi, hmg.xlen]
    rintro e w2 ⟨rfl, hb2⟩
    go_wp2
    go_ret
    exact ⟨rfl, chain hB1 hb2⟩
end Go.Proofs.YtefmlbahmakboaaGreatDoor
