/- The order of the least mean: insertion, and the program's stable sort. The chance of the least mean: the program's WorstChance. The chance of the least mean: the program's WorstChance. -/
import Derived.Test.YtchjnjmlambpjaaC4
import Derived.Test.YtchjnjmlambpjaaN9
import Derived.Test.YtchjnjmlambpjaaW6
import Derived.BigRegion
set_option linter.unusedSimpArgs false
set_option linter.unusedVariables false
namespace Go.Proofs.Ytchjnjmlambpjaa
open Go.RowKit
/-- the place among the first p ones of l at which x is put: behind all that are not greater -/
def downTo (gs l : List Int) (x : Nat) : Nat → Nat
  | 0 => 0
  | p + 1 => if nth gs x < nth gs (nth l p).toNat then downTo gs l x p else p + 1
def insL (gs l : List Int) (x : Nat) : List Int := l.take (downTo gs l x l.length) ++ [(x : Int)] ++ l.drop (downTo gs l x l.length)
def sortTo (gs : List Int) (k : Nat) : List Int := iter (fun x l => insL gs l x) [] k
theorem sortTo_succ (gs : List Int) (k : Nat) : sortTo gs (k + 1) = insL gs (sortTo gs k) k := rfl
theorem downTo_le (gs l : List Int) (x p : Nat) : downTo gs l x p ≤ p := by
  induction p with
  | zero => exact Nat.le_refl _
  | succ p ih => unfold downTo; split <;> omega
theorem sortTo_len (gs : List Int) (k : Nat) : (sortTo gs k).length = k := by
  induction k with
  | zero => rfl
  | succ k ih =>
    have := downTo_le gs (sortTo gs k) k (sortTo gs k).length
    rw [sortTo_succ]; unfold insL
    simp [ih]
    rw [ih] at this
    omega
theorem sortTo_mem (gs : List Int) (k : Nat) (x : Int) : x ∈ sortTo gs k ↔ 0 ≤ x ∧ x < (k : Int) := by
  induction k with
  | zero => first | (simp [sortTo, iter]; done) | (simp [sortTo, iter]; omega)
  | succ k ih =>
    rw [sortTo_succ]
    unfold insL
    have hm : x ∈ sortTo gs k ↔ x ∈ (sortTo gs k).take (downTo gs (sortTo gs k) k (sortTo gs k).length) ∨ x ∈ (sortTo gs k).drop (downTo gs (sortTo gs k) k (sortTo gs k).length) := by
      rw [← List.mem_append, List.take_append_drop]
    rw [List.mem_append, List.mem_append, List.mem_singleton]
    constructor
    · rintro ((h | h) | h)
      · have := ih.1 (hm.2 (.inl h)); omega
      · omega
      · have := ih.1 (hm.2 (.inr h)); omega
    · intro h
      by_cases e : x = (k : Int)
      · exact .inl (.inr e)
      · rcases hm.1 (ih.2 (by omega)) with h | h
        · exact .inl (.inl h)
        · exact .inr h
theorem sortTo_ok (gs : List Int) (k : Nat) : OrdOk k (sortTo gs k) := ⟨fun x hx => (sortTo_mem gs k x).1 hx, fun y hy => (sortTo_mem gs k y).2 (by omega)⟩
/-- what stands behind the place is greater -/
theorem downTo_gt (gs l : List Int) (x : Nat) : ∀ p q, downTo gs l x p ≤ q → q < p → nth gs x < nth gs (nth l q).toNat := by
  intro p
  induction p with
  | zero => intro q _ h; omega
  | succ p ih =>
    intro q h1 h2
    unfold downTo at h1
    split at h1
    · rename_i h
      by_cases e : q = p
      · subst e; exact h
      · exact ih q h1 (by omega)
    · omega
theorem downTo_ge (gs l : List Int) (x p : Nat) : ∀ q, q + 1 = downTo gs l x p → ¬ nth gs x < nth gs (nth l q).toNat := by
  induction p with
  | zero => intro q h; cases h
  | succ p ih =>
    intro q h
    unfold downTo at h
    split at h
    · exact ih q h
    · rename_i hc
      obtain rfl : q = p := by omega
      exact hc
theorem sortTo_asc (gs : List Int) (k : Nat) : Asc gs (sortTo gs k) := by
  induction k with
  | zero => exact List.Pairwise.nil
  | succ k ih =>
    rw [sortTo_succ]
    obtain ⟨l, hl⟩ : ∃ l, sortTo gs k = l := ⟨_, rfl⟩
    rw [hl] at ih ⊢
    unfold insL
    obtain ⟨p, hp⟩ : ∃ p, downTo gs l k l.length = p := ⟨_, rfl⟩
    have hple : p ≤ l.length := by rw [← hp]; exact downTo_le _ _ _ _
    rw [hp]
    have hpair := ih
    unfold Asc at hpair ⊢
    rw [← List.take_append_drop p l, List.pairwise_append] at hpair
    obtain ⟨h1, h2, h3⟩ := hpair
    have hdrop : ∀ y, y ∈ l.drop p → nth gs k < nth gs y.toNat := fun y hy => by
      obtain ⟨i, hi, e⟩ := List.getElem_of_mem hy
      rw [List.length_drop] at hi
      rw [List.getElem_drop] at e
      have := downTo_gt gs l k l.length (p + i) (by rw [hp]; omega) (by omega)
      rw [nth_eq l (p + i) (by omega), e] at this
      exact this
    have htake : ∀ y, y ∈ l.take p → nth gs y.toNat ≤ nth gs k := fun y hy => by
      have hp0 : p ≠ 0 := by rintro rfl; simp at hy
      obtain ⟨q, rfl⟩ : ∃ q, p = q + 1 := ⟨p - 1, by omega⟩
      have hge := downTo_ge gs l k l.length q hp.symm
      obtain ⟨i, hi, e⟩ := List.getElem_of_mem hy
      rw [List.length_take] at hi
      rw [List.getElem_take] at e
      have hasc := List.pairwise_iff_getElem.1 ih i q (by omega) (by omega)
      have hil : i < l.length := by omega
      by_cases hiq : i = q
      · rw [← hiq, nth_eq l i hil, e] at hge
        omega
      · have := hasc (by omega)
        rw [nth_eq l q (by omega)] at hge
        rw [e] at this
        omega
    rw [List.pairwise_append]
    refine ⟨?_, h2, fun a ha b hb => ?_⟩
    · rw [List.pairwise_append]
      refine ⟨h1, List.pairwise_singleton _ _, fun a ha b hb => ?_⟩
      rw [List.mem_singleton] at hb
      subst hb
      exact htake a ha
    · rcases List.mem_append.1 ha with ha | ha
      · exact h3 a ha b hb
      · rw [List.mem_singleton] at ha
        subst ha
        have := hdrop b hb
        show nth gs k ≤ _
        omega
/-- the numbers from i on -/
def restL (i n : Nat) : List Int := (List.range (n - i)).map fun k => (((i + k : Nat)) : Int)
theorem restL_len (i n : Nat) : (restL i n).length = n - i := by simp [restL]
theorem restL_cons {i n : Nat} (h : i < n) : restL i n = (i : Int) :: restL (i + 1) n := by
  unfold restL
  obtain ⟨d, hd⟩ : ∃ d, n - i = d + 1 := ⟨n - i - 1, by omega⟩
  rw [hd, List.range_succ_eq_map, show n - (i + 1) = d by omega]
  simp
  intro a _; omega
/-- the list while number i is put: it stands at place j -/
def putL (l : List Int) (i j n : Nat) : List Int := (l.take j ++ [(i : Int)] ++ l.drop j) ++ restL (i + 1) n
theorem putL_start {l : List Int} {i n : Nat} (hl : l.length = i) (hi : i < n) : putL l i i n = l ++ restL i n := by
  unfold putL
  rw [restL_cons hi, ← hl]; simp
theorem putL_end {gs l : List Int} {i n : Nat} : putL l i (downTo gs l i l.length) n = insL gs l i ++ restL (i + 1) n := rfl
theorem nth_app_left {l m : List Int} {k : Nat} (h : k < l.length) : nth (l ++ m) k = nth l k := by
  unfold nth; rw [List.getD_eq_getElem?_getD, List.getD_eq_getElem?_getD, List.getElem?_append_left h]
theorem nth_app_right {l m : List Int} {k : Nat} (h : l.length ≤ k) : nth (l ++ m) k = nth m (k - l.length) := by
  unfold nth; rw [List.getD_eq_getElem?_getD, List.getD_eq_getElem?_getD, List.getElem?_append_right h]
theorem putL_len {l : List Int} {i j n : Nat} (hl : l.length = i) (hj : j ≤ i) (hi : i < n) : (putL l i j n).length = n := by
  unfold putL
  rw [List.length_append, restL_len]
  simp [hl]
  omega
theorem nth_take {l : List Int} {j k : Nat} (h : k < j) : nth (l.take j) k = nth l k := by
  unfold nth; rw [List.getD_eq_getElem?_getD, List.getD_eq_getElem?_getD, List.getElem?_take, if_pos h]
theorem nth_drop (l : List Int) (j k : Nat) : nth (l.drop j) k = nth l (j + k) := by
  unfold nth; rw [List.getD_eq_getElem?_getD, List.getD_eq_getElem?_getD, List.getElem?_drop]
/-- what stands where -/
theorem putL_nth {l : List Int} {i j n : Nat} (hl : l.length = i) (hj : j ≤ i) (k : Nat) : nth (putL l i j n) k = if k < j then nth l k else if k = j then (i : Int) else if k ≤ i then nth l (k - 1) else nth (restL (i + 1) n) (k - (i + 1)) := by
  unfold putL
  have h1 : (l.take j).length = j := by rw [List.length_take]; omega
  have h2 : (l.take j ++ [(i : Int)]).length = j + 1 := by rw [List.length_append, h1]; rfl
  have h3 : (l.take j ++ [(i : Int)] ++ l.drop j).length = i + 1 := by rw [List.length_append, h2, List.length_drop]; omega
  by_cases a : k < j
  · rw [if_pos a, nth_app_left (by omega), nth_app_left (by omega), nth_app_left (by omega), nth_take a]
  · rw [if_neg a]
    by_cases b : k = j
    · subst b
      rw [if_pos rfl, nth_app_left (by omega), nth_app_left (by omega), nth_app_right (by omega), h1, Nat.sub_self]; rfl
    · rw [if_neg b]
      by_cases c : k ≤ i
      · rw [if_pos c, nth_app_left (by omega), nth_app_right (by omega), h2, nth_drop]
        congr 1; omega
      · rw [if_neg c, nth_app_right (by omega), h3]
/-- one exchange -/
theorem putL_swap {l : List Int} {i j n : Nat} (hl : l.length = i) (hj : j + 1 ≤ i) (hi : i < n) : ((putL l i (j + 1) n).set (j + 1) (nth l j)).set j (i : Int) = putL l i j n := by
  have e1 := putL_len (n := n) hl hj hi
  have e2 := putL_len (n := n) hl (show j ≤ i by omega) hi
  refine ext_nth _ _ (by rw [List.length_set, List.length_set, e1, e2]) fun k hk => ?_
  rw [List.length_set, List.length_set, e1] at hk
  rw [nth_set, nth_set, List.length_set, e1, putL_nth hl hj, putL_nth hl (by omega)]
  by_cases a : j = k
  · subst a; rw [if_pos ⟨rfl, by omega⟩, if_neg (by omega), if_pos rfl]
  · rw [if_neg (fun h => a h.1)]
    by_cases b : j + 1 = k
    · subst b; rw [if_pos ⟨rfl, by omega⟩, if_neg (by omega), if_neg (by omega), if_pos (by omega)]; congr 1
    · rw [if_neg (fun h => b h.1)]
      by_cases c : k < j
      · rw [if_pos (by omega), if_pos c]
      · rw [if_neg (show ¬ k < j + 1 by omega), if_neg (show ¬ k = j + 1 by omega), if_neg (show ¬ k < j by omega), if_neg (show ¬ k = j by omega)]
/-- the chance of the least mean -/
def worstM (s : Int) (xs gs : List Int) : MR := if normalOk s xs && gainsOk s gs then chanceM s xs (sortTo gs gs.length) else MR.no
theorem worstM_bad {s : Int} {xs gs : List Int} (h : normalOk s xs = false ∨ gainsOk s gs = false) : worstM s xs gs = MR.no := by
  unfold worstM
  rcases h with h | h <;> simp [h]
theorem isNaN_any (x : Int) (w : World) : Calls Try.prog 119 #[.int .i64 x] w fun e w' => e = .returned (.bool false) ∧ w = w' := by
  have hx : (x != x) = false := by simp
  go_enter Try.func119, Try.ntmps119
  go_wp2
  go_ret
  exact ⟨rfl, rfl⟩
def cmpI (x y : Int) : Int := if x < y then -1 else if y < x then 1 else 0
theorem Compare_any (x y : Int) (w : World) : Calls Try.prog 73 #[.int .i64 x, .int .i64 y] w fun e w' => e = .returned (.int .i64 (cmpI x y)) ∧ Below w.heap.size w w' := by
  obtain ⟨r, HR⟩ : ∃ r, Hid (cmpI x y = r) := ⟨_, rfl⟩
  rw [HR.out]
  by_cases h1 : x < y
  · have HE : Hid (r = -1) := by rw [Hid, ← HR.out]; unfold cmpI; rw [if_pos h1]
    go_enter Try.func73, Try.ntmps73
    go_wp2_with fail
    refine (isNaN_any _ _).mono ?_; rintro e w1 ⟨rfl, rfl⟩
    go_wp2_with fail
    refine (isNaN_any _ _).mono ?_; rintro e w1 ⟨rfl, rfl⟩
    go_wp2
    go_ret
    exact ⟨by rw [HE.out]; rfl, Below.refl _ _⟩
  · by_cases h2 : y < x
    · have HE : Hid (r = 1) := by rw [Hid, ← HR.out]; unfold cmpI; rw [if_neg h1, if_pos h2]
      go_enter Try.func73, Try.ntmps73
      go_wp2_with fail
      refine (isNaN_any _ _).mono ?_; rintro e w1 ⟨rfl, rfl⟩
      go_wp2_with fail
      refine (isNaN_any _ _).mono ?_; rintro e w1 ⟨rfl, rfl⟩
      go_wp2
      go_ret
      exact ⟨by rw [HE.out]; rfl, Below.refl _ _⟩
    · have HE : Hid (r = 0) := by rw [Hid, ← HR.out]; unfold cmpI; rw [if_neg h1, if_neg h2]
      go_enter Try.func73, Try.ntmps73
      go_wp2_with fail
      refine (isNaN_any _ _).mono ?_; rintro e w1 ⟨rfl, rfl⟩
      go_wp2_with fail
      refine (isNaN_any _ _).mono ?_; rintro e w1 ⟨rfl, rfl⟩
      go_wp2
      go_ret
      exact ⟨by rw [HE.out]; rfl, Below.refl _ _⟩
theorem worstClos_any (B x y m cg : Nat) (ag : Option Addr) (gs : List Int) (w : World) (hB : w.cell? ⟨B, 0, none⟩ = some (.slice ag m cg)) (hg : IntsAt w ag m gs) (hx : x < m) (hy : y < m) :
    Calls Try.prog 72 #[.int .i64 x, .int .i64 y, .pointer (some ⟨B, 0, none⟩)] w fun e w' => e = .returned (.int .i64 (cmpI (nth gs x) (nth gs y))) ∧ Below w.heap.size w w' := by
  obtain ⟨b, o, rfl, hb1, hb2, hcx⟩ := hg.at (Below.refl _ _) hx
  obtain ⟨b', o', e1, _, _, hcy⟩ := hg.at (Below.refl _ _) hy
  injection e1 with e1
  injection e1 with e2 e3
  subst e2 e3
  have hcap := hg.cap
  have HC : Hid (∀ w', Calls Try.prog 73 #[.int .i64 (nth gs x), .int .i64 (nth gs y)] w' fun e w'' => e = .returned (.int .i64 (cmpI (nth gs x) (nth gs y))) ∧ Below w'.heap.size w' w'') := fun w' => Compare_any _ _ w'
  have hx0 : (0 : Int) ≤ (x : Int) := by omega
  have hx1 : (x : Int) < (m : Int) := by omega
  have hy0 : (0 : Int) ≤ (y : Int) := by omega
  have hy1 : (y : Int) < (m : Int) := by omega
  go_enter Try.func72, Try.ntmps72
  go_wp2
  refine wp_region_ov (by kernel_rfl) (by kernel_rfl) ?_
  repeat (first | go_big_quiet_step ((go_at_call 73; (with_reducible exact ov_call (HC.out _)))) | quiet_step ((go_at_call 73; (with_reducible exact ov_call (HC.out _)))))
  refine wpQuiet_nil ?_
  intro _ hw_ov
  obtain ⟨x_ov, hw_ov2⟩ := hw_ov
  subst hw_ov2
  obtain ⟨w3, hw_ov3, hb3⟩ := ov_gen _ x_ov
  rw [hw_ov3]
  clear hw_ov3 x_ov
  go_wp2
  go_ret
  exact ⟨rfl, hb3⟩
theorem worstClos_call (vs : Array Value) (w' : World) : Sem.run Try.prog (callFunc 72 vs) w' = .ok (.enter 72 vs) w' := by
  have h1 : (Try.f72.name == "runtime.NumGoroutine") = false := by kernel_rfl
  have h2 : Try.f72.body.isNone = false := by kernel_rfl
  have h1' : ¬ Try.f72.name = "runtime.NumGoroutine" := by simpa using h1
  have h2' : ¬ Try.f72.body = none := by intro e; rw [e] at h2; simp at h2
  simp only [callFunc, Sem.run_bind, run_program, Result.andThen_ok, Try.func72, beq_iff_eq, Option.isNone_iff_eq_none, if_neg h1', if_neg h2', Sem.run_pure]
set_option maxHeartbeats 4000000 in
theorem insSort_any (g n c base B : Nat) (gs : List Int) (w : World) (hn1 : 1 ≤ n) (hn : n ≤ 1000) (hr : Row w base (.slice (some ⟨g, 0, none⟩) n c) (restL 0 n))
    (hcmp : ∀ (w' : World) (x y : Nat), w.grownBy w' (some g) → x < n → y < n → Calls Try.prog 72 #[.int .i64 x, .int .i64 y, .pointer (some ⟨B, 0, none⟩)] w' fun e w'' => e = .returned (.int .i64 (cmpI (nth gs x) (nth gs y))) ∧ Below w'.heap.size w' w'') :
    Calls Try.prog 148 #[.slice (some ⟨g, 0, none⟩) n c, .int .i64 0, .int .i64 n, .func (.func 72) #[] #[.pointer (some ⟨B, 0, none⟩)]] w fun e w' => e = .returned (.tuple #[]) ∧ Row w' base (.slice (some ⟨g, 0, none⟩) n c) (sortTo gs n) ∧ w.grownBy w' (some g) := by
  have hcf := worstClos_call
  have HCMP := hid hcmp; clear hcmp
  have hr1 : Row w base (.slice (some ⟨g, 0, none⟩) n c) (sortTo gs 1 ++ restL 1 n) := by rw [restL_cons (show 0 < n by omega)] at hr; exact hr
  clear hr
  go_enter Try.func148, Try.ntmps148
  go_wp2
  go_loopw [8] (fun i wr => ∃ k : Nat, 1 ≤ k ∧ k ≤ n ∧ i = .int .i64 k ∧ Row wr base (.slice (some ⟨g, 0, none⟩) n c) (sortTo gs k ++ restL k n) ∧ w.grownBy wr (some g)) (fun i _ => n - (intOf i).toNat)
  case atStart => exact ⟨1, by omega, hn1, rfl, hr1, grownBy_refl _ _⟩
  case round =>
    clear hr1
    obtain ⟨k, hk1, hk, rfl, hrow, hG⟩ := hrel
    by_cases hlt : k < n
    · have hkl := hid (sortTo_len gs k)
      have hmem := hid (sortTo_mem gs k)
      have HSS := hid (sortTo_succ gs k)
      obtain ⟨l, hl⟩ : ∃ l, Hid (sortTo gs k = l) := ⟨_, rfl⟩
      rw [hl.out] at hkl hmem HSS hrow
      obtain ⟨p0, HP0⟩ : ∃ p, Hid (downTo gs l k k = p) := ⟨_, rfl⟩
      have HEND : Hid (putL l k p0 n = sortTo gs (k + 1) ++ restL (k + 1) n) := by rw [Hid, ← HP0.out, HSS.out]; have := putL_end (gs := gs) (l := l) (i := k) (n := n); rw [hkl.out] at this; exact this
      rw [← putL_start hkl.out hlt] at hrow
      go_wp2
      go_loopw [9] (fun j wr => ∃ q : Nat, q ≤ k ∧ j = .int .i64 q ∧ Row wr base (.slice (some ⟨g, 0, none⟩) n c) (putL l k q n) ∧ downTo gs l k q = p0 ∧ w.grownBy wr (some g)) (fun j _ => (intOf j).toNat)
      case atStart => exact ⟨k, Nat.le_refl _, rfl, hrow, HP0.out, hG⟩
      case round =>
        clear hrow hG
        obtain ⟨q, hq, rfl, hrow, hdn, hG⟩ := hrel
        have HDN := hid hdn; clear hdn
        match q, hq, hrow, HDN with
        | 0, hq, hrow, HDN =>
          go_wp2
          refine wp_region_ov (by kernel_rfl) (by kernel_rfl) ?_
          repeat (first | go_big_quiet_step ((fail)) | quiet_step ((fail)))
          refine wpQuiet_nil ?_
          intro _ hw_ov
          obtain ⟨x_ov, hw_ov2⟩ := hw_ov
          subst hw_ov2
          obtain ⟨w3, hw_ov3, hb3⟩ := ov_gen _ x_ov
          rw [hw_ov3]
          clear hw_ov3 x_ov
          have HR3 : Hid (Row w3 base (.slice (some ⟨g, 0, none⟩) n c) (sortTo gs (k + 1) ++ restL (k + 1) n)) := by rw [Hid, ← HEND.out, ← HDN.out]; exact hrow.below hb3
          have HG3 := hid (grownBy_trans hG (grownBy_below hb3 (some g)))
          clear hb3 hrow hG
          go_wp2
          go_roundw
          case rel => first | exact ⟨k + 1, by omega, by omega, by go_num, HR3.out, HG3.out⟩ | exact ⟨_, ⟨k + 1, by omega, by omega, by go_num, HR3.out, HG3.out⟩, rfl⟩ | exact ⟨_, _, ⟨k + 1, by omega, by omega, by go_num, HR3.out, HG3.out⟩, rfl, rfl⟩ | exact ⟨_, _, _, ⟨k + 1, by omega, by omega, by go_num, HR3.out, HG3.out⟩, rfl, rfl, rfl⟩ | exact ⟨_, _, _, _, ⟨k + 1, by omega, by omega, by go_num, HR3.out, HG3.out⟩, rfl, rfl, rfl, rfl⟩ | exact ⟨_, _, _, _, _, ⟨k + 1, by omega, by omega, by go_num, HR3.out, HG3.out⟩, rfl, rfl, rfl, rfl, rfl⟩
          case measure => simp [intOf]; omega
        | q + 1, hq, hrow, HDN =>
          have hq1n : q + 1 < n := by omega
          have hqn : q < n := by omega
          have hlq : nth l q ∈ l := nth_mem _ _ (by rw [hkl.out]; omega)
          rw [hmem.out] at hlq
          obtain ⟨Y, hY⟩ : ∃ Y : Nat, nth l q = (Y : Int) := ⟨(nth l q).toNat, by omega⟩
          have hYk : Y < k := by omega
          have e1 : nth (putL l k (q + 1) n) (q + 1) = (k : Int) := by rw [putL_nth hkl.out hq, if_neg (by omega), if_pos rfl]
          have e2 : nth (putL l k (q + 1) n) q = (Y : Int) := by rw [putL_nth hkl.out hq, if_pos (by omega), hY]
          obtain ⟨c0, f0, _⟩ := hrow.cellAt hq1n
          obtain ⟨c1, f1, _⟩ := hrow.cellAt hqn
          rw [e1] at c0
          rw [e2] at c1
          have HSW := hid (putL_swap (n := n) hkl.out hq hlt)
          rw [hY] at HSW
          have HDS : Hid (downTo gs l k (q + 1) = if nth gs k < nth gs Y then downTo gs l k q else q + 1) := by rw [Hid]; show (if nth gs k < nth gs (nth l q).toNat then downTo gs l k q else q + 1) = _; rw [hY]; rfl
          obtain ⟨r, hr⟩ : ∃ r, cmpI (nth gs k) (nth gs Y) = r := ⟨_, rfl⟩
          have HC : Hid (∀ w', w.grownBy w' (some g) → Calls Try.prog 72 #[.int .i64 k, .int .i64 Y, .pointer (some ⟨B, 0, none⟩)] w' fun e w'' => e = .returned (.int .i64 r) ∧ Below w'.heap.size w' w'') := fun w' h => by rw [← hr]; exact HCMP.out w' k Y h hlt (by omega)
          clear e1 e2 hY hlq
          have hq0 : (0 : Int) < (q : Int) + 1 := by omega
          have hz : g < wr.heap.size := World.block_lt_of_cell? _ _ c0
          by_cases hless : nth gs k < nth gs Y
          · have hr1 : r = -1 := by rw [← hr]; unfold cmpI; rw [if_pos hless]
            have HDQ : Hid (downTo gs l k q = p0) := by rw [Hid, ← HDN.out, HDS.out, if_pos hless]
            subst hr1
            clear hless hr
            go_wp2
            refine wp_region_ov (by kernel_rfl) (by kernel_rfl) ?_
            repeat (first | go_big_quiet_step ((go_at_call 72; (with_reducible exact ov_call (HC.out _ (grownBy_trans hG (grownBy_below (ov_below _ _) _)))))) | quiet_step ((go_at_call 72; (with_reducible exact ov_call (HC.out _ (grownBy_trans hG (grownBy_below (ov_below _ _) _)))))))
            refine wpQuiet_nil ?_
            intro _ hw_ov
            obtain ⟨x_ov, hw_ov2⟩ := hw_ov
            subst hw_ov2
            obtain ⟨w3, hw_ov3, hb3⟩ := ov_gen _ x_ov
            rw [hw_ov3]
            clear hw_ov3 x_ov
            replace c0 := keep hb3 c0
            replace c1 := keep hb3 c1
            have hrow3 := hrow.below hb3
            have hG3 := grownBy_trans hG (grownBy_below hb3 (some g))
            have g0 := (hrow3.cellAt hq1n).2.1
            have g1 := (hrow3.cellAt hqn).2.1
            obtain ⟨s1, t1⟩ := hrow3.store hq1n (Y : Int)
            obtain ⟨s2, t2⟩ := s1.store hqn (k : Int)
            rw [HSW.out] at s2
            have HW4 := hid (s2.below (drew_below _))
            have HG4 := hid (grownBy_trans (grownBy_trans (grownBy_trans hG3 t1) t2) (grownBy_below (drew_below _) (some g)))
            clear hb3 hrow hrow3 s1 s2 t1 t2 hG hG3 f0 f1
            have b0 : (0 : Int) ≤ (q : Int) := by omega
            have b1 : (q : Int) < (n : Int) := by omega
            have b2 : (q : Int) + 1 < (n : Int) := by omega
            have b3 : (0 : Int) ≤ (q : Int) + 1 := by omega
            have b4 : ((q : Int) + 1).toNat = q + 1 := by omega
            go_wp2
            go_big_region
            obtain ⟨w4, hw4⟩ : ∃ W, ((w3.setCell ⟨g, q + 1, none⟩ (.int .i64 (Y : Int))).setCell ⟨g, q, none⟩ (.int .i64 (k : Int))).drew = W := ⟨_, rfl⟩
            first | rw [hw4] | rw [show ({ ((w3.setCell ⟨g, q + 1, none⟩ (.int .i64 (Y : Int))).setCell ⟨g, q, none⟩ (.int .i64 (k : Int))) with drawn := ((w3.setCell ⟨g, q + 1, none⟩ (.int .i64 (Y : Int))).setCell ⟨g, q, none⟩ (.int .i64 (k : Int))).drawn + 1 } : World) = w4 from hw4]
            have HW5 : Hid (Row w4 base (.slice (some ⟨g, 0, none⟩) n c) (putL l k q n)) := by rw [Hid, ← hw4]; exact HW4.out
            have HG5 : Hid (w.grownBy w4 (some g)) := by rw [Hid, ← hw4]; exact HG4.out
            clear hw4 HW4 HG4 c0 c1 g0 g1
            go_wp2
            go_roundw
            case rel => first | exact ⟨q, by omega, by go_num, HW5.out, HDQ.out, HG5.out⟩ | exact ⟨_, ⟨q, by omega, by go_num, HW5.out, HDQ.out, HG5.out⟩, rfl⟩ | exact ⟨_, _, ⟨q, by omega, by go_num, HW5.out, HDQ.out, HG5.out⟩, rfl, rfl⟩ | exact ⟨_, _, _, ⟨q, by omega, by go_num, HW5.out, HDQ.out, HG5.out⟩, rfl, rfl, rfl⟩ | exact ⟨_, _, _, _, ⟨q, by omega, by go_num, HW5.out, HDQ.out, HG5.out⟩, rfl, rfl, rfl, rfl⟩ | exact ⟨_, _, _, _, _, ⟨q, by omega, by go_num, HW5.out, HDQ.out, HG5.out⟩, rfl, rfl, rfl, rfl, rfl⟩
            case measure => simp [intOf]
          · have hr1 : ¬ r < 0 := by rw [← hr]; unfold cmpI; rw [if_neg hless]; split <;> omega
            have HDQ : Hid (q + 1 = p0) := by rw [Hid, ← HDN.out, HDS.out, if_neg hless]
            clear hless hr
            go_wp2
            refine wp_region_ov (by kernel_rfl) (by kernel_rfl) ?_
            repeat (first | go_big_quiet_step ((go_at_call 72; (with_reducible exact ov_call (HC.out _ (grownBy_trans hG (grownBy_below (ov_below _ _) _)))))) | quiet_step ((go_at_call 72; (with_reducible exact ov_call (HC.out _ (grownBy_trans hG (grownBy_below (ov_below _ _) _)))))))
            refine wpQuiet_nil ?_
            intro _ hw_ov
            obtain ⟨x_ov, hw_ov2⟩ := hw_ov
            subst hw_ov2
            obtain ⟨w3, hw_ov3, hb3⟩ := ov_gen _ x_ov
            rw [hw_ov3]
            clear hw_ov3 x_ov
            have HR3 : Hid (Row w3 base (.slice (some ⟨g, 0, none⟩) n c) (sortTo gs (k + 1) ++ restL (k + 1) n)) := by rw [Hid, ← HEND.out, ← HDQ.out]; exact hrow.below hb3
            have HG3 := hid (grownBy_trans hG (grownBy_below hb3 (some g)))
            clear hb3 hrow hG
            go_wp2
            go_roundw
            case rel => first | exact ⟨k + 1, by omega, by omega, by go_num, HR3.out, HG3.out⟩ | exact ⟨_, ⟨k + 1, by omega, by omega, by go_num, HR3.out, HG3.out⟩, rfl⟩ | exact ⟨_, _, ⟨k + 1, by omega, by omega, by go_num, HR3.out, HG3.out⟩, rfl, rfl⟩ | exact ⟨_, _, _, ⟨k + 1, by omega, by omega, by go_num, HR3.out, HG3.out⟩, rfl, rfl, rfl⟩ | exact ⟨_, _, _, _, ⟨k + 1, by omega, by omega, by go_num, HR3.out, HG3.out⟩, rfl, rfl, rfl, rfl⟩ | exact ⟨_, _, _, _, _, ⟨k + 1, by omega, by omega, by go_num, HR3.out, HG3.out⟩, rfl, rfl, rfl, rfl, rfl⟩
            case measure => simp [intOf]; omega
    · have hkn : k = n := by omega
      have HRE : Hid (sortTo gs k ++ restL k n = sortTo gs n) := by rw [Hid, hkn]; unfold restL; rw [Nat.sub_self]; simp
      clear hkn
      go_wp2
      go_end0
      exact ⟨rfl, by rw [← HRE.out]; exact hrow, hG⟩
theorem stable_any (g n c base B : Nat) (gs : List Int) (w : World) (hn1 : 1 ≤ n) (hn : n ≤ 19) (hr : Row w base (.slice (some ⟨g, 0, none⟩) n c) (restL 0 n))
    (hcmp : ∀ (w' : World) (x y : Nat), w.grownBy w' (some g) → x < n → y < n → Calls Try.prog 72 #[.int .i64 x, .int .i64 y, .pointer (some ⟨B, 0, none⟩)] w' fun e w'' => e = .returned (.int .i64 (cmpI (nth gs x) (nth gs y))) ∧ Below w'.heap.size w' w'') :
    Calls Try.prog 118 #[.slice (some ⟨g, 0, none⟩) n c, .int .i64 n, .func (.func 72) #[] #[.pointer (some ⟨B, 0, none⟩)]] w fun e w' => e = .returned (.tuple #[]) ∧ Row w' base (.slice (some ⟨g, 0, none⟩) n c) (sortTo gs n) ∧ w.grownBy w' (some g) := by
  have HCMP := hid hcmp; clear hcmp
  have h20 : ¬ (20 : Int) ≤ (n : Int) := by omega
  have h20b : ¬ (20 : Int) < (n : Int) := by omega
  go_enter Try.func118, Try.ntmps118
  go_wp2
  refine wp_loop_rounds 1 ?_
  rw [rounds_succ]
  go_wp2_with fail
  refine (insSort_any g n c base B gs w hn1 (by omega) hr HCMP.out).mono ?_; rintro e w1 ⟨rfl, hr1, hg1⟩
  go_wp2
  refine wp_loop_rounds 1 ?_
  rw [rounds_succ]
  go_wp2
  go_end0
  exact ⟨rfl, hr1, hg1⟩
theorem sortStable_any (g n c base B : Nat) (gs : List Int) (w : World) (hn1 : 1 ≤ n) (hn : n ≤ 19) (hr : Row w base (.slice (some ⟨g, 0, none⟩) n c) (restL 0 n))
    (hcmp : ∀ (w' : World) (x y : Nat), w.grownBy w' (some g) → x < n → y < n → Calls Try.prog 72 #[.int .i64 x, .int .i64 y, .pointer (some ⟨B, 0, none⟩)] w' fun e w'' => e = .returned (.int .i64 (cmpI (nth gs x) (nth gs y))) ∧ Below w'.heap.size w' w'') :
    Calls Try.prog 71 #[.slice (some ⟨g, 0, none⟩) n c, .func (.func 72) #[] #[.pointer (some ⟨B, 0, none⟩)]] w fun e w' => e = .returned (.tuple #[]) ∧ Row w' base (.slice (some ⟨g, 0, none⟩) n c) (sortTo gs n) ∧ w.grownBy w' (some g) := by
  have HCMP := hid hcmp; clear hcmp
  go_enter Try.func71, Try.ntmps71
  go_wp2_with fail
  refine (stable_any g n c base B gs w hn1 hn hr HCMP.out).mono ?_; rintro e w1 ⟨rfl, hr1, hg1⟩
  go_wp2
  go_end0
  exact ⟨rfl, hr1, hg1⟩
theorem restL_succ (k : Nat) : restL 0 (k + 1) = restL 0 k ++ [(k : Int)] := by
  unfold restL
  rw [Nat.sub_zero, Nat.sub_zero, List.range_succ, List.map_append]
  simp
set_option maxHeartbeats 2000000 in
theorem WorstChance_any (s : Int) (ao bo : Option Addr) (n c m d : Nat) (xs gs : List Int) (w : World) (hx : IntsAt w ao n xs) (hy : IntsAt w bo m gs) :
    Calls Try.prog 23 #[.agg #[.int .i64 s, .slice ao n c], .slice bo m d] w fun e w' => RetM (worstM s xs gs) w.heap.size e w' ∧ Below w.heap.size w w' := by
  have hcap := hy.cap
  obtain ⟨W, HW⟩ : ∃ W, Hid (((w.alloc (.cells #[.int .i64 s, .slice ao n c] 28)).alloc (.cells #[.slice bo m d] 22)).alloc (.cells #[.int .i64 0, .slice none 0 0] 28) = W) := ⟨_, rfl⟩
  have hB0 : Below w.heap.size w W := by rw [← HW.out]; (repeat (first | exact Below.refl _ _ | assumption | refine Below.alloc ?_ (by first | omega | (simp <;> omega)) _ | refine Below.setCell ?_ (by first | omega | (simp <;> omega)) _ | refine Below.drew ?_ | refine below_drewN ?_))
  have hq : W.cell? ⟨w.heap.size + 1, 0, none⟩ = some (.slice bo m d) := by rw [← HW.out]; simp
  have hp0 : W.cell? ⟨w.heap.size, 0, none⟩ = some (.int .i64 s) := by rw [← HW.out]; simp
  have hp1 : W.cell? ⟨w.heap.size, 1, none⟩ = some (.slice ao n c) := by rw [← HW.out]; simp
  obtain ⟨h10, h11, f20, f21⟩ := newBox ((w.alloc (.cells #[.int .i64 s, .slice ao n c] 28)).alloc (.cells #[.slice bo m d] 22)) (.int .i64 0) (.slice none 0 0) 28 (w.heap.size + 1 + 1) (by simp)
  rw [HW.out] at h10 h11 f20 f21
  have hzW : w.heap.size + 1 + 1 < W.heap.size := by rw [← HW.out]; simp
  have hxW := hx.below hB0
  have hyW := hy.below hB0
  cases hno : normalOk s xs
  · have HR : Hid (worstM s xs gs = MR.no) := worstM_bad (.inl hno)
    rw [HR.out]
    go_enter Try.func23, Try.ntmps23
    go_wp2_with fail
    rw [HW.out]
    refine (isNormal_any _ _ _ _ _ _ hxW).mono ?_; rw [hno]; rintro e w1 ⟨rfl, hb1⟩
    replace f20 := keepF hb1 h10 f20
    replace f21 := keepF hb1 h11 f21
    replace h10 := keep hb1 h10
    replace h11 := keep hb1 h11
    have hB1 := chain hB0 hb1
    clear hb1
    go_wp2
    refine bodyPost_ret (by simp [results, Try.results23, go_sem, h10, h11]) rfl ⟨RetM.no _ _, ?_⟩
    (repeat (first | exact Below.refl _ _ | assumption | refine Below.alloc ?_ (by first | omega | (simp <;> omega)) _ | refine Below.setCell ?_ (by first | omega | (simp <;> omega)) _ | refine Below.drew ?_ | refine below_drewN ?_))
  · cases hga : gainsOk s gs
    · have HR : Hid (worstM s xs gs = MR.no) := worstM_bad (.inr hga)
      rw [HR.out]
      go_enter Try.func23, Try.ntmps23
      go_wp2_with fail
      rw [HW.out]
      refine (isNormal_any _ _ _ _ _ _ hxW).mono ?_; rw [hno]; rintro e w1 ⟨rfl, hb1⟩
      replace f20 := keepF hb1 h10 f20
      replace f21 := keepF hb1 h11 f21
      replace h10 := keep hb1 h10
      replace h11 := keep hb1 h11
      replace hp0 := keep hb1 hp0
      replace hp1 := keep hb1 hp1
      replace hq := keep hb1 hq
      have hyW1 := hyW.below hb1
      have hB1 := chain hB0 hb1
      clear hb1
      go_wp2_with fail
      refine (areGains_any _ _ _ _ _ _ _ hyW1).mono ?_; rw [hga]; rintro e w2 ⟨rfl, hb2⟩
      replace f20 := keepF hb2 h10 f20
      replace f21 := keepF hb2 h11 f21
      replace h10 := keep hb2 h10
      replace h11 := keep hb2 h11
      have hB2 := chain hB1 hb2
      clear hb2
      go_wp2
      refine bodyPost_ret (by simp [results, Try.results23, go_sem, h10, h11]) rfl ⟨RetM.no _ _, ?_⟩
      (repeat (first | exact Below.refl _ _ | assumption | refine Below.alloc ?_ (by first | omega | (simp <;> omega)) _ | refine Below.setCell ?_ (by first | omega | (simp <;> omega)) _ | refine Below.drew ?_ | refine below_drewN ?_))
    · obtain ⟨p1, p4, _, _, hmo, hsz⟩ := norm_size hno
      obtain ⟨hgl, _⟩ := gainsOk_facts hga
      have hml := hid hy.len
      have hms : m = s.toNat := by rw [hml.out] at hgl; omega
      have HR : Hid (worstM s xs gs = chanceM s xs (sortTo gs m)) := by rw [Hid]; unfold worstM; rw [hno, hga, hml.out]; rfl
      have HOK : Hid (OrdOk s.toNat (sortTo gs m)) := by rw [Hid, ← hms]; exact sortTo_ok gs m
      have HMO := hid hmo
      have HNE : Hid (∀ b off, bo = some ⟨b, off, none⟩ → b < w.heap.size) := fun b off e => by
        obtain ⟨b2, o2, e2, h1, _⟩ := hy.at (Below.refl _ _) (show 0 < m by omega)
        rw [e] at e2
        injection e2 with e3
        injection e3 with e4 e5
        omega
      have hm4 : m ≤ 4 := by omega
      have hm1 : 1 ≤ m := by omega
      clear hgl hsz hms hmo p1 p4
      rw [HR.out]
      go_enter Try.func23, Try.ntmps23
      go_wp2_with fail
      rw [HW.out]
      refine (isNormal_any _ _ _ _ _ _ hxW).mono ?_; rw [hno]; rintro e w1 ⟨rfl, hb1⟩
      replace f20 := keepF hb1 h10 f20
      replace f21 := keepF hb1 h11 f21
      replace h10 := keep hb1 h10
      replace h11 := keep hb1 h11
      replace hp0 := keep hb1 hp0
      replace hp1 := keep hb1 hp1
      replace hq := keep hb1 hq
      have hyW1 := hyW.below hb1
      have hB1 := chain hB0 hb1
      have hz1 := hb1.size
      clear hb1
      go_wp2_with fail
      refine (areGains_any _ _ _ _ _ _ _ hyW1).mono ?_; rw [hga]; rintro e w2 ⟨rfl, hb2⟩
      replace f20 := keepF hb2 h10 f20
      replace f21 := keepF hb2 h11 f21
      replace h10 := keep hb2 h10
      replace h11 := keep hb2 h11
      replace hp0 := keep hb2 hp0
      replace hp1 := keep hb2 hp1
      replace hq := keep hb2 hq
      have hB2 := chain hB1 hb2
      have hz2 := hb2.size
      clear hb2
      have hr0 := Row.lit w2
      go_wp2
      go_loopw [6, 7, 21] (fun o _ i wr => ∃ (k : Nat) (v : Value), k ≤ m ∧ i = .int .i64 k ∧ o = v ∧ Row wr w2.heap.size v (restL 0 k) ∧ Below w2.heap.size w2 wr) (fun _ _ i _ => m - (intOf i).toNat)
      case atStart => exact ⟨0, _, by omega, rfl, rfl, hr0, below_alloc _ _⟩
      case round =>
        clear hr0
        obtain ⟨k, v, hk, rfl, rfl, hrow, hBr⟩ := hrel
        have hB := chain hB2 hBr
        have hzr := hBr.size
        by_cases hlt : k < m
        · have hlk := restL_len 0 k
          have HN := hid (restL_succ k)
          obtain ⟨L, hL⟩ : ∃ L, restL 0 k = L := ⟨_, rfl⟩
          rw [hL] at hrow hlk HN
          rw [Nat.sub_zero] at hlk
          go_wp2_with (at_builtin; refine wpList_append_int rfl _ _ rfl w2.heap.size _ _ k hlk (by rfl) (hrow.below (below_alloc wr _)) _ _ (k : Int) (by rfl) (by simp) (by omega) (by simp; omega) ?_; intro g' c' w' hrow' hgrow)
          have HB' := hid (below_grownBy (B := w2.heap.size) (hBr.alloc (by omega) _) (by simp; omega) hgrow (fun b e => (hrow.block b e).1))
          clear hgrow hrow hB hBr
          go_roundw
          case rel => first | exact ⟨k + 1, _, by omega, by go_num, rfl, by rw [HN.out]; exact hrow', HB'.out⟩ | exact ⟨_, ⟨k + 1, _, by omega, by go_num, rfl, by rw [HN.out]; exact hrow', HB'.out⟩, rfl⟩ | exact ⟨_, _, ⟨k + 1, _, by omega, by go_num, rfl, by rw [HN.out]; exact hrow', HB'.out⟩, rfl, rfl⟩ | exact ⟨_, _, _, ⟨k + 1, _, by omega, by go_num, rfl, by rw [HN.out]; exact hrow', HB'.out⟩, rfl, rfl, rfl⟩ | exact ⟨_, _, _, _, ⟨k + 1, _, by omega, by go_num, rfl, by rw [HN.out]; exact hrow', HB'.out⟩, rfl, rfl, rfl, rfl⟩ | exact ⟨_, _, _, _, _, ⟨k + 1, _, by omega, by go_num, rfl, by rw [HN.out]; exact hrow', HB'.out⟩, rfl, rfl, rfl, rfl, rfl⟩
          case measure => simp [intOf]; omega
        · obtain rfl : k = m := by omega
          obtain ⟨g, c', he, hgb, hgs, _⟩ := hrow.form (by rw [restL_len]; omega)
          rw [restL_len, Nat.sub_zero] at he
          subst he
          replace hq := keep hBr hq
          replace hp0 := keep hBr hp0
          replace hp1 := keep hBr hp1
          replace f20 := keepF hBr h10 f20
          replace f21 := keepF hBr h11 f21
          replace h10 := keep hBr h10
          replace h11 := keep hBr h11
          have hyr := hy.below hB
          have hxr := hx.below hB
          go_wp2_with fail
          refine (sortStable_any g k c' w2.heap.size (w.heap.size + 1) gs wr hm1 (by omega) hrow (fun w' x y hG h1 h2 => worstClos_any _ _ _ _ _ _ _ w' (keepG hG hq (by omega)) (hyr.grown hG (fun b off e e2 => by injection e2 with e2; have := HNE.out b off e; omega)) h1 h2)).mono ?_
          rintro e w5 ⟨rfl, hr5, hg5⟩
          have hB5 : Below w2.heap.size w2 w5 := belowG hBr hzr hg5 hgb
          have hz5 := hg5.size
          have hz8 : w.heap.size + 1 + 1 < w5.heap.size := by omega
          obtain ⟨a5, n5, c5, e5, hi5⟩ := hr5.ints
          injection e5 with q1 q2 q3
          subst q1 q2 q3
          replace f20 := keepGF hg5 h10 (by omega) f20
          replace f21 := keepGF hg5 h11 (by omega) f21
          replace h10 := keepG hg5 h10 (by omega)
          replace h11 := keepG hg5 h11 (by omega)
          replace hp0 := keepG hg5 hp0 (by omega)
          replace hp1 := keepG hg5 hp1 (by omega)
          have hBw5 := chain hB2 hB5
          have hx5 := hx.below hBw5
          clear hg5 hB hBr hyr hxr hrow hq
          go_wp2_with fail
          refine (chanceOfOrder_any s ao _ n c _ _ xs (sortTo gs k) _ hx5 hi5 HMO.out HOK.out).mono ?_
          rintro e w7 ⟨⟨v, rfl, hr7⟩, hb7⟩
          obtain ⟨ao7, n7, c7, rfl, hi7⟩ := hr7.ints
          replace f20 := keepF hb7 h10 f20
          replace f21 := keepF hb7 h11 f21
          replace h10 := keep hb7 h10
          replace h11 := keep hb7 h11
          have hB7 := chain hBw5 hb7
          go_wp2
          refine bodyPost_ret (by simp [results, Try.results23, go_sem, h10, h11]) rfl ⟨⟨_, rfl, ((hr7.setBelow (a := ⟨w.heap.size + 1 + 1, 0, none⟩) hz8 _).setBelow (a := ⟨w.heap.size + 1 + 1, 1, none⟩) hz8 _).mono (by omega)⟩, ?_⟩
          (repeat (first | exact Below.refl _ _ | assumption | refine Below.alloc ?_ (by first | omega | (simp <;> omega)) _ | refine Below.setCell ?_ (by first | omega | (simp <;> omega)) _ | refine Below.drew ?_ | refine below_drewN ?_))
theorem worst_len (s : Int) (xs gs : List Int) : (worstM s xs gs).parts.length ≤ 100000000 := by
  unfold worstM
  split
  · rename_i h
    rw [Bool.and_eq_true] at h
    obtain ⟨_, _, _, _, hmo, hsz⟩ := norm_size h.1
    have hgl := (gainsOk_facts h.2).1
    have ho : OrdOk s.toNat (sortTo gs gs.length) := by
      have e : s.toNat = gs.length := by omega
      rw [e]; exact sortTo_ok gs _
    obtain ⟨_, _, _, _, hl, _⟩ := corner_facts h.1 ho
    have := (massOk_facts hmo).2.2.1
    rw [hl]; omega
  · simp [MR.no]
end Go.Proofs.Ytchjnjmlambpjaa
