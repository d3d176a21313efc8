/- The safest and the boldest act: SafestAct, BoldestAct both. -/
import Derived.Test.YtdkgomlpadeleaaGreatDoorW10
import Derived.Test.YtdkgomlpadeleaaGreatDoorB1
import Derived.Test.YtdkgomlpadeleaaGreatDoorS2
set_option linter.unusedSimpArgs false
set_option linter.unusedVariables false
namespace Go.Proofs.YtdkgomlpadeleaaGreatDoor
open Go.RowKit
/-- the best of so many acts by their scores, -1 if they are not valid -/
def bestM (ok : Bool) (f : Nat → Int) (n : Nat) : Int := if ok then (argTo f n : Int) else -1
/-- the scores of the first k acts -/
def scTo (f : Nat → Int) (k : Nat) : List Int := iter (fun j l => l ++ [f j]) [] k
theorem scTo_len (f : Nat → Int) (k : Nat) : (scTo f k).length = k := by
  induction k with
  | zero => rfl
  | succ k ih => show (scTo f k ++ [_]).length = _; rw [List.length_append, ih]; rfl
theorem scTo_nth (f : Nat → Int) (k j : Nat) (h : j < k) : nth (scTo f k) j = f j := by
  induction k with
  | zero => omega
  | succ k ih =>
    show nth (scTo f k ++ [f k]) j = _
    by_cases e : j < k
    · rw [nth_append_left _ _ _ (by rw [scTo_len]; exact e)]; exact ih e
    · have e2 : j = k := by omega
      subst e2
      have hl := scTo_len f j
      rw [nth_eq _ _ (by simp [hl])]
      simp [hl]
theorem arg_scTo (f : Nat → Int) (n : Nat) : argTo (nth (scTo f n)) n = argTo f n := argTo_congr _ _ _ fun k hk => scTo_nth f n k hk
theorem actsOk_facts {s : Int} {xs : List Int} {acts : List (List Int)} (h : actsOk s xs acts = true) :
    massOk s xs = true ∧ nth xs 0 = 0 ∧ 1 ≤ acts.length ∧ acts.length ≤ 8 ∧ ∀ k, k < acts.length → gainsOk s (nthL acts k) = true := by
  simp only [actsOk, Bool.and_eq_true] at h
  obtain ⟨h1, h2, h3⟩ := h
  have h4 := normalOk_facts h1
  have h5 := inB_iff.1 h2
  exact ⟨h4.1, h4.2, by omega, by omega, (allN_iff _ _).1 h3⟩
/-- what is known of a mass and gains for it -/
structure MG (s : Int) (n m : Nat) (xs gs : List Int) : Prop where
  n16 : n ≤ 16
  n1 : 1 ≤ n
  m4 : m ≤ 4
  m1 : 1 ≤ m
  pow : n = 2 ^ m
  xlen : xs.length = n
  glen : gs.length = m
  zero : nth xs 0 = 0
  xb : ∀ k, k < n → 0 ≤ nth xs k ∧ nth xs k ≤ 1000000
  gb : ∀ k, k < m → inG (nth gs k)
  gb1 : ∀ k, k < m → -1000 ≤ nth gs k ∧ nth gs k ≤ 1000
theorem mg_of {s : Int} {xs gs : List Int} {n m : Nat} (hm : massOk s xs = true) (h0 : nth xs 0 = 0) (hg : gainsOk s gs = true) (hn : xs.length = n) (hl : gs.length = m) : MG s n m xs gs := by
  obtain ⟨hsz, hlen, h16, hbd, _, _, _⟩ := massOk_facts' hm
  obtain ⟨hgl, hgb⟩ := gainsOk_facts hg
  have hs4 := okSize_iff.1 hsz
  have hsn := nsets_le hsz
  have hst : s.toNat = m := by omega
  refine ⟨by omega, by omega, by omega, by omega, ?_, hn, hl, h0, fun k hk => hbd k (by omega), fun k hk => ?_, fun k hk => hgb k (by omega)⟩
  · rw [← hn, hlen, ← hst]; rfl
  · have := hgb k (by omega); unfold inG; omega
theorem MG.lo {s : Int} {n m : Nat} {xs gs : List Int} (h : MG s n m xs gs) : gainSum min xs gs = sumF 1000 xs gs n := by
  show gainTo min xs gs xs.length = _
  rw [h.xlen]
  exact gain_minF 1000 xs gs h.zero (fun k hk => (h.gb1 k (by rw [← h.glen]; exact hk)).2) n (by rw [h.glen, ← h.pow]; exact Nat.le_refl _) n (Nat.le_refl _)
theorem MG.hi {s : Int} {n m : Nat} {xs gs : List Int} (h : MG s n m xs gs) : gainSum max xs gs = -(sumF 1000 xs (negTo gs m) n) := by
  show gainTo max xs gs xs.length = _
  rw [h.xlen, ← h.glen]
  exact gain_maxF 1000 xs gs h.zero (fun k hk => (h.gb1 k (by rw [← h.glen]; exact hk)).1) n (by rw [h.glen, ← h.pow]; exact Nat.le_refl _) n (Nat.le_refl _)
theorem MG.neg {s : Int} {n m : Nat} {xs gs : List Int} (h : MG s n m xs gs) : ∀ k, k < m → inG (nth (negTo gs m) k) := fun k hk => by
  rw [negTo_nth _ _ _ hk]; have := h.gb k hk; unfold inG at *; omega
theorem nthL_len {w : World} {ao : Option Addr} {n : Nat} {xs : List Int} (h : IntsAt w ao n xs) : xs.length = n := h.len
theorem safestClos_any (B : Nat) (s : Int) (ao bo : Option Addr) (n c m d : Nat) (xs gs : List Int) (w : World) (hx : IntsAt w ao n xs) (hy : IntsAt w bo m gs) (hg : MG s n m xs gs) (h0 : w.cell? ⟨B, 0, none⟩ = some (.int .i64 s)) (h1 : w.cell? ⟨B, 1, none⟩ = some (.slice ao n c)) :
    Calls Tryz.prog 255 #[.slice bo m d, .pointer (some ⟨B, 0, none⟩)] w fun e w' => e = .returned (.int .i64 (gainSum min xs gs)) ∧ Below w.heap.size w w' := by
  have HG := hid hg; clear hg
  go_enter Tryz.func255, Tryz.ntmps255
  go_wp2_with fail
  refine (lowestSum_any s _ _ _ _ _ _ xs gs _ hx hy HG.out.n16 (by have := HG.out.m4; omega) HG.out.xb HG.out.gb).mono ?_; rintro e w1 ⟨rfl, hb1⟩
  go_wp2
  go_ret
  exact ⟨rfl, hb1⟩
theorem safestClos_call (vs : Array Value) (w' : World) : Sem.run Tryz.prog (callFunc 255 vs) w' = .ok (.enter 255 vs) w' := by
  have h1 : (Tryz.f255.name == "runtime.NumGoroutine") = false := by kernel_rfl
  have h2 : Tryz.f255.body.isNone = false := by kernel_rfl
  have h1' : ¬ Tryz.f255.name = "runtime.NumGoroutine" := by simpa using h1
  have h2' : ¬ Tryz.f255.body = none := by intro e; rw [e] at h2; simp at h2
  simp only [callFunc, Sem.run_bind, run_program, Result.andThen_ok, Tryz.func255, beq_iff_eq, Option.isNone_iff_eq_none, if_neg h1', if_neg h2', Sem.run_pure]
set_option maxHeartbeats 1000000 in
theorem SafestAct_any (s : Int) (ao bo : Option Addr) (n c m d : Nat) (xs : List Int) (acts : List (List Int)) (w : World) (hx : IntsAt w ao n xs) (hy : RowsAt w bo m acts) :
    Calls Tryz.prog 204 #[.agg #[.int .i64 s, .slice ao n c], .slice bo m d] w fun e w' => e = .returned (.int .i64 (bestM (actsOk s xs acts) (fun k => sumF 1000 xs (nthL acts k) xs.length) m)) ∧ Below w.heap.size w w' := by
  have hBa := below_alloc w (.cells #[.int .i64 s, .slice ao n c] 25)
  cases hA : actsOk s xs acts
  · go_enter Tryz.func204, Tryz.ntmps204
    go_wp2_with fail
    refine (areActs_any _ _ _ _ _ _ _ xs acts _ (hx.below hBa) (hy.below hBa)).mono ?_; rw [hA]; rintro e w1 ⟨rfl, hb1⟩
    obtain ⟨_, _, hB1⟩ := box2 hb1
    clear hb1
    go_wp2
    go_ret
    exact ⟨rfl, hB1⟩
  · obtain ⟨hm, hz, ha1, ha8, hag⟩ := actsOk_facts hA
    have HAG := hid hag; clear hag
    have HZ := hid hz; clear hz
    have hyl := hid hy.len
    have hxl := hid hx.len
    obtain ⟨vals, hv⟩ := hy.vals
    have HV := hid hv; clear hv
    have hm8 : m ≤ 100000000 := by have := hyl.out; omega
    go_enter Tryz.func204, Tryz.ntmps204
    go_wp2_with fail
    refine (areActs_any _ _ _ _ _ _ _ xs acts _ (hx.below hBa) (hy.below hBa)).mono ?_; rw [hA]; rintro e w1 ⟨rfl, hb1⟩
    obtain ⟨hp0, hp1, hB1⟩ := box2 hb1
    clear hb1
    go_wp2_with fail
    refine (bestAct_any bo m d vals 255 #[.pointer (some ⟨w.heap.size, 0, none⟩)] (fun k => sumF 1000 xs (nthL acts k) xs.length) _ hm8 safestClos_call ?_ ?_).mono ?_
    · intro k hk
      obtain ⟨⟨b, off, e, hb, hc⟩, _⟩ := HV.out k hk
      exact ⟨b, off, e, Nat.lt_of_lt_of_le hb hB1.size, keep hB1 hc⟩
    · intro k w' hk hb'
      obtain ⟨_, a', n', c', e, hi⟩ := HV.out k hk
      have hmg : MG s n n' xs (nthL acts k) := mg_of hm HZ.out (HAG.out k (by rw [hyl.out]; exact hk)) hxl.out hi.len
      rw [e]
      refine (safestClos_any w.heap.size s _ _ _ _ _ _ xs (nthL acts k) w' ((hx.below hB1).below hb') ((hi.below hB1).below hb') hmg (keep hb' hp0) (keep hb' hp1)).mono ?_
      rintro e w'' ⟨rfl, hb''⟩
      refine ⟨ret_int ?_, hb''⟩
      first | rw [hmg.lo, hmg.xlen, hmg.glen] | rw [hmg.lo, hmg.xlen]
    rintro e w2 ⟨rfl, hb2⟩
    go_wp2
    go_ret
    exact ⟨rfl, chain hB1 hb2⟩
theorem boldestClos_any (B : Nat) (s : Int) (ao bo : Option Addr) (n c m d : Nat) (xs gs : List Int) (w : World) (hx : IntsAt w ao n xs) (hy : IntsAt w bo m gs) (hg : MG s n m xs gs) (h0 : w.cell? ⟨B, 0, none⟩ = some (.int .i64 s)) (h1 : w.cell? ⟨B, 1, none⟩ = some (.slice ao n c)) :
    Calls Tryz.prog 256 #[.slice bo m d, .pointer (some ⟨B, 0, none⟩)] w fun e w' => e = .returned (.int .i64 (gainSum max xs gs)) ∧ Below w.heap.size w w' := by
  have HG := hid hg; clear hg
  go_enter Tryz.func256, Tryz.ntmps256
  go_wp2_with fail
  refine (highestSum_any s _ _ _ _ _ _ xs gs _ hx hy HG.out.n16 (by have := HG.out.m4; omega) HG.out.xb HG.out.gb).mono ?_; rintro e w1 ⟨rfl, hb1⟩
  go_wp2
  go_ret
  exact ⟨rfl, hb1⟩
theorem boldestClos_call (vs : Array Value) (w' : World) : Sem.run Tryz.prog (callFunc 256 vs) w' = .ok (.enter 256 vs) w' := by
  have h1 : (Tryz.f256.name == "runtime.NumGoroutine") = false := by kernel_rfl
  have h2 : Tryz.f256.body.isNone = false := by kernel_rfl
  have h1' : ¬ Tryz.f256.name = "runtime.NumGoroutine" := by simpa using h1
  have h2' : ¬ Tryz.f256.body = none := by intro e; rw [e] at h2; simp at h2
  simp only [callFunc, Sem.run_bind, run_program, Result.andThen_ok, Tryz.func256, beq_iff_eq, Option.isNone_iff_eq_none, if_neg h1', if_neg h2', Sem.run_pure]
set_option maxHeartbeats 1000000 in
theorem BoldestAct_any (s : Int) (ao bo : Option Addr) (n c m d : Nat) (xs : List Int) (acts : List (List Int)) (w : World) (hx : IntsAt w ao n xs) (hy : RowsAt w bo m acts) :
    Calls Tryz.prog 205 #[.agg #[.int .i64 s, .slice ao n c], .slice bo m d] w fun e w' => e = .returned (.int .i64 (bestM (actsOk s xs acts) (fun k => -(sumF 1000 xs (negTo (nthL acts k) (nthL acts k).length) xs.length)) m)) ∧ Below w.heap.size w w' := by
  have hBa := below_alloc w (.cells #[.int .i64 s, .slice ao n c] 25)
  cases hA : actsOk s xs acts
  · go_enter Tryz.func205, Tryz.ntmps205
    go_wp2_with fail
    refine (areActs_any _ _ _ _ _ _ _ xs acts _ (hx.below hBa) (hy.below hBa)).mono ?_; rw [hA]; rintro e w1 ⟨rfl, hb1⟩
    obtain ⟨_, _, hB1⟩ := box2 hb1
    clear hb1
    go_wp2
    go_ret
    exact ⟨rfl, hB1⟩
  · obtain ⟨hm, hz, ha1, ha8, hag⟩ := actsOk_facts hA
    have HAG := hid hag; clear hag
    have HZ := hid hz; clear hz
    have hyl := hid hy.len
    have hxl := hid hx.len
    obtain ⟨vals, hv⟩ := hy.vals
    have HV := hid hv; clear hv
    have hm8 : m ≤ 100000000 := by have := hyl.out; omega
    go_enter Tryz.func205, Tryz.ntmps205
    go_wp2_with fail
    refine (areActs_any _ _ _ _ _ _ _ xs acts _ (hx.below hBa) (hy.below hBa)).mono ?_; rw [hA]; rintro e w1 ⟨rfl, hb1⟩
    obtain ⟨hp0, hp1, hB1⟩ := box2 hb1
    clear hb1
    go_wp2_with fail
    refine (bestAct_any bo m d vals 256 #[.pointer (some ⟨w.heap.size, 0, none⟩)] (fun k => -(sumF 1000 xs (negTo (nthL acts k) (nthL acts k).length) xs.length)) _ hm8 boldestClos_call ?_ ?_).mono ?_
    · intro k hk
      obtain ⟨⟨b, off, e, hb, hc⟩, _⟩ := HV.out k hk
      exact ⟨b, off, e, Nat.lt_of_lt_of_le hb hB1.size, keep hB1 hc⟩
    · intro k w' hk hb'
      obtain ⟨_, a', n', c', e, hi⟩ := HV.out k hk
      have hmg : MG s n n' xs (nthL acts k) := mg_of hm HZ.out (HAG.out k (by rw [hyl.out]; exact hk)) hxl.out hi.len
      rw [e]
      refine (boldestClos_any w.heap.size s _ _ _ _ _ _ xs (nthL acts k) w' ((hx.below hB1).below hb') ((hi.below hB1).below hb') hmg (keep hb' hp0) (keep hb' hp1)).mono ?_
      rintro e w'' ⟨rfl, hb''⟩
      refine ⟨ret_int ?_, hb''⟩
      first | rw [hmg.hi, hmg.xlen, hmg.glen] | rw [hmg.hi, hmg.xlen]
    rintro e w2 ⟨rfl, hb2⟩
    go_wp2
    go_ret
    exact ⟨rfl, chain hB1 hb2⟩
end Go.Proofs.YtdkgomlpadeleaaGreatDoor
