/- Acts that no other one beats: UnbeatenActs both. -/
import Derived.Test.YtchjnjmlambpjaaW11
set_option linter.unusedSimpArgs false
set_option linter.unusedVariables false
namespace Go.Proofs.Ytchjnjmlambpjaa
open Go.RowKit
/-- what act f's gains are beyond act g's at least -/
def overS (xs f g : List Int) : Int := lowSumTo xs (subTo f g f.length) xs.length
/-- does no act beat act k? -/
def freeK (xs : List Int) (acts : List (List Int)) (k : Nat) : Bool := allN (fun j => !decide (0 < overS xs (nthL acts j) (nthL acts k))) acts.length
def freeTo (xs : List Int) (acts : List (List Int)) (k : Nat) : List Int := iter (fun j l => if freeK xs acts j then l ++ [(j : Int)] else l) [] k
def unbeaten (s : Int) (xs : List Int) (acts : List (List Int)) : List Int := if actsOk s xs acts then freeTo xs acts acts.length else []
theorem freeTo_succ (xs : List Int) (acts : List (List Int)) (k : Nat) : freeTo xs acts (k + 1) = if freeK xs acts k then freeTo xs acts k ++ [(k : Int)] else freeTo xs acts k := rfl
theorem freeTo_len (xs : List Int) (acts : List (List Int)) (k : Nat) : (freeTo xs acts k).length ≤ k := by
  induction k with
  | zero => exact Nat.le_refl _
  | succ k ih =>
    rw [freeTo_succ]; split
    · simp; omega
    · omega
theorem unbeaten_len (s : Int) (xs : List Int) (acts : List (List Int)) : (unbeaten s xs acts).length ≤ 100000000 := by
  unfold unbeaten; split
  · rename_i h
    have := freeTo_len xs acts acts.length
    have := (actsOk_facts h).2.2.2.1
    omega
  · simp
/-- two acts for one mass -/
structure MG2 (s : Int) (n m : Nat) (xs f g : List Int) : Prop where
  a : MG s n m xs f
  b : MG s n m xs g
theorem mg2_of {s : Int} {xs f g : List Int} {n m p : Nat} (hm : massOk s xs = true) (h0 : nth xs 0 = 0) (hf : gainsOk s f = true) (hg : gainsOk s g = true) (hn : xs.length = n) (hl : f.length = m) (hp : g.length = p) : p = m ∧ MG2 s n m xs f g := by
  have h1 := gainsOk_facts hf
  have h2 := gainsOk_facts hg
  have e : p = m := by omega
  subst e
  exact ⟨rfl, mg_of hm h0 hf hn hl, mg_of hm h0 hg hn hp⟩
theorem MG2.over {s : Int} {n m : Nat} {xs f g : List Int} (h : MG2 s n m xs f g) : overS xs f g = lowSumTo xs (subTo f g m) n := by
  unfold overS; rw [h.a.glen, h.a.xlen]
theorem MG2.subb {s : Int} {n m : Nat} {xs f g : List Int} (h : MG2 s n m xs f g) : ∀ k, k < m → inG (nth (subTo f g m) k) := fun k hk => by
  rw [subTo_nth _ _ _ _ hk]; have := h.a.gb1 k hk; have := h.b.gb1 k hk; unfold inG; omega
theorem MG2.low {s : Int} {n m : Nat} {xs f g : List Int} (h : MG2 s n m xs f g) : gainSum min xs (subTo f g m) = lowSumTo xs (subTo f g m) n := by
  show gainTo min xs (subTo f g m) xs.length = _
  rw [h.a.xlen]
  refine gain_low xs _ h.a.zero (fun k hk => h.subb k (by rw [subTo_len] at hk; exact hk)) n ?_ n (Nat.le_refl _)
  rw [subTo_len, ← h.a.pow]; exact Nat.le_refl _
set_option maxHeartbeats 1000000 in
theorem beatClos_any (A B : Nat) (s : Int) (ao fo go : Option Addr) (n c m d e' : Nat) (xs f g : List Int) (w : World) (hx : IntsAt w ao n xs) (hf : IntsAt w fo m f) (hg : IntsAt w go m g) (hmg : MG2 s n m xs f g)
    (hp0 : w.cell? ⟨A, 0, none⟩ = some (.int .i64 s)) (hp1 : w.cell? ⟨A, 1, none⟩ = some (.slice ao n c)) (hq : w.cell? ⟨B, 0, none⟩ = some (.slice go m e')) :
    Calls Try.prog 108 #[.slice fo m d, .pointer (some ⟨A, 0, none⟩), .pointer (some ⟨B, 0, none⟩)] w fun e w' => e = .returned (.bool (decide (0 < overS xs f g))) ∧ Below w.heap.size w w' := by
  have HG := hid hmg; clear hmg
  have hm29 : m ≤ 29 := by have := HG.out.a.m4; omega
  have hm100 : m ≤ 100 := by omega
  obtain ⟨lo, HLo⟩ : ∃ lo : Int, Hid (overS xs f g = lo) := ⟨_, rfl⟩
  rw [HLo.out]
  go_enter Try.func108, Try.ntmps108
  go_wp2
  go_region_held3 (fun w' => w'.cell? ⟨A, 0, none⟩ = some (.int .i64 s) ∧ w'.cell? ⟨A, 1, none⟩ = some (.slice ao n c) ∧ w'.cell? ⟨B, 0, none⟩ = some (.slice go m e') ∧ Below w.heap.size w w') (first | (refine ⟨by assumption, by assumption, by assumption, by assumption⟩; done) | (refine ⟨by simp [*], by simp [*], by simp [*], ?_⟩; (repeat (first | exact Below.refl _ _ | assumption | refine Below.alloc ?_ (by simp <;> omega) _ | refine Below.setCell ?_ (by simp <;> omega) _ | refine Below.drew ?_ | refine below_drewN ?_)); done)) (first | (go_at_call 94; refine (lessAct_any _ _ _ _ _ f g _ (hf.below (drew_below _)) (hg.below (drew_below _)) hm100 HG.out.a.gb1 HG.out.b.gb1).mono ?_; rintro e w2 ⟨v, rfl, hr2, hb2⟩; obtain ⟨av, nv, cv, rfl, hv⟩ := hr2.ints; have hnv : nv = m := (by rw [← hv.len]; exact subTo_len _ _ _); subst hnv; have hB2 := chain (drew_below w) hb2; have k0 := keep hB2 hp0; have k1 := keep hB2 hp1; have k2 := keep hB2 hq) | (go_at_call 85; refine (lowestSum_any s _ _ _ _ _ _ xs (subTo f g _) _ (hx.below hB2) hv HG.out.a.n16 hm29 HG.out.a.xb HG.out.subb).mono ?_; rw [HG.out.low, ← HG.out.over, HLo.out]; rintro e w3 ⟨rfl, hb3⟩; have hB3 := chain hB2 hb3; have k0 := keep hB3 hp0; have k1 := keep hB3 hp1; have k2 := keep hB3 hq))
  all_goals
    go_wp2
    go_ret
    exact ⟨rfl, hB3⟩
theorem beatClos_call (vs : Array Value) (w' : World) : Sem.run Try.prog (callFunc 108 vs) w' = .ok (.enter 108 vs) w' := by
  have h1 : (Try.f108.name == "runtime.NumGoroutine") = false := by kernel_rfl
  have h2 : Try.f108.body.isNone = false := by kernel_rfl
  have h1' : ¬ Try.f108.name = "runtime.NumGoroutine" := by simpa using h1
  have h2' : ¬ Try.f108.body = none := by intro e; rw [e] at h2; simp at h2
  simp only [callFunc, Sem.run_bind, run_program, Result.andThen_ok, Try.func108, beq_iff_eq, Option.isNone_iff_eq_none, if_neg h1', if_neg h2', Sem.run_pure]
set_option maxHeartbeats 2000000 in
theorem UnbeatenActs_any (s : Int) (ao bo : Option Addr) (n c m d : Nat) (xs : List Int) (acts : List (List Int)) (w : World) (hx : IntsAt w ao n xs) (hy : RowsAt w bo m acts) :
    Calls Try.prog 59 #[.agg #[.int .i64 s, .slice ao n c], .slice bo m d] w fun e w' => (∃ v, e = .returned v ∧ Row w' w.heap.size v (unbeaten s xs acts)) ∧ Below w.heap.size w w' := by
  have hBa := below_alloc w (.cells #[.int .i64 s, .slice ao n c] 28)
  cases hA : actsOk s xs acts
  · have HU : Hid (unbeaten s xs acts = []) := by rw [Hid]; unfold unbeaten; rw [hA]; rfl
    go_enter Try.func59, Try.ntmps59
    go_wp2_with fail
    refine (areActs_any _ _ _ _ _ _ _ xs acts _ (hx.below hBa) (hy.below hBa)).mono ?_; rw [hA]; rintro e w1 ⟨rfl, hb1⟩
    obtain ⟨_, _, hB1⟩ := box2 hb1
    clear hb1
    go_wp2
    go_ret
    exact ⟨⟨_, rfl, by rw [HU.out]; exact Row.nil _ _⟩, hB1⟩
  · have HU : Hid (unbeaten s xs acts = freeTo xs acts acts.length) := by rw [Hid]; unfold unbeaten; rw [hA]; rfl
    obtain ⟨hm, hz, ha1, ha8, hag⟩ := actsOk_facts hA
    have HAG := hid hag; clear hag
    have HZ := hid hz; clear hz
    have hyl := hid hy.len
    have hxl := hid hx.len
    have hcap := hy.cap
    obtain ⟨vals, hv⟩ := hy.vals
    have HV := hid hv; clear hv
    have hm8 : m ≤ 8 := by have := hyl.out; omega
    go_enter Try.func59, Try.ntmps59
    go_wp2_with fail
    refine (areActs_any _ _ _ _ _ _ _ xs acts _ (hx.below hBa) (hy.below hBa)).mono ?_; rw [hA]; rintro e w1 ⟨rfl, hb1⟩
    obtain ⟨hp0, hp1, hB1⟩ := box2 hb1
    have hz1 : w.heap.size < w1.heap.size := by have := World.block_lt_of_cell? w1 _ hp0; simpa using this
    clear hb1
    go_wp2
    go_loopw [5, 6, 7, 15] (fun o _ _ i wr => ∃ (k : Nat) (v : Value), k ≤ m ∧ i = .int .i64 k ∧ o = v ∧ Row wr w1.heap.size v (freeTo xs acts k) ∧ Below w1.heap.size w1 wr) (fun _ _ _ i _ => m - (intOf i).toNat)
    case atStart =>
      refine ⟨0, _, by omega, rfl, rfl, ?_, below_alloc _ _⟩
      exact World.ownsRow_lit w1 #[] 0 (Nat.le_refl _) (by unfold maxLen; omega) rfl
    case round =>
      obtain ⟨k, v, hk, rfl, rfl, hrow, hBr⟩ := hrel
      have hB := chain hB1 hBr
      have hq0 := keep hBr hp0
      have hq1 := keep hBr hp1
      by_cases hlt : k < m
      · obtain ⟨b, off, a', n', c', rfl, hbs, hbs', hck, hi⟩ := hy.at hB hlt
        have hBk : Below wr.heap.size wr (wr.alloc (.cells #[.slice a' n' c'] 22)) := below_alloc _ _
        obtain ⟨Wk, HWk⟩ : ∃ Wk, Hid (wr.alloc (.cells #[.slice a' n' c'] 22) = Wk) := ⟨_, rfl⟩
        have hck2 : Wk.cell? ⟨wr.heap.size, 0, none⟩ = some (.slice a' n' c') := by rw [← HWk.out]; simp
        rw [HWk.out] at hBk
        have hkk0 := keep hBk hq0
        have hkk1 := keep hBk hq1
        go_wp2_with fail
        rw [HWk.out]
        refine (ContainsFuncII_any _ m d vals 108 #[.pointer (some ⟨w.heap.size, 0, none⟩), .pointer (some ⟨wr.heap.size, 0, none⟩)] (fun j => decide (0 < overS xs (nthL acts j) (nthL acts k))) _ hcap beatClos_call ?_ ?_).mono ?_
        · intro j hj
          obtain ⟨⟨b, off, e, hb, hc⟩, _⟩ := HV.out j hj
          exact ⟨b, off, e, Nat.lt_of_lt_of_le hb (hB.trans (hBk.mono hB.size)).size, keep (chain hB hBk) hc⟩
        · intro j w' hj hb'
          obtain ⟨_, a2, n2, c2, e, hi2⟩ := HV.out j hj
          rw [e]
          obtain ⟨e3, hmg⟩ := mg2_of hm HZ.out (HAG.out j (by rw [hyl.out]; exact hj)) (HAG.out k (by rw [hyl.out]; exact hlt)) hxl.out hi2.len hi.len
          subst e3
          have hBw := chain (chain hB hBk) hb'
          exact beatClos_any w.heap.size wr.heap.size s _ _ _ _ _ _ _ _ xs (nthL acts j) (nthL acts k) w' (hx.below hBw) (hi2.below hBw) ((hi.below hBk).below hb') hmg (keep hb' hkk0) (keep hb' hkk1) (keep hb' hck2)
        have HFE : Hid ((!allN (fun j => !decide (0 < overS xs (nthL acts j) (nthL acts k))) m) = !freeK xs acts k) := by rw [Hid]; unfold freeK; rw [hyl.out]
        rw [HFE.out]
        rintro e w3 ⟨rfl, hb3⟩
        have hB3 := chain (chain hBr hBk) hb3
        have hrow3 := (hrow.below hBk).below hb3
        have hz3 := hB3.size
        have HLF := freeTo_len xs acts k
        cases hfk : freeK xs acts k
        · have HN : Hid (freeTo xs acts (k + 1) = freeTo xs acts k) := by rw [Hid, freeTo_succ, hfk]; rfl
          go_wp2
          go_roundw
          case rel => first | exact ⟨k + 1, _, by omega, by go_num, rfl, by rw [HN.out]; exact hrow3, hB3⟩ | exact ⟨_, ⟨k + 1, _, by omega, by go_num, rfl, by rw [HN.out]; exact hrow3, hB3⟩, rfl⟩ | exact ⟨_, _, ⟨k + 1, _, by omega, by go_num, rfl, by rw [HN.out]; exact hrow3, hB3⟩, rfl, rfl⟩ | exact ⟨_, _, _, ⟨k + 1, _, by omega, by go_num, rfl, by rw [HN.out]; exact hrow3, hB3⟩, rfl, rfl, rfl⟩ | exact ⟨_, _, _, _, ⟨k + 1, _, by omega, by go_num, rfl, by rw [HN.out]; exact hrow3, hB3⟩, rfl, rfl, rfl, rfl⟩ | exact ⟨_, _, _, _, _, ⟨k + 1, _, by omega, by go_num, rfl, by rw [HN.out]; exact hrow3, hB3⟩, rfl, rfl, rfl, rfl, rfl⟩
          case measure => simp [intOf]; omega
        · have HN : Hid (freeTo xs acts (k + 1) = freeTo xs acts k ++ [(k : Int)]) := by rw [Hid, freeTo_succ, hfk]; rfl
          obtain ⟨q, HQ⟩ : ∃ q, Hid ((freeTo xs acts k).length = q) := ⟨_, rfl⟩
          rw [HQ.out] at HLF
          go_wp2_with (at_builtin; refine wpList_append_int rfl _ _ rfl w1.heap.size _ _ q HQ.out (by rfl) (hrow3.below (below_alloc w3 _)) _ _ (k : Int) (by rfl) (by simp) (by omega) (by simp; omega) ?_; intro g' c' w' hrow' hgrow)
          have HB' := hid (below_grownBy (B := w1.heap.size) (hB3.alloc (by omega) _) (by simp; omega) hgrow (fun b e => (hrow3.block b e).1))
          clear hgrow hrow hrow3 hB hBr
          go_roundw
          case rel => first | exact ⟨k + 1, _, by omega, by go_num, rfl, by rw [HN.out]; exact hrow', HB'.out⟩ | exact ⟨_, ⟨k + 1, _, by omega, by go_num, rfl, by rw [HN.out]; exact hrow', HB'.out⟩, rfl⟩ | exact ⟨_, _, ⟨k + 1, _, by omega, by go_num, rfl, by rw [HN.out]; exact hrow', HB'.out⟩, rfl, rfl⟩ | exact ⟨_, _, _, ⟨k + 1, _, by omega, by go_num, rfl, by rw [HN.out]; exact hrow', HB'.out⟩, rfl, rfl, rfl⟩ | exact ⟨_, _, _, _, ⟨k + 1, _, by omega, by go_num, rfl, by rw [HN.out]; exact hrow', HB'.out⟩, rfl, rfl, rfl, rfl⟩ | exact ⟨_, _, _, _, _, ⟨k + 1, _, by omega, by go_num, rfl, by rw [HN.out]; exact hrow', HB'.out⟩, rfl, rfl, rfl, rfl, rfl⟩
          case measure => simp [intOf]; omega
      · have hkn : k = m := by omega
        have HK := hid hkn
        clear hkn
        go_wp2
        go_ret
        exact ⟨⟨_, rfl, by rw [HU.out, hyl.out, ← HK.out]; exact hrow.mono (by omega)⟩, hB⟩
def beatTo (xs : List Int) (acts : List (List Int)) (k j : Nat) : Bool := !allN (fun i => !decide (0 < overS xs (nthL acts i) (nthL acts k))) j
theorem beatTo_succ (xs : List Int) (acts : List (List Int)) (k j : Nat) : beatTo xs acts k (j + 1) = (beatTo xs acts k j || decide (0 < overS xs (nthL acts j) (nthL acts k))) := by
  unfold beatTo; simp only [allN]; rw [Bool.not_and, Bool.not_not]
set_option maxHeartbeats 2000000 in
theorem specUnbeatenActs_any (s : Int) (ao bo : Option Addr) (n c m d : Nat) (xs : List Int) (acts : List (List Int)) (w : World) (hx : IntsAt w ao n xs) (hy : RowsAt w bo m acts) :
    Calls Try.prog 61 #[.agg #[.int .i64 s, .slice ao n c], .slice bo m d] w fun e w' => (∃ v, e = .returned v ∧ Row w' w.heap.size v (unbeaten s xs acts)) ∧ Below w.heap.size w w' := by
  have hBa : Below w.heap.size w ((w.alloc (.cells #[.int .i64 s, .slice ao n c] 28)).alloc (.cells #[] 3)) := (below_alloc w _).alloc (by simp) _
  have hr0 : Row ((w.alloc (.cells #[.int .i64 s, .slice ao n c] 28)).alloc (.cells #[] 3)) (w.heap.size + 1) (.slice (some ⟨w.heap.size + 1, 0, none⟩) 0 0) [] := by
    have : Row ((w.alloc (.cells #[.int .i64 s, .slice ao n c] 28)).alloc (.cells #[] 3)) (w.alloc (.cells #[.int .i64 s, .slice ao n c] 28)).heap.size (.slice (some ⟨(w.alloc (.cells #[.int .i64 s, .slice ao n c] 28)).heap.size, 0, none⟩) 0 0) [] := World.ownsRow_lit _ #[] 0 (Nat.le_refl _) (by unfold maxLen; omega) rfl
    simpa using this
  have hp0 : ((w.alloc (.cells #[.int .i64 s, .slice ao n c] 28)).alloc (.cells #[] 3)).cell? ⟨w.heap.size, 0, none⟩ = some (.int .i64 s) := by simp
  have hp1 : ((w.alloc (.cells #[.int .i64 s, .slice ao n c] 28)).alloc (.cells #[] 3)).cell? ⟨w.heap.size, 1, none⟩ = some (.slice ao n c) := by simp
  have hzW : w.heap.size + 1 < ((w.alloc (.cells #[.int .i64 s, .slice ao n c] 28)).alloc (.cells #[] 3)).heap.size := by simp
  obtain ⟨W, HW⟩ : ∃ W, Hid ((w.alloc (.cells #[.int .i64 s, .slice ao n c] 28)).alloc (.cells #[] 3) = W) := ⟨_, rfl⟩
  rw [HW.out] at hBa hr0 hp0 hp1 hzW
  cases hA : actsOk s xs acts
  · have HU : Hid (unbeaten s xs acts = []) := by rw [Hid]; unfold unbeaten; rw [hA]; rfl
    go_enter Try.func61, Try.ntmps61
    go_wp2
    rw [HW.out]
    refine wp_loop_rounds 1 ?_
    rw [rounds_succ]
    go_wp2_with fail
    refine (specActsValid_any _ _ _ _ _ _ _ xs acts _ (hx.below hBa) (hy.below hBa)).mono ?_; rw [hA]; rintro e w1 ⟨rfl, hb1⟩
    have hB1 := chain hBa hb1
    have hr1 := hr0.below hb1
    clear hb1
    go_wp2
    go_ret
    exact ⟨⟨_, rfl, by rw [HU.out]; exact hr1.mono (by omega)⟩, hB1⟩
  · have HU : Hid (unbeaten s xs acts = freeTo xs acts acts.length) := by rw [Hid]; unfold unbeaten; rw [hA]; rfl
    obtain ⟨hm, hz, ha1, ha8, hag⟩ := actsOk_facts hA
    have HAG := hid hag; clear hag
    have HZ := hid hz; clear hz
    have hyl := hid hy.len
    have hxl := hid hx.len
    have hcap := hy.cap
    have hm8 : m ≤ 8 := by have := hyl.out; omega
    go_enter Try.func61, Try.ntmps61
    go_wp2
    rw [HW.out]
    go_loopw [5, 6] (fun o i wr => ∃ (k : Nat) (v : Value), k ≤ m ∧ i = .int .i64 k ∧ o = v ∧ Row wr (w.heap.size + 1) v (freeTo xs acts k) ∧ Below (w.heap.size + 1) W wr ∧ W.heap.size ≤ wr.heap.size) (fun _ i _ => m - (intOf i).toNat)
    case atStart => exact ⟨0, _, by omega, rfl, rfl, hr0, Below.refl _ _, Nat.le_refl _⟩
    case round =>
      obtain ⟨k, v, hk, rfl, rfl, hrow, hBr, hzr⟩ := hrel
      have hB : Below w.heap.size w wr := hBa.trans (hBr.mono (by omega))
      have hq0 := keepB hBr (by omega) hp0
      have hq1 := keepB hBr (by omega) hp1
      go_wp2_with fail
      refine (specActsValid_any _ _ _ _ _ _ _ xs acts _ (hx.below hB) (hy.below hB)).mono ?_; rw [hA]; rintro e w1 ⟨rfl, hb1⟩
      have hB1 := chain hB hb1
      have hBr1 : Below (w.heap.size + 1) W w1 := hBr.trans (hb1.mono (by omega))
      have hz1 : W.heap.size ≤ w1.heap.size := by have := hb1.size; omega
      replace hrow := hrow.below hb1
      replace hq0 := keep hb1 hq0
      replace hq1 := keep hb1 hq1
      clear hb1 hB hBr hzr
      by_cases hlt : k < m
      · go_wp2
        go_loopw [7, 8] (fun t j wr2 => ∃ q : Nat, q ≤ m ∧ j = .int .i64 q ∧ t = .bool (beatTo xs acts k q) ∧ Below w1.heap.size w1 wr2) (fun _ j _ => m - (intOf j).toNat)
        case atStart => exact ⟨0, by omega, rfl, rfl, Below.refl _ _⟩
        case round =>
          obtain ⟨q, hq, rfl, rfl, hBq⟩ := hrel
          have hB2 := chain hB1 hBq
          have hs0 := keep hBq hq0
          have hs1 := keep hBq hq1
          have HN := hid (beatTo_succ xs acts k q)
          by_cases hqt : q < m
          · obtain ⟨b, off, a', n', c', rfl, hbs, hbs', hck, hi⟩ := hy.at hB2 hqt
            obtain ⟨b2, off2, a2, n2, c2, e2, _, _, hck2, hi2⟩ := hy.at hB2 hlt
            injection e2 with e2
            injection e2 with e3 e4
            subst e3 e4
            obtain ⟨e5, hmg⟩ := mg2_of hm HZ.out (HAG.out q (by rw [hyl.out]; exact hqt)) (HAG.out k (by rw [hyl.out]; exact hlt)) hxl.out hi.len hi2.len
            subst e5
            have HG := hid hmg; clear hmg
            obtain ⟨t, HT⟩ : ∃ t : Bool, Hid (decide (0 < overS xs (nthL acts q) (nthL acts k)) = t) := ⟨_, rfl⟩
            have HC : Hid (∀ w', IntsAt w' ao n xs → IntsAt w' a' n2 (nthL acts q) → IntsAt w' a2 n2 (nthL acts k) → Calls Try.prog 95 #[.agg #[.int .i64 s, .slice ao n c], .slice a' n2 c', .slice a2 n2 c2] w' fun e' w'' => e' = .returned (.bool t) ∧ Below w'.heap.size w' w'') := fun w' h1 h2 h3 => by
              rw [← HT.out, HG.out.over]; exact l12Beats_any s _ _ _ _ _ _ _ _ xs (nthL acts q) (nthL acts k) _ h1 h2 h3 HG.out.a.n16 HG.out.a.n1 (by have := HG.out.a.m4; omega) HG.out.a.zero HG.out.a.xb HG.out.a.gb1 HG.out.b.gb1
            have hk0 : (0 : Int) ≤ (k : Int) := by omega
            have hk1 : (k : Int) < (m : Int) := by omega
            have hq0' : (0 : Int) ≤ (q : Int) := by omega
            have hq1' : (q : Int) < (m : Int) := by omega
            cases hbt : beatTo xs acts k q
            all_goals
              go_wp2
              refine wp_region_ov (by kernel_rfl) (by kernel_rfl) ?_
              repeat (first | go_big_quiet_step ((go_at_call 95; (with_reducible exact ov_call (HC.out _ ((hx.below hB2).below (ov_below _ _)) (hi.below (ov_below _ _)) (hi2.below (ov_below _ _)))))) | quiet_step ((go_at_call 95; (with_reducible exact ov_call (HC.out _ ((hx.below hB2).below (ov_below _ _)) (hi.below (ov_below _ _)) (hi2.below (ov_below _ _)))))))
              refine wpQuiet_nil ?_
              intro _ hw_ov
              obtain ⟨x_ov, hw_ov2⟩ := hw_ov
              subst hw_ov2
              obtain ⟨w3, hw_ov3, hb3⟩ := ov_gen _ x_ov
              rw [hw_ov3]
              clear hw_ov3 x_ov
              have HB3 := hid (chain hBq hb3)
              clear hb3
              go_wp2
              go_roundw
              case rel => first | exact ⟨q + 1, by omega, by go_num, by rw [HN.out, hbt, HT.out]; rfl, HB3.out⟩ | exact ⟨_, ⟨q + 1, by omega, by go_num, by rw [HN.out, hbt, HT.out]; rfl, HB3.out⟩, rfl⟩ | exact ⟨_, _, ⟨q + 1, by omega, by go_num, by rw [HN.out, hbt, HT.out]; rfl, HB3.out⟩, rfl, rfl⟩ | exact ⟨_, _, _, ⟨q + 1, by omega, by go_num, by rw [HN.out, hbt, HT.out]; rfl, HB3.out⟩, rfl, rfl, rfl⟩ | exact ⟨_, _, _, _, ⟨q + 1, by omega, by go_num, by rw [HN.out, hbt, HT.out]; rfl, HB3.out⟩, rfl, rfl, rfl, rfl⟩ | exact ⟨_, _, _, _, _, ⟨q + 1, by omega, by go_num, by rw [HN.out, hbt, HT.out]; rfl, HB3.out⟩, rfl, rfl, rfl, rfl, rfl⟩
              case measure => simp [intOf]; omega
          · have hqm : q = m := by omega
            have HQ := hid hqm
            clear hqm
            have HF : Hid (beatTo xs acts k q = !freeK xs acts k) := by rw [Hid, HQ.out]; unfold beatTo freeK; rw [hyl.out]
            have hrow3 := hrow.below hBq
            have hBr3 : Below (w.heap.size + 1) W wr := hBr1.trans (hBq.mono (by omega))
            have hz3 : W.heap.size ≤ wr.heap.size := by have := hBq.size; omega
            have HLF := freeTo_len xs acts k
            rw [HF.out]
            cases hfk : freeK xs acts k
            · have HN2 : Hid (freeTo xs acts (k + 1) = freeTo xs acts k) := by rw [Hid, freeTo_succ, hfk]; rfl
              go_wp2
              go_roundw
              case rel => first | exact ⟨k + 1, _, by omega, by go_num, rfl, by rw [HN2.out]; exact hrow3, hBr3, hz3⟩ | exact ⟨_, ⟨k + 1, _, by omega, by go_num, rfl, by rw [HN2.out]; exact hrow3, hBr3, hz3⟩, rfl⟩ | exact ⟨_, _, ⟨k + 1, _, by omega, by go_num, rfl, by rw [HN2.out]; exact hrow3, hBr3, hz3⟩, rfl, rfl⟩ | exact ⟨_, _, _, ⟨k + 1, _, by omega, by go_num, rfl, by rw [HN2.out]; exact hrow3, hBr3, hz3⟩, rfl, rfl, rfl⟩ | exact ⟨_, _, _, _, ⟨k + 1, _, by omega, by go_num, rfl, by rw [HN2.out]; exact hrow3, hBr3, hz3⟩, rfl, rfl, rfl, rfl⟩ | exact ⟨_, _, _, _, _, ⟨k + 1, _, by omega, by go_num, rfl, by rw [HN2.out]; exact hrow3, hBr3, hz3⟩, rfl, rfl, rfl, rfl, rfl⟩
              case measure => simp [intOf]; omega
            · have HN2 : Hid (freeTo xs acts (k + 1) = freeTo xs acts k ++ [(k : Int)]) := by rw [Hid, freeTo_succ, hfk]; rfl
              obtain ⟨p, HP⟩ : ∃ p, Hid ((freeTo xs acts k).length = p) := ⟨_, rfl⟩
              rw [HP.out] at HLF
              go_wp2_with (at_builtin; refine wpList_append_int rfl _ _ rfl (w.heap.size + 1) _ _ p HP.out (by rfl) (hrow3.below (below_alloc wr _)) _ _ (k : Int) (by rfl) (by simp) (by omega) (by simp; omega) ?_; intro g' c' w' hrow' hgrow)
              have HB' := hid (below_grownBy (B := w.heap.size + 1) (hBr3.alloc (by omega) _) (by simp; omega) hgrow (fun b e => (hrow3.block b e).1))
              have hz' : W.heap.size ≤ w'.heap.size := by have := hgrow.size; simp at this; omega
              clear hgrow hrow hrow3
              go_roundw
              case rel => first | exact ⟨k + 1, _, by omega, by go_num, rfl, by rw [HN2.out]; exact hrow', HB'.out, hz'⟩ | exact ⟨_, ⟨k + 1, _, by omega, by go_num, rfl, by rw [HN2.out]; exact hrow', HB'.out, hz'⟩, rfl⟩ | exact ⟨_, _, ⟨k + 1, _, by omega, by go_num, rfl, by rw [HN2.out]; exact hrow', HB'.out, hz'⟩, rfl, rfl⟩ | exact ⟨_, _, _, ⟨k + 1, _, by omega, by go_num, rfl, by rw [HN2.out]; exact hrow', HB'.out, hz'⟩, rfl, rfl, rfl⟩ | exact ⟨_, _, _, _, ⟨k + 1, _, by omega, by go_num, rfl, by rw [HN2.out]; exact hrow', HB'.out, hz'⟩, rfl, rfl, rfl, rfl⟩ | exact ⟨_, _, _, _, _, ⟨k + 1, _, by omega, by go_num, rfl, by rw [HN2.out]; exact hrow', HB'.out, hz'⟩, rfl, rfl, rfl, rfl, rfl⟩
              case measure => simp [intOf]; omega
      · have hkn : k = m := by omega
        have HK := hid hkn
        clear hkn
        go_wp2
        go_ret
        exact ⟨⟨_, rfl, by rw [HU.out, hyl.out, ← HK.out]; exact hrow.mono (by omega)⟩, hB1⟩
end Go.Proofs.Ytchjnjmlambpjaa
