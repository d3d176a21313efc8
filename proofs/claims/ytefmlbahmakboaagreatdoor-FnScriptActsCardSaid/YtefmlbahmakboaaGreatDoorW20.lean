/- The act of the shared chance: l12Shared, SharedAct both. Acts that no other one beats: UnbeatenActs both. The regret of an act: RegretOf both. -/
import Derived.Test.YtefmlbahmakboaaGreatDoorW21
import Derived.Test.YtefmlbahmakboaaGreatDoorW11
import Derived.Test.YtefmlbahmakboaaGreatDoorW22
set_option linter.unusedSimpArgs false
set_option linter.unusedVariables false
namespace Go.Proofs.YtefmlbahmakboaaGreatDoor
open Go.RowKit
set_option maxHeartbeats 1000000 in
theorem sharedClos_any (B : Nat) (s : Int) (ao bo : Option Addr) (n c m d : Nat) (xs gs : List Int) (w : World) (hx : IntsAt w ao n xs) (hy : IntsAt w bo m gs) (hmg : MG s n m xs gs) (hp0 : w.cell? ⟨B, 0, none⟩ = some (.int .i64 s)) (hp1 : w.cell? ⟨B, 1, none⟩ = some (.slice ao n c)) :
    Calls Tryz.prog 73 #[.slice bo m d, .pointer (some ⟨B, 0, none⟩)] w fun e w' => e = .returned (.int .i64 (shTo xs gs m)) ∧ Below w.heap.size w w' := by
    have hB1 := Below.refl w.heap.size w
    have HG := hid hmg
    have hn16 := HG.out.n16
    have hn1 := HG.out.n1
    have hm4 := HG.out.m4
    clear hmg
    go_enter Tryz.func73, Tryz.ntmps73
    go_wp2
    go_loopw [4, 5, 6, 9] (fun t _ _ i wr => ∃ k : Nat, k ≤ m ∧ i = .int .i64 k ∧ t = .int .i64 (shTo xs gs k) ∧ Below w.heap.size w wr) (fun _ _ _ i _ => m - (intOf i).toNat)
    case atStart => exact ⟨0, by omega, rfl, rfl, Below.refl _ _⟩
    case round =>
      obtain ⟨k, hk, rfl, rfl, hBr⟩ := hrel
      have hB := chain hB1 hBr
      have hq0 := keep hBr hp0
      have hq1 := keep hBr hp1
      by_cases hlt : k < m
      · obtain ⟨b, off, rfl, hbs, hbs', hck⟩ := hy.at hB hlt
        have hg := HG.out.gb1 k hlt
        have hs := shTo_bd HG.out k hk
        have hsl := shl_nat k (by omega)
        have hpw := pow_lt16 k (by omega)
        have HN : Hid (shTo xs gs (k + 1) = shTo xs gs k + nth gs k * evenTo xs (2 ^ k) n) := by show shTo xs gs k + nth gs k * evenTo xs (2 ^ k) xs.length = _; rw [HG.out.xlen]
        have HEV : Hid (0 ≤ evenTo xs (2 ^ k) n ∧ evenTo xs (2 ^ k) n ≤ 48000000 * (n : Int)) := evenTo_bd xs (2 ^ k) n hn16 HG.out.xb n (Nat.le_refl _)
        obtain ⟨p, HP⟩ : ∃ p : Nat, Hid (2 ^ k = p) := ⟨_, rfl⟩
        rw [HP.out] at hpw hsl
        obtain ⟨e, HE⟩ : ∃ e : Int, Hid (evenTo xs p n = e) := ⟨_, rfl⟩
        have he0 : 0 ≤ e := by rw [← HE.out, ← HP.out]; exact HEV.out.1
        have he1 : e ≤ 768000000 := by rw [← HE.out, ← HP.out]; have := HEV.out.2; omega
        have hmul := mul_bd2 (nth gs k) e hg.1 hg.2 he0 he1
        have HCE : Hid (∀ w', IntsAt w' ao n xs → Calls Tryz.prog 74 #[.agg #[.int .i64 s, .slice ao n c], .int .i64 (p : Int)] w' fun e' w'' => e' = .returned (.int .i64 e) ∧ Below w'.heap.size w' w'') := fun w' hx' => by rw [← HE.out]; exact sharedPart_any s _ _ _ p xs _ hx' hn16 hpw HG.out.xb
        have hk0 : (0 : Int) ≤ (k : Int) := by omega
        have hkn : (k : Int) < (m : Int) := by omega
        have hk4 : (k : Int) < 4 := by omega
        go_wp2
        refine wp_region_ov (by kernel_rfl) (by kernel_rfl) ?_
        repeat (first | go_big_quiet_step ((go_at_call 74; (with_reducible exact ov_call (HCE.out _ ((hx.below hB).below (ov_below _ _)))))) | quiet_step ((go_at_call 74; (with_reducible exact ov_call (HCE.out _ ((hx.below hB).below (ov_below _ _)))))))
        refine wpQuiet_nil ?_
        intro _ hw_ov
        obtain ⟨x_ov, hw_ov2⟩ := hw_ov
        subst hw_ov2
        obtain ⟨w3, hw_ov3, hb3⟩ := ov_gen _ x_ov
        rw [hw_ov3]
        clear hw_ov3 x_ov
        have HB3 := hid (chain hBr hb3)
        clear hb3
        go_wp2
        go_roundw
        case rel => first | exact ⟨k + 1, by omega, by go_num, by rw [HN.out, HP.out, HE.out], HB3.out⟩ | exact ⟨_, ⟨k + 1, by omega, by go_num, by rw [HN.out, HP.out, HE.out], HB3.out⟩, rfl⟩ | exact ⟨_, _, ⟨k + 1, by omega, by go_num, by rw [HN.out, HP.out, HE.out], HB3.out⟩, rfl, rfl⟩ | exact ⟨_, _, _, ⟨k + 1, by omega, by go_num, by rw [HN.out, HP.out, HE.out], HB3.out⟩, rfl, rfl, rfl⟩ | exact ⟨_, _, _, _, ⟨k + 1, by omega, by go_num, by rw [HN.out, HP.out, HE.out], HB3.out⟩, rfl, rfl, rfl, rfl⟩ | exact ⟨_, _, _, _, _, ⟨k + 1, by omega, by go_num, by rw [HN.out, HP.out, HE.out], HB3.out⟩, rfl, rfl, rfl, rfl, rfl⟩
        case measure => simp [intOf]; omega
      · have hkn : k = m := by omega
        have HK := hid hkn
        clear hkn
        go_wp2
        go_ret
        exact ⟨ret_int (by rw [← HK.out]), hB⟩
theorem sharedClos_call (vs : Array Value) (w' : World) : Sem.run Tryz.prog (callFunc 73 vs) w' = .ok (.enter 73 vs) w' := by
  have h1 : (Tryz.f73.name == "runtime.NumGoroutine") = false := by kernel_rfl
  have h2 : Tryz.f73.body.isNone = false := by kernel_rfl
  have h1' : ¬ Tryz.f73.name = "runtime.NumGoroutine" := by simpa using h1
  have h2' : ¬ Tryz.f73.body = none := by intro e; rw [e] at h2; simp at h2
  simp only [callFunc, Sem.run_bind, run_program, Result.andThen_ok, Tryz.func73, beq_iff_eq, Option.isNone_iff_eq_none, if_neg h1', if_neg h2', Sem.run_pure]
set_option maxHeartbeats 1000000 in
theorem SharedAct_any (s : Int) (ao bo : Option Addr) (n c m d : Nat) (xs : List Int) (acts : List (List Int)) (w : World) (hx : IntsAt w ao n xs) (hy : RowsAt w bo m acts) :
    Calls Tryz.prog 30 #[.agg #[.int .i64 s, .slice ao n c], .slice bo m d] w fun e w' => e = .returned (.int .i64 (bestM (actsOk s xs acts) (fun k => shTo xs (nthL acts k) (nthL acts k).length) m)) ∧ Below w.heap.size w w' := by
  have hBa := below_alloc w (.cells #[.int .i64 s, .slice ao n c] 25)
  cases hA : actsOk s xs acts
  · go_enter Tryz.func30, Tryz.ntmps30
    go_wp2_with fail
    refine (areActs_any _ _ _ _ _ _ _ xs acts _ (hx.below hBa) (hy.below hBa)).mono ?_; rw [hA]; rintro e w1 ⟨rfl, hb1⟩
    obtain ⟨_, _, hB1⟩ := box2 hb1
    clear hb1
    go_wp2
    go_ret
    exact ⟨rfl, hB1⟩
  · obtain ⟨hm, hz, ha1, ha8, hag⟩ := actsOk_facts hA
    have HAG := hid hag; clear hag
    have HZ := hid hz; clear hz
    have hyl := hid hy.len
    have hxl := hid hx.len
    obtain ⟨vals, hv⟩ := hy.vals
    have HV := hid hv; clear hv
    have hm8 : m ≤ 100000000 := by have := hyl.out; omega
    go_enter Tryz.func30, Tryz.ntmps30
    go_wp2_with fail
    refine (areActs_any _ _ _ _ _ _ _ xs acts _ (hx.below hBa) (hy.below hBa)).mono ?_; rw [hA]; rintro e w1 ⟨rfl, hb1⟩
    obtain ⟨hp0, hp1, hB1⟩ := box2 hb1
    clear hb1
    go_wp2_with fail
    refine (bestAct_any bo m d vals 73 #[.pointer (some ⟨w.heap.size, 0, none⟩)] (fun k => shTo xs (nthL acts k) (nthL acts k).length) _ hm8 sharedClos_call ?_ ?_).mono ?_
    · intro k hk
      obtain ⟨⟨b, off, e, hb, hc⟩, _⟩ := HV.out k hk
      exact ⟨b, off, e, Nat.lt_of_lt_of_le hb hB1.size, keep hB1 hc⟩
    · intro k w' hk hb'
      obtain ⟨_, a', n', c', e, hi⟩ := HV.out k hk
      have hmg : MG s n n' xs (nthL acts k) := mg_of hm HZ.out (HAG.out k (by rw [hyl.out]; exact hk)) hxl.out hi.len
      rw [e]
      refine (sharedClos_any w.heap.size s _ _ _ _ _ _ xs (nthL acts k) w' ((hx.below hB1).below hb') ((hi.below hB1).below hb') hmg (keep hb' hp0) (keep hb' hp1)).mono ?_
      rintro e w'' ⟨rfl, hb''⟩
      refine ⟨ret_int ?_, hb''⟩
      rw [hmg.glen]
    rintro e w2 ⟨rfl, hb2⟩
    go_wp2
    go_ret
    exact ⟨rfl, chain hB1 hb2⟩
/-- what act f's gains are beyond act g's at least -/
def overS (xs f g : List Int) : Int := lowSumTo xs (subTo f g f.length) xs.length
/-- does no act beat act k? -/
def freeK (xs : List Int) (acts : List (List Int)) (k : Nat) : Bool := allN (fun j => !decide (0 < overS xs (nthL acts j) (nthL acts k))) acts.length
def freeTo (xs : List Int) (acts : List (List Int)) (k : Nat) : List Int := iter (fun j l => if freeK xs acts j then l ++ [(j : Int)] else l) [] k
def unbeaten (s : Int) (xs : List Int) (acts : List (List Int)) : List Int := if actsOk s xs acts then freeTo xs acts acts.length else []
theorem freeTo_succ (xs : List Int) (acts : List (List Int)) (k : Nat) : freeTo xs acts (k + 1) = if freeK xs acts k then freeTo xs acts k ++ [(k : Int)] else freeTo xs acts k := rfl
theorem freeTo_len (xs : List Int) (acts : List (List Int)) (k : Nat) : (freeTo xs acts k).length ≤ k := by
  induction k with
  | zero => exact Nat.le_refl _
  | succ k ih =>
    rw [freeTo_succ]; split
    · simp; omega
    · omega
theorem unbeaten_len (s : Int) (xs : List Int) (acts : List (List Int)) : (unbeaten s xs acts).length ≤ 100000000 := by
  unfold unbeaten; split
  · rename_i h
    have := freeTo_len xs acts acts.length
    have := (actsOk_facts h).2.2.2.1
    omega
  · simp
/-- two acts for one mass -/
structure MG2 (s : Int) (n m : Nat) (xs f g : List Int) : Prop where
  a : MG s n m xs f
  b : MG s n m xs g
theorem mg2_of {s : Int} {xs f g : List Int} {n m p : Nat} (hm : massOk s xs = true) (h0 : nth xs 0 = 0) (hf : gainsOk s f = true) (hg : gainsOk s g = true) (hn : xs.length = n) (hl : f.length = m) (hp : g.length = p) : p = m ∧ MG2 s n m xs f g := by
  have h1 := gainsOk_facts hf
  have h2 := gainsOk_facts hg
  have e : p = m := by omega
  subst e
  exact ⟨rfl, mg_of hm h0 hf hn hl, mg_of hm h0 hg hn hp⟩
theorem MG2.over {s : Int} {n m : Nat} {xs f g : List Int} (h : MG2 s n m xs f g) : overS xs f g = lowSumTo xs (subTo f g m) n := by
  unfold overS; rw [h.a.glen, h.a.xlen]
theorem MG2.subb {s : Int} {n m : Nat} {xs f g : List Int} (h : MG2 s n m xs f g) : ∀ k, k < m → inG (nth (subTo f g m) k) := fun k hk => by
  rw [subTo_nth _ _ _ _ hk]; have := h.a.gb1 k hk; have := h.b.gb1 k hk; unfold inG; omega
theorem MG2.low {s : Int} {n m : Nat} {xs f g : List Int} (h : MG2 s n m xs f g) : gainSum min xs (subTo f g m) = lowSumTo xs (subTo f g m) n := by
  show gainTo min xs (subTo f g m) xs.length = _
  rw [h.a.xlen]
  refine gain_low xs _ h.a.zero (fun k hk => h.subb k (by rw [subTo_len] at hk; exact hk)) n ?_ n (Nat.le_refl _)
  rw [subTo_len, ← h.a.pow]; exact Nat.le_refl _
set_option maxHeartbeats 1000000 in
theorem beatClos_any (A B : Nat) (s : Int) (ao fo go : Option Addr) (n c m d e' : Nat) (xs f g : List Int) (w : World) (hx : IntsAt w ao n xs) (hf : IntsAt w fo m f) (hg : IntsAt w go m g) (hmg : MG2 s n m xs f g)
    (hp0 : w.cell? ⟨A, 0, none⟩ = some (.int .i64 s)) (hp1 : w.cell? ⟨A, 1, none⟩ = some (.slice ao n c)) (hq : w.cell? ⟨B, 0, none⟩ = some (.slice go m e')) :
    Calls Tryz.prog 76 #[.slice fo m d, .pointer (some ⟨A, 0, none⟩), .pointer (some ⟨B, 0, none⟩)] w fun e w' => e = .returned (.bool (decide (0 < overS xs f g))) ∧ Below w.heap.size w w' := by
  have HG := hid hmg; clear hmg
  have hm29 : m ≤ 29 := by have := HG.out.a.m4; omega
  have hm100 : m ≤ 100 := by omega
  obtain ⟨lo, HLo⟩ : ∃ lo : Int, Hid (overS xs f g = lo) := ⟨_, rfl⟩
  rw [HLo.out]
  go_enter Tryz.func76, Tryz.ntmps76
  go_wp2
  go_region_held3 (fun w' => w'.cell? ⟨A, 0, none⟩ = some (.int .i64 s) ∧ w'.cell? ⟨A, 1, none⟩ = some (.slice ao n c) ∧ w'.cell? ⟨B, 0, none⟩ = some (.slice go m e') ∧ Below w.heap.size w w') (first | (refine ⟨by assumption, by assumption, by assumption, by assumption⟩; done) | (refine ⟨by simp [*], by simp [*], by simp [*], ?_⟩; (repeat (first | exact Below.refl _ _ | assumption | refine Below.alloc ?_ (by simp <;> omega) _ | refine Below.setCell ?_ (by simp <;> omega) _ | refine Below.drew ?_ | refine below_drewN ?_)); done)) (first | (go_at_call 69; refine (lessAct_any _ _ _ _ _ f g _ (hf.below (drew_below _)) (hg.below (drew_below _)) hm100 HG.out.a.gb1 HG.out.b.gb1).mono ?_; rintro e w2 ⟨v, rfl, hr2, hb2⟩; obtain ⟨av, nv, cv, rfl, hv⟩ := hr2.ints; have hnv : nv = m := (by rw [← hv.len]; exact subTo_len _ _ _); subst hnv; have hB2 := chain (drew_below w) hb2; have k0 := keep hB2 hp0; have k1 := keep hB2 hp1; have k2 := keep hB2 hq) | (go_at_call 63; refine (lowestSum_any s _ _ _ _ _ _ xs (subTo f g _) _ (hx.below hB2) hv HG.out.a.n16 hm29 HG.out.a.xb HG.out.subb).mono ?_; rw [HG.out.low, ← HG.out.over, HLo.out]; rintro e w3 ⟨rfl, hb3⟩; have hB3 := chain hB2 hb3; have k0 := keep hB3 hp0; have k1 := keep hB3 hp1; have k2 := keep hB3 hq))
  all_goals
    go_wp2
    go_ret
    exact ⟨rfl, hB3⟩
theorem beatClos_call (vs : Array Value) (w' : World) : Sem.run Tryz.prog (callFunc 76 vs) w' = .ok (.enter 76 vs) w' := by
  have h1 : (Tryz.f76.name == "runtime.NumGoroutine") = false := by kernel_rfl
  have h2 : Tryz.f76.body.isNone = false := by kernel_rfl
  have h1' : ¬ Tryz.f76.name = "runtime.NumGoroutine" := by simpa using h1
  have h2' : ¬ Tryz.f76.body = none := by intro e; rw [e] at h2; simp at h2
  simp only [callFunc, Sem.run_bind, run_program, Result.andThen_ok, Tryz.func76, beq_iff_eq, Option.isNone_iff_eq_none, if_neg h1', if_neg h2', Sem.run_pure]
set_option maxHeartbeats 2000000 in
theorem UnbeatenActs_any (s : Int) (ao bo : Option Addr) (n c m d : Nat) (xs : List Int) (acts : List (List Int)) (w : World) (hx : IntsAt w ao n xs) (hy : RowsAt w bo m acts) :
    Calls Tryz.prog 31 #[.agg #[.int .i64 s, .slice ao n c], .slice bo m d] w fun e w' => (∃ v, e = .returned v ∧ Row w' w.heap.size v (unbeaten s xs acts)) ∧ Below w.heap.size w w' := by
  have hBa := below_alloc w (.cells #[.int .i64 s, .slice ao n c] 25)
  cases hA : actsOk s xs acts
  · have HU : Hid (unbeaten s xs acts = []) := by rw [Hid]; unfold unbeaten; rw [hA]; rfl
    go_enter Tryz.func31, Tryz.ntmps31
    go_wp2_with fail
    refine (areActs_any _ _ _ _ _ _ _ xs acts _ (hx.below hBa) (hy.below hBa)).mono ?_; rw [hA]; rintro e w1 ⟨rfl, hb1⟩
    obtain ⟨_, _, hB1⟩ := box2 hb1
    clear hb1
    go_wp2
    go_ret
    exact ⟨⟨_, rfl, by rw [HU.out]; exact Row.nil _ _⟩, hB1⟩
  · have HU : Hid (unbeaten s xs acts = freeTo xs acts acts.length) := by rw [Hid]; unfold unbeaten; rw [hA]; rfl
    obtain ⟨hm, hz, ha1, ha8, hag⟩ := actsOk_facts hA
    have HAG := hid hag; clear hag
    have HZ := hid hz; clear hz
    have hyl := hid hy.len
    have hxl := hid hx.len
    have hcap := hy.cap
    obtain ⟨vals, hv⟩ := hy.vals
    have HV := hid hv; clear hv
    have hm8 : m ≤ 8 := by have := hyl.out; omega
    go_enter Tryz.func31, Tryz.ntmps31
    go_wp2_with fail
    refine (areActs_any _ _ _ _ _ _ _ xs acts _ (hx.below hBa) (hy.below hBa)).mono ?_; rw [hA]; rintro e w1 ⟨rfl, hb1⟩
    obtain ⟨hp0, hp1, hB1⟩ := box2 hb1
    have hz1 : w.heap.size < w1.heap.size := by have := World.block_lt_of_cell? w1 _ hp0; simpa using this
    clear hb1
    go_wp2
    go_loopw [5, 6, 7, 15] (fun o _ _ i wr => ∃ (k : Nat) (v : Value), k ≤ m ∧ i = .int .i64 k ∧ o = v ∧ Row wr w1.heap.size v (freeTo xs acts k) ∧ Below w1.heap.size w1 wr) (fun _ _ _ i _ => m - (intOf i).toNat)
    case atStart =>
      refine ⟨0, _, by omega, rfl, rfl, ?_, below_alloc _ _⟩
      exact World.ownsRow_lit w1 #[] 0 (Nat.le_refl _) (by unfold maxLen; omega) rfl
    case round =>
      obtain ⟨k, v, hk, rfl, rfl, hrow, hBr⟩ := hrel
      have hB := chain hB1 hBr
      have hq0 := keep hBr hp0
      have hq1 := keep hBr hp1
      by_cases hlt : k < m
      · obtain ⟨b, off, a', n', c', rfl, hbs, hbs', hck, hi⟩ := hy.at hB hlt
        have hBk : Below wr.heap.size wr (wr.alloc (.cells #[.slice a' n' c'] 23)) := below_alloc _ _
        obtain ⟨Wk, HWk⟩ : ∃ Wk, Hid (wr.alloc (.cells #[.slice a' n' c'] 23) = Wk) := ⟨_, rfl⟩
        have hck2 : Wk.cell? ⟨wr.heap.size, 0, none⟩ = some (.slice a' n' c') := by rw [← HWk.out]; simp
        rw [HWk.out] at hBk
        have hkk0 := keep hBk hq0
        have hkk1 := keep hBk hq1
        go_wp2_with fail
        rw [HWk.out]
        refine (ContainsFuncII_any _ m d vals 76 #[.pointer (some ⟨w.heap.size, 0, none⟩), .pointer (some ⟨wr.heap.size, 0, none⟩)] (fun j => decide (0 < overS xs (nthL acts j) (nthL acts k))) _ hcap beatClos_call ?_ ?_).mono ?_
        · intro j hj
          obtain ⟨⟨b, off, e, hb, hc⟩, _⟩ := HV.out j hj
          exact ⟨b, off, e, Nat.lt_of_lt_of_le hb (hB.trans (hBk.mono hB.size)).size, keep (chain hB hBk) hc⟩
        · intro j w' hj hb'
          obtain ⟨_, a2, n2, c2, e, hi2⟩ := HV.out j hj
          rw [e]
          obtain ⟨e3, hmg⟩ := mg2_of hm HZ.out (HAG.out j (by rw [hyl.out]; exact hj)) (HAG.out k (by rw [hyl.out]; exact hlt)) hxl.out hi2.len hi.len
          subst e3
          have hBw := chain (chain hB hBk) hb'
          exact beatClos_any w.heap.size wr.heap.size s _ _ _ _ _ _ _ _ xs (nthL acts j) (nthL acts k) w' (hx.below hBw) (hi2.below hBw) ((hi.below hBk).below hb') hmg (keep hb' hkk0) (keep hb' hkk1) (keep hb' hck2)
        have HFE : Hid ((!allN (fun j => !decide (0 < overS xs (nthL acts j) (nthL acts k))) m) = !freeK xs acts k) := by rw [Hid]; unfold freeK; rw [hyl.out]
        rw [HFE.out]
        rintro e w3 ⟨rfl, hb3⟩
        have hB3 := chain (chain hBr hBk) hb3
        have hrow3 := (hrow.below hBk).below hb3
        have hz3 := hB3.size
        have HLF := freeTo_len xs acts k
        cases hfk : freeK xs acts k
        · have HN : Hid (freeTo xs acts (k + 1) = freeTo xs acts k) := by rw [Hid, freeTo_succ, hfk]; rfl
          go_wp2
          go_roundw
          case rel => first | exact ⟨k + 1, _, by omega, by go_num, rfl, by rw [HN.out]; exact hrow3, hB3⟩ | exact ⟨_, ⟨k + 1, _, by omega, by go_num, rfl, by rw [HN.out]; exact hrow3, hB3⟩, rfl⟩ | exact ⟨_, _, ⟨k + 1, _, by omega, by go_num, rfl, by rw [HN.out]; exact hrow3, hB3⟩, rfl, rfl⟩ | exact ⟨_, _, _, ⟨k + 1, _, by omega, by go_num, rfl, by rw [HN.out]; exact hrow3, hB3⟩, rfl, rfl, rfl⟩ | exact ⟨_, _, _, _, ⟨k + 1, _, by omega, by go_num, rfl, by rw [HN.out]; exact hrow3, hB3⟩, rfl, rfl, rfl, rfl⟩ | exact ⟨_, _, _, _, _, ⟨k + 1, _, by omega, by go_num, rfl, by rw [HN.out]; exact hrow3, hB3⟩, rfl, rfl, rfl, rfl, rfl⟩
          case measure => simp [intOf]; omega
        · have HN : Hid (freeTo xs acts (k + 1) = freeTo xs acts k ++ [(k : Int)]) := by rw [Hid, freeTo_succ, hfk]; rfl
          obtain ⟨q, HQ⟩ : ∃ q, Hid ((freeTo xs acts k).length = q) := ⟨_, rfl⟩
          rw [HQ.out] at HLF
          go_wp2_with (at_builtin; refine wpList_append_int rfl _ _ rfl w1.heap.size _ _ q HQ.out (by rfl) (hrow3.below (below_alloc w3 _)) _ _ (k : Int) (by rfl) (by simp) (by omega) (by simp; omega) ?_; intro g' c' w' hrow' hgrow)
          have HB' := hid (below_grownBy (B := w1.heap.size) (hB3.alloc (by omega) _) (by simp; omega) hgrow (fun b e => (hrow3.block b e).1))
          clear hgrow hrow hrow3 hB hBr
          go_roundw
          case rel => first | exact ⟨k + 1, _, by omega, by go_num, rfl, by rw [HN.out]; exact hrow', HB'.out⟩ | exact ⟨_, ⟨k + 1, _, by omega, by go_num, rfl, by rw [HN.out]; exact hrow', HB'.out⟩, rfl⟩ | exact ⟨_, _, ⟨k + 1, _, by omega, by go_num, rfl, by rw [HN.out]; exact hrow', HB'.out⟩, rfl, rfl⟩ | exact ⟨_, _, _, ⟨k + 1, _, by omega, by go_num, rfl, by rw [HN.out]; exact hrow', HB'.out⟩, rfl, rfl, rfl⟩ | exact ⟨_, _, _, _, ⟨k + 1, _, by omega, by go_num, rfl, by rw [HN.out]; exact hrow', HB'.out⟩, rfl, rfl, rfl, rfl⟩ | exact ⟨_, _, _, _, _, ⟨k + 1, _, by omega, by go_num, rfl, by rw [HN.out]; exact hrow', HB'.out⟩, rfl, rfl, rfl, rfl, rfl⟩
          case measure => simp [intOf]; omega
      · have hkn : k = m := by omega
        have HK := hid hkn
        clear hkn
        go_wp2
        go_ret
        exact ⟨⟨_, rfl, by rw [HU.out, hyl.out, ← HK.out]; exact hrow.mono (by omega)⟩, hB⟩
def beatTo (xs : List Int) (acts : List (List Int)) (k j : Nat) : Bool := !allN (fun i => !decide (0 < overS xs (nthL acts i) (nthL acts k))) j
theorem beatTo_succ (xs : List Int) (acts : List (List Int)) (k j : Nat) : beatTo xs acts k (j + 1) = (beatTo xs acts k j || decide (0 < overS xs (nthL acts j) (nthL acts k))) := by
  unfold beatTo; simp only [allN]; rw [Bool.not_and, Bool.not_not]
/-- what is lost by an act against another one at most -/
def lossS (xs f g : List Int) : Int := -(sumF 2000 xs (negTo (subTo f g f.length) f.length) xs.length)
def mostTo (xs : List Int) (acts : List (List Int)) (k j : Nat) : Int := iter (fun i t => max t (lossS xs (nthL acts i) (nthL acts k))) 0 j
def regretM (s : Int) (xs : List Int) (acts : List (List Int)) (k : Int) : FR := if actsOk s xs acts && inB 0 ((acts.length : Int) - 1) k then redF (mostTo xs acts k.toNat acts.length) (isum xs) else FR.no
theorem regretM_bad {s : Int} {xs : List Int} {acts : List (List Int)} {k : Int} (h : actsOk s xs acts = false ∨ inB 0 ((acts.length : Int) - 1) k = false) : regretM s xs acts k = FR.no := by
  rcases h with h | h <;> simp [regretM, h]
theorem MG2.loss {s : Int} {n m : Nat} {xs f g : List Int} (h : MG2 s n m xs f g) : lossS xs f g = -(sumF 2000 xs (negTo (subTo f g m) m) n) := by
  unfold lossS; rw [h.a.glen, h.a.xlen]
theorem MG2.high {s : Int} {n m : Nat} {xs f g : List Int} (h : MG2 s n m xs f g) : gainSum max xs (subTo f g m) = lossS xs f g := by
  rw [h.loss]
  show gainTo max xs (subTo f g m) xs.length = _
  rw [h.a.xlen]
  have := gain_maxF 2000 xs (subTo f g m) h.a.zero (fun k hk => (h.subb k (by rw [subTo_len] at hk; exact hk)).1) n (by rw [subTo_len, ← h.a.pow]; exact Nat.le_refl _) n (Nat.le_refl _)
  rw [subTo_len] at this
  exact this
theorem MG2.negb {s : Int} {n m : Nat} {xs f g : List Int} (h : MG2 s n m xs f g) : ∀ k, k < m → inG (nth (negTo (subTo f g m) m) k) := fun k hk => by
  rw [negTo_nth _ _ _ hk]; have := h.subb k hk; unfold inG at *; omega
theorem MG2.loss_bd {s : Int} {n m : Nat} {xs f g : List Int} (h : MG2 s n m xs f g) : -32000000000 ≤ lossS xs f g ∧ lossS xs f g ≤ 32000000000 := by
  rw [h.loss]
  have h1 := sumF_bd 2000 (by omega) xs (negTo (subTo f g m) m) n h.a.xb (fun k hk => h.negb k (by rw [negTo_len] at hk; exact hk)) n (Nat.le_refl _)
  have := h.a.n16; omega
theorem max_eq (x y : Int) : (if x < y then y else x) = max x y := by split <;> omega
set_option maxHeartbeats 2000000 in
theorem RegretOf_any (s kk : Int) (ao bo : Option Addr) (n c m d : Nat) (xs : List Int) (acts : List (List Int)) (w : World) (hx : IntsAt w ao n xs) (hy : RowsAt w bo m acts) :
    Calls Tryz.prog 26 #[.agg #[.int .i64 s, .slice ao n c], .slice bo m d, .int .i64 kk] w fun e w' => e = .returned (.tuple #[.agg #[.int .i64 (regretM s xs acts kk).num, .int .i64 (regretM s xs acts kk).den], .bool (regretM s xs acts kk).ok]) ∧ Below w.heap.size w w' := by
  have hB0 : Below w.heap.size w ((w.alloc (.cells #[.int .i64 s, .slice ao n c] 25)).alloc (.cells #[.int .i64 0, .int .i64 0] 33)) := (below_alloc w _).alloc (by simp) _
  cases hA : actsOk s xs acts
  · have HR : Hid (regretM s xs acts kk = FR.no) := regretM_bad (.inl hA)
    go_enter Tryz.func26, Tryz.ntmps26
    go_wp2_with fail
    refine (areActs_any _ _ _ _ _ _ _ xs acts _ (hx.below hB0) (hy.below hB0)).mono ?_; rw [hA]; rintro e w1 ⟨rfl, hb1⟩
    obtain ⟨h10, h11, f20, f21⟩ := boxG (w.heap.size + 1) hb1 (by simp)
    have hB1 : Below w.heap.size w w1 := Below.trans (by (repeat (first | exact Below.refl _ _ | assumption | refine Below.alloc ?_ (by simp <;> omega) _ | refine Below.setCell ?_ (by simp <;> omega) _ | refine Below.drew ?_ | refine below_drewN ?_))) (hb1.mono (by simp <;> omega))
    clear hb1
    go_wp2
    refine bodyPost_ret (v := .tuple #[.agg #[.int .i64 0, .int .i64 0], .bool false]) (by simp [results, Tryz.results26, go_sem, h10, h11]) rfl ⟨?_, ?_⟩
    · rw [HR.out]; rfl
    · (repeat (first | exact Below.refl _ _ | assumption | refine Below.alloc ?_ (by simp <;> omega) _ | refine Below.setCell ?_ (by simp <;> omega) _ | refine Below.drew ?_ | refine below_drewN ?_))
  · obtain ⟨hm, hz, ha1, ha8, hag⟩ := actsOk_facts hA
    have hyl := hid hy.len
    have hm8 : m ≤ 8 := by have := hyl.out; omega
    by_cases hin : 0 ≤ kk ∧ kk < (m : Int)
    · obtain ⟨hk0, hk1⟩ := hin
      obtain ⟨k, rfl⟩ : ∃ k : Nat, kk = (k : Int) := ⟨kk.toNat, by omega⟩
      have hkm : k < m := by omega
      have HR : Hid (regretM s xs acts (k : Int) = redF (mostTo xs acts k m) (isum xs)) := by
        rw [Hid]; unfold regretM; rw [hA, inB_iff.2 (by have := hyl.out; omega), hyl.out]; rfl
      have HAG := hid hag; clear hag
      have HZ := hid hz; clear hz
      have hxl := hid hx.len
      have hcap := hy.cap
      obtain ⟨_, _, _, hxb, hs1, hs2, _⟩ := massOk_facts' hm
      have HXB : Hid (∀ k, k < n → 0 ≤ nth xs k ∧ nth xs k ≤ 1000000000000000) := fun k hk => by have := hxb k (by rw [hxl.out]; exact hk); omega
      have hn16 : n ≤ 16 := by have := (massOk_facts' hm).2.2.1; have := hxl.out; omega
      clear hxb
      go_enter Tryz.func26, Tryz.ntmps26
      go_wp2_with fail
      refine (areActs_any _ _ _ _ _ _ _ xs acts _ (hx.below hB0) (hy.below hB0)).mono ?_; rw [hA]; rintro e w1 ⟨rfl, hb1⟩
      obtain ⟨h10, h11, f20, f21⟩ := boxG (w.heap.size + 1) hb1 (by simp)
      have hp0 := keep hb1 (a := ⟨w.heap.size, 0, none⟩) (v := .int .i64 s) (by simp)
      have hp1 := keep hb1 (a := ⟨w.heap.size, 1, none⟩) (v := .slice ao n c) (by simp)
      have hB1 : Below w.heap.size w w1 := Below.trans (by (repeat (first | exact Below.refl _ _ | assumption | refine Below.alloc ?_ (by simp <;> omega) _ | refine Below.setCell ?_ (by simp <;> omega) _ | refine Below.drew ?_ | refine below_drewN ?_))) (hb1.mono (by simp <;> omega))
      clear hb1
      go_wp2
      go_loopw [8, 10, 28] (fun t _ i wr => ∃ q : Nat, q ≤ m ∧ i = .int .i64 q ∧ t = .int .i64 (mostTo xs acts k q) ∧ 0 ≤ mostTo xs acts k q ∧ mostTo xs acts k q ≤ 32000000000 ∧ Below w1.heap.size w1 wr) (fun _ _ i _ => m - (intOf i).toNat)
      case atStart => exact ⟨0, by omega, rfl, rfl, by show (0 : Int) ≤ 0; omega, by show (0 : Int) ≤ 32000000000; omega, Below.refl _ _⟩
      case round =>
        obtain ⟨q, hq, rfl, rfl, hm0, hm1, hBr⟩ := hrel
        have hB := chain hB1 hBr
        have hq0 := keep hBr hp0
        have hq1 := keep hBr hp1
        have HN : Hid (mostTo xs acts k (q + 1) = max (mostTo xs acts k q) (lossS xs (nthL acts q) (nthL acts k))) := rfl
        obtain ⟨t, HT⟩ : ∃ t, Hid (mostTo xs acts k q = t) := ⟨_, rfl⟩
        rw [HT.out] at hm0 hm1
        rw [HT.out]
        by_cases hqt : q < m
        · obtain ⟨b, off, a', n', c', rfl, hbs, hbs', hck, hi⟩ := hy.at hB hqt
          obtain ⟨b2, off2, a2, n2, c2, e2, _, _, hck2, hi2⟩ := hy.at hB hkm
          injection e2 with e2
          injection e2 with e3 e4
          subst e3 e4
          obtain ⟨e5, hmg⟩ := mg2_of hm HZ.out (HAG.out q (by rw [hyl.out]; exact hqt)) (HAG.out k (by rw [hyl.out]; exact hkm)) hxl.out hi.len hi2.len
          subst e5
          have HG := hid hmg; clear hmg
          have hlb := HG.out.loss_bd
          obtain ⟨l, HLs⟩ : ∃ l, Hid (lossS xs (nthL acts q) (nthL acts k) = l) := ⟨_, rfl⟩
          rw [HLs.out] at hlb
          have hm29 : n2 ≤ 29 := by have := HG.out.a.m4; omega
          have hm100 : n2 ≤ 100 := by omega
          have hk0' : (0 : Int) ≤ (k : Int) := by omega
          have hq0' : (0 : Int) ≤ (q : Int) := by omega
          have hq1' : (q : Int) < (m : Int) := by omega
          go_wp2
          go_region_held3 (fun w' => w'.cell? ⟨w.heap.size, 0, none⟩ = some (.int .i64 s) ∧ w'.cell? ⟨w.heap.size, 1, none⟩ = some (.slice ao n c) ∧ w'.cell? ⟨b, off + k, none⟩ = some (.slice a2 n2 c2) ∧ Below wr.heap.size wr w') (first | (refine ⟨by assumption, by assumption, by assumption, by assumption⟩; done) | (refine ⟨by simp [*], by simp [*], by simp [*], ?_⟩; (repeat (first | exact Below.refl _ _ | assumption | refine Below.alloc ?_ (by simp <;> omega) _ | refine Below.setCell ?_ (by simp <;> omega) _ | refine Below.drew ?_ | refine below_drewN ?_)); done)) (first | (go_at_call 69; refine (lessAct_any _ _ _ _ _ (nthL acts q) (nthL acts k) _ (hi.below (drew_below _)) (hi2.below (drew_below _)) hm100 HG.out.a.gb1 HG.out.b.gb1).mono ?_; rintro e w2 ⟨v, rfl, hr2, hb2⟩; obtain ⟨av, nv, cv, rfl, hv⟩ := hr2.ints; have hnv : nv = n2 := (by rw [← hv.len]; exact subTo_len _ _ _); subst hnv; have hB2 := chain (drew_below wr) hb2; have k0 := keep hB2 hq0; have k1 := keep hB2 hq1; have k2 := keep hB2 hck2) | (go_at_call 68; refine (highestSum_any s _ _ _ _ _ _ xs (subTo (nthL acts q) (nthL acts k) _) _ ((hx.below hB).below hB2) hv HG.out.a.n16 hm29 HG.out.a.xb HG.out.subb).mono ?_; rw [HG.out.high, HLs.out]; rintro e w3 ⟨rfl, hb3⟩; have hB3 := chain hB2 hb3; have k0 := keep hB3 hq0; have k1 := keep hB3 hq1; have k2 := keep hB3 hck2))
          all_goals
            have HB3 := hid (chain hBr hB3)
            clear hB3 hB2 hb2
            by_cases hc : t < l
            all_goals
              go_wp2
              go_roundw
              case rel => first | exact ⟨q + 1, by omega, by go_num, by rw [HN.out, HLs.out, HT.out]; congr 1; omega, by rw [HN.out, HLs.out, HT.out]; omega, by rw [HN.out, HLs.out, HT.out]; omega, HB3.out⟩ | exact ⟨_, ⟨q + 1, by omega, by go_num, by rw [HN.out, HLs.out, HT.out]; congr 1; omega, by rw [HN.out, HLs.out, HT.out]; omega, by rw [HN.out, HLs.out, HT.out]; omega, HB3.out⟩, rfl⟩ | exact ⟨_, _, ⟨q + 1, by omega, by go_num, by rw [HN.out, HLs.out, HT.out]; congr 1; omega, by rw [HN.out, HLs.out, HT.out]; omega, by rw [HN.out, HLs.out, HT.out]; omega, HB3.out⟩, rfl, rfl⟩ | exact ⟨_, _, _, ⟨q + 1, by omega, by go_num, by rw [HN.out, HLs.out, HT.out]; congr 1; omega, by rw [HN.out, HLs.out, HT.out]; omega, by rw [HN.out, HLs.out, HT.out]; omega, HB3.out⟩, rfl, rfl, rfl⟩ | exact ⟨_, _, _, _, ⟨q + 1, by omega, by go_num, by rw [HN.out, HLs.out, HT.out]; congr 1; omega, by rw [HN.out, HLs.out, HT.out]; omega, by rw [HN.out, HLs.out, HT.out]; omega, HB3.out⟩, rfl, rfl, rfl, rfl⟩ | exact ⟨_, _, _, _, _, ⟨q + 1, by omega, by go_num, by rw [HN.out, HLs.out, HT.out]; congr 1; omega, by rw [HN.out, HLs.out, HT.out]; omega, by rw [HN.out, HLs.out, HT.out]; omega, HB3.out⟩, rfl, rfl, rfl, rfl, rfl⟩
              case measure => simp [intOf]; omega
        · have hqm : q = m := by omega
          have HQ := hid hqm
          clear hqm
          replace f20 := keepF hBr h10 f20
          replace f21 := keepF hBr h11 f21
          replace h10 := keep hBr h10
          replace h11 := keep hBr h11
          go_wp2_with fail
          refine (wholeOf_any s _ _ _ xs _ (hx.below hB) HXB.out hn16).mono ?_; rintro e w4 ⟨rfl, hb4⟩
          replace f20 := keepF hb4 h10 f20
          replace f21 := keepF hb4 h11 f21
          replace h10 := keep hb4 h10
          replace h11 := keep hb4 h11
          have hB4 := chain hB hb4
          clear hb4
          go_wp2_with fail
          refine (lowest_any _ _ _ (by omega) (by omega) (by omega) (by omega) (by omega)).mono ?_; rintro e w5 ⟨rfl, hb5⟩
          replace f20 := keepF hb5 h10 f20
          replace f21 := keepF hb5 h11 f21
          replace h10 := keep hb5 h10
          replace h11 := keep hb5 h11
          have hB5 := chain hB4 hb5
          clear hb5
          go_wp2
          refine bodyPost_ret (v := .tuple #[.agg #[.int .i64 (redF t (isum xs)).num, .int .i64 (redF t (isum xs)).den], .bool (redF t (isum xs)).ok]) (by simp [results, Tryz.results26, go_sem, h10, h11]) rfl ⟨?_, ?_⟩
          · rw [HR.out, ← HQ.out, HT.out]
          · (repeat (first | exact Below.refl _ _ | assumption | refine Below.alloc ?_ (by simp <;> omega) _ | refine Below.setCell ?_ (by simp <;> omega) _ | refine Below.drew ?_ | refine below_drewN ?_))
    · have HR : Hid (regretM s xs acts kk = FR.no) := regretM_bad (.inr (inB_false.2 (by have := hyl.out; omega)))
      have hor : kk < 0 ∨ (0 ≤ kk ∧ (m : Int) ≤ kk) := by omega
      clear hin
      rcases hor with h | ⟨h, h'⟩
      all_goals
        go_enter Tryz.func26, Tryz.ntmps26
        go_wp2_with fail
        refine (areActs_any _ _ _ _ _ _ _ xs acts _ (hx.below hB0) (hy.below hB0)).mono ?_; rw [hA]; rintro e w1 ⟨rfl, hb1⟩
        obtain ⟨h10, h11, f20, f21⟩ := boxG (w.heap.size + 1) hb1 (by simp)
        have hB1 : Below w.heap.size w w1 := Below.trans (by (repeat (first | exact Below.refl _ _ | assumption | refine Below.alloc ?_ (by simp <;> omega) _ | refine Below.setCell ?_ (by simp <;> omega) _ | refine Below.drew ?_ | refine below_drewN ?_))) (hb1.mono (by simp <;> omega))
        clear hb1
        go_wp2
        refine bodyPost_ret (v := .tuple #[.agg #[.int .i64 0, .int .i64 0], .bool false]) (by simp [results, Tryz.results26, go_sem, h10, h11]) rfl ⟨?_, ?_⟩
        · rw [HR.out]; rfl
        · (repeat (first | exact Below.refl _ _ | assumption | refine Below.alloc ?_ (by simp <;> omega) _ | refine Below.setCell ?_ (by simp <;> omega) _ | refine Below.drew ?_ | refine below_drewN ?_))
theorem mostTo_succ (xs : List Int) (acts : List (List Int)) (k q : Nat) : mostTo xs acts k (q + 1) = max (mostTo xs acts k q) (lossS xs (nthL acts q) (nthL acts k)) := rfl
end Go.Proofs.YtefmlbahmakboaaGreatDoor
