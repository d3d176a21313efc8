/- Acts that are best by a corner: PossiblyBest both. -/
import Derived.Test.YtefmlbahmakboaaGreatDoorC6
import Derived.Test.YtefmlbahmakboaaGreatDoorW11
set_option linter.unusedSimpArgs false
set_option linter.unusedVariables false
namespace Go.Proofs.YtefmlbahmakboaaGreatDoor
open Go.RowKit
/-- has act i the greatest mean by p? -/
def topB (p : List Int) (acts : List (List Int)) (i : Nat) : Bool := allN (fun a => !decide (loS p (nthL acts i) < loS p (nthL acts a))) acts.length
def possB (C acts : List (List Int)) (i : Nat) : Bool := !allN (fun j => !topB (nthL C j) acts i) C.length
def possTo (C acts : List (List Int)) (k : Nat) : List Int := iter (fun i l => if possB C acts i then l ++ [(i : Int)] else l) [] k
def possL (s : Int) (xs : List Int) (acts : List (List Int)) : List Int := if actsOk s xs acts then possTo (cornersL s xs) acts acts.length else []
theorem possTo_succ (C acts : List (List Int)) (k : Nat) : possTo C acts (k + 1) = if possB C acts k then possTo C acts k ++ [(k : Int)] else possTo C acts k := rfl
theorem possTo_len (C acts : List (List Int)) (k : Nat) : (possTo C acts k).length ≤ k := by
  induction k with
  | zero => exact Nat.le_refl _
  | succ k ih =>
    rw [possTo_succ]; split
    · simp; omega
    · omega
theorem possL_len (s : Int) (xs : List Int) (acts : List (List Int)) : (possL s xs acts).length ≤ 100000000 := by
  unfold possL; split
  · rename_i h
    have := possTo_len (cornersL s xs) acts acts.length
    have := (actsOk_facts h).2.2.2.1
    omega
  · simp
/-- what is known of the corners and the acts -/
theorem poss_facts {s : Int} {xs : List Int} {acts : List (List Int)} (hA : actsOk s xs acts = true) : normalOk s xs = true ∧ ∀ j, j < (cornersL s xs).length → massOk s (nthL (cornersL s xs) j) = true ∧ nth (nthL (cornersL s xs) j) 0 = 0 := by
  have hn : normalOk s xs = true := by unfold actsOk at hA; rw [Bool.and_eq_true] at hA; exact hA.1
  refine ⟨hn, fun j hj => ?_⟩
  obtain ⟨_, o, _, ho, e⟩ := corners_nth hj
  obtain ⟨_, _, _, h0, hm, _⟩ := norm_size (corner_chance hn ho).2
  rw [e]; exact ⟨hm, h0⟩
set_option maxHeartbeats 1000000 in
theorem possIn_any (A B : Nat) (s : Int) (ao fo go : Option Addr) (n c m d e' : Nat) (p f g : List Int) (w : World) (hx : IntsAt w ao n p) (hf : IntsAt w fo m f) (hg : IntsAt w go m g) (hmf : MG s n m p f) (hmg : MG s n m p g)
    (hp0 : w.cell? ⟨A, 0, none⟩ = some (.int .i64 s)) (hp1 : w.cell? ⟨A, 1, none⟩ = some (.slice ao n c)) (hq : w.cell? ⟨B, 0, none⟩ = some (.slice go m e')) :
    Calls Tryz.prog 80 #[.slice fo m d, .pointer (some ⟨A, 0, none⟩), .pointer (some ⟨B, 0, none⟩)] w fun e w' => e = .returned (.bool (decide (loS p g < loS p f))) ∧ Below w.heap.size w w' := by
  have hm29 : m ≤ 29 := by have := hmf.m4; omega
  have HF : Hid (∀ w', IntsAt w' ao n p → IntsAt w' fo m f → Calls Tryz.prog 63 #[.agg #[.int .i64 s, .slice ao n c], .slice fo m d] w' fun e w'' => e = .returned (.int .i64 (loS p f)) ∧ Below w'.heap.size w' w'') := fun w' h1 h2 => by
    have := lowestSum_any s _ _ _ c _ d p f w' h1 h2 hmf.n16 hm29 hmf.xb hmf.gb
    rw [hmf.lo] at this; unfold loS; rw [hmf.xlen]; exact this
  have HG : Hid (∀ w', IntsAt w' ao n p → IntsAt w' go m g → Calls Tryz.prog 63 #[.agg #[.int .i64 s, .slice ao n c], .slice go m e'] w' fun e w'' => e = .returned (.int .i64 (loS p g)) ∧ Below w'.heap.size w' w'') := fun w' h1 h2 => by
    have := lowestSum_any s _ _ _ c _ e' p g w' h1 h2 hmg.n16 hm29 hmg.xb hmg.gb
    rw [hmg.lo] at this; unfold loS; rw [hmg.xlen]; exact this
  clear hmf hmg
  generalize loS p f = F at *
  generalize loS p g = G at *
  go_enter Tryz.func80, Tryz.ntmps80
  go_wp2
  refine wp_region_ov (by kernel_rfl) (by kernel_rfl) ?_
  repeat (first | go_big_quiet_step ((first | (go_at_call 63; (with_reducible exact ov_call (HF.out _ (hx.below (ov_below _ _)) (hf.below (ov_below _ _))))) | (go_at_call 63; (with_reducible exact ov_call (HG.out _ (hx.below (ov_below _ _)) (hg.below (ov_below _ _))))))) | quiet_step ((first | (go_at_call 63; (with_reducible exact ov_call (HF.out _ (hx.below (ov_below _ _)) (hf.below (ov_below _ _))))) | (go_at_call 63; (with_reducible exact ov_call (HG.out _ (hx.below (ov_below _ _)) (hg.below (ov_below _ _))))))))
  refine wpQuiet_nil ?_
  intro _ hw_ov
  obtain ⟨x_ov, hw_ov2⟩ := hw_ov
  subst hw_ov2
  obtain ⟨w3, hw_ov3, hb3⟩ := ov_gen _ x_ov
  rw [hw_ov3]
  clear hw_ov3 x_ov
  go_wp2
  go_ret
  exact ⟨rfl, hb3⟩
theorem possIn_call (vs : Array Value) (w' : World) : Sem.run Tryz.prog (callFunc 80 vs) w' = .ok (.enter 80 vs) w' := by
  have h1 : (Tryz.f80.name == "runtime.NumGoroutine") = false := by kernel_rfl
  have h2 : Tryz.f80.body.isNone = false := by kernel_rfl
  have h1' : ¬ Tryz.f80.name = "runtime.NumGoroutine" := by simpa using h1
  have h2' : ¬ Tryz.f80.body = none := by intro e; rw [e] at h2; simp at h2
  simp only [callFunc, Sem.run_bind, run_program, Result.andThen_ok, Tryz.func80, beq_iff_eq, Option.isNone_iff_eq_none, if_neg h1', if_neg h2', Sem.run_pure]
set_option maxHeartbeats 1000000 in
theorem possClos_any (A B i : Nat) (s : Int) (ao bo : Option Addr) (n c m d : Nat) (p : List Int) (acts : List (List Int)) (w : World) (hx : IntsAt w ao n p) (hy : RowsAt w bo m acts) (hi : i < m) (go : Option Addr) (ng cg : Nat) (hg : IntsAt w go ng (nthL acts i))
    (hm : massOk s p = true) (h0 : nth p 0 = 0) (hag : ∀ k, k < m → gainsOk s (nthL acts k) = true)
    (hp : w.cell? ⟨A, 0, none⟩ = some (.slice bo m d)) (hq : w.cell? ⟨B, 0, none⟩ = some (.slice go ng cg)) :
    Calls Tryz.prog 79 #[.agg #[.int .i64 s, .slice ao n c], .pointer (some ⟨A, 0, none⟩), .pointer (some ⟨B, 0, none⟩)] w fun e w' => e = .returned (.bool (topB p acts i)) ∧ Below w.heap.size w w' := by
  have hyl := hy.len
  obtain ⟨vals, HV⟩ := hy.vals
  have hcap := hy.cap
  have hBa := below_alloc w (.cells #[.int .i64 s, .slice ao n c] 25)
  have hpa := keep hBa hp
  have hqa := keep hBa hq
  have HT : Hid ((!allN (fun a => !decide (loS p (nthL acts i) < loS p (nthL acts a))) m) = !topB p acts i) := by rw [Hid]; unfold topB; rw [hyl]
  obtain ⟨W, HW⟩ : ∃ W, Hid (w.alloc (.cells #[.int .i64 s, .slice ao n c] 25) = W) := ⟨_, rfl⟩
  have q0 : W.cell? ⟨w.heap.size, 0, none⟩ = some (.int .i64 s) := by rw [← HW.out]; simp
  have q1 : W.cell? ⟨w.heap.size, 1, none⟩ = some (.slice ao n c) := by rw [← HW.out]; simp
  rw [HW.out] at hBa hpa hqa
  have HVh := hid HV
  clear HV
  go_enter Tryz.func79, Tryz.ntmps79
  go_wp2_with fail
  rw [HW.out]
  refine (ContainsFuncII_any _ m d vals 80 #[.pointer (some ⟨w.heap.size, 0, none⟩), .pointer (some ⟨B, 0, none⟩)] (fun a => decide (loS p (nthL acts i) < loS p (nthL acts a))) _ hcap possIn_call ?_ ?_).mono ?_
  · intro j hj
    obtain ⟨⟨b, off, e, hb, hc⟩, _⟩ := HVh.out j hj
    exact ⟨b, off, e, Nat.lt_of_lt_of_le hb hBa.size, keep hBa hc⟩
  · intro j w' hj hb'
    obtain ⟨_, a2, n2, c2, e, hi2⟩ := HVh.out j hj
    rw [e]
    have G1 := mg_of hm h0 (hag i hi) hx.len hg.len
    have G2 := mg_of hm h0 (hag j hj) hx.len hi2.len
    have e3 : n2 = ng := by
      have h1 := gainsOk_facts (hag i hi)
      have h2 := gainsOk_facts (hag j hj)
      have := hg.len; have := hi2.len
      omega
    subst e3
    have hBw := chain hBa hb'
    exact possIn_any w.heap.size B s _ _ _ _ _ _ _ _ p (nthL acts j) (nthL acts i) w' (hx.below hBw) (hi2.below hBw) (hg.below hBw) G2 G1 (keep hb' q0) (keep hb' q1) (keep hb' hqa)
  rw [HT.out]
  rintro e w3 ⟨rfl, hb3⟩
  have hB3 := chain hBa hb3
  go_wp2
  go_ret
  exact ⟨ret_bool (by simp), hB3⟩
theorem possClos_call (vs : Array Value) (w' : World) : Sem.run Tryz.prog (callFunc 79 vs) w' = .ok (.enter 79 vs) w' := by
  have h1 : (Tryz.f79.name == "runtime.NumGoroutine") = false := by kernel_rfl
  have h2 : Tryz.f79.body.isNone = false := by kernel_rfl
  have h1' : ¬ Tryz.f79.name = "runtime.NumGoroutine" := by simpa using h1
  have h2' : ¬ Tryz.f79.body = none := by intro e; rw [e] at h2; simp at h2
  simp only [callFunc, Sem.run_bind, run_program, Result.andThen_ok, Tryz.func79, beq_iff_eq, Option.isNone_iff_eq_none, if_neg h1', if_neg h2', Sem.run_pure]
set_option maxHeartbeats 2000000 in
theorem PossiblyBest_any (s : Int) (ao bo : Option Addr) (n c m d : Nat) (xs : List Int) (acts : List (List Int)) (w : World) (hx : IntsAt w ao n xs) (hy : RowsAt w bo m acts) :
    Calls Tryz.prog 32 #[.agg #[.int .i64 s, .slice ao n c], .slice bo m d] w fun e w' => (∃ v, e = .returned v ∧ Row w' w.heap.size v (possL s xs acts)) ∧ Below w.heap.size w w' := by
  have hcap := hy.cap
  obtain ⟨W, HW⟩ : ∃ W, Hid ((w.alloc (.cells #[.int .i64 s, .slice ao n c] 25)).alloc (.cells #[.slice bo m d] 42) = W) := ⟨_, rfl⟩
  have hBa : Below w.heap.size w W := by rw [← HW.out]; (repeat (first | exact Below.refl _ _ | assumption | refine Below.alloc ?_ (by first | omega | (simp <;> omega)) _ | refine Below.setCell ?_ (by first | omega | (simp <;> omega)) _ | refine Below.drew ?_ | refine below_drewN ?_))
  have hp0 : W.cell? ⟨w.heap.size, 0, none⟩ = some (.int .i64 s) := by rw [← HW.out]; simp
  have hp1 : W.cell? ⟨w.heap.size, 1, none⟩ = some (.slice ao n c) := by rw [← HW.out]; simp
  have hq0 : W.cell? ⟨w.heap.size + 1, 0, none⟩ = some (.slice bo m d) := by rw [← HW.out]; simp
  have hzW : W.heap.size = w.heap.size + 1 + 1 := by rw [← HW.out]; simp
  cases hA : actsOk s xs acts
  · have HU : Hid (possL s xs acts = []) := by rw [Hid]; unfold possL; rw [hA]; rfl
    go_enter Tryz.func32, Tryz.ntmps32
    go_wp2_with fail
    rw [HW.out]
    refine (areActs_any _ _ _ _ _ _ _ xs acts _ (hx.below hBa) (hy.below hBa)).mono ?_; rw [hA]; rintro e w1 ⟨rfl, hb1⟩
    have hB1 := chain hBa hb1
    clear hb1
    go_wp2
    go_ret
    exact ⟨⟨_, rfl, by rw [HU.out]; exact Row.nil _ _⟩, hB1⟩
  · obtain ⟨C, HC⟩ : ∃ C, Hid (cornersL s xs = C) := ⟨_, rfl⟩
    have HU : Hid (possL s xs acts = possTo C acts acts.length) := by rw [Hid, ← HC.out]; unfold possL; rw [hA]; rfl
    obtain ⟨hm, hz, ha1, ha8, hag⟩ := actsOk_facts hA
    obtain ⟨hno, hco⟩ := poss_facts hA
    rw [HC.out] at hco
    have HCO := hid hco; clear hco
    have hyl := hid hy.len
    have HAG : Hid (∀ k, k < m → gainsOk s (nthL acts k) = true) := fun k hk => hag k (by rw [hyl.out]; exact hk)
    clear hag
    have hm8 : m ≤ 8 := by have := hyl.out; omega
    go_enter Tryz.func32, Tryz.ntmps32
    go_wp2_with fail
    rw [HW.out]
    refine (areActs_any _ _ _ _ _ _ _ xs acts _ (hx.below hBa) (hy.below hBa)).mono ?_; rw [hA]; rintro e w1 ⟨rfl, hb1⟩
    replace hp0 := keep hb1 hp0
    replace hp1 := keep hb1 hp1
    replace hq0 := keep hb1 hq0
    have hB1 := chain hBa hb1
    have hz1 := hb1.size
    clear hb1
    go_wp2_with fail
    refine (cornersOf_any s ao n c xs _ (hx.below hB1) hno).mono ?_; rintro e w2 ⟨⟨vc, rfl, hmo⟩, hb2⟩
    rw [HC.out] at hmo
    obtain ⟨ac, cc, he, hat⟩ := hmo.form
    subst he
    clear hmo
    obtain ⟨Q, HQ⟩ : ∃ Q, Hid (C.length = Q) := ⟨_, rfl⟩
    rw [HQ.out] at hat ⊢
    replace hq0 := keep hb2 hq0
    have hB2 := chain hB1 hb2
    have hz2 := hb2.size
    clear hb2 hp0 hp1
    go_wp2
    go_loopw [6, 7, 8, 18] (fun o _ _ i wr => ∃ (k : Nat) (v : Value), k ≤ m ∧ i = .int .i64 k ∧ o = v ∧ Row wr w2.heap.size v (possTo C acts k) ∧ Below w2.heap.size w2 wr) (fun _ _ _ i _ => m - (intOf i).toNat)
    case atStart =>
      refine ⟨0, _, by omega, rfl, rfl, ?_, below_alloc _ _⟩
      exact World.ownsRow_lit w2 #[] 0 (Nat.le_refl _) (by unfold maxLen; omega) rfl
    case round =>
      obtain ⟨k, v, hk, rfl, rfl, hrow, hBr⟩ := hrel
      obtain ⟨wo, rfl⟩ : ∃ q : World, q = wr := ⟨_, rfl⟩
      have hB := chain hB2 hBr
      have hqr := keep hBr hq0
      have hatr := hat.below hBr
      by_cases hlt : k < m
      · obtain ⟨b, off, a', n', c', rfl, hbs, hbs', hck, hi⟩ := hy.at hB hlt
        have hBk : Below wo.heap.size wo (wo.alloc (.cells #[.slice a' n' c'] 23)) := below_alloc _ _
        obtain ⟨Wk, HWk⟩ : ∃ Wk, Hid (wo.alloc (.cells #[.slice a' n' c'] 23) = Wk) := ⟨_, rfl⟩
        have hck2 : Wk.cell? ⟨wo.heap.size, 0, none⟩ = some (.slice a' n' c') := by rw [← HWk.out]; simp
        rw [HWk.out] at hBk
        have hqk := keep hBk hqr
        go_wp2_with fail
        rw [HWk.out]
        refine (ContainsFuncM_any ac Q cc _ _ 79 #[.pointer (some ⟨w.heap.size + 1, 0, none⟩), .pointer (some ⟨wo.heap.size, 0, none⟩)] (fun j => topB (nthL C j) acts k) _ (hatr.below hBk) possClos_call ?_).mono ?_
        · intro j w' a2 n2 c2 hj hb' hi2
          obtain ⟨g1, g2⟩ := HCO.out j (by rw [HQ.out]; exact hj)
          have hBw := chain (chain hB hBk) hb'
          exact possClos_any (w.heap.size + 1) wo.heap.size k s _ _ _ _ _ _ (nthL C j) acts w' hi2 (hy.below hBw) hlt _ _ _ ((hi.below hBk).below hb') g1 g2 HAG.out (keep hb' hqk) (keep hb' hck2)
        have HFE : Hid ((!allN (fun j => !topB (nthL C j) acts k) Q) = possB C acts k) := by rw [Hid]; unfold possB; rw [HQ.out]
        rw [HFE.out]
        rintro e w3 ⟨rfl, hb3⟩
        have hB3 := chain (chain hBr hBk) hb3
        have hrow3 := (hrow.below hBk).below hb3
        have hz3 := hB3.size
        have HLF := possTo_len C acts k
        cases hfk : possB C acts k
        · have HN : Hid (possTo C acts (k + 1) = possTo C acts k) := by rw [Hid, possTo_succ, hfk]; rfl
          go_wp2
          go_roundw
          case rel => first | exact ⟨k + 1, _, by omega, by go_num, rfl, by rw [HN.out]; exact hrow3, hB3⟩ | exact ⟨_, ⟨k + 1, _, by omega, by go_num, rfl, by rw [HN.out]; exact hrow3, hB3⟩, rfl⟩ | exact ⟨_, _, ⟨k + 1, _, by omega, by go_num, rfl, by rw [HN.out]; exact hrow3, hB3⟩, rfl, rfl⟩ | exact ⟨_, _, _, ⟨k + 1, _, by omega, by go_num, rfl, by rw [HN.out]; exact hrow3, hB3⟩, rfl, rfl, rfl⟩ | exact ⟨_, _, _, _, ⟨k + 1, _, by omega, by go_num, rfl, by rw [HN.out]; exact hrow3, hB3⟩, rfl, rfl, rfl, rfl⟩ | exact ⟨_, _, _, _, _, ⟨k + 1, _, by omega, by go_num, rfl, by rw [HN.out]; exact hrow3, hB3⟩, rfl, rfl, rfl, rfl, rfl⟩
          case measure => simp [intOf]; omega
        · have HN : Hid (possTo C acts (k + 1) = possTo C acts k ++ [(k : Int)]) := by rw [Hid, possTo_succ, hfk]; rfl
          obtain ⟨q, HQ2⟩ : ∃ q, Hid ((possTo C acts k).length = q) := ⟨_, rfl⟩
          rw [HQ2.out] at HLF
          go_wp2_with (at_builtin; refine wpList_append_int rfl _ _ rfl w2.heap.size _ _ q HQ2.out (by rfl) (hrow3.below (below_alloc w3 _)) _ _ (k : Int) (by rfl) (by simp) (by omega) (by simp; omega) ?_; intro g' c' w' hrow' hgrow)
          have HB' := hid (below_grownBy (B := w2.heap.size) (hB3.alloc (by omega) _) (by simp; omega) hgrow (fun b e => (hrow3.block b e).1))
          clear hgrow hrow hrow3 hB hBr
          go_roundw
          case rel => first | exact ⟨k + 1, _, by omega, by go_num, rfl, by rw [HN.out]; exact hrow', HB'.out⟩ | exact ⟨_, ⟨k + 1, _, by omega, by go_num, rfl, by rw [HN.out]; exact hrow', HB'.out⟩, rfl⟩ | exact ⟨_, _, ⟨k + 1, _, by omega, by go_num, rfl, by rw [HN.out]; exact hrow', HB'.out⟩, rfl, rfl⟩ | exact ⟨_, _, _, ⟨k + 1, _, by omega, by go_num, rfl, by rw [HN.out]; exact hrow', HB'.out⟩, rfl, rfl, rfl⟩ | exact ⟨_, _, _, _, ⟨k + 1, _, by omega, by go_num, rfl, by rw [HN.out]; exact hrow', HB'.out⟩, rfl, rfl, rfl, rfl⟩ | exact ⟨_, _, _, _, _, ⟨k + 1, _, by omega, by go_num, rfl, by rw [HN.out]; exact hrow', HB'.out⟩, rfl, rfl, rfl, rfl, rfl⟩
          case measure => simp [intOf]; omega
      · have hkn : k = m := by omega
        have HK := hid hkn
        clear hkn
        go_wp2
        go_ret
        exact ⟨⟨_, rfl, by rw [HU.out, hyl.out, ← HK.out]; exact hrow.mono (by omega)⟩, hB⟩
end Go.Proofs.YtefmlbahmakboaaGreatDoor
