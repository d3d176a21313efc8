/- The law FnUnbeaten: its walk (printed by fngen.py). -/
import Derived.Test.YtchjnjmlambpjaaD22
import Derived.Test.YtchjnjmlambpjaaN13
import Derived.Test.YtchjnjmlambpjaaW9
import Derived.Test.YtchjnjmlambpjaaW25
import Derived.Test.YtchjnjmlambpjaaE1
set_option linter.unusedSimpArgs false
set_option linter.unusedVariables false
namespace Go.Proofs.Ytchjnjmlambpjaa
open Go.RowKit
/-- is a number among the first of a list? -/
def amongL (U : List Int) (x : Int) (k : Nat) : Bool := !allN (fun i => !(nth U i == x)) k
theorem amongL_succ (U : List Int) (x : Int) (k : Nat) : amongL U x (k + 1) = (amongL U x k || (nth U k == x)) := by
  unfold amongL; rw [allN_step]; cases allN (fun i => !(nth U i == x)) k <;> cases (nth U k == x) <;> rfl
theorem amongL_of {U : List Int} {x : Int} {k i : Nat} (hi : i < k) (h : nth U i = x) : amongL U x k = true := by
  unfold amongL
  rw [allN_false (p := fun i => !(nth U i == x)) hi (by show (!(nth U i == x)) = false; rw [h]; simp)]
  rfl
set_option maxRecDepth 100000 in
set_option maxHeartbeats 16000000 in
theorem FnUnbeaten_walk (ao : Option Addr) (n c : Nat) (w : World) (hx : n ≤ 1048576 → BytesIn w w.heap.size ao n) (hnc : n ≤ c) (hcap : n ≤ 9223372036854775807) :
    Calls Try.prog 11 #[.slice ao n c] w fun e w' => e = .returned (.bool true) ∧ Below w.heap.size w w' := by
  by_cases hn : 1048576 < n
  · go_enter Try.func11, Try.ntmps11
    go_wp2
    go_ret
    exact ⟨rfl, Below.refl _ _⟩
  have HX := hid (hx (by omega))
  clear hx
  go_enter Try.func11, Try.ntmps11
  have hB := Below.refl w.heap.size w
  go_wp2_with fail
  refine (DrawUnbeatenActs_any ao n c _ HX.out hnc).mono ?_; rintro e w1 ⟨⟨s, p, xs, q, acts, rfl, hr, hlx, hr2, hl9, hsh⟩, hb⟩
  have hd := hb
  replace hB := chain hB hd
  have hs1 := hd.size
  clear hb hd
  obtain ⟨am, nm, cm, rfl, him⟩ := hr.ints
  clear hr
  obtain ⟨aq, nq, cq, rfl, hnq, hiq⟩ := hr2.form
  clear hr2
  subst hnq
  obtain ⟨M, hM⟩ : ∃ M, acts.length = M := ⟨_, rfl⟩
  rw [hM] at hiq hl9 ⊢
  have HM := hid hM
  clear hM
  obtain ⟨U, HU⟩ : ∃ U, Hid (unbeaten s xs acts = U) := ⟨_, rfl⟩
  obtain ⟨O, HO⟩ : ∃ U, Hid (possL s xs acts = U) := ⟨_, rfl⟩
  go_wp2_with fail
  refine (UnbeatenActs_any s _ _ _ _ _ _ xs acts _ (him.below (by (repeat (first | exact Below.refl _ _ | assumption | refine Below.alloc ?_ (by first | omega | (simp <;> omega)) _ | refine Below.setCell ?_ (by first | omega | (simp <;> omega)) _ | refine Below.drew ?_ | refine below_drewN ?_)))) (hiq.below (by (repeat (first | exact Below.refl _ _ | assumption | refine Below.alloc ?_ (by first | omega | (simp <;> omega)) _ | refine Below.setCell ?_ (by first | omega | (simp <;> omega)) _ | refine Below.drew ?_ | refine below_drewN ?_))))).mono ?_; rw [HU.out]; rintro e w2 ⟨⟨vU, rfl, hrU⟩, hb⟩
  have mm0 := keep hb (a := ⟨w1.heap.size, 0, none⟩) (v := .int .i64 s) (by simp)
  have mm1 := keep hb (a := ⟨w1.heap.size, 1, none⟩) (v := .slice am nm cm) (by simp)
  have hN1 : w1.heap.size < w2.heap.size := by have := World.block_lt_of_cell? w2 _ mm0; simpa using this
  have hd : Below w1.heap.size w1 w2 := Below.trans (by (repeat (first | exact Below.refl _ _ | assumption | refine Below.alloc ?_ (by first | omega | (simp <;> omega)) _ | refine Below.setCell ?_ (by first | omega | (simp <;> omega)) _ | refine Below.drew ?_ | refine below_drewN ?_))) (hb.mono (by simp <;> omega))
  replace him := him.below hd
  replace hiq := hiq.below hd
  replace hB := chain hB hd
  have hs2 := hd.size
  clear hb hd
  obtain ⟨aU, nU, cU, rfl, hiU⟩ := hrU.ints
  clear hrU
  go_wp2_with fail
  refine (PossiblyBest_any s _ _ _ _ _ _ xs acts _ him hiq).mono ?_; rw [HO.out]; rintro e w3 ⟨⟨vO, rfl, hrO⟩, hb⟩
  have hd := hb
  replace mm0 := keep hd mm0
  replace mm1 := keep hd mm1
  replace him := him.below hd
  replace hiq := hiq.below hd
  replace hiU := hiU.below hd
  replace hB := chain hB hd
  have hs3 := hd.size
  clear hb hd
  obtain ⟨aO, nO, cO, rfl, hiO⟩ := hrO.ints
  clear hrO
  go_wp2_with fail
  refine (specUnbeatenActs_any s _ _ _ _ _ _ xs acts _ him hiq).mono ?_; rw [HU.out]; rintro e w4 ⟨⟨vV, rfl, hrV⟩, hb⟩
  have hd := hb
  replace mm0 := keep hd mm0
  replace mm1 := keep hd mm1
  replace him := him.below hd
  replace hiq := hiq.below hd
  replace hiU := hiU.below hd
  replace hiO := hiO.below hd
  replace hB := chain hB hd
  have hs4 := hd.size
  clear hb hd
  obtain ⟨aV, nV, cV, rfl, hiV⟩ := hrV.ints
  clear hrV
  go_wp2_with fail
  refine (weSame_eq _ _ _ _ _ _ _ _ _ hiU hiV rfl).mono ?_; rintro e w5 ⟨rfl, hb⟩
  have hd := hb
  replace mm0 := keep hd mm0
  replace mm1 := keep hd mm1
  replace him := him.below hd
  replace hiq := hiq.below hd
  replace hiU := hiU.below hd
  replace hiO := hiO.below hd
  replace hiV := hiV.below hd
  replace hB := chain hB hd
  have hs5 := hd.size
  clear hb hd
  go_wp2_with fail
  refine (specPossiblyBest_any s _ _ _ _ _ _ xs acts _ him hiq).mono ?_; rw [HO.out]; rintro e w6 ⟨⟨vW, rfl, hrW⟩, hb⟩
  have hd := hb
  replace mm0 := keep hd mm0
  replace mm1 := keep hd mm1
  replace him := him.below hd
  replace hiq := hiq.below hd
  replace hiU := hiU.below hd
  replace hiO := hiO.below hd
  replace hiV := hiV.below hd
  replace hB := chain hB hd
  have hs6 := hd.size
  clear hb hd
  obtain ⟨aW, nW, cW, rfl, hiW⟩ := hrW.ints
  clear hrW
  go_wp2_with fail
  refine (weSame_eq _ _ _ _ _ _ _ _ _ hiO hiW rfl).mono ?_; rintro e w7 ⟨rfl, hb⟩
  have hd := hb
  replace mm0 := keep hd mm0
  replace mm1 := keep hd mm1
  replace him := him.below hd
  replace hiq := hiq.below hd
  replace hiU := hiU.below hd
  replace hiO := hiO.below hd
  replace hiV := hiV.below hd
  replace hiW := hiW.below hd
  replace hB := chain hB hd
  have hs7 := hd.size
  clear hb hd
  cases hA : actsOk s xs acts
  · go_wp2_with fail
    refine (ActsValid_any s _ _ _ _ _ _ xs acts _ him hiq).mono ?_; rw [hA]; rintro e w8 ⟨rfl, hb⟩
    have hd := hb
    replace mm0 := keep hd mm0
    replace mm1 := keep hd mm1
    replace him := him.below hd
    replace hiq := hiq.below hd
    replace hiU := hiU.below hd
    replace hiO := hiO.below hd
    replace hiV := hiV.below hd
    replace hiW := hiW.below hd
    replace hB := chain hB hd
    have hs8 := hd.size
    clear hb hd
    have hu0 : nU = 0 := by rw [← hiU.len, ← HU.out]; unfold unbeaten; rw [hA]; rfl
    have ho0 : nO = 0 := by rw [← hiO.len, ← HO.out]; unfold possL; rw [hA]; rfl
    subst hu0 ho0
    go_wp2_with fail
    refine (specUnbeatenActs_any s _ _ _ _ _ _ xs acts _ him hiq).mono ?_; rw [HU.out]; rintro e w9 ⟨⟨vX, rfl, hrX⟩, hb⟩
    have hd := hb
    replace mm0 := keep hd mm0
    replace mm1 := keep hd mm1
    replace him := him.below hd
    replace hiq := hiq.below hd
    replace hiU := hiU.below hd
    replace hiO := hiO.below hd
    replace hiV := hiV.below hd
    replace hiW := hiW.below hd
    replace hB := chain hB hd
    have hs9 := hd.size
    clear hb hd
    obtain ⟨aX, nX, cX, rfl, hiX⟩ := hrX.ints
    clear hrX
    go_wp2_with fail
    refine (weSame_eq _ _ _ _ _ _ _ _ _ hiU hiX rfl).mono ?_; rintro e w10 ⟨rfl, hb⟩
    have hd := hb
    replace mm0 := keep hd mm0
    replace mm1 := keep hd mm1
    replace him := him.below hd
    replace hiq := hiq.below hd
    replace hiU := hiU.below hd
    replace hiO := hiO.below hd
    replace hiV := hiV.below hd
    replace hiW := hiW.below hd
    replace hiX := hiX.below hd
    replace hB := chain hB hd
    have hs10 := hd.size
    clear hb hd
    go_wp2_with fail
    refine (specPossiblyBest_any s _ _ _ _ _ _ xs acts _ him hiq).mono ?_; rw [HO.out]; rintro e w11 ⟨⟨vY, rfl, hrY⟩, hb⟩
    have hd := hb
    replace mm0 := keep hd mm0
    replace mm1 := keep hd mm1
    replace him := him.below hd
    replace hiq := hiq.below hd
    replace hiU := hiU.below hd
    replace hiO := hiO.below hd
    replace hiV := hiV.below hd
    replace hiW := hiW.below hd
    replace hiX := hiX.below hd
    replace hB := chain hB hd
    have hs11 := hd.size
    clear hb hd
    obtain ⟨aY, nY, cY, rfl, hiY⟩ := hrY.ints
    clear hrY
    go_wp2_with fail
    refine (weSame_eq _ _ _ _ _ _ _ _ _ hiO hiY rfl).mono ?_; rintro e w12 ⟨rfl, hb⟩
    have hd := hb
    replace mm0 := keep hd mm0
    replace mm1 := keep hd mm1
    replace him := him.below hd
    replace hiq := hiq.below hd
    replace hiU := hiU.below hd
    replace hiO := hiO.below hd
    replace hiV := hiV.below hd
    replace hiW := hiW.below hd
    replace hiX := hiX.below hd
    replace hiY := hiY.below hd
    replace hB := chain hB hd
    have hs12 := hd.size
    clear hb hd
    go_wp2
    go_ret
    exact ⟨rfl, hB⟩
  · go_wp2_with fail
    refine (ActsValid_any s _ _ _ _ _ _ xs acts _ him hiq).mono ?_; rw [hA]; rintro e w8 ⟨rfl, hb⟩
    have hd := hb
    replace mm0 := keep hd mm0
    replace mm1 := keep hd mm1
    replace him := him.below hd
    replace hiq := hiq.below hd
    replace hiU := hiU.below hd
    replace hiO := hiO.below hd
    replace hiV := hiV.below hd
    replace hiW := hiW.below hd
    replace hB := chain hB hd
    have hs8 := hd.size
    clear hb hd
    clear hiV hiW
    obtain ⟨l1, l2, l3⟩ := unbeaten_law hA
    have hlU := hiU.len
    have hlO := hiO.len
    rw [HU.out, HM.out] at l1
    rw [HO.out, hlO] at l2
    rw [HO.out, HU.out, hlO, hlU] at l3
    have HL1 := hid l1
    have HL3 := hid l3
    obtain ⟨hM1, hM8⟩ : 1 ≤ M ∧ M ≤ 8 := by obtain ⟨_, h1, h2, _⟩ := acts_gains hA; rw [HM.out] at h1 h2; exact ⟨h1, h2⟩
    have hUM : nU ≤ M := by have h1 := freeTo_len xs acts M; rw [← l1, hlU] at h1; exact h1
    have h2 : O = possTo (cornersL s xs) acts M := by rw [← HO.out, ← HM.out]; unfold possL; rw [hA]; rfl
    have hOM : nO ≤ M := by have h1 := possTo_len (cornersL s xs) acts M; rw [← h2, hlO] at h1; exact h1
    clear h2
    have HLU := hid hlU
    have HLO := hid hlO
    clear l1 l3 hlU hlO
    have HBF : Hid (∀ i, i < M → beatenN s xs acts i M = !freeK xs acts i) := fun i hi => by have h1 := beaten_free hA (i := i) (by rw [HM.out]; exact hi); rw [HM.out] at h1; exact h1
    have HFA : Hid (∀ i, i < M → freeK xs acts i = true → (freeTo xs acts i).length < nU ∧ nth U (freeTo xs acts i).length = (i : Int)) := fun i hi hf => by have h1 := free_at hi hf; rw [← HL1.out, HLU.out] at h1; exact h1
    clear hA
    go_wp2
    go_loopw [7, 8] (fun x y wr => ∃ i : Nat, i ≤ M ∧ x = .int .i64 ((freeTo xs acts i).length : Nat) ∧ y = .int .i64 i ∧ Below w8.heap.size w8 wr) (fun x y _ => M - (intOf y).toNat)
    case atStart => exact ⟨0, by omega, rfl, rfl, Below.refl _ _⟩
    case round =>
      obtain ⟨i, hi, rfl, rfl, hBr⟩ := hrel
      obtain ⟨w9, rfl⟩ : ∃ q : World, q = wr := ⟨_, rfl⟩
      replace mm0 := keep hBr mm0
      replace mm1 := keep hBr mm1
      replace him := him.below hBr
      replace hiq := hiq.below hBr
      replace hiU := hiU.below hBr
      replace hiO := hiO.below hBr
      have hB0i := hB
      have hswi := hB.size
      have hsr := hBr.size
      clear hB
      have hB := hBr
      clear hBr
      have hfl := freeTo_len xs acts i
      have hfle : (freeTo xs acts i).length ≤ nU := by have h1 := free_le xs acts hi; rw [← HL1.out, HLU.out] at h1; exact h1
      by_cases hli : i < M
      · have ha0 : (0 : Int) ≤ (i : Int) := by omega
        have ha1 : (i : Int) < (M : Int) := by omega
        have HFi := hid (HFA.out i hli)
        have HBi := hid (HBF.out i hli)
        have HFS := hid (freeTo_succ xs acts i)
        obtain ⟨F, hF⟩ : ∃ F, (freeTo xs acts i).length = F := ⟨_, rfl⟩
        rw [hF] at hfl hfle HFi ⊢
        have HF := hid hF
        clear hF
        go_wp2
        go_loopw [9, 10] (fun x y wr => ∃ j : Nat, j ≤ M ∧ x = .bool (beatenN s xs acts i j) ∧ y = .int .i64 j ∧ Below w9.heap.size w9 wr) (fun x y _ => M - (intOf y).toNat)
        case atStart => exact ⟨0, by omega, rfl, rfl, Below.refl _ _⟩
        case round =>
          obtain ⟨j, hj, rfl, rfl, hBr⟩ := hrel
          obtain ⟨w10, rfl⟩ : ∃ q : World, q = wr := ⟨_, rfl⟩
          replace mm0 := keep hBr mm0
          replace mm1 := keep hBr mm1
          replace him := him.below hBr
          replace hiq := hiq.below hBr
          replace hiU := hiU.below hBr
          replace hiO := hiO.below hBr
          have hB0j := hB
          have hswj := hB.size
          have hsr := hBr.size
          clear hB
          have hB := hBr
          clear hBr
          by_cases hlj : j < M
          · have hj0 : (0 : Int) ≤ (j : Int) := by omega
            have hj1 : (j : Int) < (M : Int) := by omega
            obtain ⟨b3, o3, a3, n3, c3, e3, _, _, hc3, hi3⟩ := hiq.at (Below.refl _ _) hlj
            obtain ⟨b4, o4, a4, n4, c4, e4, _, _, hc4, hi4⟩ := hiq.at (Below.refl _ _) hli
            subst e3
            injection e4 with e5; injection e5 with e6 e7; subst e6 e7
            have HBS := hid (beatenN_succ s xs acts i j)
            obtain ⟨tb, HTB⟩ : ∃ b, Hid (beatsM s xs (nthL acts j) (nthL acts i) = b) := ⟨_, rfl⟩
            have HC1 : Hid (∀ w', IntsAt w' am nm xs → IntsAt w' a3 n3 (nthL acts j) → IntsAt w' a4 n4 (nthL acts i) → Calls Try.prog 43 #[.agg #[.int .i64 s, .slice am nm cm], .slice a3 n3 c3, .slice a4 n4 c4] w' fun e w'' => e = .returned (.bool tb) ∧ Below w'.heap.size w' w'') := fun w' h1 h2 h3 => by rw [← HTB.out]; exact BeatsAct_any s _ _ _ _ _ _ _ _ _ xs _ _ w' h1 h2 h3
            cases hbt : beatenN s xs acts i j
            · rw [hbt, HTB.out] at HBS
              go_wp2
              refine wp_region_ov (by kernel_rfl) (by kernel_rfl) ?_
              repeat (first | go_big_quiet_step ((go_at_call 43; (with_reducible exact ov_call (HC1.out _ (him.below (ov_below _ _)) (hi3.below (ov_below _ _)) (hi4.below (ov_below _ _)))))) | quiet_step ((go_at_call 43; (with_reducible exact ov_call (HC1.out _ (him.below (ov_below _ _)) (hi3.below (ov_below _ _)) (hi4.below (ov_below _ _)))))))
              refine wpQuiet_nil ?_
              intro _ hw_ov
              obtain ⟨x_ov, hw_ov2⟩ := hw_ov
              subst hw_ov2
              obtain ⟨wz, hw_ov3, hbz⟩ := ov_gen _ x_ov
              rw [hw_ov3]
              clear hw_ov3 x_ov
              have hBz := chain hB hbz
              go_wp2
              go_roundw
              case rel => first | exact ⟨j + 1, by omega, by rw [HBS.out]; rfl, by go_num, hBz⟩ | exact ⟨_, ⟨j + 1, by omega, by rw [HBS.out]; rfl, by go_num, hBz⟩, rfl⟩ | exact ⟨_, _, ⟨j + 1, by omega, by rw [HBS.out]; rfl, by go_num, hBz⟩, rfl, rfl⟩ | exact ⟨_, _, _, ⟨j + 1, by omega, by rw [HBS.out]; rfl, by go_num, hBz⟩, rfl, rfl, rfl⟩ | exact ⟨_, _, _, _, ⟨j + 1, by omega, by rw [HBS.out]; rfl, by go_num, hBz⟩, rfl, rfl, rfl, rfl⟩ | exact ⟨_, _, _, _, _, ⟨j + 1, by omega, by rw [HBS.out]; rfl, by go_num, hBz⟩, rfl, rfl, rfl, rfl, rfl⟩
              case measure => simp [intOf]; omega
            · rw [hbt, HTB.out] at HBS
              go_wp2
              refine wp_region_ov (by kernel_rfl) (by kernel_rfl) ?_
              repeat (first | go_big_quiet_step ((fail)) | quiet_step ((fail)))
              refine wpQuiet_nil ?_
              intro _ hw_ov
              obtain ⟨x_ov, hw_ov2⟩ := hw_ov
              subst hw_ov2
              obtain ⟨wz, hw_ov3, hbz⟩ := ov_gen _ x_ov
              rw [hw_ov3]
              clear hw_ov3 x_ov
              have hBz := chain hB hbz
              go_wp2
              go_roundw
              case rel => first | exact ⟨j + 1, by omega, by rw [HBS.out]; rfl, by go_num, hBz⟩ | exact ⟨_, ⟨j + 1, by omega, by rw [HBS.out]; rfl, by go_num, hBz⟩, rfl⟩ | exact ⟨_, _, ⟨j + 1, by omega, by rw [HBS.out]; rfl, by go_num, hBz⟩, rfl, rfl⟩ | exact ⟨_, _, _, ⟨j + 1, by omega, by rw [HBS.out]; rfl, by go_num, hBz⟩, rfl, rfl, rfl⟩ | exact ⟨_, _, _, _, ⟨j + 1, by omega, by rw [HBS.out]; rfl, by go_num, hBz⟩, rfl, rfl, rfl, rfl⟩ | exact ⟨_, _, _, _, _, ⟨j + 1, by omega, by rw [HBS.out]; rfl, by go_num, hBz⟩, rfl, rfl, rfl, rfl, rfl⟩
              case measure => simp [intOf]; omega
          · obtain rfl : j = M := by omega
            rw [HBi.out]
            replace hB := hB0j.trans (hB.mono hswj)
            cases hfk : freeK xs acts i
            · rw [hfk] at HFS
              have HLEN : Hid ((freeTo xs acts (i + 1)).length = F) := by rw [Hid, HFS.out]; exact HF.out
              go_wp2
              go_roundw
              case rel => first | exact ⟨i + 1, by omega, by rw [HLEN.out], by go_num, hB⟩ | exact ⟨_, ⟨i + 1, by omega, by rw [HLEN.out], by go_num, hB⟩, rfl⟩ | exact ⟨_, _, ⟨i + 1, by omega, by rw [HLEN.out], by go_num, hB⟩, rfl, rfl⟩ | exact ⟨_, _, _, ⟨i + 1, by omega, by rw [HLEN.out], by go_num, hB⟩, rfl, rfl, rfl⟩ | exact ⟨_, _, _, _, ⟨i + 1, by omega, by rw [HLEN.out], by go_num, hB⟩, rfl, rfl, rfl, rfl⟩ | exact ⟨_, _, _, _, _, ⟨i + 1, by omega, by rw [HLEN.out], by go_num, hB⟩, rfl, rfl, rfl, rfl, rfl⟩
              case measure => simp [intOf]; omega
            · rw [hfk] at HFS
              have HLEN : Hid ((freeTo xs acts (i + 1)).length = F + 1) := by rw [Hid, HFS.out]; show (freeTo xs acts i ++ _).length = _; rw [List.length_append, HF.out]; rfl
              obtain ⟨f1, f2⟩ := HFi.out hfk
              obtain ⟨b5, o5, e5, _, _, hc5⟩ := hiU.at (Below.refl _ _) f1
              subst e5
              rw [f2] at hc5
              clear f2
              have g1 : ¬ (nU : Int) ≤ (F : Int) := by omega
              have g2 : (F : Int) < (nU : Int) := by omega
              have g3 : (0 : Int) ≤ (F : Int) := by omega
              have g4 : ((i : Int) != (i : Int)) = false := by simp
              go_wp2
              go_roundw
              case rel => first | exact ⟨i + 1, by omega, by rw [HLEN.out]; go_num, by go_num, hB⟩ | exact ⟨_, ⟨i + 1, by omega, by rw [HLEN.out]; go_num, by go_num, hB⟩, rfl⟩ | exact ⟨_, _, ⟨i + 1, by omega, by rw [HLEN.out]; go_num, by go_num, hB⟩, rfl, rfl⟩ | exact ⟨_, _, _, ⟨i + 1, by omega, by rw [HLEN.out]; go_num, by go_num, hB⟩, rfl, rfl, rfl⟩ | exact ⟨_, _, _, _, ⟨i + 1, by omega, by rw [HLEN.out]; go_num, by go_num, hB⟩, rfl, rfl, rfl, rfl⟩ | exact ⟨_, _, _, _, _, ⟨i + 1, by omega, by rw [HLEN.out]; go_num, by go_num, hB⟩, rfl, rfl, rfl, rfl, rfl⟩
              case measure => simp [intOf]; omega
      · obtain rfl : i = M := by omega
        have hFU : (freeTo xs acts i).length = nU := by rw [← HL1.out]; exact HLU.out
        rw [hFU]
        clear hFU hfl hfle
        replace hB := hB0i.trans (hB.mono hswi)
        go_wp2
        go_loopw [11] (fun y wr => ∃ a : Nat, a ≤ nO ∧ y = .int .i64 a ∧ Below w9.heap.size w9 wr) (fun y _ => nO - (intOf y).toNat)
        case atStart => exact ⟨0, by omega, rfl, Below.refl _ _⟩
        case round =>
          obtain ⟨a, ha, rfl, hBr⟩ := hrel
          obtain ⟨w10, rfl⟩ : ∃ q : World, q = wr := ⟨_, rfl⟩
          replace mm0 := keep hBr mm0
          replace mm1 := keep hBr mm1
          replace him := him.below hBr
          replace hiq := hiq.below hBr
          replace hiU := hiU.below hBr
          replace hiO := hiO.below hBr
          have hB0a := hB
          have hswa := hB.size
          have hsr := hBr.size
          clear hB
          have hB := hBr
          clear hBr
          by_cases hla : a < nO
          · have hk0 : (0 : Int) ≤ (a : Int) := by omega
            have hk1 : (a : Int) < (nO : Int) := by omega
            obtain ⟨b6, o6, e6, _, _, hc6⟩ := hiO.at (Below.refl _ _) hla
            subst e6
            have HEX := hid (HL3.out a hla)
            obtain ⟨X, hX⟩ : ∃ X, nth O a = X := ⟨_, rfl⟩
            rw [hX] at hc6 HEX
            clear hX
            go_wp2
            go_loopw [12, 13] (fun x y wr => ∃ j : Nat, j ≤ nU ∧ x = .bool (amongL U X j) ∧ y = .int .i64 j ∧ Below w10.heap.size w10 wr) (fun x y _ => nU - (intOf y).toNat)
            case atStart => exact ⟨0, by omega, rfl, rfl, Below.refl _ _⟩
            case round =>
              obtain ⟨j, hj, rfl, rfl, hBr⟩ := hrel
              obtain ⟨w11, rfl⟩ : ∃ q : World, q = wr := ⟨_, rfl⟩
              replace mm0 := keep hBr mm0
              replace mm1 := keep hBr mm1
              replace hc6 := keep hBr hc6
              replace him := him.below hBr
              replace hiq := hiq.below hBr
              replace hiU := hiU.below hBr
              replace hiO := hiO.below hBr
              have hB0j := hB
              have hswj := hB.size
              have hsr := hBr.size
              clear hB
              have hB := hBr
              clear hBr
              by_cases hlj : j < nU
              · have hj0 : (0 : Int) ≤ (j : Int) := by omega
                have hj1 : (j : Int) < (nU : Int) := by omega
                obtain ⟨b5, o5, e5, _, _, hc5⟩ := hiU.at (Below.refl _ _) hlj
                subst e5
                have HBS := hid (amongL_succ U X j)
                obtain ⟨Y, hY⟩ : ∃ Y, nth U j = Y := ⟨_, rfl⟩
                rw [hY] at hc5 HBS
                clear hY
                cases hbt : amongL U X j
                · cases hey : (Y == X)
                  · rw [hbt] at HBS
                    go_wp2
                    refine wp_region_ov (by kernel_rfl) (by kernel_rfl) ?_
                    repeat (first | go_big_quiet_step ((fail)) | quiet_step ((fail)))
                    refine wpQuiet_nil ?_
                    intro _ hw_ov
                    obtain ⟨x_ov, hw_ov2⟩ := hw_ov
                    subst hw_ov2
                    obtain ⟨wz, hw_ov3, hbz⟩ := ov_gen _ x_ov
                    rw [hw_ov3]
                    clear hw_ov3 x_ov
                    have hBz := chain hB hbz
                    go_wp2
                    go_roundw
                    case rel => first | exact ⟨j + 1, by omega, by rw [HBS.out]; simp [*], by go_num, hBz⟩ | exact ⟨_, ⟨j + 1, by omega, by rw [HBS.out]; simp [*], by go_num, hBz⟩, rfl⟩ | exact ⟨_, _, ⟨j + 1, by omega, by rw [HBS.out]; simp [*], by go_num, hBz⟩, rfl, rfl⟩ | exact ⟨_, _, _, ⟨j + 1, by omega, by rw [HBS.out]; simp [*], by go_num, hBz⟩, rfl, rfl, rfl⟩ | exact ⟨_, _, _, _, ⟨j + 1, by omega, by rw [HBS.out]; simp [*], by go_num, hBz⟩, rfl, rfl, rfl, rfl⟩ | exact ⟨_, _, _, _, _, ⟨j + 1, by omega, by rw [HBS.out]; simp [*], by go_num, hBz⟩, rfl, rfl, rfl, rfl, rfl⟩
                    case measure => simp [intOf]; omega
                  · rw [hbt] at HBS
                    go_wp2
                    refine wp_region_ov (by kernel_rfl) (by kernel_rfl) ?_
                    repeat (first | go_big_quiet_step ((fail)) | quiet_step ((fail)))
                    refine wpQuiet_nil ?_
                    intro _ hw_ov
                    obtain ⟨x_ov, hw_ov2⟩ := hw_ov
                    subst hw_ov2
                    obtain ⟨wz, hw_ov3, hbz⟩ := ov_gen _ x_ov
                    rw [hw_ov3]
                    clear hw_ov3 x_ov
                    have hBz := chain hB hbz
                    go_wp2
                    go_roundw
                    case rel => first | exact ⟨j + 1, by omega, by rw [HBS.out]; simp [*], by go_num, hBz⟩ | exact ⟨_, ⟨j + 1, by omega, by rw [HBS.out]; simp [*], by go_num, hBz⟩, rfl⟩ | exact ⟨_, _, ⟨j + 1, by omega, by rw [HBS.out]; simp [*], by go_num, hBz⟩, rfl, rfl⟩ | exact ⟨_, _, _, ⟨j + 1, by omega, by rw [HBS.out]; simp [*], by go_num, hBz⟩, rfl, rfl, rfl⟩ | exact ⟨_, _, _, _, ⟨j + 1, by omega, by rw [HBS.out]; simp [*], by go_num, hBz⟩, rfl, rfl, rfl, rfl⟩ | exact ⟨_, _, _, _, _, ⟨j + 1, by omega, by rw [HBS.out]; simp [*], by go_num, hBz⟩, rfl, rfl, rfl, rfl, rfl⟩
                    case measure => simp [intOf]; omega
                · rw [hbt] at HBS
                  go_wp2
                  refine wp_region_ov (by kernel_rfl) (by kernel_rfl) ?_
                  repeat (first | go_big_quiet_step ((fail)) | quiet_step ((fail)))
                  refine wpQuiet_nil ?_
                  intro _ hw_ov
                  obtain ⟨x_ov, hw_ov2⟩ := hw_ov
                  subst hw_ov2
                  obtain ⟨wz, hw_ov3, hbz⟩ := ov_gen _ x_ov
                  rw [hw_ov3]
                  clear hw_ov3 x_ov
                  have hBz := chain hB hbz
                  go_wp2
                  go_roundw
                  case rel => first | exact ⟨j + 1, by omega, by rw [HBS.out]; simp [*], by go_num, hBz⟩ | exact ⟨_, ⟨j + 1, by omega, by rw [HBS.out]; simp [*], by go_num, hBz⟩, rfl⟩ | exact ⟨_, _, ⟨j + 1, by omega, by rw [HBS.out]; simp [*], by go_num, hBz⟩, rfl, rfl⟩ | exact ⟨_, _, _, ⟨j + 1, by omega, by rw [HBS.out]; simp [*], by go_num, hBz⟩, rfl, rfl, rfl⟩ | exact ⟨_, _, _, _, ⟨j + 1, by omega, by rw [HBS.out]; simp [*], by go_num, hBz⟩, rfl, rfl, rfl, rfl⟩ | exact ⟨_, _, _, _, _, ⟨j + 1, by omega, by rw [HBS.out]; simp [*], by go_num, hBz⟩, rfl, rfl, rfl, rfl, rfl⟩
                  case measure => simp [intOf]; omega
              · obtain rfl : j = nU := by omega
                have h1 : amongL U X j = true := by obtain ⟨r, hr, e⟩ := HEX.out; exact amongL_of hr e
                rw [h1]
                go_wp2
                go_roundw
                case rel => first | exact ⟨a + 1, by omega, by go_num, hB0j.trans (hB.mono hswj)⟩ | exact ⟨_, ⟨a + 1, by omega, by go_num, hB0j.trans (hB.mono hswj)⟩, rfl⟩ | exact ⟨_, _, ⟨a + 1, by omega, by go_num, hB0j.trans (hB.mono hswj)⟩, rfl, rfl⟩ | exact ⟨_, _, _, ⟨a + 1, by omega, by go_num, hB0j.trans (hB.mono hswj)⟩, rfl, rfl, rfl⟩ | exact ⟨_, _, _, _, ⟨a + 1, by omega, by go_num, hB0j.trans (hB.mono hswj)⟩, rfl, rfl, rfl, rfl⟩ | exact ⟨_, _, _, _, _, ⟨a + 1, by omega, by go_num, hB0j.trans (hB.mono hswj)⟩, rfl, rfl, rfl, rfl, rfl⟩
                case measure => simp [intOf]; omega
          · obtain rfl : a = nO := by omega
            have h2 : decide (0 < a) = true := decide_eq_true (by omega)
            have H2 := hid h2
            clear h2
            go_wp2
            go_ret
            exact ⟨ret_bool H2.out, hB0a.trans (hB.mono hswa)⟩
end Go.Proofs.Ytchjnjmlambpjaa
