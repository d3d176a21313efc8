/- The search for a flow: is a gift open; a push along a way. -/
import Derived.Test.YtefmlbahmakboaaGreatDoorF4
import Derived.Test.YtefmlbahmakboaaGreatDoorF2
set_option linter.unusedSimpArgs false
set_option linter.unusedVariables false
namespace Go.Proofs.YtefmlbahmakboaaGreatDoor
open Go.RowKit
theorem andNot_subN : ∀ b a : Fin 16, (bits BinOp.andNot IntKind.i64 ((a.val : Nat) : Int) ((b.val : Nat) : Int) == 0) = subN a.val b.val := by decide +kernel
theorem isOpen_any (s : MvS) (lo hi : Nat) (b a : Nat) (w : World) (fl : Nat → Nat → Int) (lf du : Nat → Int) (hm : Mv s w fl lf du) (hg : s.good lo hi) (hb : b < s.N) (ha : a < s.N) :
    Calls Tryz.prog 193 #[.pointer (some ⟨s.V, 0, none⟩), .int .i64 b, .int .i64 a] w fun e w' => e = .returned (.bool (subN a b)) ∧ w = w' := by
  have hN := hg.N16
  have h := andNot_subN ⟨b, by omega⟩ ⟨a, by omega⟩
  simp only at h
  have hb0 : (0 : Int) ≤ (b : Int) := by omega
  have hb1 : (b : Int) < (s.N : Int) := by omega
  have ha0 : (0 : Int) ≤ (a : Int) := by omega
  have ha1 : (a : Int) < (s.N : Int) := by omega
  have c1 := hm.v1
  have c2 := hm.x b hb
  have c3 := hm.y b a hb ha
  clear hm hg
  cases hs : subN a b with
  | false =>
    rw [hs] at h
    go_enter Tryz.func193, Tryz.ntmps193
    go_wp2
    go_ret
    exact ⟨rfl, rfl⟩
  | true =>
    rw [hs] at h
    generalize s.Y b = Yb at *
    go_enter Tryz.func193, Tryz.ntmps193
    go_wp2
    go_ret
    exact ⟨rfl, rfl⟩
theorem flow_le {sub : Nat → Nat → Bool} {N : Nat} {L D : Nat → Int} {fl f : Nat → Nat → Int} {lf du : Nat → Int} (hF : Flow sub N L D fl lf du) (hL : ∀ b, b < N → L b ≤ 1000000000000) (hn : ∀ b a, b < N → a < N → 0 ≤ f b a) (hr : ∀ b, b < N → sumI (f b) N = sumI (fl b) N) {b a : Nat} (hb : b < N) (ha : a < N) : 0 ≤ f b a ∧ f b a ≤ 1000000000000 := by
  have h1 := sumI_one_le (f := f b) (fun k hk => hn b k hb hk) ha
  have h2 := hr b hb
  have h3 := hF.row b hb
  have h4 := hF.lf0 b hb
  have h5 := hL b hb
  exact ⟨hn b a hb ha, by omega⟩
set_option maxRecDepth 100000 in
set_option maxHeartbeats 4000000 in
theorem push_any (s : MvS) (lo hi : Nat) (from_ end_ GA ca GB cb : Nat) (q0 : Int) (gv gt : List Int) (rk : Nat → Nat) (L D : Nat → Int) (w : World) (fl : Nat → Nat → Int) (lf du : Nat → Int) (hm : Mv s w fl lf du) (hg : s.good lo hi) (hhi : hi ≤ w.heap.size) (hF : Flow subN s.N L D fl lf du) (hL : ∀ b, b < s.N → L b ≤ 1000000000000)
    (hGA : ∀ k, k < s.N → w.cell? ⟨GA, k, none⟩ = some (.int .i64 (nth gv k))) (hGB : ∀ k, k < s.N → w.cell? ⟨GB, k, none⟩ = some (.int .i64 (nth gt k))) (hA : hi ≤ GA) (hB : hi ≤ GB)
    (hw : Way subN s.N from_ fl (nth gv) (nth gt) rk) (he : end_ < s.N) (he0 : 0 ≤ nth gv end_) (hq : 0 < q0) (hql : q0 ≤ lf from_) (hqd : q0 ≤ du end_) (hf : from_ < s.N) :
    Calls Tryz.prog 139 #[.pointer (some ⟨s.V, 0, none⟩), .int .i64 from_, .int .i64 end_, .slice (some ⟨GA, 0, none⟩) s.N ca, .slice (some ⟨GB, 0, none⟩) s.N cb, .int .i64 q0] w
      fun e w' => (∃ (q : Int) (fl' : Nat → Nat → Int), e = .returned (.int .i64 q) ∧ 0 < q ∧ q ≤ q0 ∧ Mv s w' fl' lf du ∧ Flow subN s.N L D fl' (fun b => if b = from_ then lf b - q else lf b) (fun a => if a = end_ then du a - q else du a)) ∧ Span lo hi w w' := by
  have hN := hg.N16
  have hq12 : q0 ≤ 1000000000000 := by have := hF.row from_ hf; have := hL from_ hf; have := sumI_nn (f := fl from_) (n := s.N) (fun k hk => hF.nn from_ k hf hk); omega
  have HF := hid hF
  have HW := hid hw
  have HM := hid hm
  have HG := hid hg
  have HGA := hid hGA
  have HGB := hid hGB
  have HLL := hid hL
  have HEE := hid he0
  have c0 := hm.v0
  clear hF hw hm hg hGA hGB hL he0
  go_enter Tryz.func139, Tryz.ntmps139
  go_wp2
  go_loopw [5, 13, 14] (fun m a b wr => Below w.heap.size w wr ∧ ∃ (cur : Nat) (q : Int), a = .int .i64 cur ∧ m = .int .i64 q ∧ cur < s.N ∧ 0 ≤ nth gv cur ∧ 0 < q ∧ q ≤ q0 ∧ Hid (∀ q' : Int, q' ≤ q → Ge from_ fl (nth gv) (nth gt) q' cur → Ge from_ fl (nth gv) (nth gt) q' end_)) (fun _ a _ _ => rk (intOf a).toNat)
  case atStart => exact ⟨Below.refl _ _, end_, q0, rfl, rfl, he, HEE.out, hq, by omega, fun _ _ h => h⟩
  case round =>
    obtain ⟨hBr, cur, q, rfl, rfl, hcur, hg0, hqp, hq1, HGE⟩ := hrel
    have hBs := hBr.size
    obtain ⟨b, hb⟩ : ∃ b : Nat, nth gv cur = (b : Int) := ⟨(nth gv cur).toNat, by omega⟩
    obtain ⟨w1, w2, w3, w4⟩ := HW.out cur hcur hg0
    rw [hb] at w1 w2 w3 w4
    simp only [Int.toNat_natCast] at w1 w3 w4
    have ga := keep hBr (HGA.out cur hcur)
    have gb := keep hBr (HGB.out b w1)
    have g1 := keep hBr (HM.out.g b w1)
    have cv := keep hBr c0
    rw [hb] at ga
    have hc0 : (0 : Int) ≤ (cur : Int) := by omega
    have hc1 : (cur : Int) < (s.N : Int) := by omega
    have hb0 : (0 : Int) ≤ (b : Int) := by omega
    have hb1 : (b : Int) < (s.N : Int) := by omega
    by_cases hbf : b = from_
    · -- the end of the way: the second loop
      have hge : Hid (Ge from_ fl (nth gv) (nth gt) q end_) := HGE.out q (Int.le_refl _) (.stop cur (by rw [hb]; simpa using hbf))
      have HPI := hid (Pushed.init HF.out hge.out he HEE.out)
      have HB1 := hid hBr
      have hz1 := hBr.size
      have HM1 := hid (HM.out.below HG.out hBr hhi)
      have HGA1 : Hid (∀ k, k < s.N → wr.cell? ⟨GA, k, none⟩ = some (.int .i64 (nth gv k))) := fun k hk => keep hBr (HGA.out k hk)
      have HGB1 : Hid (∀ k, k < s.N → wr.cell? ⟨GB, k, none⟩ = some (.int .i64 (nth gt k))) := fun k hk => keep hBr (HGB.out k hk)
      obtain ⟨u1, rfl⟩ : ∃ u : World, u = wr := ⟨_, rfl⟩
      go_wp2
      go_loopw [15, 16] (fun a b wr => Span lo hi w wr ∧ ∃ (cur : Nat) (f : Nat → Nat → Int), a = .int .i64 cur ∧ Mv s wr f lf du ∧ Hid (Pushed subN s.N from_ end_ fl (nth gv) (nth gt) q cur f)) (fun a _ _ => rk (intOf a).toNat)
      case atStart => exact ⟨Span.of_below HB1.out, end_, fl, rfl, HM1.out, HPI⟩
      case round =>
        clear hb w1 w2 w3 w4 ga gb g1 cv hc0 hc1 hb0 hb1 hbf hge HPI HB1 HM1 HGA1 HGB1 hBr hBs hcur hg0 hz1
        obtain ⟨hs, cu2, f, rfl, hm, HP⟩ := hrel
        obtain ⟨hcur, hg0⟩ := HP.out.cur0
        have hzs := hs.size
        obtain ⟨b2, hb⟩ : ∃ b : Nat, nth gv cu2 = (b : Int) := ⟨(nth gv cu2).toNat, by omega⟩
        obtain ⟨w1, w2, w3, w4⟩ := HW.out cu2 hcur hg0
        rw [hb] at w1 w2 w3 w4
        simp only [Int.toNat_natCast] at w1 w3 w4
        have ga := Span.keep hs (HGA.out cu2 hcur) (Or.inr hA)
        have gb := Span.keep hs (HGB.out b2 w1) (Or.inr hB)
        rw [hb] at ga
        have HEB := hid hb
        have g1 := hm.g b2 w1
        have cv := hm.v0
        obtain ⟨r1, r2⟩ := hm.r b2 cu2 w1 hcur
        have hc0 : (0 : Int) ≤ (cu2 : Int) := by omega
        have hc1 : (cu2 : Int) < (s.N : Int) := by omega
        have hb0 : (0 : Int) ≤ (b2 : Int) := by omega
        have hb1 : (b2 : Int) < (s.N : Int) := by omega
        have hx := flow_le HF.out HLL.out HP.out.nn HP.out.row w1 hcur
        have hm1 := hm.setR HG.out w1 hcur (f b2 cu2 + q)
        have hRb := HG.out.R b2 w1
        obtain ⟨x, hxe⟩ : ∃ x, f b2 cu2 = x := ⟨_, rfl⟩
        have HX := hid hxe
        obtain ⟨Rb, hRe⟩ : ∃ k, s.R b2 = k := ⟨_, rfl⟩
        have HRE := hid hRe
        rw [hxe] at r1 hx hm1
        rw [hRe] at r1 r2 g1 hm1 hRb
        have hwr : IntKind.i64.wrap (x + q) = x + q := IntWalk.i64_in _ (by omega)
        have HM1 := hid hm1
        clear hxe hRe hm hm1 hb w3
        by_cases hbf : b2 = from_
        · have HLS := hid (HP.out.last HF.out HW.out (by omega) (by rw [HEB.out, hbf]) (by omega) (by omega) (lf' := fun b => if b = from_ then lf b - q else lf b) (du' := fun a => if a = end_ then du a - q else du a) (fun _ => rfl) (fun _ => rfl))
          have HST : Hid (Mv s (wr.setCell ⟨Rb, cu2, none⟩ (.int .i64 (x + q))) (updF f from_ cu2 (f from_ cu2 + q)) lf du) := by
            have h := HM1.out; rw [← HX.out, hbf] at h; rw [← HX.out, hbf]; exact h
          have HSP : Hid (Span lo hi w (wr.setCell ⟨Rb, cu2, none⟩ (.int .i64 (x + q)))) := Span.trans hs (Span.set hRb)
          clear w4 HM1 HP
          subst hbf
          go_wp2
          go_ret
          exact ⟨⟨q, _, rfl, hqp, hq1, HST.out, HLS.out.2⟩, HSP.out⟩
        · obtain ⟨m0, m1, m2, m3, m4⟩ := w4 hbf
          obtain ⟨c, hc⟩ : ∃ c : Nat, nth gt b2 = (c : Int) := ⟨(nth gt b2).toNat, by omega⟩
          obtain ⟨k1, k2, k3, k4, k5, k6⟩ := HP.out.step HW.out (by omega) HEB.out hbf hc
          rw [hc] at gb
          have hy := flow_le HF.out HLL.out HP.out.nn HP.out.row w1 k2
          have hcc0 : (0 : Int) ≤ (c : Int) := by omega
          have hcc1 : (c : Int) < (s.N : Int) := by omega
          have HP2 := hid k6
          have HM4 := hid k5
          obtain ⟨u3, hu3⟩ : ∃ W, wr.setCell ⟨Rb, cu2, none⟩ (.int .i64 (x + q)) = W := ⟨_, rfl⟩
          have hs3 : Span lo hi w u3 := by rw [← hu3]; exact Span.trans hs (Span.set hRb)
          have hm3 : Mv s u3 (updF f b2 cu2 (x + q)) lf du := by rw [← hu3]; exact HM1.out
          have ga3 := Span.keep hs3 (HGA.out cu2 hcur) (Or.inr hA)
          have gb3 := Span.keep hs3 (HGB.out b2 w1) (Or.inr hB)
          rw [HEB.out] at ga3
          rw [hc] at gb3
          have g13 := hm3.g b2 w1
          have cv3 := hm3.v0
          obtain ⟨q1, q2⟩ := hm3.r b2 c w1 k2
          rw [updF_other _ (Or.inr k3)] at q1
          have hm4 := hm3.setR HG.out w1 k2 (f b2 c - q)
          obtain ⟨y, hye⟩ : ∃ y, f b2 c = y := ⟨_, rfl⟩
          have HY := hid hye
          rw [hye] at q1 k4 hy hm4
          rw [HRE.out] at q1 q2 g13 hm4
          have hwr2 : IntKind.i64.wrap (y - q) = y - q := IntWalk.i64_in _ (by omega)
          have HS4 : Hid (Span lo hi w ((u3.setCell ⟨Rb, c, none⟩ (.int .i64 (y - q))).drew)) := Span.trans hs3 (Span.trans (Span.set hRb) (Span.of_below (drew_below _)))
          have HM5 := hid (hm4.drew HG.out)
          have ga4 := Span.keep HS4.out (HGA.out cu2 hcur) (Or.inr hA)
          have gb4 := Span.keep HS4.out (HGB.out b2 w1) (Or.inr hB)
          rw [HEB.out] at ga4
          rw [hc] at gb4
          clear hye hc m0 m1 m2 m3 m4 w4 k5 k6 hm3 hm4 HM1 hs3
          go_wp2
          (try rw [hu3])
          clear r1 r2 ga gb g1 cv hu3
          go_big_region
          obtain ⟨u4, hu4⟩ : ∃ W, (u3.setCell ⟨Rb, c, none⟩ (.int .i64 (y - q))).drew = W := ⟨_, rfl⟩
          rw [hu4] at HS4 HM5 ga4 gb4
          rw [hu4]
          clear ga3 gb3 g13 cv3 q1 q2 hu4
          go_wp2
          go_roundw
          case rel => first | exact ⟨HS4.out, c, _, rfl, by have h := HM5.out; rw [← HX.out, ← HY.out] at h; exact h, HP2⟩ | exact ⟨_, ⟨HS4.out, c, _, rfl, by have h := HM5.out; rw [← HX.out, ← HY.out] at h; exact h, HP2⟩, rfl⟩ | exact ⟨_, _, ⟨HS4.out, c, _, rfl, by have h := HM5.out; rw [← HX.out, ← HY.out] at h; exact h, HP2⟩, rfl, rfl⟩ | exact ⟨_, _, _, ⟨HS4.out, c, _, rfl, by have h := HM5.out; rw [← HX.out, ← HY.out] at h; exact h, HP2⟩, rfl, rfl, rfl⟩ | exact ⟨_, _, _, _, ⟨HS4.out, c, _, rfl, by have h := HM5.out; rw [← HX.out, ← HY.out] at h; exact h, HP2⟩, rfl, rfl, rfl, rfl⟩ | exact ⟨_, _, _, _, _, ⟨HS4.out, c, _, rfl, by have h := HM5.out; rw [← HX.out, ← HY.out] at h; exact h, HP2⟩, rfl, rfl, rfl, rfl, rfl⟩
          case measure => simp [intOf]; exact HM4.out
    · obtain ⟨m0, m1, m2, m3, m4⟩ := w4 hbf
      obtain ⟨c, hc⟩ : ∃ c : Nat, nth gt b = (c : Int) := ⟨(nth gt b).toNat, by omega⟩
      rw [hc] at m0 m1 m2 m3 m4 gb
      simp only [Int.toNat_natCast] at m2 m3 m4
      have hcN : c < s.N := by omega
      have g2 := keep hBr (HM.out.r b c w1 hcN).1
      have hcc0 : (0 : Int) ≤ (c : Int) := by omega
      have hcc1 : (c : Int) < (s.N : Int) := by omega
      have HGE2 : Hid (∀ q' : Int, q' ≤ (if fl b c < q then fl b c else q) → Ge from_ fl (nth gv) (nth gt) q' c → Ge from_ fl (nth gv) (nth gt) q' end_) := fun q' hq' h => by
        have hq2 : q' ≤ q ∧ q' ≤ fl b c := by split at hq' <;> omega
        refine HGE.out q' hq2.1 (.step cur (by rw [hb]; simpa using hbf) ?_ ?_)
        · rw [hb]; simp only [Int.toNat_natCast]; rw [hc]; simp only [Int.toNat_natCast]; omega
        · rw [hb]; simp only [Int.toNat_natCast]; rw [hc]; simp only [Int.toNat_natCast]; exact h
      have HP := hid (show 0 < (if fl b c < q then fl b c else q) ∧ (if fl b c < q then fl b c else q) ≤ q0 by split <;> omega)
      have hx := flow_le HF.out HLL.out HF.out.nn (fun _ _ => rfl) w1 hcN
      generalize s.R b = Rb at *
      generalize fl b c = x at *
      have HM4 := hid m4
      clear w4 w3 m4 HGE hb hc
      go_wp2
      refine wp_region_ov (by kernel_rfl) (by kernel_rfl) ?_
      repeat (first | go_big_quiet_step ((fail)) | quiet_step ((fail)))
      refine wpQuiet_nil ?_
      intro _ hw_ov
      obtain ⟨x_ov, hw_ov2⟩ := hw_ov
      subst hw_ov2
      obtain ⟨u2, hw_ov3, hb2⟩ := ov_gen _ x_ov
      rw [hw_ov3]
      clear hw_ov3 x_ov
      have gb2 := keep hb2 gb
      have ga2 := keep hb2 ga
      have hB2 := chain hBr hb2
      clear hb2 hBr
      go_wp2
      go_roundw
      case rel => first | exact ⟨hB2, c, _, rfl, rfl, hcN, m2, HP.out.1, HP.out.2, HGE2⟩ | exact ⟨_, ⟨hB2, c, _, rfl, rfl, hcN, m2, HP.out.1, HP.out.2, HGE2⟩, rfl⟩ | exact ⟨_, _, ⟨hB2, c, _, rfl, rfl, hcN, m2, HP.out.1, HP.out.2, HGE2⟩, rfl, rfl⟩ | exact ⟨_, _, _, ⟨hB2, c, _, rfl, rfl, hcN, m2, HP.out.1, HP.out.2, HGE2⟩, rfl, rfl, rfl⟩ | exact ⟨_, _, _, _, ⟨hB2, c, _, rfl, rfl, hcN, m2, HP.out.1, HP.out.2, HGE2⟩, rfl, rfl, rfl, rfl⟩ | exact ⟨_, _, _, _, _, ⟨hB2, c, _, rfl, rfl, hcN, m2, HP.out.1, HP.out.2, HGE2⟩, rfl, rfl, rfl, rfl, rfl⟩
      case measure => simp [intOf]; exact HM4.out
end Go.Proofs.YtefmlbahmakboaaGreatDoor
