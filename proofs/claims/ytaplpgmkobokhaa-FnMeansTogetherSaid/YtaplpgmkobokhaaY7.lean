/- The law FnMeansTogether: its walk (printed by fngen.py). -/
import Derived.Test.YtaplpgmkobokhaaD15
import Derived.Test.YtaplpgmkobokhaaW23
import Derived.Test.YtaplpgmkobokhaaN5
import Derived.Test.YtaplpgmkobokhaaL6
import Derived.Test.YtaplpgmkobokhaaL1
set_option linter.unusedSimpArgs false
set_option linter.unusedVariables false
namespace Go.Proofs.Ytaplpgmkobokhaa
open Go.RowKit
set_option maxRecDepth 100000 in
set_option maxHeartbeats 8000000 in
theorem FnMeansTogether_walk (ao : Option Addr) (n c : Nat) (bo : Option Addr) (m d : Nat) (w : World) (hx : n ≤ 1048576 → BytesIn w w.heap.size ao n) (hnc : n ≤ c) (hcap : n ≤ 9223372036854775807) (hy : m ≤ 1048576 → BytesIn w w.heap.size bo m) (hmd : m ≤ d) (hcap2 : m ≤ 9223372036854775807) :
    Calls Try.prog 4 #[.slice ao n c, .slice bo m d] w fun e w' => e = .returned (.bool true) ∧ Below w.heap.size w w' := by
  by_cases hn : 1048576 < n
  · go_enter Try.func4, Try.ntmps4
    go_wp2
    go_ret
    exact ⟨rfl, Below.refl _ _⟩
  by_cases hm : 1048576 < m
  · go_enter Try.func4, Try.ntmps4
    go_wp2
    go_ret
    exact ⟨rfl, Below.refl _ _⟩
  have HX := hid (hx (by omega))
  clear hx hy
  go_enter Try.func4, Try.ntmps4
  have hB := Below.refl w.heap.size w
  go_wp2_with fail
  refine (DrawHighestMean_any ao n c _ HX.out hnc).mono ?_; rintro e w1 ⟨⟨s, p, xs, q, gs, rfl, hr, hlx, hr2, hlg⟩, hb⟩
  have hd := hb
  replace hB := chain hB hd
  have hs1 := hd.size
  clear hb hd
  obtain ⟨am, nm, cm, rfl, him⟩ := hr.ints
  clear hr
  obtain ⟨ag, ng, cg, rfl, hig⟩ := hr2.ints
  clear hr2
  have hgl := hig.len
  obtain ⟨fH, HH⟩ : ∃ r, Hid (meanH s xs gs = r) := ⟨_, rfl⟩
  go_wp2_with fail
  refine (HighestMean_any s _ _ _ _ _ _ xs gs _ (him.below (by (repeat (first | exact Below.refl _ _ | assumption | refine Below.alloc ?_ (by first | omega | (simp <;> omega)) _ | refine Below.setCell ?_ (by first | omega | (simp <;> omega)) _ | refine Below.drew ?_ | refine below_drewN ?_)))) (hig.below (by (repeat (first | exact Below.refl _ _ | assumption | refine Below.alloc ?_ (by first | omega | (simp <;> omega)) _ | refine Below.setCell ?_ (by first | omega | (simp <;> omega)) _ | refine Below.drew ?_ | refine below_drewN ?_))))).mono ?_; rw [HH.out]; rintro e w2 ⟨rfl, hb⟩
  have mm0 := keep hb (a := ⟨w1.heap.size, 0, none⟩) (v := .int .i64 s) (by simp)
  have mm1 := keep hb (a := ⟨w1.heap.size, 1, none⟩) (v := .slice am nm cm) (by simp)
  have hN1 : w1.heap.size < w2.heap.size := by have := World.block_lt_of_cell? w2 _ mm0; simpa using this
  have hd : Below w1.heap.size w1 w2 := Below.trans (by (repeat (first | exact Below.refl _ _ | assumption | refine Below.alloc ?_ (by first | omega | (simp <;> omega)) _ | refine Below.setCell ?_ (by first | omega | (simp <;> omega)) _ | refine Below.drew ?_ | refine below_drewN ?_))) (hb.mono (by simp <;> omega))
  replace him := him.below hd
  replace hig := hig.below hd
  replace hB := chain hB hd
  have hs2 := hd.size
  clear hb hd
  go_wp2_with fail
  refine (specHighestMean_any s _ _ _ _ _ _ xs gs _ (him.below (by (repeat (first | exact Below.refl _ _ | assumption | refine Below.alloc ?_ (by first | omega | (simp <;> omega)) _ | refine Below.setCell ?_ (by first | omega | (simp <;> omega)) _ | refine Below.drew ?_ | refine below_drewN ?_)))) (hig.below (by (repeat (first | exact Below.refl _ _ | assumption | refine Below.alloc ?_ (by first | omega | (simp <;> omega)) _ | refine Below.setCell ?_ (by first | omega | (simp <;> omega)) _ | refine Below.drew ?_ | refine below_drewN ?_)))) (by omega)).mono ?_; rw [HH.out]; rintro e w3 ⟨rfl, hb⟩
  have fH0 := keep hb (a := ⟨w2.heap.size, 0, none⟩) (v := .int .i64 fH.num) (by simp)
  have fH1 := keep hb (a := ⟨w2.heap.size, 1, none⟩) (v := .int .i64 fH.den) (by simp)
  have hN2 : w2.heap.size < w3.heap.size := by have := World.block_lt_of_cell? w3 _ fH0; simpa using this
  have hd : Below w2.heap.size w2 w3 := Below.trans (by (repeat (first | exact Below.refl _ _ | assumption | refine Below.alloc ?_ (by first | omega | (simp <;> omega)) _ | refine Below.setCell ?_ (by first | omega | (simp <;> omega)) _ | refine Below.drew ?_ | refine below_drewN ?_))) (hb.mono (by simp <;> omega))
  replace mm0 := keep hd mm0
  replace mm1 := keep hd mm1
  replace him := him.below hd
  replace hig := hig.below hd
  replace hB := chain hB hd
  have hs3 := hd.size
  clear hb hd
  cases ho : fH.ok
  · go_wp2
    go_ret
    exact ⟨rfl, by (repeat (first | exact Below.refl _ _ | assumption | refine Below.alloc ?_ (by first | omega | (simp <;> omega)) _ | refine Below.setCell ?_ (by first | omega | (simp <;> omega)) _ | refine Below.drew ?_ | refine below_drewN ?_))⟩
  · obtain ⟨hno, hga⟩ := meanH_ok (show (meanH s xs gs).ok = true by rw [HH.out]; exact ho)
    obtain ⟨fL, HL⟩ : ∃ r, Hid (meanM s xs gs = r) := ⟨_, rfl⟩
    go_wp2_with fail
    refine (LowestMean_any s _ _ _ _ _ _ xs gs _ (him.below (by (repeat (first | exact Below.refl _ _ | assumption | refine Below.alloc ?_ (by first | omega | (simp <;> omega)) _ | refine Below.setCell ?_ (by first | omega | (simp <;> omega)) _ | refine Below.drew ?_ | refine below_drewN ?_)))) (hig.below (by (repeat (first | exact Below.refl _ _ | assumption | refine Below.alloc ?_ (by first | omega | (simp <;> omega)) _ | refine Below.setCell ?_ (by first | omega | (simp <;> omega)) _ | refine Below.drew ?_ | refine below_drewN ?_))))).mono ?_; rw [HL.out]; rintro e w4 ⟨rfl, hb⟩
    have fQ0 := keep hb (a := ⟨w3.heap.size, 0, none⟩) (v := .int .i64 fH.num) (by simp)
    have fQ1 := keep hb (a := ⟨w3.heap.size, 1, none⟩) (v := .int .i64 fH.den) (by simp)
    have hN3 : w3.heap.size < w4.heap.size := by have := World.block_lt_of_cell? w4 _ fQ0; simpa using this
    have hd : Below w3.heap.size w3 w4 := Below.trans (by (repeat (first | exact Below.refl _ _ | assumption | refine Below.alloc ?_ (by first | omega | (simp <;> omega)) _ | refine Below.setCell ?_ (by first | omega | (simp <;> omega)) _ | refine Below.drew ?_ | refine below_drewN ?_))) (hb.mono (by simp <;> omega))
    replace mm0 := keep hd mm0
    replace mm1 := keep hd mm1
    replace fH0 := keep hd fH0
    replace fH1 := keep hd fH1
    replace him := him.below hd
    replace hig := hig.below hd
    replace hB := chain hB hd
    have hs4 := hd.size
    clear hb hd
    have hMG := (mean_ok hno hga).2.2.2.2
    have hng4 : ng ≤ 4 := by have := hMG.m4; omega
    have hng1 : 1 ≤ ng := by have := hMG.m1; omega
    have HMK := hid (mean_ok hno hga)
    have HGF := hid (gainsOk_facts hga)
    clear hMG
    have HNO := hid hno
    have HGA := hid hga
    clear hno hga
    subst hgl
    obtain ⟨N, hN⟩ : ∃ N, gs.length = N := ⟨_, rfl⟩
    rw [hN] at hig hng4 hng1 ⊢
    have HN := hid hN
    clear hN
    have HGP : Hid (∀ b o, ag = some ⟨b, o, none⟩ → b < w4.heap.size + 1) := fun b o e => by obtain ⟨b2, o2, e2, h1, _, _⟩ := hig.at (Below.refl _ _) (show 0 < N by omega); rw [e] at e2; injection e2 with e3; injection e3 with e4 e5; omega
    go_wp2_with (first | (at_make; refine wpList_make_intsG (w4.heap.size + 1) (by simp) rfl _ _ rfl N _ _ rfl rfl rfl rfl (by omega) ?_; intro w5 hrowp hbp hzp) | (at_make; refine wpList_make_ints rfl _ _ rfl N _ _ rfl rfl rfl rfl (by omega) ?_; intro w6 hrowu hbu hzu))
    have him0 := him
    have fL0 := keep hbp (a := ⟨w4.heap.size, 0, none⟩) (v := .int .i64 fL.num) (by simp)
    have fL1 := keep hbp (a := ⟨w4.heap.size, 1, none⟩) (v := .int .i64 fL.den) (by simp)
    have hN4 : w4.heap.size < w5.heap.size := by have := World.block_lt_of_cell? w5 _ fL0; simpa using this
    have hd : Below w4.heap.size w4 w5 := Below.trans (by (repeat (first | exact Below.refl _ _ | assumption | refine Below.alloc ?_ (by first | omega | (simp <;> omega)) _ | refine Below.setCell ?_ (by first | omega | (simp <;> omega)) _ | refine Below.drew ?_ | refine below_drewN ?_))) (hbp.mono (by simp <;> omega))
    replace mm0 := keep hd mm0
    replace mm1 := keep hd mm1
    replace fH0 := keep hd fH0
    replace fH1 := keep hd fH1
    replace fQ0 := keep hd fQ0
    replace fQ1 := keep hd fQ1
    replace him := him.below hd
    replace hig := hig.below hd
    replace hB := chain hB hd
    have hs5 := hd.size
    have hU1 := hd
    clear hbp hd
    have hd := hbu
    replace mm0 := keep hd mm0
    replace mm1 := keep hd mm1
    replace fH0 := keep hd fH0
    replace fH1 := keep hd fH1
    replace fQ0 := keep hd fQ0
    replace fQ1 := keep hd fQ1
    replace fL0 := keep hd fL0
    replace fL1 := keep hd fL1
    replace him := him.below hd
    replace hig := hig.below hd
    replace hrowp := hrowp.below hd
    replace hB := chain hB hd
    have hs6 := hd.size
    have hU2 := hd
    clear hbu hd
    obtain ⟨gp, hgp⟩ : ∃ g, w4.heap.size + 1 = g := ⟨_, rfl⟩
    rw [hgp] at hrowp hzp HGP ⊢
    obtain ⟨gu, hgu⟩ : ∃ g, w5.heap.size = g := ⟨_, rfl⟩
    rw [hgu] at hrowu hzu ⊢
    have hpu : gp < gu := by omega
    obtain ⟨fP, hfP⟩ : ∃ f : Nat → Int, Hid (f = fun (x : Nat) => ((m : Int) * ((x : Int) + 3)) % 7) := ⟨_, rfl⟩
    obtain ⟨fU, hfU⟩ : ∃ f : Nat → Int, Hid (f = fun (x : Nat) => nth gs x + fP x) := ⟨_, rfl⟩
    have HPB : Hid (∀ x, 0 ≤ fP x ∧ fP x ≤ 6) := fun x => by rw [hfP.out]; show 0 ≤ ((m : Int) * ((x : Int) + 3)) % 7 ∧ ((m : Int) * ((x : Int) + 3)) % 7 ≤ 6; omega
    have hm0 : (m : Int) ≤ 1048576 := by omega
    have hrp0 : Row w6 gp (.slice (some ⟨gp, 0, none⟩) N N) (fillTo fP N 0) := hrowp
    have hru0 : Row w6 gu (.slice (some ⟨gu, 0, none⟩) N N) (fillTo fU N 0) := hrowu
    clear hrowp hrowu
    go_loopw [15] (fun i wr => ∃ x : Nat, x ≤ N ∧ i = .int .i64 x ∧ Row wr gp (.slice (some ⟨gp, 0, none⟩) N N) (fillTo fP N x) ∧ Row wr gu (.slice (some ⟨gu, 0, none⟩) N N) (fillTo fU N x) ∧ Below gp w6 wr) (fun i _ => N - (intOf i).toNat)
    case atStart => exact ⟨0, by omega, rfl, hrp0, hru0, Below.refl _ _⟩
    case round =>
      clear hrp0 hru0
      obtain ⟨x, hx, rfl, hrp, hru, hBr⟩ := hrel
      obtain ⟨w7, rfl⟩ : ∃ q : World, q = wr := ⟨_, rfl⟩
      by_cases hlt : x < N
      · obtain ⟨bg, og, hge, hbg1, hbg2, hcg⟩ := hig.at (Below.refl _ _) hlt
        have hbgp : bg < gp := HGP.out bg og hge
        have hcg2 := keepB hBr hbgp hcg
        subst hge
        have hx0 : (0 : Int) ≤ (x : Int) := by omega
        have hx1 : (x : Int) < (N : Int) := by omega
        have hx4 : (x : Int) ≤ 3 := by omega
        have hpb := HPB.out x
        have hgb := (HGF.out.2 x (by rw [HN.out]; exact hlt))
        have e1 : IntKind.i64.wrap ((x : Int) + 3) = (x : Int) + 3 := IntWalk.i64_in _ (by omega)
        have hmul : 0 ≤ (m : Int) * ((x : Int) + 3) ∧ (m : Int) * ((x : Int) + 3) ≤ 6291456 := ⟨Int.mul_nonneg (by omega) (by omega), by have := Int.mul_le_mul hm0 (show (x : Int) + 3 ≤ 6 by omega) (by omega) (by omega); omega⟩
        have e2 : IntKind.i64.wrap ((m : Int) * ((x : Int) + 3)) = (m : Int) * ((x : Int) + 3) := IntWalk.i64_in _ (by omega)
        have e3 : ((m : Int) * ((x : Int) + 3)).tmod 7 = fP x := by rw [hfP.out, Int.tmod_eq_emod_of_nonneg hmul.1]
        have e4 : IntKind.i64.wrap (fP x) = fP x := IntWalk.i64_in _ (by omega)
        have e5 : IntKind.i64.wrap (nth gs x + fP x) = fU x := by rw [hfU.out]; exact IntWalk.i64_in _ (by omega)
        obtain ⟨c0, d0, _⟩ := hrp.cellAt hlt
        obtain ⟨wp, hwp, hr5, hg5⟩ := store_gen hrp hlt (fP x)
        have hru5 := hru.grown hg5 (.inr (fun e => by have := own_eq e; omega))
        have hB5 := belowG hBr (by have := hBr.size; omega) hg5 (Nat.le_refl _)
        have hcg5 := keepG hg5 hcg2 (by omega)
        have hc5 : wp.cell? ⟨gp, x, none⟩ = some (.int .i64 (fP x)) := by have h_c := (hr5.cellAt hlt).1; rw [nth_set, if_pos ⟨rfl, by rw [fillTo_len]; exact hlt⟩] at h_c; exact h_c
        have HWP := hid hwp
        have hz5 := hg5.size
        clear hwp hg5 hrp hru
        go_wp2
        rw [HWP.out]
        clear HWP c0 d0 hcg2
        refine wp_region_ov_tail 12 (by kernel_rfl) (by kernel_rfl) (fun _ _ _ _ _ h => h) ?_
        simp only [List.take_succ_cons, List.take_zero, List.drop_succ_cons, List.drop_zero]
        repeat (first | go_big_quiet_step ((fail)) | quiet_step ((fail)))
        refine wpQuiet_nil ?_
        intro _ hw_ov
        obtain ⟨x_ov, hw_ov2⟩ := hw_ov
        subst hw_ov2
        obtain ⟨wq, hw_ov3, hbq⟩ := ov_gen _ x_ov
        rw [hw_ov3]
        clear hw_ov3 x_ov
        have hru6 := hru5.below hbq
        have hrp6 := hr5.below hbq
        have hB6 := hB5.trans (hbq.mono (by have := hB5.size; omega))
        obtain ⟨c1, d1, _⟩ := hru6.cellAt hlt
        obtain ⟨wr2, hwr2, hr7, hg7⟩ := store_gen hru6 hlt (fU x)
        have hrp7 := hrp6.grown hg7 (.inr (fun e => by have := own_eq e; omega))
        have HB7 := hid (belowG hB6 (by have := hB6.size; omega) hg7 (by omega))
        have HWR := hid hwr2
        clear hwr2 hg7 hru6 hrp6 hB6 hB5 hru5 hr5 hbq hcg5 hc5
        go_wp2
        rw [HWR.out]
        go_roundw
        case rel => first | exact ⟨x + 1, by omega, by go_num, hrp7, hr7, HB7.out⟩ | exact ⟨_, ⟨x + 1, by omega, by go_num, hrp7, hr7, HB7.out⟩, rfl⟩ | exact ⟨_, _, ⟨x + 1, by omega, by go_num, hrp7, hr7, HB7.out⟩, rfl, rfl⟩ | exact ⟨_, _, _, ⟨x + 1, by omega, by go_num, hrp7, hr7, HB7.out⟩, rfl, rfl, rfl⟩ | exact ⟨_, _, _, _, ⟨x + 1, by omega, by go_num, hrp7, hr7, HB7.out⟩, rfl, rfl, rfl, rfl⟩ | exact ⟨_, _, _, _, _, ⟨x + 1, by omega, by go_num, hrp7, hr7, HB7.out⟩, rfl, rfl, rfl, rfl, rfl⟩
        case measure => simp [intOf]; omega
      · obtain rfl : x = N := by omega
        have hsz := hBr.size
        have hBV : Below w4.heap.size w4 w7 := (chain hU1 hU2).trans (hBr.mono (by omega))
        replace mm0 := keepB hBr (by omega) mm0
        replace mm1 := keepB hBr (by omega) mm1
        replace fL0 := keepB hBr (by omega) fL0
        replace fL1 := keepB hBr (by omega) fL1
        clear fH0 fH1 fQ0 fQ1 him hig
        have him := him0.below hBV
        have hip := hrp.view
        have hiu := hru.view
        replace hB := hB.trans (hBr.mono (by have := hB.size; omega))
        have hsV : w4.heap.size ≤ w7.heap.size := hBV.size
        clear hBV hU1 hU2 him0 hBr hrp hru
        have HPG : Hid (gainsOk s (fillTo fP x x) = true) := by
          show gainsOk _ _ = true; unfold gainsOk; rw [fillTo_len, Bool.and_eq_true]
          refine ⟨by have h1 := HGF.out.1; rw [HN.out] at h1; simpa using h1, (allN_iff _ _).2 fun k hk => ?_⟩
          show inB _ _ _ = true; rw [fillTo_nth _ _ _ (Nat.le_refl _) _ hk]; exact inB_iff.2 (by have := HPB.out k; omega)
        have HE : Hid (∀ k, k < gs.length → nth (fillTo fU x x) k = nth gs k + nth (fillTo fP x x) k) := fun k hk => by rw [HN.out] at hk; rw [fillTo_nth _ _ _ (Nat.le_refl _) _ hk, fillTo_nth _ _ _ (Nat.le_refl _) _ hk, hfU.out]
        have H0 : Hid (∀ k, k < gs.length → 0 ≤ nth (fillTo fP x x) k) := fun k hk => by rw [HN.out] at hk; rw [fillTo_nth _ _ _ (Nat.le_refl _) _ hk]; exact (HPB.out k).1
        have HLAW : Hid (gainsOk s (fillTo fU x x) = true → _) := fun hug => together_law HNO.out HGA.out HPG.out hug HE.out H0.out
        obtain ⟨psl, hpsl⟩ : ∃ l, fillTo fP x x = l := ⟨_, rfl⟩
        obtain ⟨usl, husl⟩ : ∃ l, fillTo fU x x = l := ⟨_, rfl⟩
        rw [hpsl] at hip HPG HLAW
        rw [husl] at hiu HLAW
        clear HE H0 hpsl husl
        obtain ⟨fO, HO⟩ : ∃ r, Hid (meanM s xs psl = r) := ⟨_, rfl⟩
        go_wp2_with fail
        refine (LowestMean_any s _ _ _ _ _ _ xs psl _ him hip).mono ?_; rw [HO.out]; rintro e w8 ⟨rfl, hb⟩
        have hd := hb
        replace mm0 := keep hd mm0
        replace mm1 := keep hd mm1
        replace fL0 := keep hd fL0
        replace fL1 := keep hd fL1
        replace him := him.below hd
        replace hip := hip.below hd
        replace hiu := hiu.below hd
        replace hB := chain hB hd
        have hs8 := hd.size
        clear hb hd
        obtain ⟨fB, HB⟩ : ∃ r, Hid (meanM s xs usl = r) := ⟨_, rfl⟩
        go_wp2_with fail
        refine (LowestMean_any s _ _ _ _ _ _ xs usl _ (him.below (by (repeat (first | exact Below.refl _ _ | assumption | refine Below.alloc ?_ (by first | omega | (simp <;> omega)) _ | refine Below.setCell ?_ (by first | omega | (simp <;> omega)) _ | refine Below.drew ?_ | refine below_drewN ?_)))) (hiu.below (by (repeat (first | exact Below.refl _ _ | assumption | refine Below.alloc ?_ (by first | omega | (simp <;> omega)) _ | refine Below.setCell ?_ (by first | omega | (simp <;> omega)) _ | refine Below.drew ?_ | refine below_drewN ?_))))).mono ?_; rw [HB.out]; rintro e w9 ⟨rfl, hb⟩
        have fO0 := keep hb (a := ⟨w8.heap.size, 0, none⟩) (v := .int .i64 fO.num) (by simp)
        have fO1 := keep hb (a := ⟨w8.heap.size, 1, none⟩) (v := .int .i64 fO.den) (by simp)
        have hN5 : w8.heap.size < w9.heap.size := by have := World.block_lt_of_cell? w9 _ fO0; simpa using this
        have hd : Below w8.heap.size w8 w9 := Below.trans (by (repeat (first | exact Below.refl _ _ | assumption | refine Below.alloc ?_ (by first | omega | (simp <;> omega)) _ | refine Below.setCell ?_ (by first | omega | (simp <;> omega)) _ | refine Below.drew ?_ | refine below_drewN ?_))) (hb.mono (by simp <;> omega))
        replace mm0 := keep hd mm0
        replace mm1 := keep hd mm1
        replace fL0 := keep hd fL0
        replace fL1 := keep hd fL1
        replace him := him.below hd
        replace hip := hip.below hd
        replace hiu := hiu.below hd
        replace hB := chain hB hd
        have hs9 := hd.size
        clear hb hd
        have hO := mean_ok HNO.out HPG.out
        have hOok : fO.ok = true := by rw [← HO.out, hO.1]; exact hO.2.1
        have hvO : fracOk fO.num fO.den = true := by rw [← HO.out, hO.1]; exact redF_valid hO.2.1
        have hvL : fracOk fL.num fL.den = true := by rw [← HL.out, HMK.out.1]; exact redF_valid HMK.out.2.1
        clear hO
        obtain ⟨fS, HS⟩ : ∃ r, Hid (addF fL.num fL.den fO.num fO.den = r) := ⟨_, rfl⟩
        go_wp2_with fail
        refine (AddFractions_any fL.num fL.den fO.num fO.den _ hvL hvO).mono ?_; rw [HS.out]; rintro e w10 ⟨rfl, hb⟩
        have fB0 := keep hb (a := ⟨w9.heap.size, 0, none⟩) (v := .int .i64 fB.num) (by simp)
        have fB1 := keep hb (a := ⟨w9.heap.size, 1, none⟩) (v := .int .i64 fB.den) (by simp)
        have hN6 : w9.heap.size < w10.heap.size := by have := World.block_lt_of_cell? w10 _ fB0; simpa using this
        have hd : Below w9.heap.size w9 w10 := Below.trans (by (repeat (first | exact Below.refl _ _ | assumption | refine Below.alloc ?_ (by first | omega | (simp <;> omega)) _ | refine Below.setCell ?_ (by first | omega | (simp <;> omega)) _ | refine Below.drew ?_ | refine below_drewN ?_))) (hb.mono (by simp <;> omega))
        replace mm0 := keep hd mm0
        replace mm1 := keep hd mm1
        replace fL0 := keep hd fL0
        replace fL1 := keep hd fL1
        replace fO0 := keep hd fO0
        replace fO1 := keep hd fO1
        replace him := him.below hd
        replace hip := hip.below hd
        replace hiu := hiu.below hd
        replace hB := chain hB hd
        have hs10 := hd.size
        clear hb hd
        rw [HL.out, HO.out, HB.out, HS.out] at HLAW
        cases hug : gainsOk s usl
        · have hBo : fB.ok = false := by rw [← HB.out, meanM_bad (.inr hug)]; rfl
          go_wp2
          go_ret
          exact ⟨rfl, by (repeat (first | exact Below.refl _ _ | assumption | refine Below.alloc ?_ (by first | omega | (simp <;> omega)) _ | refine Below.setCell ?_ (by first | omega | (simp <;> omega)) _ | refine Below.drew ?_ | refine below_drewN ?_))⟩
        · have hBo : fB.ok = true := by have h1 := mean_ok HNO.out hug; rw [← HB.out, h1.1]; exact h1.2.1
          obtain ⟨l1, l2⟩ := HLAW.out hug
          cases hso : fS.ok
          · go_wp2
            go_ret
            exact ⟨rfl, by (repeat (first | exact Below.refl _ _ | assumption | refine Below.alloc ?_ (by first | omega | (simp <;> omega)) _ | refine Below.setCell ?_ (by first | omega | (simp <;> omega)) _ | refine Below.drew ?_ | refine below_drewN ?_))⟩
          · have l3 := l1 hso
            clear l1
            go_wp2_with fail
            refine (LessFraction_any fB.num fB.den fS.num fS.den _).mono ?_; rw [l3]; rintro e w11 ⟨rfl, hb⟩
            have fS0 := keep hb (a := ⟨w10.heap.size, 0, none⟩) (v := .int .i64 fS.num) (by simp)
            have fS1 := keep hb (a := ⟨w10.heap.size, 1, none⟩) (v := .int .i64 fS.den) (by simp)
            have hN7 : w10.heap.size < w11.heap.size := by have := World.block_lt_of_cell? w11 _ fS0; simpa using this
            have hd : Below w10.heap.size w10 w11 := Below.trans (by (repeat (first | exact Below.refl _ _ | assumption | refine Below.alloc ?_ (by first | omega | (simp <;> omega)) _ | refine Below.setCell ?_ (by first | omega | (simp <;> omega)) _ | refine Below.drew ?_ | refine below_drewN ?_))) (hb.mono (by simp <;> omega))
            replace mm0 := keep hd mm0
            replace mm1 := keep hd mm1
            replace fL0 := keep hd fL0
            replace fL1 := keep hd fL1
            replace fO0 := keep hd fO0
            replace fO1 := keep hd fO1
            replace fB0 := keep hd fB0
            replace fB1 := keep hd fB1
            replace him := him.below hd
            replace hip := hip.below hd
            replace hiu := hiu.below hd
            replace hB := chain hB hd
            have hs11 := hd.size
            clear hb hd
            go_wp2_with fail
            refine (LessFraction_any fB.num fB.den fL.num fL.den _).mono ?_; rw [l2]; rintro e w12 ⟨rfl, hb⟩
            have hd := hb
            replace mm0 := keep hd mm0
            replace mm1 := keep hd mm1
            replace fL0 := keep hd fL0
            replace fL1 := keep hd fL1
            replace fO0 := keep hd fO0
            replace fO1 := keep hd fO1
            replace fB0 := keep hd fB0
            replace fB1 := keep hd fB1
            replace fS0 := keep hd fS0
            replace fS1 := keep hd fS1
            replace him := him.below hd
            replace hip := hip.below hd
            replace hiu := hiu.below hd
            replace hB := chain hB hd
            have hs12 := hd.size
            clear hb hd
            go_wp2
            go_ret
            exact ⟨rfl, hB⟩
end Go.Proofs.Ytaplpgmkobokhaa
