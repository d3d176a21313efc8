/- The law FnBetween: its walk (printed by fngen.py). -/
import Derived.Test.YtaplpgmkobokhaaD19
import Derived.Test.YtaplpgmkobokhaaN6
import Derived.Test.YtaplpgmkobokhaaW9
import Derived.Test.YtaplpgmkobokhaaZC
set_option linter.unusedSimpArgs false
set_option linter.unusedVariables false
namespace Go.Proofs.Ytaplpgmkobokhaa
open Go.RowKit
set_option maxRecDepth 100000 in
set_option maxHeartbeats 8000000 in
theorem FnBetween_walk (ao : Option Addr) (n c : Nat) (w : World) (hx : n ≤ 1048576 → BytesIn w w.heap.size ao n) (hnc : n ≤ c) (hcap : n ≤ 9223372036854775807) :
    Calls Try.prog 6 #[.slice ao n c] w fun e w' => e = .returned (.bool true) ∧ Below w.heap.size w w' := by
  by_cases hn : 1048576 < n
  · go_enter Try.func6, Try.ntmps6
    go_wp2
    go_ret
    exact ⟨rfl, Below.refl _ _⟩
  have HX := hid (hx (by omega))
  clear hx
  go_enter Try.func6, Try.ntmps6
  have hB := Below.refl w.heap.size w
  go_wp2_with fail
  refine (DrawBetweenAct_any ao n c _ HX.out hnc).mono ?_; rintro e w1 ⟨⟨s, p, xs, q, acts, nu, de, rfl, hr, hlx, hr2, hl9, hsh⟩, hb⟩
  have hd := hb
  replace hB := chain hB hd
  have hs1 := hd.size
  clear hb hd
  obtain ⟨am, nm, cm, rfl, him⟩ := hr.ints
  clear hr
  obtain ⟨aq, nq, cq, rfl, hnq, hiq⟩ := hr2.form
  clear hr2
  subst hnq
  obtain ⟨M, hM⟩ : ∃ M, acts.length = M := ⟨_, rfl⟩
  rw [hM] at hiq hl9 ⊢
  have HM := hid hM
  clear hM
  obtain ⟨r, HK⟩ : ∃ r, Hid (bestM (betOk s xs acts nu de) (fun k => betS nu de xs (nthL acts k)) M = r) := ⟨_, rfl⟩
  go_wp2_with fail
  refine (BetweenAct_any s nu de _ _ _ _ _ _ xs acts _ (him.below (by (repeat (first | exact Below.refl _ _ | assumption | refine Below.alloc ?_ (by first | omega | (simp <;> omega)) _ | refine Below.setCell ?_ (by first | omega | (simp <;> omega)) _ | refine Below.drew ?_ | refine below_drewN ?_)))) (hiq.below (by (repeat (first | exact Below.refl _ _ | assumption | refine Below.alloc ?_ (by first | omega | (simp <;> omega)) _ | refine Below.setCell ?_ (by first | omega | (simp <;> omega)) _ | refine Below.drew ?_ | refine below_drewN ?_))))).mono ?_; rw [HK.out]; rintro e w2 ⟨rfl, hb⟩
  have mm0 := keep hb (a := ⟨w1.heap.size, 0, none⟩) (v := .int .i64 s) (by simp)
  have mm1 := keep hb (a := ⟨w1.heap.size, 1, none⟩) (v := .slice am nm cm) (by simp)
  have hN1 : w1.heap.size < w2.heap.size := by have := World.block_lt_of_cell? w2 _ mm0; simpa using this
  have ff0 := keep hb (a := ⟨w1.heap.size + 1, 0, none⟩) (v := .int .i64 nu) (by simp)
  have ff1 := keep hb (a := ⟨w1.heap.size + 1, 1, none⟩) (v := .int .i64 de) (by simp)
  have hN2 : w1.heap.size + 1 < w2.heap.size := by have := World.block_lt_of_cell? w2 _ ff0; simpa using this
  have hd : Below w1.heap.size w1 w2 := Below.trans (by (repeat (first | exact Below.refl _ _ | assumption | refine Below.alloc ?_ (by first | omega | (simp <;> omega)) _ | refine Below.setCell ?_ (by first | omega | (simp <;> omega)) _ | refine Below.drew ?_ | refine below_drewN ?_))) (hb.mono (by simp <;> omega))
  replace him := him.below hd
  replace hiq := hiq.below hd
  replace hB := chain hB hd
  have hs2 := hd.size
  clear hb hd
  go_wp2_with fail
  refine (specBetweenAct_any s nu de _ _ _ _ _ _ xs acts _ him hiq).mono ?_; rw [HK.out]; rintro e w3 ⟨rfl, hb⟩
  have hd := hb
  replace mm0 := keep hd mm0
  replace mm1 := keep hd mm1
  replace ff0 := keep hd ff0
  replace ff1 := keep hd ff1
  replace him := him.below hd
  replace hiq := hiq.below hd
  replace hB := chain hB hd
  have hs3 := hd.size
  clear hb hd
  cases hok : betOk s xs acts nu de
  · have hr1 : r = -1 := by rw [← HK.out, hok]; rfl
    subst hr1
    go_wp2_with fail
    refine (specBetweenAct_any s nu de _ _ _ _ _ _ xs acts _ him hiq).mono ?_; rw [HK.out]; rintro e w4 ⟨rfl, hb⟩
    have hd := hb
    replace mm0 := keep hd mm0
    replace mm1 := keep hd mm1
    replace ff0 := keep hd ff0
    replace ff1 := keep hd ff1
    replace him := him.below hd
    replace hiq := hiq.below hd
    replace hB := chain hB hd
    have hs4 := hd.size
    clear hb hd
    go_wp2
    go_ret
    exact ⟨rfl, hB⟩
  · have hao : actsOk s xs acts = true := by have h1 := hok; unfold betOk at h1; rw [Bool.and_eq_true] at h1; exact h1.1
    obtain ⟨_, hM1, hM8, _⟩ := acts_gains hao
    rw [HM.out] at hM1 hM8
    obtain ⟨k0, hk0⟩ : ∃ k, Hid (argTo (fun k => betS nu de xs (nthL acts k)) M = k) := ⟨_, rfl⟩
    have hkM : k0 < M := by rw [← hk0.out]; exact argTo_lt _ _ (by omega)
    have hr1 : r = (k0 : Int) := by rw [← HK.out, hok, ← hk0.out]; rfl
    subst hr1
    have HUB : Hid (∀ i, i < M → beatsM s xs (nthL acts i) (nthL acts k0) = false) := fun i hi => by rw [← hk0.out]; exact between_unbeaten hok hi
    have HOK := hid hok
    clear hok hao
    have hk00 : ¬ (k0 : Int) < 0 := by omega
    go_wp2
    go_loopw [7] (fun i wr => ∃ a : Nat, a ≤ M ∧ i = .int .i64 a ∧ Below w3.heap.size w3 wr) (fun i _ => M - (intOf i).toNat)
    case atStart => exact ⟨0, by omega, rfl, Below.refl _ _⟩
    case round =>
      obtain ⟨a, ha, rfl, hBr⟩ := hrel
      obtain ⟨w4, rfl⟩ : ∃ q : World, q = wr := ⟨_, rfl⟩
      replace mm0 := keep hBr mm0
      replace mm1 := keep hBr mm1
      replace ff0 := keep hBr ff0
      replace ff1 := keep hBr ff1
      replace him := him.below hBr
      replace hiq := hiq.below hBr
      have hsw := hB.size
      by_cases hlt : a < M
      · have ha0 : (0 : Int) ≤ (a : Int) := by omega
        have ha1 : (a : Int) < (M : Int) := by omega
        have hk1 : (k0 : Int) < (M : Int) := by omega
        have hk2 : (0 : Int) ≤ (k0 : Int) := by omega
        obtain ⟨b1, o1, a1, n1, c1, e1, _, _, hc1, hi1⟩ := hiq.at (Below.refl _ _) hlt
        obtain ⟨b2, o2, a2, n2, c2, e2, _, _, hc2, hi2⟩ := hiq.at (Below.refl _ _) hkM
        subst e1
        injection e2 with e3; injection e3 with e4 e5; subst e4 e5
        have HC : Hid (∀ w', IntsAt w' am nm xs → IntsAt w' a1 n1 (nthL acts a) → IntsAt w' a2 n2 (nthL acts k0) → Calls Try.prog 28 #[.agg #[.int .i64 s, .slice am nm cm], .slice a1 n1 c1, .slice a2 n2 c2] w' fun e w'' => e = .returned (.bool false) ∧ Below w'.heap.size w' w'') := fun w' h1 h2 h3 => by rw [← HUB.out a hlt]; exact BeatsAct_any s _ _ _ _ _ _ _ _ _ xs _ _ w' h1 h2 h3
        go_wp2
        refine wp_region_ov (by kernel_rfl) (by kernel_rfl) ?_
        repeat (first | go_big_quiet_step ((go_at_call 28; (with_reducible exact ov_call (HC.out _ (him.below (ov_below _ _)) (hi1.below (ov_below _ _)) (hi2.below (ov_below _ _)))))) | quiet_step ((go_at_call 28; (with_reducible exact ov_call (HC.out _ (him.below (ov_below _ _)) (hi1.below (ov_below _ _)) (hi2.below (ov_below _ _)))))))
        refine wpQuiet_nil ?_
        intro _ hw_ov
        obtain ⟨x_ov, hw_ov2⟩ := hw_ov
        subst hw_ov2
        obtain ⟨wz, hw_ov3, hbz⟩ := ov_gen _ x_ov
        rw [hw_ov3]
        clear hw_ov3 x_ov
        have hBz := chain hBr hbz
        go_wp2
        go_roundw
        case rel => first | exact ⟨a + 1, by omega, by go_num, hBz⟩ | exact ⟨_, ⟨a + 1, by omega, by go_num, hBz⟩, rfl⟩ | exact ⟨_, _, ⟨a + 1, by omega, by go_num, hBz⟩, rfl, rfl⟩ | exact ⟨_, _, _, ⟨a + 1, by omega, by go_num, hBz⟩, rfl, rfl, rfl⟩ | exact ⟨_, _, _, _, ⟨a + 1, by omega, by go_num, hBz⟩, rfl, rfl, rfl, rfl⟩ | exact ⟨_, _, _, _, _, ⟨a + 1, by omega, by go_num, hBz⟩, rfl, rfl, rfl, rfl, rfl⟩
        case measure => simp [intOf]; omega
      · obtain rfl : a = M := by omega
        replace hB := hB.trans (hBr.mono hsw)
        have hsr := hBr.size
        clear hBr
        obtain ⟨r1, HA1⟩ : ∃ r, Hid (bestM (actsOk s xs acts) (fun k => sumF 1000 xs (nthL acts k) xs.length) a = r) := ⟨_, rfl⟩
        obtain ⟨r2, HA2⟩ : ∃ r, Hid (bestM (actsOk s xs acts) (fun k => -(sumF 1000 xs (negTo (nthL acts k) (nthL acts k).length) xs.length)) a = r) := ⟨_, rfl⟩
        go_wp2_with fail
        refine (BetweenAct_any s 1 1 _ _ _ _ _ _ xs acts _ him hiq).mono ?_; rw [between_one, HA1.out]; rintro e w5 ⟨rfl, hb⟩
        have hd := hb
        replace mm0 := keep hd mm0
        replace mm1 := keep hd mm1
        replace ff0 := keep hd ff0
        replace ff1 := keep hd ff1
        replace him := him.below hd
        replace hiq := hiq.below hd
        replace hB := chain hB hd
        have hs5 := hd.size
        clear hb hd
        go_wp2_with fail
        refine (BetweenAct_any s 0 1 _ _ _ _ _ _ xs acts _ him hiq).mono ?_; rw [between_none, HA2.out]; rintro e w6 ⟨rfl, hb⟩
        have hd := hb
        replace mm0 := keep hd mm0
        replace mm1 := keep hd mm1
        replace ff0 := keep hd ff0
        replace ff1 := keep hd ff1
        replace him := him.below hd
        replace hiq := hiq.below hd
        replace hB := chain hB hd
        have hs6 := hd.size
        clear hb hd
        go_wp2_with fail
        refine (SafestAct_any s _ _ _ _ _ _ xs acts _ him hiq).mono ?_; rw [HA1.out]; rintro e w7 ⟨rfl, hb⟩
        have hd := hb
        replace mm0 := keep hd mm0
        replace mm1 := keep hd mm1
        replace ff0 := keep hd ff0
        replace ff1 := keep hd ff1
        replace him := him.below hd
        replace hiq := hiq.below hd
        replace hB := chain hB hd
        have hs7 := hd.size
        clear hb hd
        go_wp2_with fail
        refine (BoldestAct_any s _ _ _ _ _ _ xs acts _ him hiq).mono ?_; rw [HA2.out]; rintro e w8 ⟨rfl, hb⟩
        have hd := hb
        replace mm0 := keep hd mm0
        replace mm1 := keep hd mm1
        replace ff0 := keep hd ff0
        replace ff1 := keep hd ff1
        replace him := him.below hd
        replace hiq := hiq.below hd
        replace hB := chain hB hd
        have hs8 := hd.size
        clear hb hd
        cases hch : chanceOk s xs
        · go_wp2_with fail
          refine (IsChance_any _ _ _ _ xs _ him).mono ?_; rw [hch]; rintro e w9 ⟨rfl, hb⟩
          have hd := hb
          replace mm0 := keep hd mm0
          replace mm1 := keep hd mm1
          replace ff0 := keep hd ff0
          replace ff1 := keep hd ff1
          replace him := him.below hd
          replace hiq := hiq.below hd
          replace hB := chain hB hd
          have hs9 := hd.size
          clear hb hd
          go_wp2
          go_ret
          exact ⟨rfl, hB⟩
        · have hkr : (k0 : Int) = r1 := by
            have h1 := between_chance HOK.out hch
            rw [HM.out, HK.out, between_one, HA1.out] at h1; exact h1
          subst hkr
          go_wp2_with fail
          refine (IsChance_any _ _ _ _ xs _ him).mono ?_; rw [hch]; rintro e w9 ⟨rfl, hb⟩
          have hd := hb
          replace mm0 := keep hd mm0
          replace mm1 := keep hd mm1
          replace ff0 := keep hd ff0
          replace ff1 := keep hd ff1
          replace him := him.below hd
          replace hiq := hiq.below hd
          replace hB := chain hB hd
          have hs9 := hd.size
          clear hb hd
          go_wp2
          go_ret
          exact ⟨rfl, hB⟩
end Go.Proofs.Ytaplpgmkobokhaa
