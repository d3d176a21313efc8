/- The law FnAllowsChance: its walk (printed by fngen.py). -/
import Derived.Test.YtnbjhmghobljaaaD25
import Derived.Test.YtnbjhmghobljaaaE3
import Derived.Test.YtnbjhmghobljaaaE7
import Derived.Test.YtnbjhmghobljaaaE11
import Derived.Test.YtnbjhmghobljaaaF10
import Derived.Test.YtnbjhmghobljaaaW21
set_option linter.unusedSimpArgs false
set_option linter.unusedVariables false
namespace Go.Proofs.Ytnbjhmghobljaaa
open Go.RowKit
theorem Whole_of {s : Int} {xs : List Int} (hm : massOk s xs = true) (ao : Option Addr) (n c : Nat) (w : World) (hx : IntsAt w ao n xs) :
    Calls Try.prog 11 #[.agg #[.int .i64 s, .slice ao n c]] w fun e w' => e = .returned (.int .i64 (isum xs)) ∧ Below w.heap.size w w' := by
  have h := WholeOf_any s ao n c xs w hx
  have e : wholeM s xs = isum xs := by unfold wholeM; rw [hm]; rfl
  rwa [e] at h
theorem poss_bd {s : Int} {xs : List Int} (hm : massOk s xs = true) (p : Nat → Bool) : 0 ≤ dot (predI p) xs xs.length ∧ dot (predI p) xs xs.length ≤ 16000000 := by
  obtain ⟨_, _, h16, hb, _⟩ := massOk_facts hm
  have := predI_bd p xs xs.length hb xs.length (Nat.le_refl _)
  omega
set_option maxRecDepth 100000 in
set_option maxHeartbeats 16000000 in
theorem FnAllowsChance_walk (ao : Option Addr) (n c : Nat) (w : World) (hx : n ≤ 1048576 → BytesIn w w.heap.size ao n) (hnc : n ≤ c) (hcap : n ≤ 9223372036854775807) :
    Calls Try.prog 4 #[.slice ao n c] w fun e w' => e = .returned (.bool true) ∧ Below w.heap.size w w' := by
  by_cases hn : 1048576 < n
  · go_enter Try.func4, Try.ntmps4
    go_wp2
    go_ret
    exact ⟨rfl, Below.refl _ _⟩
  have HX := hid (hx (by omega))
  clear hx
  go_enter Try.func4, Try.ntmps4
  have hB := Below.refl w.heap.size w
  go_wp2_with fail
  refine (DrawAllowsChance_any ao n c _ HX.out hnc).mono ?_; rintro e w1 ⟨⟨s, p, xs, u, q, ys, rfl, hr, hlx, hr2⟩, hb⟩
  have hd := hb
  replace hB := chain hB hd
  have hs1 := hd.size
  clear hb hd
  obtain ⟨am, nm, cm, rfl, him⟩ := hr.ints
  clear hr
  obtain ⟨ap, np, cp, rfl, hip⟩ := hr2.ints
  clear hr2
  obtain ⟨bA, HA⟩ : ∃ r, Hid (allowsM s xs u ys = r) := ⟨_, rfl⟩
  go_wp2_with fail
  refine (AllowsChance_any s u _ _ _ _ _ _ xs ys _ (him.below (by (repeat (first | exact Below.refl _ _ | assumption | refine Below.alloc ?_ (by first | omega | (simp <;> omega)) _ | refine Below.setCell ?_ (by first | omega | (simp <;> omega)) _ | refine Below.drew ?_ | refine below_drewN ?_)))) (hip.below (by (repeat (first | exact Below.refl _ _ | assumption | refine Below.alloc ?_ (by first | omega | (simp <;> omega)) _ | refine Below.setCell ?_ (by first | omega | (simp <;> omega)) _ | refine Below.drew ?_ | refine below_drewN ?_))))).mono ?_; rw [HA.out]; rintro e w2 ⟨rfl, hb⟩
  have mm0 := keep hb (a := ⟨w1.heap.size, 0, none⟩) (v := .int .i64 s) (by simp)
  have mm1 := keep hb (a := ⟨w1.heap.size, 1, none⟩) (v := .slice am nm cm) (by simp)
  have hN1 : w1.heap.size < w2.heap.size := by have := World.block_lt_of_cell? w2 _ mm0; simpa using this
  have pp0 := keep hb (a := ⟨w1.heap.size + 1, 0, none⟩) (v := .int .i64 u) (by simp)
  have pp1 := keep hb (a := ⟨w1.heap.size + 1, 1, none⟩) (v := .slice ap np cp) (by simp)
  have hN2 : w1.heap.size + 1 < w2.heap.size := by have := World.block_lt_of_cell? w2 _ pp0; simpa using this
  have hd : Below w1.heap.size w1 w2 := Below.trans (by (repeat (first | exact Below.refl _ _ | assumption | refine Below.alloc ?_ (by first | omega | (simp <;> omega)) _ | refine Below.setCell ?_ (by first | omega | (simp <;> omega)) _ | refine Below.drew ?_ | refine below_drewN ?_))) (hb.mono (by simp <;> omega))
  replace him := him.below hd
  replace hip := hip.below hd
  replace hB := chain hB hd
  have hs2 := hd.size
  clear hb hd
  cases bA
  · go_wp2_with fail
    refine (specAllowsChance_any s u _ _ _ _ _ _ xs ys _ him hip).mono ?_; rw [HA.out]; rintro e w3 ⟨rfl, hb⟩
    have hd := hb
    replace mm0 := keep hd mm0
    replace mm1 := keep hd mm1
    replace pp0 := keep hd pp0
    replace pp1 := keep hd pp1
    replace him := him.below hd
    replace hip := hip.below hd
    replace hB := chain hB hd
    have hs3 := hd.size
    clear hb hd
    go_wp2_with fail
    refine (specAllowsChance_any s u _ _ _ _ _ _ xs ys _ him hip).mono ?_; rw [HA.out]; rintro e w4 ⟨rfl, hb⟩
    have hd := hb
    replace mm0 := keep hd mm0
    replace mm1 := keep hd mm1
    replace pp0 := keep hd pp0
    replace pp1 := keep hd pp1
    replace him := him.below hd
    replace hip := hip.below hd
    replace hB := chain hB hd
    have hs4 := hd.size
    clear hb hd
    cases hno : normalOk s xs
    · go_wp2_with fail
      refine (iIsNormal_any s _ _ _ xs _ him).mono ?_; rw [hno]; rintro e w5 ⟨rfl, hb⟩
      have hd := hb
      replace mm0 := keep hd mm0
      replace mm1 := keep hd mm1
      replace pp0 := keep hd pp0
      replace pp1 := keep hd pp1
      replace him := him.below hd
      replace hip := hip.below hd
      replace hB := chain hB hd
      have hs5 := hd.size
      clear hb hd
      go_wp2
      go_ret
      exact ⟨rfl, hB⟩
    · go_wp2_with fail
      refine (iIsNormal_any s _ _ _ xs _ him).mono ?_; rw [hno]; rintro e w5 ⟨rfl, hb⟩
      have hd := hb
      replace mm0 := keep hd mm0
      replace mm1 := keep hd mm1
      replace pp0 := keep hd pp0
      replace pp1 := keep hd pp1
      replace him := him.below hd
      replace hip := hip.below hd
      replace hB := chain hB hd
      have hs5 := hd.size
      clear hb hd
      cases hch : chanceOk u ys
      · go_wp2_with fail
        refine (IsChance_any u _ _ _ ys _ hip).mono ?_; rw [hch]; rintro e w6 ⟨rfl, hb⟩
        have hd := hb
        replace mm0 := keep hd mm0
        replace mm1 := keep hd mm1
        replace pp0 := keep hd pp0
        replace pp1 := keep hd pp1
        replace him := him.below hd
        replace hip := hip.below hd
        replace hB := chain hB hd
        have hs6 := hd.size
        clear hb hd
        go_wp2
        go_ret
        exact ⟨rfl, hB⟩
      · go_wp2_with fail
        refine (IsChance_any u _ _ _ ys _ hip).mono ?_; rw [hch]; rintro e w6 ⟨rfl, hb⟩
        have hd := hb
        replace mm0 := keep hd mm0
        replace mm1 := keep hd mm1
        replace pp0 := keep hd pp0
        replace pp1 := keep hd pp1
        replace him := him.below hd
        replace hip := hip.below hd
        replace hB := chain hB hd
        have hs6 := hd.size
        clear hb hd
        by_cases hus : u = s
        · have hus2 := hus.symm
          subst hus2
          have hnh := spec_not HA.out hno hch
          have hnp := hip.len
          rw [hnp] at hnh
          clear hus hno hch hnp
          go_wp2_with fail
          refine (IsSpecialized_is s s _ _ _ _ _ _ ys xs false _ hip him ⟨(fun h => absurd h (by decide)), fun h => absurd h.2 hnh⟩).mono ?_; rintro e w7 ⟨rfl, hb⟩
          have hd := hb
          replace mm0 := keep hd mm0
          replace mm1 := keep hd mm1
          replace pp0 := keep hd pp0
          replace pp1 := keep hd pp1
          replace him := him.below hd
          replace hip := hip.below hd
          replace hB := chain hB hd
          have hs7 := hd.size
          clear hb hd
          go_wp2
          go_ret
          exact ⟨rfl, hB⟩
        · have hne : (u == s) = false := by rw [beq_eq_false_iff_ne]; exact hus
          go_wp2
          go_ret
          exact ⟨rfl, hB⟩
  · go_wp2_with fail
    refine (specAllowsChance_any s u _ _ _ _ _ _ xs ys _ him hip).mono ?_; rw [HA.out]; rintro e w3 ⟨rfl, hb⟩
    have hd := hb
    replace mm0 := keep hd mm0
    replace mm1 := keep hd mm1
    replace pp0 := keep hd pp0
    replace pp1 := keep hd pp1
    replace him := him.below hd
    replace hip := hip.below hd
    replace hB := chain hB hd
    have hs3 := hd.size
    clear hb hd
    obtain ⟨hno, hch, hus, _⟩ := allows_iff.1 HA.out
    have hus2 := hus.symm
    subst hus2
    clear hus
    have hmo := (norm_size hno).2.2.2.2.1
    have hmp := (chance_normal hch).1
    have HNO := hid hno
    have HMO := hid hmo
    have HMP := hid hmp
    have hnl := nsets_le (massOk_facts hmo).1
    have HNM := hid him.len
    have HNP := hid hip.len
    have HNS : Hid (nm = nsets s ∧ np = nsets s) := ⟨by rw [← HNM.out]; exact (massOk_facts hmo).2.1, by rw [← HNP.out]; exact (massOk_facts hmp).2.1⟩
    obtain ⟨_, _, h16, _, s1, s2, _⟩ := massOk_facts hmo
    obtain ⟨_, _, h17, _, t1, t2, _⟩ := massOk_facts hmp
    rw [HNM.out] at h16
    rw [HNP.out] at h17
    clear hno hch hmo hmp hnl
    obtain ⟨rS, HS⟩ : ∃ r, Hid (shareM s xs = r) := ⟨_, rfl⟩
    go_wp2_with fail
    refine (SharedChance_any s _ _ _ xs _ him).mono ?_; rw [HS.out]; rintro e w4 ⟨⟨vS, rfl, hrS⟩, hb⟩
    obtain ⟨aS, nS, cS, rfl, hiS⟩ := hrS.ints
    clear hrS
    have hd := hb
    replace mm0 := keep hd mm0
    replace mm1 := keep hd mm1
    replace pp0 := keep hd pp0
    replace pp1 := keep hd pp1
    replace him := him.below hd
    replace hip := hip.below hd
    replace hB := chain hB hd
    have hs4 := hd.size
    clear hb hd
    obtain ⟨rM, HM⟩ : ∃ r, Hid (mixM s ys rS.size rS.parts 1 3 = r) := ⟨_, rfl⟩
    go_wp2_with fail
    refine (MixMasses_any s rS.size 1 3 _ _ _ _ _ _ ys rS.parts _ (hip.below (by (repeat (first | exact Below.refl _ _ | assumption | refine Below.alloc ?_ (by first | omega | (simp <;> omega)) _ | refine Below.setCell ?_ (by first | omega | (simp <;> omega)) _ | refine Below.drew ?_ | refine below_drewN ?_)))) (hiS.below (by (repeat (first | exact Below.refl _ _ | assumption | refine Below.alloc ?_ (by first | omega | (simp <;> omega)) _ | refine Below.setCell ?_ (by first | omega | (simp <;> omega)) _ | refine Below.drew ?_ | refine below_drewN ?_))))).mono ?_; rw [HM.out]; rintro e w5 ⟨⟨vM, rfl, hrM⟩, hb⟩
    obtain ⟨aM, nM, cM, rfl, hiM⟩ := hrM.ints
    clear hrM
    have mS0 := keep hb (a := ⟨w4.heap.size, 0, none⟩) (v := .int .i64 rS.size) (by simp)
    have mS1 := keep hb (a := ⟨w4.heap.size, 1, none⟩) (v := .slice aS nS cS) (by simp)
    have hN3 : w4.heap.size < w5.heap.size := by have := World.block_lt_of_cell? w5 _ mS0; simpa using this
    have hd : Below w4.heap.size w4 w5 := Below.trans (by (repeat (first | exact Below.refl _ _ | assumption | refine Below.alloc ?_ (by first | omega | (simp <;> omega)) _ | refine Below.setCell ?_ (by first | omega | (simp <;> omega)) _ | refine Below.drew ?_ | refine below_drewN ?_))) (hb.mono (by simp <;> omega))
    replace mm0 := keep hd mm0
    replace mm1 := keep hd mm1
    replace pp0 := keep hd pp0
    replace pp1 := keep hd pp1
    replace him := him.below hd
    replace hip := hip.below hd
    replace hiS := hiS.below hd
    replace hB := chain hB hd
    have hs5 := hd.size
    clear hb hd
    have HAS : Hid (rS.ok = true → allowsM s xs rS.size rS.parts = true) := fun h => by rw [← HS.out] at h ⊢; exact share_allowed HNO.out h
    have HAM : Hid (rS.ok = true → rM.ok = true → allowsM s xs rM.size rM.parts = true) := fun h h2 => by rw [← HM.out] at h2 ⊢; exact mean_allowed HA.out (HAS.out h) h2
    have HSPE := hid (allows_spec HA.out)
    have HSP : Hid (∀ w', IntsAt w' ap np ys → IntsAt w' am nm xs → Calls Try.prog 13 #[.agg #[.int .i64 s, .slice ap np cp], .agg #[.int .i64 s, .slice am nm cm]] w' fun e w'' => e = .returned (.bool true) ∧ Below w'.heap.size w' w'') := fun w' h1 h2 => IsSpecialized_is _ _ _ _ _ _ _ _ ys xs true w' h1 h2 ⟨fun _ => by rw [← h1.len]; exact HSPE.out, fun _ => rfl⟩
    obtain ⟨X, hX⟩ : ∃ X, isum xs = X := ⟨_, rfl⟩
    rw [hX] at s1 s2
    obtain ⟨Y, hY⟩ : ∃ Y, isum ys = Y := ⟨_, rfl⟩
    rw [hY] at t1 t2
    have HPOS : Hid (∀ a, a < nm → dot (predI (meetB a)) ys np * X ≤ dot (predI (meetB a)) xs nm * Y) := fun a ha => by have h1 := allows_poss HA.out (a := a) (by rw [HNM.out]; exact ha); rw [HNM.out, HNP.out, hX, hY] at h1; exact h1
    have HWX : Hid (∀ w', IntsAt w' am nm xs → Calls Try.prog 11 #[.agg #[.int .i64 s, .slice am nm cm]] w' fun e w'' => e = .returned (.int .i64 X) ∧ Below w'.heap.size w' w'') := fun w' h1 => by rw [← hX]; exact Whole_of HMO.out _ _ _ w' h1
    have HWP : Hid (∀ w', IntsAt w' ap np ys → Calls Try.prog 11 #[.agg #[.int .i64 s, .slice ap np cp]] w' fun e w'' => e = .returned (.int .i64 Y) ∧ Below w'.heap.size w' w'') := fun w' h1 => by rw [← hY]; exact Whole_of HMP.out _ _ _ w' h1
    have HIX : Hid (∀ a, a < nm → ∀ w', IntsAt w' am nm xs → Calls Try.prog 21 #[.agg #[.int .i64 s, .slice am nm cm], .int .i64 a] w' fun e w'' => e = .returned (.int .i64 (dot (predI (meetB a)) xs nm)) ∧ Below w'.heap.size w' w'') := fun a ha w' h1 => PossiblePart_any s a _ _ _ xs w' h1 HMO.out (by rw [← HNS.out.1]; exact ha)
    have HIP : Hid (∀ a, a < nm → ∀ w', IntsAt w' ap np ys → Calls Try.prog 21 #[.agg #[.int .i64 s, .slice ap np cp], .int .i64 a] w' fun e w'' => e = .returned (.int .i64 (dot (predI (meetB a)) ys np)) ∧ Below w'.heap.size w' w'') := fun a ha w' h1 => PossiblePart_any s a _ _ _ ys w' h1 HMP.out (by rw [← HNS.out.1]; exact ha)
    have HPB : Hid (∀ a, 0 ≤ dot (predI (meetB a)) ys np ∧ dot (predI (meetB a)) ys np ≤ 16000000) := fun a => by have := poss_bd HMP.out (meetB a); rwa [HNP.out] at this
    have HXB : Hid (∀ a, 0 ≤ dot (predI (meetB a)) xs nm ∧ dot (predI (meetB a)) xs nm ≤ 16000000) := fun a => by have := poss_bd HMO.out (meetB a); rwa [HNM.out] at this
    clear hX hY
    go_wp2
    obtain ⟨w6, hww6⟩ : ∃ W, (w5.alloc (.cells #[.int .i64 rM.size, .slice aM nM cM] 25)) = W := ⟨_, rfl⟩
    rw [hww6]
    have hd : Below w5.heap.size w5 w6 := by rw [← hww6]; (repeat (first | exact Below.refl _ _ | assumption | refine Below.alloc ?_ (by first | omega | (simp <;> omega)) _ | refine Below.setCell ?_ (by first | omega | (simp <;> omega)) _ | refine Below.drew ?_ | refine below_drewN ?_))
    have mM0 : w6.cell? ⟨w5.heap.size, 0, none⟩ = some (.int .i64 rM.size) := by rw [← hww6]; simp
    have mM1 : w6.cell? ⟨w5.heap.size, 1, none⟩ = some (.slice aM nM cM) := by rw [← hww6]; simp
    have hN4 : w5.heap.size < w6.heap.size := by rw [← hww6]; simp
    replace mm0 := keep hd mm0
    replace mm1 := keep hd mm1
    replace pp0 := keep hd pp0
    replace pp1 := keep hd pp1
    replace mS0 := keep hd mS0
    replace mS1 := keep hd mS1
    replace him := him.below hd
    replace hip := hip.below hd
    replace hiS := hiS.below hd
    replace hiM := hiM.below hd
    replace hB := chain hB hd
    have hs6 := hd.size
    clear hd hww6
    go_loopw [10] (fun  i wr => ∃ a : Nat, a ≤ nm ∧ i = .int .i64 a ∧ Below w6.heap.size w6 wr) (fun  i _ => nm - (intOf i).toNat)
    case atStart => exact ⟨0, by omega, rfl, Below.refl _ _⟩
    case round =>
      obtain ⟨a, ha, rfl, hBr⟩ := hrel
      obtain ⟨w7, rfl⟩ : ∃ q : World, q = wr := ⟨_, rfl⟩
      replace mm0 := keep hBr mm0
      replace mm1 := keep hBr mm1
      replace pp0 := keep hBr pp0
      replace pp1 := keep hBr pp1
      replace mS0 := keep hBr mS0
      replace mS1 := keep hBr mS1
      replace mM0 := keep hBr mM0
      replace mM1 := keep hBr mM1
      replace him := him.below hBr
      replace hip := hip.below hBr
      replace hiS := hiS.below hBr
      replace hiM := hiM.below hBr
      have hB0a := hB
      have hswa := hB.size
      have hsr := hBr.size
      clear hB
      have hB := hBr
      clear hBr
      by_cases hla : a < nm
      · have hk0 : (0 : Int) ≤ (a : Int) := by omega
        have hk1 : (a : Int) < (nm : Int) := by omega
        have hpb := HPB.out a
        have hxb := HXB.out a
        have HIX2 := hid (HIX.out a hla)
        have HIP2 := hid (HIP.out a hla)
        have hle := HPOS.out a hla
        generalize dot (predI (meetB a)) ys np = A at *
        generalize dot (predI (meetB a)) xs nm = B at *
        have p1 := prod_bd hpb ⟨s1, s2⟩
        have p2 := prod_bd hxb ⟨t1, t2⟩
        have hnl : ¬ B * Y < A * X := by omega
        clear hle hpb hxb
        go_wp2
        refine wp_region_ov (by kernel_rfl) (by kernel_rfl) ?_
        repeat (first | go_big_quiet_step ((first | (go_at_call 21; (with_reducible exact ov_call (HIP2.out _ (hip.below (ov_below _ _))))) | (go_at_call 21; (with_reducible exact ov_call (HIX2.out _ (him.below (ov_below _ _))))) | (go_at_call 11; (with_reducible exact ov_call (HWX.out _ (him.below (ov_below _ _))))) | (go_at_call 11; (with_reducible exact ov_call (HWP.out _ (hip.below (ov_below _ _))))))) | quiet_step ((first | (go_at_call 21; (with_reducible exact ov_call (HIP2.out _ (hip.below (ov_below _ _))))) | (go_at_call 21; (with_reducible exact ov_call (HIX2.out _ (him.below (ov_below _ _))))) | (go_at_call 11; (with_reducible exact ov_call (HWX.out _ (him.below (ov_below _ _))))) | (go_at_call 11; (with_reducible exact ov_call (HWP.out _ (hip.below (ov_below _ _))))))))
        refine wpQuiet_nil ?_
        intro _ hw_ov
        obtain ⟨x_ov, hw_ov2⟩ := hw_ov
        subst hw_ov2
        obtain ⟨wz, hw_ov3, hbz⟩ := ov_gen _ x_ov
        rw [hw_ov3]
        clear hw_ov3 x_ov
        have hBz := chain hB hbz
        go_wp2
        go_roundw
        case rel => first | exact ⟨a + 1, by omega, by go_num, hBz⟩ | exact ⟨_, ⟨a + 1, by omega, by go_num, hBz⟩, rfl⟩ | exact ⟨_, _, ⟨a + 1, by omega, by go_num, hBz⟩, rfl, rfl⟩ | exact ⟨_, _, _, ⟨a + 1, by omega, by go_num, hBz⟩, rfl, rfl, rfl⟩ | exact ⟨_, _, _, _, ⟨a + 1, by omega, by go_num, hBz⟩, rfl, rfl, rfl, rfl⟩ | exact ⟨_, _, _, _, _, ⟨a + 1, by omega, by go_num, hBz⟩, rfl, rfl, rfl, rfl, rfl⟩
        case measure => simp [intOf]; omega
      · obtain rfl : a = nm := by omega
        replace hB := hB0a.trans (hB.mono hswa)
        go_wp2_with fail
        refine (HSP.out _ hip him).mono ?_; rintro e w8 ⟨rfl, hb⟩
        have hd := hb
        replace mm0 := keep hd mm0
        replace mm1 := keep hd mm1
        replace pp0 := keep hd pp0
        replace pp1 := keep hd pp1
        replace mS0 := keep hd mS0
        replace mS1 := keep hd mS1
        replace mM0 := keep hd mM0
        replace mM1 := keep hd mM1
        replace him := him.below hd
        replace hip := hip.below hd
        replace hiS := hiS.below hd
        replace hiM := hiM.below hd
        replace hB := chain hB hd
        have hs8 := hd.size
        clear hb hd
        cases hso : rS.ok
        · go_wp2
          go_ret
          exact ⟨rfl, hB⟩
        · have has := hid (HAS.out hso)
          go_wp2_with fail
          refine (AllowsChance_any s rS.size _ _ _ _ _ _ xs rS.parts _ him hiS).mono ?_; rw [has.out]; rintro e w9 ⟨rfl, hb⟩
          have hd := hb
          replace mm0 := keep hd mm0
          replace mm1 := keep hd mm1
          replace pp0 := keep hd pp0
          replace pp1 := keep hd pp1
          replace mS0 := keep hd mS0
          replace mS1 := keep hd mS1
          replace mM0 := keep hd mM0
          replace mM1 := keep hd mM1
          replace him := him.below hd
          replace hip := hip.below hd
          replace hiS := hiS.below hd
          replace hiM := hiM.below hd
          replace hB := chain hB hd
          have hs9 := hd.size
          clear hb hd
          cases hmk : rM.ok
          · go_wp2
            go_ret
            exact ⟨rfl, hB⟩
          · have ham := hid (HAM.out hso hmk)
            go_wp2_with fail
            refine (AllowsChance_any s rM.size _ _ _ _ _ _ xs rM.parts _ him hiM).mono ?_; rw [ham.out]; rintro e w10 ⟨rfl, hb⟩
            have hd := hb
            replace mm0 := keep hd mm0
            replace mm1 := keep hd mm1
            replace pp0 := keep hd pp0
            replace pp1 := keep hd pp1
            replace mS0 := keep hd mS0
            replace mS1 := keep hd mS1
            replace mM0 := keep hd mM0
            replace mM1 := keep hd mM1
            replace him := him.below hd
            replace hip := hip.below hd
            replace hiS := hiS.below hd
            replace hiM := hiM.below hd
            replace hB := chain hB hd
            have hs10 := hd.size
            clear hb hd
            go_wp2
            go_ret
            exact ⟨rfl, hB⟩
end Go.Proofs.Ytnbjhmghobljaaa
