/- The corners of a mass: cornersOf, impl.CornersOf. The corners of a mass: spec.CornersOf. -/
import Derived.Test.YtefmlbahmakboaaGreatDoorC4
import Derived.Test.YtefmlbahmakboaaGreatDoorLE
import Derived.Test.YtefmlbahmakboaaGreatDoorN12
import Derived.Test.YtefmlbahmakboaaGreatDoorL2
set_option linter.unusedSimpArgs false
set_option linter.unusedVariables false
namespace Go.Proofs.YtefmlbahmakboaaGreatDoor
open Go.RowKit
set_option maxHeartbeats 400000 in
theorem IndexFuncM_any (ao : Option Addr) (n c : Nat) (t : Nat → Int) (p : Nat → List Int) (fid : FuncId) (caps : Array Value) (q : Nat → Bool) (w : World) (hx : MassesAt w ao n t p)
    (hcf : ∀ (vs : Array Value) (w' : World), Sem.run Tryz.prog (callFunc fid vs) w' = .ok (.enter fid vs) w')
    (hto : ∀ (k : Nat) (w' : World) (a' : Option Addr) (n' c' : Nat), k < n → Below w.heap.size w w' → IntsAt w' a' n' (p k) → Calls Tryz.prog fid (#[.agg #[.int .i64 (t k), .slice a' n' c']] ++ caps) w' fun e w'' => e = .returned (.bool (q k)) ∧ Below w'.heap.size w' w'') :
    Calls Tryz.prog 126 #[.slice ao n c, .func (.func fid) #[] caps] w fun e w' => (∃ r : Int, e = .returned (.int .i64 r) ∧ decide (0 ≤ r) = !allN (fun k => !q k) n) ∧ Below w.heap.size w w' := by
  have HTO := hid hto; clear hto
  have hcap := hx.cap
  go_enter Tryz.func126, Tryz.ntmps126
  go_wp2
  go_loopw [5, 8] (fun _ i wr => ∃ k : Nat, k ≤ n ∧ i = .int .i64 k ∧ allN (fun k => !q k) k = true ∧ Below w.heap.size w wr) (fun _ i _ => n - (intOf i).toNat)
  case atStart => exact ⟨0, by omega, rfl, rfl, Below.refl _ _⟩
  case round =>
    obtain ⟨k, hk, rfl, ha, hB⟩ := hrel
    have HA := hid ha; clear ha
    by_cases hlt : k < n
    · obtain ⟨b, a', n', c', rfl, hbs, hbs', hck0, hck1, hi⟩ := hx.at hB hlt
      go_wp2_with fail
      refine (HTO.out k wr a' n' c' hlt hB hi).mono ?_; rintro e w3 ⟨rfl, hb3⟩
      have hB3 := chain hB hb3
      cases hp : q k
      · go_wp2
        go_roundw
        case rel => first | exact ⟨k + 1, by omega, by go_num, by show (allN (fun k => !q k) k && !q k) = true; rw [HA.out, hp]; rfl, hB3⟩ | exact ⟨_, ⟨k + 1, by omega, by go_num, by show (allN (fun k => !q k) k && !q k) = true; rw [HA.out, hp]; rfl, hB3⟩, rfl⟩ | exact ⟨_, _, ⟨k + 1, by omega, by go_num, by show (allN (fun k => !q k) k && !q k) = true; rw [HA.out, hp]; rfl, hB3⟩, rfl, rfl⟩ | exact ⟨_, _, _, ⟨k + 1, by omega, by go_num, by show (allN (fun k => !q k) k && !q k) = true; rw [HA.out, hp]; rfl, hB3⟩, rfl, rfl, rfl⟩ | exact ⟨_, _, _, _, ⟨k + 1, by omega, by go_num, by show (allN (fun k => !q k) k && !q k) = true; rw [HA.out, hp]; rfl, hB3⟩, rfl, rfl, rfl, rfl⟩ | exact ⟨_, _, _, _, _, ⟨k + 1, by omega, by go_num, by show (allN (fun k => !q k) k && !q k) = true; rw [HA.out, hp]; rfl, hB3⟩, rfl, rfl, rfl, rfl, rfl⟩
        case measure => simp [intOf]; omega
      · have HF : Hid (allN (fun k => !q k) n = false) := allN_false hlt (by simp [hp])
        go_wp2
        go_ret
        exact ⟨⟨_, rfl, by rw [HF.out]; simp⟩, hB3⟩
    · have hkn : k = n := by omega
      subst hkn
      go_wp2
      go_ret
      exact ⟨⟨_, rfl, by rw [HA.out]; simp⟩, hB⟩
theorem ContainsFuncM_any (ao : Option Addr) (n c : Nat) (t : Nat → Int) (p : Nat → List Int) (fid : FuncId) (caps : Array Value) (q : Nat → Bool) (w : World) (hx : MassesAt w ao n t p)
    (hcf : ∀ (vs : Array Value) (w' : World), Sem.run Tryz.prog (callFunc fid vs) w' = .ok (.enter fid vs) w')
    (hto : ∀ (k : Nat) (w' : World) (a' : Option Addr) (n' c' : Nat), k < n → Below w.heap.size w w' → IntsAt w' a' n' (p k) → Calls Tryz.prog fid (#[.agg #[.int .i64 (t k), .slice a' n' c']] ++ caps) w' fun e w'' => e = .returned (.bool (q k)) ∧ Below w'.heap.size w' w'') :
    Calls Tryz.prog 78 #[.slice ao n c, .func (.func fid) #[] caps] w fun e w' => e = .returned (.bool (!allN (fun k => !q k) n)) ∧ Below w.heap.size w w' := by
  have HTO := hid hto; clear hto
  go_enter Tryz.func78, Tryz.ntmps78
  go_wp2_with fail
  refine (IndexFuncM_any _ _ _ t p _ _ q _ hx hcf HTO.out).mono ?_; rintro e w1 ⟨⟨r, rfl, hr⟩, hb1⟩
  have HR := hid hr; clear hr
  go_wp2
  go_ret
  exact ⟨ret_bool (by rw [← HR.out]), hb1⟩
theorem cornersClos_any (s u : Int) (ao bo : Option Addr) (n c m d B : Nat) (xs ys : List Int) (w : World) (hx : IntsAt w ao n xs) (hB : w.cell? ⟨B, 1, none⟩ = some (.slice bo m d)) (hy : IntsAt w bo m ys) :
    Calls Tryz.prog 124 #[.agg #[.int .i64 s, .slice ao n c], .pointer (some ⟨B, 0, none⟩)] w fun e w' => e = .returned (.bool (sameL ys xs)) ∧ Below w.heap.size w w' := by
  have hB1 := keep (below_alloc w (.cells #[.int .i64 s, .slice ao n c] 25)) hB
  go_enter Tryz.func124, Tryz.ntmps124
  go_wp2_with fail
  refine (EqualI_any _ _ _ _ _ _ ys xs _ (hy.below (below_alloc _ _)) (hx.below (below_alloc _ _))).mono ?_
  rintro e w1 ⟨rfl, hb1⟩
  go_wp2
  go_ret
  exact ⟨rfl, (box2 hb1).2.2⟩
theorem cornersClos_call (vs : Array Value) (w' : World) : Sem.run Tryz.prog (callFunc 124 vs) w' = .ok (.enter 124 vs) w' := by
  have h1 : (Tryz.f124.name == "runtime.NumGoroutine") = false := by kernel_rfl
  have h2 : Tryz.f124.body.isNone = false := by kernel_rfl
  have h1' : ¬ Tryz.f124.name = "runtime.NumGoroutine" := by simpa using h1
  have h2' : ¬ Tryz.f124.body = none := by intro e; rw [e] at h2; simp at h2
  simp only [callFunc, Sem.run_bind, run_program, Result.andThen_ok, Tryz.func124, beq_iff_eq, Option.isNone_iff_eq_none, if_neg h1', if_neg h2', Sem.run_pure]
theorem sameL_eq (xs ys : List Int) : sameL xs ys = decide (xs = ys) := by
  by_cases h : xs = ys
  · subst h
    rw [sameL_all rfl fun k _ => rfl]; simp
  · cases hs : sameL xs ys
    · simp [h]
    · refine absurd ?_ h
      simp only [sameL, Bool.and_eq_true, beq_iff_eq, allN_iff] at hs
      exact ext_nth _ _ hs.1 hs.2
theorem hasL_same (L : List (List Int)) (p : List Int) : (!allN (fun k => !sameL p (nthL L k)) L.length) = hasL L p := by
  unfold hasL
  congr 2
  funext k
  rw [sameL_eq]
  congr 1
  exact decide_eq_decide.2 ⟨Eq.symm, Eq.symm⟩
set_option maxHeartbeats 2000000 in
theorem cornersOf_any (s : Int) (ao : Option Addr) (n c : Nat) (xs : List Int) (w : World) (hx : IntsAt w ao n xs) (hm : normalOk s xs = true) :
    Calls Tryz.prog 77 #[.agg #[.int .i64 s, .slice ao n c]] w fun e w' => (∃ v, e = .returned v ∧ MassesO w' (w.heap.size + 1) v (cornersL s xs).length (fun _ => s) (nthL (cornersL s xs))) ∧ Below w.heap.size w w' := by
  obtain ⟨p1, p4, _, _, hmo, hsz⟩ := norm_size hm
  obtain ⟨N, rfl⟩ : ∃ N : Nat, s = N := ⟨s.toNat, hsz.symm⟩
  have hCL : cornersL (N : Int) xs = cornTo (N : Int) xs (orders N) (orders N).length := by unfold cornersL; rw [if_pos hm, Int.toNat_natCast]
  rw [Int.toNat_natCast] at p1 p4
  clear hsz
  have HC : Hid (∀ k, k < (orders N).length → OrdOk (N : Int).toNat (nthL (orders N) k) ∧ (chanceM (N : Int) xs (nthL (orders N) k)).size = (N : Int) ∧ (chanceM (N : Int) xs (nthL (orders N) k)).ok = true) := fun k hk => by
    have ho : OrdOk (N : Int).toNat (nthL (orders N) k) := by rw [Int.toNat_natCast]; exact orders_ok p4 (nthL_mem hk)
    obtain ⟨e, _, h1, h2, _⟩ := corner_facts hm ho
    exact ⟨ho, h2, h1⟩
  have hg24 := (ord_good p4 (Nat.le_refl N)).1
  have hg1 := (ord_good p4 (Nat.le_refl N)).2.1
  change (orders N).length ≤ 24 at hg24
  change 1 ≤ (orders N).length at hg1
  rw [hCL]
  clear hCL
  obtain ⟨os, HOS⟩ : ∃ os, Hid (orders N = os) := ⟨_, rfl⟩
  have HO2 := ordersOf_any N
  rw [HOS.out] at HC hg24 hg1 HO2 ⊢
  obtain ⟨P, hP⟩ : ∃ P, os.length = P := ⟨_, rfl⟩
  rw [hP] at HC hg24 hg1 ⊢
  obtain ⟨W, HW⟩ : ∃ W, Hid (w.alloc (.cells #[.int .i64 (N : Int), .slice ao n c] 25) = W) := ⟨_, rfl⟩
  have hB0 : Below w.heap.size w W := by rw [← HW.out]; exact below_alloc _ _
  have hp0 : W.cell? ⟨w.heap.size, 0, none⟩ = some (.int .i64 (N : Int)) := by rw [← HW.out]; simp
  have hp1 : W.cell? ⟨w.heap.size, 1, none⟩ = some (.slice ao n c) := by rw [← HW.out]; simp
  have hzW : W.heap.size = w.heap.size + 1 := by rw [← HW.out]; simp
  have hlit := MassesO.lit W (fun _ => (N : Int)) (nthL [])
  have hB1 : Below W.heap.size W (W.alloc (.cells #[] 25)) := below_alloc _ _
  have hzW1 : (W.alloc (.cells #[] 25)).heap.size = W.heap.size + 1 := by simp
  have hxW := hx.below hB0
  go_enter Tryz.func77, Tryz.ntmps77
  go_wp2_with fail
  rw [HW.out]
  refine (HO2 _ p4).mono ?_
  rintro e w2 ⟨⟨vo, rfl, hro⟩, hb2⟩
  clear HO2
  have hB2 := chain hB1 hb2
  replace hlit := hlit.below hb2
  rw [hzW1] at hro
  have hz2 := hb2.size
  rw [hzW1] at hz2
  rw [hzW] at hlit hro hz2
  obtain ⟨go, co, he, hgo1, hgo2⟩ := hro.form2 (by omega)
  subst he
  rw [hP]
  go_wp2
  go_loopw [3, 13] (fun o i wr => ∃ (k : Nat) (v : Value), k ≤ P ∧ i = .int .i64 k ∧ o = v ∧ MassesO wr (w.heap.size + 1) v (cornTo (N : Int) xs os k).length (fun _ => (N : Int)) (nthL (cornTo (N : Int) xs os k)) ∧ Span (w.heap.size + 1) (w.heap.size + 1 + 1) w2 wr ∧ (∀ b, v.ownBlock = some b → b = w.heap.size + 1 ∨ w2.heap.size ≤ b)) (fun _ i _ => P - (intOf i).toNat)
  case atStart => exact ⟨0, _, by omega, rfl, rfl, hlit, Span.refl _ _ _, fun b e => .inl (own_eq e)⟩
  case round =>
    clear hlit
    obtain ⟨k, v, hk, rfl, rfl, hmas, hS, hvb⟩ := hrel
    obtain ⟨wo, rfl⟩ : ∃ q : World, q = wr := ⟨_, rfl⟩
    have hzS := hS.size
    by_cases hlt : k < P
    · obtain ⟨L, HL⟩ : ∃ L, Hid (cornTo (N : Int) xs os k = L) := ⟨_, rfl⟩
      have hlen := cornTo_len (N : Int) xs os k
      have HS := hid (cornTo_succ (N : Int) xs os k)
      rw [HL.out] at hmas hlen
      obtain ⟨q, hq⟩ : ∃ q, L.length = q := ⟨_, rfl⟩
      rw [hq] at hmas hlen
      obtain ⟨av, cv, he, hat⟩ := hmas.form
      subst he
      obtain ⟨go', co', z, e1, _, _, hgm, hck, hzr⟩ := (hro.span hS (Nat.le_refl _)).at (Below.refl _ _) (k := k) (by omega)
      injection e1 with e2 e3 e4
      injection e2 with e2
      injection e2 with e5 e6
      subst e5
      clear e3 e4 e6
      obtain ⟨az, nz, cz, rfl, hiz⟩ := hzr.ints
      obtain ⟨ho, hsz, hok⟩ := HC.out k hlt
      have HO := hid ho; clear ho
      have HSZ := hid hsz; clear hsz
      have HOK := hid hok; clear hok
      have hBw : Below W.heap.size W wo := Span.below hB2 (by omega) hS (by omega)
      have g0 := keep hBw hp0
      have g1 := keep hBw hp1
      have hxr := hxW.below hBw
      go_wp2_with fail
      refine (chanceOfOrder_any (N : Int) ao az n c nz cz xs _ _ hxr hiz hmo HO.out).mono ?_; rintro e w3 ⟨⟨vm, rfl, hrm⟩, hb3⟩
      rw [HSZ.out, HOK.out]
      obtain ⟨a3, n3, c3, rfl, hi3⟩ := hrm.ints
      obtain ⟨R, HR⟩ : ∃ R, Hid ((chanceM (N : Int) xs (nthL os k)).parts = R) := ⟨_, rfl⟩
      rw [HR.out] at hrm hi3
      have hz3 := hb3.size
      have hbx : Below w3.heap.size w3 (w3.alloc (.cells #[.int .i64 (N : Int), .slice a3 n3 c3] 25)) := below_alloc _ _
      have k1 : (w3.alloc (.cells #[.int .i64 (N : Int), .slice a3 n3 c3] 25)).cell? ⟨w3.heap.size, 1, none⟩ = some (.slice a3 n3 c3) := by simp
      go_wp2_with fail
      refine (ContainsFuncM_any av q cv _ _ _ #[.pointer (some ⟨w3.heap.size, 0, none⟩)] (fun j => sameL R (nthL L j)) _ ((hat.below hb3).below hbx) cornersClos_call (fun j w' a' n' c' hj hb hi => ?_)).mono ?_
      · exact cornersClos_any _ (N : Int) _ _ _ _ _ _ _ _ _ w' hi (keep hb k1) ((hi3.below hbx).below hb)
      rintro e w4 ⟨rfl, hb4⟩
      rw [← hq, hasL_same]
      obtain ⟨h40, h41, hB4⟩ := box2 hb4
      have hb34 : Below wo.heap.size wo w4 := chain hb3 hB4
      have hz4 := hB4.size
      clear hb4 hbx k1
      cases hh : hasL L R
      · have HN : Hid (cornTo (N : Int) xs os (k + 1) = L ++ [R]) := by rw [Hid, HS.out, HL.out, HR.out, hh]; rfl
        go_wp2_with (at_builtin; refine wpList_append_mass rfl _ _ rfl wo (w.heap.size + 1) _ (N : Int) L q hq (by rfl) hmas (hb34.alloc (by omega) _) _ _ (.slice a3 n3 c3) R (by rfl) (by simp) (by simp) ((hrm.below hB4).below (below_alloc _ _)) (by omega) (by omega) ?_; intro g6 c6 w6 hm6 hg6 hgb6 hgo6)
        have hl1 : (L ++ [R]).length = q + 1 := by rw [List.length_append, hq]; rfl
        have HS6 := hid (hS.grown2 (below_grown (hb34.alloc (by omega) _) hg6) (fun b e => by have := hvb b e; omega))
        have HV : Hid (∀ b, (Value.slice (some ⟨g6, 0, none⟩) (q + 1) c6).ownBlock = some b → b = w.heap.size + 1 ∨ w2.heap.size ≤ b) := fun b e => by
          have e1 := own_eq e
          subst e1
          rcases hgo6 with h | h
          · exact hvb _ h
          · simp at h; omega
        clear hg6 hgo6 hmas hvb hS
        go_roundw
        case rel => first | exact ⟨k + 1, _, by omega, by go_num, rfl, by rw [HN.out, hl1]; exact hm6, HS6.out, HV.out⟩ | exact ⟨_, ⟨k + 1, _, by omega, by go_num, rfl, by rw [HN.out, hl1]; exact hm6, HS6.out, HV.out⟩, rfl⟩ | exact ⟨_, _, ⟨k + 1, _, by omega, by go_num, rfl, by rw [HN.out, hl1]; exact hm6, HS6.out, HV.out⟩, rfl, rfl⟩ | exact ⟨_, _, _, ⟨k + 1, _, by omega, by go_num, rfl, by rw [HN.out, hl1]; exact hm6, HS6.out, HV.out⟩, rfl, rfl, rfl⟩ | exact ⟨_, _, _, _, ⟨k + 1, _, by omega, by go_num, rfl, by rw [HN.out, hl1]; exact hm6, HS6.out, HV.out⟩, rfl, rfl, rfl, rfl⟩ | exact ⟨_, _, _, _, _, ⟨k + 1, _, by omega, by go_num, rfl, by rw [HN.out, hl1]; exact hm6, HS6.out, HV.out⟩, rfl, rfl, rfl, rfl, rfl⟩
        case measure => simp [intOf]; omega
      · have HN : Hid (cornTo (N : Int) xs os (k + 1) = L) := by rw [Hid, HS.out, HL.out, HR.out, hh]; rfl
        go_wp2
        go_roundw
        case rel => first | exact ⟨k + 1, _, by omega, by go_num, rfl, by rw [HN.out, hq]; exact hmas.below hb34, hS.grown2 (grownBy_below hb34 none) (fun k e => by cases e), hvb⟩ | exact ⟨_, ⟨k + 1, _, by omega, by go_num, rfl, by rw [HN.out, hq]; exact hmas.below hb34, hS.grown2 (grownBy_below hb34 none) (fun k e => by cases e), hvb⟩, rfl⟩ | exact ⟨_, _, ⟨k + 1, _, by omega, by go_num, rfl, by rw [HN.out, hq]; exact hmas.below hb34, hS.grown2 (grownBy_below hb34 none) (fun k e => by cases e), hvb⟩, rfl, rfl⟩ | exact ⟨_, _, _, ⟨k + 1, _, by omega, by go_num, rfl, by rw [HN.out, hq]; exact hmas.below hb34, hS.grown2 (grownBy_below hb34 none) (fun k e => by cases e), hvb⟩, rfl, rfl, rfl⟩ | exact ⟨_, _, _, _, ⟨k + 1, _, by omega, by go_num, rfl, by rw [HN.out, hq]; exact hmas.below hb34, hS.grown2 (grownBy_below hb34 none) (fun k e => by cases e), hvb⟩, rfl, rfl, rfl, rfl⟩ | exact ⟨_, _, _, _, _, ⟨k + 1, _, by omega, by go_num, rfl, by rw [HN.out, hq]; exact hmas.below hb34, hS.grown2 (grownBy_below hb34 none) (fun k e => by cases e), hvb⟩, rfl, rfl, rfl, rfl, rfl⟩
        case measure => simp [intOf]; omega
    · have hkn : k = P := by omega
      have HK := hid hkn
      clear hkn
      go_wp2
      go_ret
      exact ⟨⟨_, rfl, by rw [← HK.out]; exact hmas⟩, (hB0.trans ((Span.below hB2 (by omega) hS (by omega)).mono (by omega)))⟩
theorem iCornersOf_any (s : Int) (ao : Option Addr) (n c : Nat) (xs : List Int) (w : World) (hx : IntsAt w ao n xs) :
    Calls Tryz.prog 249 #[.agg #[.int .i64 s, .slice ao n c]] w fun e w' => (∃ v, e = .returned v ∧ MassesO w' w.heap.size v (cornersL s xs).length (fun _ => s) (nthL (cornersL s xs))) ∧ Below w.heap.size w w' := by
  cases hm : normalOk s xs
  · have HC : Hid (cornersL s xs = []) := by rw [Hid]; unfold cornersL; rw [hm]; rfl
    go_enter Tryz.func249, Tryz.ntmps249
    go_wp2_with fail
    refine (isNormal_any _ _ _ _ _ _ (hx.below (below_alloc w _))).mono ?_; rw [hm]; rintro e w1 ⟨rfl, hb1⟩
    obtain ⟨h10, h11, hB1⟩ := box2 hb1
    clear hb1
    go_wp2
    go_ret
    exact ⟨⟨_, rfl, by rw [HC.out]; exact MassesO.nil _ _ _ _⟩, hB1⟩
  · go_enter Tryz.func249, Tryz.ntmps249
    go_wp2_with fail
    refine (isNormal_any _ _ _ _ _ _ (hx.below (below_alloc w _))).mono ?_; rw [hm]; rintro e w1 ⟨rfl, hb1⟩
    obtain ⟨h10, h11, hB1⟩ := box2 hb1
    have hs1 := hB1.size
    clear hb1
    go_wp2_with fail
    refine (cornersOf_any _ _ _ _ _ _ (hx.below hB1) hm).mono ?_; rintro e w2 ⟨⟨v, rfl, hr⟩, hb2⟩
    go_wp2
    go_ret
    exact ⟨⟨_, rfl, hr.mono (by omega)⟩, chain hB1 hb2⟩
theorem known_succ (L : List (List Int)) (R : List Int) (j : Nat) : (!allN (fun i => !sameL (nthL L i) R) (j + 1)) = (!allN (fun i => !sameL (nthL L i) R) j || sameL (nthL L j) R) := by
  show (!(allN (fun i => !sameL (nthL L i) R) j && !sameL (nthL L j) R)) = _
  cases allN (fun i => !sameL (nthL L i) R) j <;> cases sameL (nthL L j) R <;> rfl
theorem hasL_same2 (L : List (List Int)) (p : List Int) : (!allN (fun k => !sameL (nthL L k) p) L.length) = hasL L p := by
  unfold hasL
  congr 2
  funext k
  rw [sameL_eq]
theorem corners_parts_len (s : Int) (xs : List Int) : ∀ k, k < (cornersL s xs).length → (nthL (cornersL s xs) k).length ≤ 1000 := fun k hk => by
  obtain ⟨hn, o, _, ho, e⟩ := corners_nth hk
  obtain ⟨_, _, _, _, h3, _⟩ := corner_facts hn ho
  obtain ⟨_, _, _, _, hmo, _⟩ := norm_size hn
  obtain ⟨_, _, h16, _⟩ := massOk_facts hmo
  rw [e, h3]; omega
end Go.Proofs.YtefmlbahmakboaaGreatDoor
