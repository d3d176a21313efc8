/- The law FnChanceOfOrder: its walk (printed by fngen.py). -/
import Derived.Test.YtnbjhmghobljaaaD24
import Derived.Test.YtnbjhmghobljaaaE3
import Derived.Test.YtnbjhmghobljaaaE7
import Derived.Test.YtnbjhmghobljaaaF10
import Derived.Test.YtnbjhmghobljaaaN14
import Derived.Test.YtnbjhmghobljaaaC5
set_option linter.unusedSimpArgs false
set_option linter.unusedVariables false
namespace Go.Proofs.Ytnbjhmghobljaaa
open Go.RowKit
/-- does one of the first corners give a set just its belief? -/
def someC (f : Nat → Bool) (k : Nat) : Bool := !allN (fun i => !f i) k
theorem someC_succ (f : Nat → Bool) (k : Nat) : someC f (k + 1) = (someC f k || f k) := by
  show (!(allN _ k && !f k)) = _
  unfold someC
  cases allN (fun i => !f i) k <;> cases f k <;> rfl
theorem someC_of {f : Nat → Bool} {k i : Nat} (hi : i < k) (h : f i = true) : someC f k = true := by
  unfold someC
  rw [allN_false (p := fun i => !f i) hi (by show (!f i) = false; rw [h]; rfl)]
  rfl
theorem Whole_of {s : Int} {xs : List Int} (hm : massOk s xs = true) (ao : Option Addr) (n c : Nat) (w : World) (hx : IntsAt w ao n xs) :
    Calls Try.prog 11 #[.agg #[.int .i64 s, .slice ao n c]] w fun e w' => e = .returned (.int .i64 (isum xs)) ∧ Below w.heap.size w w' := by
  have h := WholeOf_any s ao n c xs w hx
  have e : wholeM s xs = isum xs := by unfold wholeM; rw [hm]; rfl
  rwa [e] at h
theorem Imp_of {s : Int} {xs : List Int} {a : Nat} (hm : massOk s xs = true) (ha : a < xs.length) (ao : Option Addr) (n c : Nat) (w : World) (hx : IntsAt w ao n xs) :
    Calls Try.prog 10 #[.agg #[.int .i64 s, .slice ao n c], .int .i64 a] w fun e w' => e = .returned (.int .i64 (impP a xs)) ∧ Below w.heap.size w w' := by
  have h := ImpliedPart_any s a ao n c xs w hx hm (by rw [← (massOk_facts hm).2.1]; exact ha)
  unfold impP
  rw [hx.len]; exact h
theorem weEqual_not {s : Int} {xs ys : List Int} (h : xs ≠ ys) (ao bo : Option Addr) (n m c d : Nat) (w : World) (hx : IntsAt w ao n xs) (hy : IntsAt w bo m ys) :
    Calls Try.prog 9 #[.agg #[.int .i64 s, .slice ao n c], .agg #[.int .i64 s, .slice bo m d]] w fun e w' => e = .returned (.bool false) ∧ Below w.heap.size w w' := by
  have q := weEqual_any s s ao bo n m c d xs ys w hx hy
  have e : eqMM s s xs ys = false := by unfold eqMM eqList; simp [h]
  rwa [e] at q
theorem corners_none {s : Int} {xs : List Int} (h : normalOk s xs = false) : cornersL s xs = [] := by unfold cornersL; rw [h]; rfl
theorem coM_law {s : Int} {xs o : List Int} (h : (coM s xs o).ok = true) :
    normalOk s xs = true ∧ (coM s xs o).size = s ∧ massOk s (coM s xs o).parts = true ∧ (coM s xs o).parts.length = xs.length ∧
    (∀ i, i < 5 → impP (sufL (o.drop i)) (coM s xs o).parts * isum xs = impP (sufL (o.drop i)) xs * isum (coM s xs o).parts) ∧
    (∃ i, i < (cornersL s xs).length ∧ nthL (cornersL s xs) i = (coM s xs o).parts) ∧
    HallD subN xs.length (coM s xs o).parts xs (isum (coM s xs o).parts) (isum xs) ∧ o.length ≤ 4 ∧ (∀ k, k < o.length → 0 ≤ nth o k ∧ nth o k ≤ 3) ∧ (∀ i, i < 5 → sufL (o.drop i) < xs.length) := by
  obtain ⟨hn, ho, e⟩ := coM_ok h
  rw [e]
  obtain ⟨p1, p4, hl2, h0, hm, _⟩ := norm_size hn
  have hs := (massOk_facts hm).1
  obtain ⟨h1, h2⟩ := ordS_ok hs ho
  have hmem := (corners_mem (p := (chanceM s xs o).parts) hn).2 ⟨o, order_in p1 p4 h2 h1, rfl⟩
  obtain ⟨i, hi, ei⟩ := mem_nthL hmem
  obtain ⟨g1, g2, g3⟩ := corners_good hi
  rw [ei] at g2 g3
  obtain ⟨_, hb⟩ := ordS_facts hs ho
  have hs4 : s ≤ 4 := by rcases okSize_iff.1 hs with rfl | rfl | rfl | rfl <;> omega
  obtain ⟨_, _, _, hsz9, _⟩ := corner_facts hn h1
  refine ⟨hn, hsz9, (norm_size g2).2.2.2.2.1, g3, fun i hi => suf_imp hn ho hi, ⟨i, hi, ei⟩, corner_hall hn h1, by omega, fun k hk => ?_, fun i hi => ?_⟩
  · have := hb k hk; omega
  · rw [hl2]; exact (suf_asc hs ho hi).2
theorem sufL_drop {o : List Int} {j : Nat} (h : j < o.length) : sufL (o.drop j) = sufL (o.drop (j + 1)) ||| 2 ^ (nth o j).toNat := by
  rw [List.drop_eq_getElem_cons h]
  show sufL (o.drop (j + 1)) ||| 2 ^ (o[j]).toNat = _
  rw [nth_eq _ _ h]
theorem eqMM_eq (s : Int) (xs : List Int) : eqMM s s xs xs = true := by unfold eqMM; rw [eqList_same]; simp
set_option maxRecDepth 100000 in
set_option maxHeartbeats 16000000 in
theorem FnChanceOfOrder_walk (ao : Option Addr) (n c : Nat) (w : World) (hx : n ≤ 1048576 → BytesIn w w.heap.size ao n) (hnc : n ≤ c) (hcap : n ≤ 9223372036854775807) :
    Calls Try.prog 3 #[.slice ao n c] w fun e w' => e = .returned (.bool true) ∧ Below w.heap.size w w' := by
  by_cases hn : 1048576 < n
  · go_enter Try.func3, Try.ntmps3
    go_wp2
    go_ret
    exact ⟨rfl, Below.refl _ _⟩
  have HX := hid (hx (by omega))
  clear hx
  go_enter Try.func3, Try.ntmps3
  have hB := Below.refl w.heap.size w
  go_wp2_with fail
  refine (DrawChanceOfOrder_any ao n c _ HX.out hnc).mono ?_; rintro e w1 ⟨⟨s, p, xs, q, gs, rfl, hr, hlx, hr2, hlg⟩, hb⟩
  have hd := hb
  replace hB := chain hB hd
  have hs1 := hd.size
  clear hb hd
  obtain ⟨am, nm, cm, rfl, him⟩ := hr.ints
  clear hr
  obtain ⟨ag, ng, cg, rfl, hig⟩ := hr2.ints
  clear hr2
  have hgl := hig.len
  obtain ⟨rP, HP⟩ : ∃ r, Hid (coM s xs gs = r) := ⟨_, rfl⟩
  go_wp2_with fail
  refine (ChanceOfOrder_any s _ _ _ _ _ _ xs gs _ (him.below (by (repeat (first | exact Below.refl _ _ | assumption | refine Below.alloc ?_ (by first | omega | (simp <;> omega)) _ | refine Below.setCell ?_ (by first | omega | (simp <;> omega)) _ | refine Below.drew ?_ | refine below_drewN ?_)))) (hig.below (by (repeat (first | exact Below.refl _ _ | assumption | refine Below.alloc ?_ (by first | omega | (simp <;> omega)) _ | refine Below.setCell ?_ (by first | omega | (simp <;> omega)) _ | refine Below.drew ?_ | refine below_drewN ?_))))).mono ?_; rw [HP.out]; rintro e w2 ⟨⟨vP, rfl, hrP⟩, hb⟩
  obtain ⟨aP, nP, cP, rfl, hiP⟩ := hrP.ints
  clear hrP
  have mm0 := keep hb (a := ⟨w1.heap.size, 0, none⟩) (v := .int .i64 s) (by simp)
  have mm1 := keep hb (a := ⟨w1.heap.size, 1, none⟩) (v := .slice am nm cm) (by simp)
  have hN1 : w1.heap.size < w2.heap.size := by have := World.block_lt_of_cell? w2 _ mm0; simpa using this
  have hd : Below w1.heap.size w1 w2 := Below.trans (by (repeat (first | exact Below.refl _ _ | assumption | refine Below.alloc ?_ (by first | omega | (simp <;> omega)) _ | refine Below.setCell ?_ (by first | omega | (simp <;> omega)) _ | refine Below.drew ?_ | refine below_drewN ?_))) (hb.mono (by simp <;> omega))
  replace him := him.below hd
  replace hig := hig.below hd
  replace hB := chain hB hd
  have hs2 := hd.size
  clear hb hd
  obtain ⟨rQ, HQ⟩ : ∃ r, Hid (coM s xs gs = r) := ⟨_, rfl⟩
  go_wp2_with fail
  refine (specChanceOfOrder_any s _ _ _ _ _ _ xs gs _ (him.below (by (repeat (first | exact Below.refl _ _ | assumption | refine Below.alloc ?_ (by first | omega | (simp <;> omega)) _ | refine Below.setCell ?_ (by first | omega | (simp <;> omega)) _ | refine Below.drew ?_ | refine below_drewN ?_)))) (hig.below (by (repeat (first | exact Below.refl _ _ | assumption | refine Below.alloc ?_ (by first | omega | (simp <;> omega)) _ | refine Below.setCell ?_ (by first | omega | (simp <;> omega)) _ | refine Below.drew ?_ | refine below_drewN ?_))))).mono ?_; rw [HQ.out]; rintro e w3 ⟨⟨vQ, rfl, hrQ⟩, hb⟩
  obtain ⟨aQ, nQ, cQ, rfl, hiQ⟩ := hrQ.ints
  clear hrQ
  have mP0 := keep hb (a := ⟨w2.heap.size, 0, none⟩) (v := .int .i64 rP.size) (by simp)
  have mP1 := keep hb (a := ⟨w2.heap.size, 1, none⟩) (v := .slice aP nP cP) (by simp)
  have hN2 : w2.heap.size < w3.heap.size := by have := World.block_lt_of_cell? w3 _ mP0; simpa using this
  have hd : Below w2.heap.size w2 w3 := Below.trans (by (repeat (first | exact Below.refl _ _ | assumption | refine Below.alloc ?_ (by first | omega | (simp <;> omega)) _ | refine Below.setCell ?_ (by first | omega | (simp <;> omega)) _ | refine Below.drew ?_ | refine below_drewN ?_))) (hb.mono (by simp <;> omega))
  replace mm0 := keep hd mm0
  replace mm1 := keep hd mm1
  replace him := him.below hd
  replace hig := hig.below hd
  replace hiP := hiP.below hd
  replace hB := chain hB hd
  have hs3 := hd.size
  clear hb hd
  have HE : Hid (rQ = rP) := HQ.out.symm.trans HP.out
  cases ho : rP.ok
  · have ho2 : rQ.ok = false := by rw [HE.out]; exact ho
    go_wp2_with fail
    refine (weEqual_eq _ _ _ _ _ _ _ _ _ _ _ (hiP.below (by (repeat (first | exact Below.refl _ _ | assumption | refine Below.alloc ?_ (by first | omega | (simp <;> omega)) _ | refine Below.setCell ?_ (by first | omega | (simp <;> omega)) _ | refine Below.drew ?_ | refine below_drewN ?_)))) (hiQ.below (by (repeat (first | exact Below.refl _ _ | assumption | refine Below.alloc ?_ (by first | omega | (simp <;> omega)) _ | refine Below.setCell ?_ (by first | omega | (simp <;> omega)) _ | refine Below.drew ?_ | refine below_drewN ?_)))) (by rw [HE.out]) (by rw [HE.out])).mono ?_; rintro e w4 ⟨rfl, hb⟩
    have mQ0 := keep hb (a := ⟨w3.heap.size, 0, none⟩) (v := .int .i64 rQ.size) (by simp)
    have mQ1 := keep hb (a := ⟨w3.heap.size, 1, none⟩) (v := .slice aQ nQ cQ) (by simp)
    have hN3 : w3.heap.size < w4.heap.size := by have := World.block_lt_of_cell? w4 _ mQ0; simpa using this
    have hd : Below w3.heap.size w3 w4 := Below.trans (by (repeat (first | exact Below.refl _ _ | assumption | refine Below.alloc ?_ (by first | omega | (simp <;> omega)) _ | refine Below.setCell ?_ (by first | omega | (simp <;> omega)) _ | refine Below.drew ?_ | refine below_drewN ?_))) (hb.mono (by simp <;> omega))
    replace mm0 := keep hd mm0
    replace mm1 := keep hd mm1
    replace mP0 := keep hd mP0
    replace mP1 := keep hd mP1
    replace him := him.below hd
    replace hig := hig.below hd
    replace hiP := hiP.below hd
    replace hiQ := hiQ.below hd
    replace hB := chain hB hd
    have hs4 := hd.size
    clear hb hd
    go_wp2_with fail
    refine (weEqual_eq _ _ _ _ _ _ _ _ _ _ _ hiP hiQ (by rw [HE.out]) (by rw [HE.out])).mono ?_; rintro e w5 ⟨rfl, hb⟩
    have hd := hb
    replace mm0 := keep hd mm0
    replace mm1 := keep hd mm1
    replace mP0 := keep hd mP0
    replace mP1 := keep hd mP1
    replace mQ0 := keep hd mQ0
    replace mQ1 := keep hd mQ1
    replace him := him.below hd
    replace hig := hig.below hd
    replace hiP := hiP.below hd
    replace hiQ := hiQ.below hd
    replace hB := chain hB hd
    have hs5 := hd.size
    clear hb hd
    go_wp2
    go_ret
    exact ⟨rfl, hB⟩
  · have ho2 : rQ.ok = true := by rw [HE.out]; exact ho
    go_wp2_with fail
    refine (weEqual_eq _ _ _ _ _ _ _ _ _ _ _ (hiP.below (by (repeat (first | exact Below.refl _ _ | assumption | refine Below.alloc ?_ (by first | omega | (simp <;> omega)) _ | refine Below.setCell ?_ (by first | omega | (simp <;> omega)) _ | refine Below.drew ?_ | refine below_drewN ?_)))) (hiQ.below (by (repeat (first | exact Below.refl _ _ | assumption | refine Below.alloc ?_ (by first | omega | (simp <;> omega)) _ | refine Below.setCell ?_ (by first | omega | (simp <;> omega)) _ | refine Below.drew ?_ | refine below_drewN ?_)))) (by rw [HE.out]) (by rw [HE.out])).mono ?_; rintro e w4 ⟨rfl, hb⟩
    have mQ0 := keep hb (a := ⟨w3.heap.size, 0, none⟩) (v := .int .i64 rQ.size) (by simp)
    have mQ1 := keep hb (a := ⟨w3.heap.size, 1, none⟩) (v := .slice aQ nQ cQ) (by simp)
    have hN4 : w3.heap.size < w4.heap.size := by have := World.block_lt_of_cell? w4 _ mQ0; simpa using this
    have hd : Below w3.heap.size w3 w4 := Below.trans (by (repeat (first | exact Below.refl _ _ | assumption | refine Below.alloc ?_ (by first | omega | (simp <;> omega)) _ | refine Below.setCell ?_ (by first | omega | (simp <;> omega)) _ | refine Below.drew ?_ | refine below_drewN ?_))) (hb.mono (by simp <;> omega))
    replace mm0 := keep hd mm0
    replace mm1 := keep hd mm1
    replace mP0 := keep hd mP0
    replace mP1 := keep hd mP1
    replace him := him.below hd
    replace hig := hig.below hd
    replace hiP := hiP.below hd
    replace hiQ := hiQ.below hd
    replace hB := chain hB hd
    have hs4 := hd.size
    clear hb hd
    have hlaw := coM_law (s := s) (xs := xs) (o := gs) (by rw [HP.out]; exact ho)
    rw [HP.out] at hlaw
    obtain ⟨hno, hPs, hmp, hpl, HSUF, HCO, HHA, hg4, HGB, HSL⟩ := hlaw
    obtain ⟨_, _, _, _, hmo, _⟩ := norm_size hno
    obtain ⟨hok, -, h16, -, s1, s2, -⟩ := massOk_facts hmo
    obtain ⟨_, _, _, _, t1, t2, _⟩ := massOk_facts hmp
    have HMO := hid hmo
    have HMP := hid hmp
    have HHA := hid HHA
    have HSUF := hid HSUF
    have HCO := hid HCO
    have HGB := hid HGB
    have HSL := hid HSL
    have HNO := hid hno
    have HPL := hid hpl
    clear hmo hmp hno hpl hok h16
    obtain ⟨X, hX⟩ : ∃ X, isum xs = X := ⟨_, rfl⟩
    rw [hX] at s1 s2
    obtain ⟨Y, hY⟩ : ∃ Y, isum rP.parts = Y := ⟨_, rfl⟩
    rw [hY] at t1 t2
    have HSX : Hid (∀ i, i < 5 → impP (sufL (gs.drop i)) rP.parts * X = impP (sufL (gs.drop i)) xs * Y) := by rw [Hid, ← hX, ← hY]; exact HSUF.out
    have HWX : Hid (∀ w', IntsAt w' am nm xs → Calls Try.prog 11 #[.agg #[.int .i64 s, .slice am nm cm]] w' fun e w'' => e = .returned (.int .i64 X) ∧ Below w'.heap.size w' w'') := fun w' h1 => by rw [← hX]; exact Whole_of HMO.out _ _ _ w' h1
    have HWP : Hid (∀ w', IntsAt w' aP nP rP.parts → Calls Try.prog 11 #[.agg #[.int .i64 rP.size, .slice aP nP cP]] w' fun e w'' => e = .returned (.int .i64 Y) ∧ Below w'.heap.size w' w'') := fun w' h1 => by rw [← hY, hPs]; exact Whole_of HMP.out _ _ _ w' h1
    have HIX : Hid (∀ a, a < xs.length → ∀ w', IntsAt w' am nm xs → Calls Try.prog 10 #[.agg #[.int .i64 s, .slice am nm cm], .int .i64 a] w' fun e w'' => e = .returned (.int .i64 (impP a xs)) ∧ Below w'.heap.size w' w'') := fun a ha w' h1 => Imp_of HMO.out ha _ _ _ w' h1
    have HIP : Hid (∀ a, a < xs.length → ∀ w', IntsAt w' aP nP rP.parts → Calls Try.prog 10 #[.agg #[.int .i64 rP.size, .slice aP nP cP], .int .i64 a] w' fun e w'' => e = .returned (.int .i64 (impP a rP.parts)) ∧ Below w'.heap.size w' w'') := fun a ha w' h1 => by rw [hPs]; exact Imp_of HMP.out (by rw [HPL.out]; exact ha) _ _ _ w' h1
    have HSP : Hid (∀ w', IntsAt w' aP nP rP.parts → IntsAt w' am nm xs → Calls Try.prog 13 #[.agg #[.int .i64 rP.size, .slice aP nP cP], .agg #[.int .i64 s, .slice am nm cm]] w' fun e w'' => e = .returned (.bool true) ∧ Below w'.heap.size w' w'') := fun w' h1 h2 => IsSpecialized_is _ _ _ _ _ _ _ _ rP.parts xs true w' h1 h2 ⟨fun _ => ⟨by unfold oneQ; rw [hPs, HMP.out, HMO.out]; simp, by rw [← h1.len, HPL.out]; exact HHA.out⟩, fun _ => rfl⟩
    have HPB : Hid (∀ a, 0 ≤ impP a rP.parts ∧ impP a rP.parts ≤ 16000000) := fun a => impP_bd HMP.out a
    have HXB : Hid (∀ a, 0 ≤ impP a xs ∧ impP a xs ≤ 16000000) := fun a => impP_bd HMO.out a
    have HPS := hid hPs
    obtain ⟨S5, HS5⟩ : ∃ S : Int, Hid (rP.size = S) := ⟨_, rfl⟩
    have hge := hgl
    have HGL := hid hgl
    clear hX hY hPs hge
    have hn4 : ng ≤ 4 := by have := HGL.out; omega
    clear hg4 hgl
    go_wp2
    go_loopw [9, 10] (fun st i wr => ∃ k : Nat, k ≤ ng ∧ i = .int .i64 ((k : Int) - 1) ∧ st = .int .i64 (sufL (gs.drop k)) ∧ Below w4.heap.size w4 wr) (fun _ i _ => (intOf i + 1).toNat)
    case atStart => exact ⟨ng, Nat.le_refl _, rfl, by rw [← HGL.out, List.drop_length]; rfl, Below.refl _ _⟩
    case round =>
      obtain ⟨k, hk, rfl, rfl, hBr⟩ := hrel
      obtain ⟨w5, rfl⟩ : ∃ q : World, q = wr := ⟨_, rfl⟩
      replace mm0 := keep hBr mm0
      replace mm1 := keep hBr mm1
      replace mP0 := keep hBr mP0
      replace mP1 := keep hBr mP1
      replace mQ0 := keep hBr mQ0
      replace mQ1 := keep hBr mQ1
      replace him := him.below hBr
      replace hig := hig.below hBr
      replace hiP := hiP.below hBr
      replace hiQ := hiQ.below hBr
      have hB0a := hB
      have hswa := hB.size
      have hsr := hBr.size
      clear hB
      have hB := hBr
      clear hBr
      rcases k with _ | j
      · have hz : ¬ (((0 : Nat) : Int) - 1 ≥ 0) := by omega
        replace hB := hB0a.trans (hB.mono hswa)
        go_wp2_with fail
        refine (iCornersOf_any s _ _ _ xs _ him).mono ?_; rintro e w6 ⟨⟨vc, rfl, hmo⟩, hb⟩
        have hd := hb
        replace mm0 := keep hd mm0
        replace mm1 := keep hd mm1
        replace mP0 := keep hd mP0
        replace mP1 := keep hd mP1
        replace mQ0 := keep hd mQ0
        replace mQ1 := keep hd mQ1
        replace him := him.below hd
        replace hig := hig.below hd
        replace hiP := hiP.below hd
        replace hiQ := hiQ.below hd
        replace hB := chain hB hd
        have hs6 := hd.size
        clear hb hd
        obtain ⟨ac, cc, he, hat⟩ := hmo.form
        subst he
        clear hmo
        obtain ⟨C, HC⟩ : ∃ C, Hid (cornersL s xs = C) := ⟨_, rfl⟩
        obtain ⟨Q, HQ⟩ : ∃ Q, Hid (C.length = Q) := ⟨_, rfl⟩
        rw [HC.out, HQ.out] at hat ⊢
        have hQ24 : Q ≤ 24 := by rw [← HQ.out, ← HC.out]; exact corners_len _ _
        have HC2 : Hid (∃ i, i < Q ∧ nthL C i = rP.parts) := by rw [Hid, ← HQ.out, ← HC.out]; exact HCO.out
        have HGOOD : Hid (∀ i, i < Q → chanceOk s (nthL C i) = true ∧ normalOk s (nthL C i) = true ∧ (nthL C i).length = xs.length) := by rw [Hid, ← HQ.out, ← HC.out]; exact fun i hi => corners_good hi
        obtain ⟨F, HF⟩ : ∃ F : Nat → Bool, Hid (F = fun i => eqMM s rP.size (nthL C i) rP.parts) := ⟨_, rfl⟩
        go_wp2
        go_loopw [12, 13] (fun r1 i wr => ∃ k : Nat, k ≤ Q ∧ i = .int .i64 k ∧ r1 = .bool (someC F k) ∧ Below w6.heap.size w6 wr) (fun _ i _ => Q - (intOf i).toNat)
        case atStart => exact ⟨0, by omega, rfl, rfl, Below.refl _ _⟩
        case round =>
          obtain ⟨k, hk, rfl, rfl, hBr⟩ := hrel
          obtain ⟨w7, rfl⟩ : ∃ q : World, q = wr := ⟨_, rfl⟩
          replace mm0 := keep hBr mm0
          replace mm1 := keep hBr mm1
          replace mP0 := keep hBr mP0
          replace mP1 := keep hBr mP1
          replace mQ0 := keep hBr mQ0
          replace mQ1 := keep hBr mQ1
          replace him := him.below hBr
          replace hig := hig.below hBr
          replace hiP := hiP.below hBr
          replace hiQ := hiQ.below hBr
          replace hat := hat.below hBr
          have hB0k := hB
          have hswk := hB.size
          have hsr := hBr.size
          clear hB
          have hB := hBr
          clear hBr
          by_cases hlt : k < Q
          · have hk0 : (0 : Int) ≤ (k : Int) := by omega
            have hk1 : (k : Int) < (Q : Int) := by omega
            obtain ⟨b1, a1, n1, c1, e1, _, hbb, hc0, hc1, hi1⟩ := hat.at (Below.refl _ _) hlt
            subst e1
            have HS := hid (someC_succ F k)
            have HFk : Hid (F k = eqMM s rP.size (nthL C k) rP.parts) := by rw [HF.out]; rfl
            generalize nthL C k = D at *
            have HQE : Hid (∀ w', IntsAt w' a1 n1 D → IntsAt w' aP nP rP.parts → Calls Try.prog 9 #[.agg #[.int .i64 s, .slice a1 n1 c1], .agg #[.int .i64 rP.size, .slice aP nP cP]] w' fun e w'' => e = .returned (.bool (F k)) ∧ Below w'.heap.size w' w'') := fun w' h1 h2 => by rw [HFk.out]; exact weEqual_any s rP.size _ _ _ _ _ _ D rP.parts _ h1 h2
            generalize F k = bF at *
            cases hr1 : someC F k
            · rw [hr1] at HS
              go_wp2
              refine wp_region_ov (by kernel_rfl) (by kernel_rfl) ?_
              repeat (first | go_big_quiet_step ((go_at_call 9; (with_reducible exact ov_call (HQE.out _ (hi1.below (ov_below _ _)) (hiP.below (ov_below _ _)))))) | quiet_step ((go_at_call 9; (with_reducible exact ov_call (HQE.out _ (hi1.below (ov_below _ _)) (hiP.below (ov_below _ _)))))))
              refine wpQuiet_nil ?_
              intro _ hw_ov
              obtain ⟨x_ov, hw_ov2⟩ := hw_ov
              subst hw_ov2
              obtain ⟨wz, hw_ov3, hbz⟩ := ov_gen _ x_ov
              rw [hw_ov3]
              clear hw_ov3 x_ov
              have hBz := chain hB hbz
              go_wp2
              go_roundw
              case rel => first | exact ⟨k + 1, by omega, by go_num, by rw [HS.out]; simp, hBz⟩ | exact ⟨_, ⟨k + 1, by omega, by go_num, by rw [HS.out]; simp, hBz⟩, rfl⟩ | exact ⟨_, _, ⟨k + 1, by omega, by go_num, by rw [HS.out]; simp, hBz⟩, rfl, rfl⟩ | exact ⟨_, _, _, ⟨k + 1, by omega, by go_num, by rw [HS.out]; simp, hBz⟩, rfl, rfl, rfl⟩ | exact ⟨_, _, _, _, ⟨k + 1, by omega, by go_num, by rw [HS.out]; simp, hBz⟩, rfl, rfl, rfl, rfl⟩ | exact ⟨_, _, _, _, _, ⟨k + 1, by omega, by go_num, by rw [HS.out]; simp, hBz⟩, rfl, rfl, rfl, rfl, rfl⟩
              case measure => simp [intOf]; omega
            · rw [hr1] at HS
              go_wp2
              refine wp_region_ov (by kernel_rfl) (by kernel_rfl) ?_
              repeat (first | go_big_quiet_step ((go_at_call 9; (with_reducible exact ov_call (HQE.out _ (hi1.below (ov_below _ _)) (hiP.below (ov_below _ _)))))) | quiet_step ((go_at_call 9; (with_reducible exact ov_call (HQE.out _ (hi1.below (ov_below _ _)) (hiP.below (ov_below _ _)))))))
              refine wpQuiet_nil ?_
              intro _ hw_ov
              obtain ⟨x_ov, hw_ov2⟩ := hw_ov
              subst hw_ov2
              obtain ⟨wz, hw_ov3, hbz⟩ := ov_gen _ x_ov
              rw [hw_ov3]
              clear hw_ov3 x_ov
              have hBz := chain hB hbz
              go_wp2
              go_roundw
              case rel => first | exact ⟨k + 1, by omega, by go_num, by rw [HS.out]; simp, hBz⟩ | exact ⟨_, ⟨k + 1, by omega, by go_num, by rw [HS.out]; simp, hBz⟩, rfl⟩ | exact ⟨_, _, ⟨k + 1, by omega, by go_num, by rw [HS.out]; simp, hBz⟩, rfl, rfl⟩ | exact ⟨_, _, _, ⟨k + 1, by omega, by go_num, by rw [HS.out]; simp, hBz⟩, rfl, rfl, rfl⟩ | exact ⟨_, _, _, _, ⟨k + 1, by omega, by go_num, by rw [HS.out]; simp, hBz⟩, rfl, rfl, rfl, rfl⟩ | exact ⟨_, _, _, _, _, ⟨k + 1, by omega, by go_num, by rw [HS.out]; simp, hBz⟩, rfl, rfl, rfl, rfl, rfl⟩
              case measure => simp [intOf]; omega
          · obtain rfl : k = Q := by omega
            have h1 : someC F k = true := by obtain ⟨i, hi, e⟩ := HC2.out; exact someC_of hi (by rw [HF.out]; show eqMM s rP.size (nthL C i) rP.parts = true; rw [e, HPS.out]; exact eqMM_eq _ _)
            rw [h1]
            replace hB := hB0k.trans (hB.mono hswk)
            go_wp2_with fail
            refine (HSP.out _ hiP him).mono ?_; rintro e w8 ⟨rfl, hb⟩
            have hd := hb
            replace mm0 := keep hd mm0
            replace mm1 := keep hd mm1
            replace mP0 := keep hd mP0
            replace mP1 := keep hd mP1
            replace mQ0 := keep hd mQ0
            replace mQ1 := keep hd mQ1
            replace him := him.below hd
            replace hig := hig.below hd
            replace hiP := hiP.below hd
            replace hiQ := hiQ.below hd
            replace hat := hat.below hd
            replace hB := chain hB hd
            have hs8 := hd.size
            clear hb hd
            go_wp2
            go_ret
            exact ⟨rfl, hB⟩
      · have hz : (((j + 1 : Nat) : Int) - 1) = (j : Int) := by omega
        have hj0 : (0 : Int) ≤ (j : Int) := by omega
        have hj1 : (j : Int) < (ng : Int) := by omega
        rw [hz]
        have hlt : j < gs.length := by rw [HGL.out]; omega
        have hgb := HGB.out j hlt
        have HS := hid (sufL_drop hlt)
        have hA5 : sufL (gs.drop j) < xs.length := HSL.out j (by omega)
        have HE1 := hid (HSX.out j (by omega))
        obtain ⟨bx, ox, rfl, _, _, hck⟩ := hig.at (Below.refl _ _) (show j < ng by omega)
        obtain ⟨x, hx⟩ : ∃ x : Nat, nth gs j = (x : Int) := ⟨(nth gs j).toNat, by omega⟩
        have hxx : (nth gs j).toNat = x := by omega
        rw [hxx] at HS
        rw [hx] at hck hgb
        clear hx hxx
        have hx3 : x ≤ 3 := by omega
        have hshl := shl_nat x (by omega)
        have hsm : sufL (gs.drop (j + 1)) < xs.length := HSL.out (j + 1) (by omega)
        have hlx16 : xs.length ≤ 17 := hlx
        have hor := or_pow (sufL (gs.drop (j + 1))) x (by omega) (by omega)
        have hor2 : bits BinOp.or IntKind.i64 ((sufL (gs.drop (j + 1)) : Nat) : Int) (2 ^ x) = ((sufL (gs.drop j) : Nat) : Int) := by rw [hor, HS.out]
        clear hor
        obtain ⟨Z, HZ⟩ : ∃ Z, Hid (sufL (gs.drop j) = Z) := ⟨_, rfl⟩
        rw [HZ.out] at hor2 hA5 HE1
        generalize sufL (gs.drop (j + 1)) = Z0 at *
        have hpb := HPB.out Z
        have hxb := HXB.out Z
        have HIX2 := hid (HIX.out Z hA5)
        have HIP2 := hid (HIP.out Z hA5)
        generalize impP Z rP.parts = A at *
        generalize impP Z xs = B at *
        have p1 := prod_bd hpb ⟨s1, s2⟩
        have p2 := prod_bd hxb ⟨t1, t2⟩
        have heq : (A * X == B * Y) = true := by rw [beq_iff_eq]; exact HE1.out
        clear HE1 hsm hlt
        go_wp2
        refine wp_region_ov (by kernel_rfl) (by kernel_rfl) ?_
        repeat (first | go_big_quiet_step ((first | (go_at_call 10; (with_reducible exact ov_call (HIP2.out _ (hiP.below (ov_below _ _))))) | (go_at_call 10; (with_reducible exact ov_call (HIX2.out _ (him.below (ov_below _ _))))) | (go_at_call 11; (with_reducible exact ov_call (HWX.out _ (him.below (ov_below _ _))))) | (go_at_call 11; (with_reducible exact ov_call (HWP.out _ (hiP.below (ov_below _ _))))))) | quiet_step ((first | (go_at_call 10; (with_reducible exact ov_call (HIP2.out _ (hiP.below (ov_below _ _))))) | (go_at_call 10; (with_reducible exact ov_call (HIX2.out _ (him.below (ov_below _ _))))) | (go_at_call 11; (with_reducible exact ov_call (HWX.out _ (him.below (ov_below _ _))))) | (go_at_call 11; (with_reducible exact ov_call (HWP.out _ (hiP.below (ov_below _ _))))))))
        refine wpQuiet_nil ?_
        intro _ hw_ov
        obtain ⟨x_ov, hw_ov2⟩ := hw_ov
        subst hw_ov2
        obtain ⟨wz, hw_ov3, hbz⟩ := ov_gen _ x_ov
        rw [hw_ov3]
        clear hw_ov3 x_ov
        have hBz := chain hB hbz
        go_wp2
        go_roundw
        case rel => first | exact ⟨j, by omega, by go_num, by rw [HZ.out], hBz⟩ | exact ⟨_, ⟨j, by omega, by go_num, by rw [HZ.out], hBz⟩, rfl⟩ | exact ⟨_, _, ⟨j, by omega, by go_num, by rw [HZ.out], hBz⟩, rfl, rfl⟩ | exact ⟨_, _, _, ⟨j, by omega, by go_num, by rw [HZ.out], hBz⟩, rfl, rfl, rfl⟩ | exact ⟨_, _, _, _, ⟨j, by omega, by go_num, by rw [HZ.out], hBz⟩, rfl, rfl, rfl, rfl⟩ | exact ⟨_, _, _, _, _, ⟨j, by omega, by go_num, by rw [HZ.out], hBz⟩, rfl, rfl, rfl, rfl, rfl⟩
        case measure => simp [intOf]
end Go.Proofs.Ytnbjhmghobljaaa
