/- The law FnScriptLearn: its walk (printed by scriptgen.py). -/
import Derived.Test.YtlelnnglpimgjaaGreatDoorE3
import Derived.Test.YtlelnnglpimgjaaGreatDoorU9
import Derived.Test.YtlelnnglpimgjaaGreatDoorU10
set_option linter.unusedSimpArgs false
set_option linter.unusedVariables false
namespace Go.Proofs.YtlelnnglpimgjaaGreatDoor
open Go.RowKit
theorem mkbs (l : Array UInt8) : ByteArray.mk l = bs l.toList := rfl
theorem tellM_len (r : MR) : (tellM r).length ≤ 220 := by
  unfold tellM; split
  · exact massT_len _ _
  · simp
theorem iMassValid_any (s : Int) (ao : Option Addr) (n c : Nat) (xs : List Int) (w : World) (hx : IntsAt w ao n xs) :
    Calls Tryz.prog 10 #[.agg #[.int .i64 s, .slice ao n c]] w fun e w' => e = .returned (.bool (massOk s xs)) ∧ Below w.heap.size w w' := by
  go_enter Tryz.func10, Tryz.ntmps10
  go_wp2_with fail
  refine (isMass_any _ _ _ _ xs _ (hx.below (by (repeat (first | exact Below.refl _ _ | assumption | refine Below.alloc ?_ (by first | omega | (simp <;> omega)) _ | refine Below.setCell ?_ (by first | omega | (simp <;> omega)) _ | refine Below.drew ?_ | refine below_drewN ?_))))).mono ?_; rintro e w1 ⟨rfl, hb1⟩
  go_wp2
  go_ret
  exact ⟨rfl, Below.trans (by (repeat (first | exact Below.refl _ _ | assumption | refine Below.alloc ?_ (by first | omega | (simp <;> omega)) _ | refine Below.setCell ?_ (by first | omega | (simp <;> omega)) _ | refine Below.drew ?_ | refine below_drewN ?_))) (hb1.mono (by simp <;> omega))⟩
/-- a line, or no -/
theorem weLine_any (l : List UInt8) (ok : Bool) (w : World) (hl : l.length ≤ 100000) :
    Calls Tryz.prog 17 #[.string (bs l), .bool ok] w fun e w' => e = .returned (.string (bs ((if ok then l else [110, 111]) ++ [10]))) ∧ w = w' := by
  have kz : ¬ 9223372036854775807 < (bs l).size + (ByteArray.mk #[10]).size := by simp only [bs_size]; simp [ByteArray.size]; omega
  cases ok
  · go_enter Tryz.func17, Tryz.ntmps17
    go_wp2
    go_ret
    exact ⟨rfl, rfl⟩
  · have HE : Hid (bs l ++ ByteArray.mk #[10] = bs (l ++ [10])) := by rw [Hid, mkbs, bs_append]
    go_enter Tryz.func17, Tryz.ntmps17
    go_wp2
    go_ret
    exact ⟨by rw [HE.out]; rfl, rfl⟩
theorem weLine_of (r : MR) (w : World) :
    Calls Tryz.prog 17 #[.string (bs (massT r.size r.parts)), .bool r.ok] w fun e w' => e = .returned (.string (bs (tellM r ++ [10]))) ∧ Below w.heap.size w w' :=
  (weLine_any _ r.ok w (by have := massT_len r.size r.parts; omega)).mono fun e w' ⟨he, hw⟩ => ⟨by rw [he]; rfl, by subst hw; exact Below.refl _ _⟩
theorem iSetValid_any (s a : Int) (w : World) :
    Calls Tryz.prog 11 #[.int .i64 s, .int .i64 a] w fun e w' => e = .returned (.bool (setOk s a)) ∧ w = w' := by
  cases hs : okSize s
  · have hk : setOk s a = false := by unfold setOk; rw [hs]; rfl
    go_enter Tryz.func11, Tryz.ntmps11
    go_wp2_with (first | (go_at_call 50; refine (isSize_any s _).mono ?_; rintro e w' ⟨rfl, rfl⟩))
    go_ret
    exact ⟨by rw [hk]; simp [hs], rfl⟩
  · have hk : setOk s a = inB 0 ((nsets s : Int) - 1) a := by unfold setOk; rw [hs]; rfl
    go_enter Tryz.func11, Tryz.ntmps11
    go_wp2_with (first | (go_at_call 50; refine (isSize_any s _).mono ?_; rintro e w' ⟨rfl, rfl⟩) | (go_at_call 42; refine (isSetOf_any s a _ hs).mono ?_; rintro e w' ⟨rfl, rfl⟩))
    go_ret
    exact ⟨by rw [hk]; simp [hs], rfl⟩
theorem setT_line : ∀ a : Fin 16, (10 : UInt8) ∉ setT a.val := by decide +kernel
theorem leftM_a (d : DS) (r : MR) : (leftM d r).a = d.a := by unfold leftM; split <;> rfl
theorem leftM_s0 {d : DS} {r : MR} (h : r.ok = false) : (leftM d r).s = d.s := by unfold leftM; rw [h]; rfl
theorem leftM_x0 {d : DS} {r : MR} (h : r.ok = false) : (leftM d r).xs = d.xs := by unfold leftM; rw [h]; rfl
theorem leftM_s1 {d : DS} {r : MR} (h : r.ok = true) : (leftM d r).s = r.size := by unfold leftM; rw [h]; rfl
theorem leftM_x1 {d : DS} {r : MR} (h : r.ok = true) : (leftM d r).xs = r.parts := by unfold leftM; rw [h]; rfl
theorem pl_notE (d : DS) {s : Int} {xs : List Int} (h1 : d.s = s) (h2 : d.xs = xs) (hm : massOk s xs = true) : Pl [110, 111, 116] d (massT s (negL xs)) ⟨s, negL xs, d.t, d.ys, d.a⟩ := by
  subst h1 h2; exact pl_not d hm
theorem pl_back (d : DS) {s : Int} {xs : List Int} (h1 : d.s = s) (h2 : d.xs = negL xs) (hm : massOk s xs = true) : Pl [110, 111, 116] d (massT s xs) ⟨s, xs, d.t, d.ys, d.a⟩ := by
  have h := pl_notE d h1 h2 (mass_neg hm)
  rw [neg_neg] at h; exact h
set_option maxRecDepth 100000 in
set_option maxHeartbeats 16000000 in
theorem FnScriptLearn_walk (ao : Option Addr) (n c : Nat) (w : World) (hx : n ≤ 1048576 → BytesIn w w.heap.size ao n) (hnc : n ≤ c) (hcap : n ≤ 9223372036854775807)
    (hP : Pow w) (hSE : ∃ tp p, w.var? Tryz.prog "strconv.ErrSyntax" = some #[.iface tp p]) (hRE : ∃ tp p, w.var? Tryz.prog "strconv.ErrRange" = some #[.iface tp p]) (hsh : w.ShapedOpen Tryz.prog) :
    Calls Tryz.prog 3 #[.slice ao n c] w fun e w' => e = .returned (.bool true) ∧ Below w.heap.size w w' := by
  have HV := hid (libV_of w hP hSE hRE hsh)
  clear hP hSE hRE hsh
  by_cases hn : 1048576 < n
  · go_enter Tryz.func3, Tryz.ntmps3
    go_wp2
    go_ret
    exact ⟨rfl, Below.refl _ _⟩
  have HX := hid (hx (by omega))
  clear hx
  go_enter Tryz.func3, Tryz.ntmps3
  have hB := Below.refl w.heap.size w
  go_wp2_with fail
  refine (DrawLearnMass_any ao n c _ HX.out hnc).mono ?_; rintro e w1 ⟨⟨s, p, xs, a, rfl, hr, hlx⟩, hb⟩
  have hd := hb
  replace hB := chain hB hd
  have hs1 := hd.size
  clear hb hd
  obtain ⟨am, nm, cm, rfl, him⟩ := hr.ints
  clear hr
  obtain ⟨rK, HK⟩ : ∃ r, Hid (learnM s xs a = r) := ⟨_, rfl⟩
  go_wp2_with fail
  refine (LearnMass_any s a _ _ _ xs _ (him.below (by (repeat (first | exact Below.refl _ _ | assumption | refine Below.alloc ?_ (by first | omega | (simp <;> omega)) _ | refine Below.setCell ?_ (by first | omega | (simp <;> omega)) _ | refine Below.drew ?_ | refine below_drewN ?_))))).mono ?_; rw [HK.out]; rintro e w2 ⟨⟨vK, rfl, hrK⟩, hb⟩
  obtain ⟨aK, nK, cK, rfl, hiK⟩ := hrK.ints
  clear hrK
  have mm0 := keep hb (a := ⟨w1.heap.size, 0, none⟩) (v := .int .i64 s) (by simp)
  have mm1 := keep hb (a := ⟨w1.heap.size, 1, none⟩) (v := .slice am nm cm) (by simp)
  have hN1 : w1.heap.size < w2.heap.size := by have := World.block_lt_of_cell? w2 _ mm0; simpa using this
  have hd : Below w1.heap.size w1 w2 := Below.trans (by (repeat (first | exact Below.refl _ _ | assumption | refine Below.alloc ?_ (by first | omega | (simp <;> omega)) _ | refine Below.setCell ?_ (by first | omega | (simp <;> omega)) _ | refine Below.drew ?_ | refine below_drewN ?_))) (hb.mono (by simp <;> omega))
  replace him := him.below hd
  replace hB := chain hB hd
  have hs2 := hd.size
  clear hb hd
  obtain ⟨rW, HW⟩ : ∃ r, Hid (learnM s xs a = r) := ⟨_, rfl⟩
  go_wp2_with fail
  refine (specLearnMass_any s a _ _ _ xs _ (him.below (by (repeat (first | exact Below.refl _ _ | assumption | refine Below.alloc ?_ (by first | omega | (simp <;> omega)) _ | refine Below.setCell ?_ (by first | omega | (simp <;> omega)) _ | refine Below.drew ?_ | refine below_drewN ?_))))).mono ?_; rw [HW.out]; rintro e w3 ⟨⟨vW, rfl, hrW⟩, hb⟩
  obtain ⟨aW, nW, cW, rfl, hiW⟩ := hrW.ints
  clear hrW
  have mK0 := keep hb (a := ⟨w2.heap.size, 0, none⟩) (v := .int .i64 rK.size) (by simp)
  have mK1 := keep hb (a := ⟨w2.heap.size, 1, none⟩) (v := .slice aK nK cK) (by simp)
  have hN2 : w2.heap.size < w3.heap.size := by have := World.block_lt_of_cell? w3 _ mK0; simpa using this
  have hd : Below w2.heap.size w2 w3 := Below.trans (by (repeat (first | exact Below.refl _ _ | assumption | refine Below.alloc ?_ (by first | omega | (simp <;> omega)) _ | refine Below.setCell ?_ (by first | omega | (simp <;> omega)) _ | refine Below.drew ?_ | refine below_drewN ?_))) (hb.mono (by simp <;> omega))
  replace mm0 := keep hd mm0
  replace mm1 := keep hd mm1
  replace him := him.below hd
  replace hiK := hiK.below hd
  replace hB := chain hB hd
  have hs3 := hd.size
  clear hb hd
  have hE : rW = rK := HW.out.symm.trans HK.out
  subst hE
  clear HK
  go_wp2_with fail
  refine (weEqual_eq _ _ _ _ _ _ _ _ _ _ _ (hiK.below (by (repeat (first | exact Below.refl _ _ | assumption | refine Below.alloc ?_ (by first | omega | (simp <;> omega)) _ | refine Below.setCell ?_ (by first | omega | (simp <;> omega)) _ | refine Below.drew ?_ | refine below_drewN ?_)))) (hiW.below (by (repeat (first | exact Below.refl _ _ | assumption | refine Below.alloc ?_ (by first | omega | (simp <;> omega)) _ | refine Below.setCell ?_ (by first | omega | (simp <;> omega)) _ | refine Below.drew ?_ | refine below_drewN ?_)))) rfl rfl).mono ?_; rintro e w4 ⟨rfl, hb⟩
  have mW0 := keep hb (a := ⟨w3.heap.size, 0, none⟩) (v := .int .i64 rW.size) (by simp)
  have mW1 := keep hb (a := ⟨w3.heap.size, 1, none⟩) (v := .slice aW nW cW) (by simp)
  have hN3 : w3.heap.size < w4.heap.size := by have := World.block_lt_of_cell? w4 _ mW0; simpa using this
  have hd : Below w3.heap.size w3 w4 := Below.trans (by (repeat (first | exact Below.refl _ _ | assumption | refine Below.alloc ?_ (by first | omega | (simp <;> omega)) _ | refine Below.setCell ?_ (by first | omega | (simp <;> omega)) _ | refine Below.drew ?_ | refine below_drewN ?_))) (hb.mono (by simp <;> omega))
  replace mm0 := keep hd mm0
  replace mm1 := keep hd mm1
  replace mK0 := keep hd mK0
  replace mK1 := keep hd mK1
  replace him := him.below hd
  replace hiK := hiK.below hd
  replace hiW := hiW.below hd
  replace hB := chain hB hd
  have hs4 := hd.size
  clear hb hd
  cases hm1 : massOk s xs
  · go_wp2_with fail
    refine (iMassValid_any s _ _ _ xs _ him).mono ?_; rw [hm1]; rintro e w5 ⟨rfl, hb⟩
    have hd := hb
    replace mm0 := keep hd mm0
    replace mm1 := keep hd mm1
    replace mK0 := keep hd mK0
    replace mK1 := keep hd mK1
    replace mW0 := keep hd mW0
    replace mW1 := keep hd mW1
    replace him := him.below hd
    replace hiK := hiK.below hd
    replace hiW := hiW.below hd
    replace hB := chain hB hd
    have hs5 := hd.size
    clear hb hd
    go_wp2_with fail
    refine (weEqual_eq _ _ _ _ _ _ _ _ _ _ _ hiK hiW rfl rfl).mono ?_; rintro e w6 ⟨rfl, hb⟩
    have hd := hb
    replace mm0 := keep hd mm0
    replace mm1 := keep hd mm1
    replace mK0 := keep hd mK0
    replace mK1 := keep hd mK1
    replace mW0 := keep hd mW0
    replace mW1 := keep hd mW1
    replace him := him.below hd
    replace hiK := hiK.below hd
    replace hiW := hiW.below hd
    replace hB := chain hB hd
    have hs6 := hd.size
    clear hb hd
    go_wp2
    go_ret
    exact ⟨rfl, hB⟩
  · go_wp2_with fail
    refine (iMassValid_any s _ _ _ xs _ him).mono ?_; rw [hm1]; rintro e w5 ⟨rfl, hb⟩
    have hd := hb
    replace mm0 := keep hd mm0
    replace mm1 := keep hd mm1
    replace mK0 := keep hd mK0
    replace mK1 := keep hd mK1
    replace mW0 := keep hd mW0
    replace mW1 := keep hd mW1
    replace him := him.below hd
    replace hiK := hiK.below hd
    replace hiW := hiW.below hd
    replace hB := chain hB hd
    have hs5 := hd.size
    clear hb hd
    cases hm2 : setOk s a
    · go_wp2_with fail
      refine (iSetValid_any s a _).mono ?_; rw [hm2]; rintro e w' ⟨rfl, rfl⟩
      go_wp2_with fail
      refine (weEqual_eq _ _ _ _ _ _ _ _ _ _ _ hiK hiW rfl rfl).mono ?_; rintro e w6 ⟨rfl, hb⟩
      have hd := hb
      replace mm0 := keep hd mm0
      replace mm1 := keep hd mm1
      replace mK0 := keep hd mK0
      replace mK1 := keep hd mK1
      replace mW0 := keep hd mW0
      replace mW1 := keep hd mW1
      replace him := him.below hd
      replace hiK := hiK.below hd
      replace hiW := hiW.below hd
      replace hB := chain hB hd
      have hs6 := hd.size
      clear hb hd
      go_wp2
      go_ret
      exact ⟨rfl, hB⟩
    · go_wp2_with fail
      refine (iSetValid_any s a _).mono ?_; rw [hm2]; rintro e w' ⟨rfl, rfl⟩
      obtain ⟨hs, hlen, _, _, _, _, _⟩ := massOk_facts hm1
      have hin : inB 0 ((nsets s : Int) - 1) a = true := by simpa [setOk, hs] using hm2
      obtain ⟨q, rfl⟩ : ∃ q : Nat, a = (q : Int) := ⟨a.toNat, by have := inB_iff.1 hin; omega⟩
      have hq : q < nsets s := by have := inB_iff.1 hin; omega
      have hq16 : q < 16 := by have := nsets_le hs; omega
      have HM := hid hm1
      clear hm1 hm2 hin hlen hs
      obtain ⟨rA, HA⟩ : ∃ r, Hid (cutM s xs q = r) := ⟨_, rfl⟩
      go_wp2_with fail
      refine (CutMass_of s q _ _ _ xs _ him HM.out hq).mono ?_; rw [HA.out]; rintro e w6 ⟨⟨vA, rfl, hrA⟩, hb⟩
      obtain ⟨aA, nA, cA, rfl, hiA⟩ := hrA.ints
      clear hrA
      have hd := hb
      replace mm0 := keep hd mm0
      replace mm1 := keep hd mm1
      replace mK0 := keep hd mK0
      replace mK1 := keep hd mK1
      replace mW0 := keep hd mW0
      replace mW1 := keep hd mW1
      replace him := him.below hd
      replace hiK := hiK.below hd
      replace hiW := hiW.below hd
      replace hB := chain hB hd
      have hs6 := hd.size
      clear hb hd
      obtain ⟨rF, HF⟩ : ∃ r, Hid (focusM s xs q = r) := ⟨_, rfl⟩
      go_wp2_with fail
      refine (FocusMass_of s q _ _ _ xs _ (him.below (by (repeat (first | exact Below.refl _ _ | assumption | refine Below.alloc ?_ (by first | omega | (simp <;> omega)) _ | refine Below.setCell ?_ (by first | omega | (simp <;> omega)) _ | refine Below.drew ?_ | refine below_drewN ?_)))) HM.out hq).mono ?_; rw [HF.out]; rintro e w7 ⟨⟨vF, rfl, hrF⟩, hb⟩
      obtain ⟨aF, nF, cF, rfl, hiF⟩ := hrF.ints
      clear hrF
      have mA0 := keep hb (a := ⟨w6.heap.size, 0, none⟩) (v := .int .i64 rA.size) (by simp)
      have mA1 := keep hb (a := ⟨w6.heap.size, 1, none⟩) (v := .slice aA nA cA) (by simp)
      have hN4 : w6.heap.size < w7.heap.size := by have := World.block_lt_of_cell? w7 _ mA0; simpa using this
      have hd : Below w6.heap.size w6 w7 := Below.trans (by (repeat (first | exact Below.refl _ _ | assumption | refine Below.alloc ?_ (by first | omega | (simp <;> omega)) _ | refine Below.setCell ?_ (by first | omega | (simp <;> omega)) _ | refine Below.drew ?_ | refine below_drewN ?_))) (hb.mono (by simp <;> omega))
      replace mm0 := keep hd mm0
      replace mm1 := keep hd mm1
      replace mK0 := keep hd mK0
      replace mK1 := keep hd mK1
      replace mW0 := keep hd mW0
      replace mW1 := keep hd mW1
      replace him := him.below hd
      replace hiK := hiK.below hd
      replace hiW := hiW.below hd
      replace hiA := hiA.below hd
      replace hB := chain hB hd
      have hs7 := hd.size
      clear hb hd
      obtain ⟨TM, HTM⟩ : ∃ T, Hid (massT s xs = T) := ⟨_, rfl⟩
      have hlM : TM.length ≤ 220 := by rw [← HTM.out]; exact massT_len _ _
      obtain ⟨TK, HTK⟩ : ∃ T, Hid (massT rW.size rW.parts = T) := ⟨_, rfl⟩
      have hlK : TK.length ≤ 220 := by rw [← HTK.out]; exact massT_len _ _
      obtain ⟨TA, HTA⟩ : ∃ T, Hid (massT rA.size rA.parts = T) := ⟨_, rfl⟩
      have hlA : TA.length ≤ 220 := by rw [← HTA.out]; exact massT_len _ _
      obtain ⟨TF, HTF⟩ : ∃ T, Hid (massT rF.size rF.parts = T) := ⟨_, rfl⟩
      have hlF : TF.length ≤ 220 := by rw [← HTF.out]; exact massT_len _ _
      obtain ⟨TS, HTS⟩ : ∃ T, Hid (setT q = T) := ⟨_, rfl⟩
      have hlS : TS.length ≤ 4 := by rw [← HTS.out]; exact setT_len ⟨q, hq16⟩
      obtain ⟨LK, HLK⟩ : ∃ T, Hid (tellM rW = T) := ⟨_, rfl⟩
      have hmK : LK.length ≤ 220 := by rw [← HLK.out]; exact tellM_len _
      have HWLK : Hid (∀ w', Calls Tryz.prog 17 #[.string (bs TK), .bool rW.ok] w' fun e w'' => e = .returned (.string (bs (LK ++ [10]))) ∧ Below w'.heap.size w' w'') := fun w' => by rw [← HTK.out, ← HLK.out]; exact weLine_of rW w'
      obtain ⟨LA, HLA⟩ : ∃ T, Hid (tellM rA = T) := ⟨_, rfl⟩
      have hmA : LA.length ≤ 220 := by rw [← HLA.out]; exact tellM_len _
      have HWLA : Hid (∀ w', Calls Tryz.prog 17 #[.string (bs TA), .bool rA.ok] w' fun e w'' => e = .returned (.string (bs (LA ++ [10]))) ∧ Below w'.heap.size w' w'') := fun w' => by rw [← HTA.out, ← HLA.out]; exact weLine_of rA w'
      obtain ⟨LF, HLF⟩ : ∃ T, Hid (tellM rF = T) := ⟨_, rfl⟩
      have hmF : LF.length ≤ 220 := by rw [← HLF.out]; exact tellM_len _
      have HWLF : Hid (∀ w', Calls Tryz.prog 17 #[.string (bs TF), .bool rF.ok] w' fun e w'' => e = .returned (.string (bs (LF ++ [10]))) ∧ Below w'.heap.size w' w'') := fun w' => by rw [← HTF.out, ← HLF.out]; exact weLine_of rF w'
      have kzs0 : ¬ 9223372036854775807 < (ByteArray.mk #[108, 101, 102, 116, 32]).size + (bs TM).size := by
        have z0 : (ByteArray.mk #[108, 101, 102, 116, 32]).size = 5 := rfl
        simp only [ByteArray.size_append, bs_size, List.length_append, List.length_singleton, z0]; omega
      have kzs1 : ¬ 9223372036854775807 < (ByteArray.mk #[108, 101, 102, 116, 32] ++ bs TM).size + (ByteArray.mk #[10]).size := by
        have z0 : (ByteArray.mk #[108, 101, 102, 116, 32]).size = 5 := rfl
        have z1 : (ByteArray.mk #[10]).size = 1 := rfl
        simp only [ByteArray.size_append, bs_size, List.length_append, List.length_singleton, z0, z1]; omega
      have HSET : Hid (ByteArray.mk #[108, 101, 102, 116, 32] ++ bs TM ++ ByteArray.mk #[10] = bs ([108, 101, 102, 116] ++ 32 :: TM ++ [10])) := by rw [Hid]; simp only [mkbs, bs_append]; congr 1 <;> simp
      go_wp2_with fail
      refine (FormatMass_any s _ _ _ xs _ (him.below (by (repeat (first | exact Below.refl _ _ | assumption | refine Below.alloc ?_ (by first | omega | (simp <;> omega)) _ | refine Below.setCell ?_ (by first | omega | (simp <;> omega)) _ | refine Below.drew ?_ | refine below_drewN ?_)))) ((HV.out.below hB).below (by (repeat (first | exact Below.refl _ _ | assumption | refine Below.alloc ?_ (by first | omega | (simp <;> omega)) _ | refine Below.setCell ?_ (by first | omega | (simp <;> omega)) _ | refine Below.drew ?_ | refine below_drewN ?_))))).mono ?_; rw [HTM.out]; rintro e w8 ⟨rfl, hb⟩
      have mF0 := keep hb (a := ⟨w7.heap.size, 0, none⟩) (v := .int .i64 rF.size) (by simp)
      have mF1 := keep hb (a := ⟨w7.heap.size, 1, none⟩) (v := .slice aF nF cF) (by simp)
      have hN5 : w7.heap.size < w8.heap.size := by have := World.block_lt_of_cell? w8 _ mF0; simpa using this
      have hd : Below w7.heap.size w7 w8 := Below.trans (by (repeat (first | exact Below.refl _ _ | assumption | refine Below.alloc ?_ (by first | omega | (simp <;> omega)) _ | refine Below.setCell ?_ (by first | omega | (simp <;> omega)) _ | refine Below.drew ?_ | refine below_drewN ?_))) (hb.mono (by simp <;> omega))
      replace mm0 := keep hd mm0
      replace mm1 := keep hd mm1
      replace mK0 := keep hd mK0
      replace mK1 := keep hd mK1
      replace mW0 := keep hd mW0
      replace mW1 := keep hd mW1
      replace mA0 := keep hd mA0
      replace mA1 := keep hd mA1
      replace him := him.below hd
      replace hiK := hiK.below hd
      replace hiW := hiW.below hd
      replace hiA := hiA.below hd
      replace hiF := hiF.below hd
      replace hB := chain hB hd
      have hs8 := hd.size
      clear hb hd
      obtain ⟨SET, hSET⟩ : ∃ T, bs ([108, 101, 102, 116] ++ 32 :: TM ++ [10]) = T := ⟨_, rfl⟩
      have hSl : SET.size ≤ 230 := by rw [← hSET, bs_size]; simp; omega
      rw [hSET] at HSET
      have HST := hid hSET
      clear hSET
      have kzt0 : ¬ 9223372036854775807 < (ByteArray.mk #[115, 101, 116, 32]).size + (bs TS).size := by
        have z0 : (ByteArray.mk #[115, 101, 116, 32]).size = 4 := rfl
        simp only [ByteArray.size_append, bs_size, List.length_append, List.length_singleton, z0]; omega
      have kzt1 : ¬ 9223372036854775807 < (ByteArray.mk #[115, 101, 116, 32] ++ bs TS).size + (ByteArray.mk #[10]).size := by
        have z0 : (ByteArray.mk #[115, 101, 116, 32]).size = 4 := rfl
        have z1 : (ByteArray.mk #[10]).size = 1 := rfl
        simp only [ByteArray.size_append, bs_size, List.length_append, List.length_singleton, z0, z1]; omega
      have kzt2 : ¬ 9223372036854775807 < (ByteArray.mk #[115, 101, 116, 32] ++ bs TS ++ ByteArray.mk #[10]).size + (SET).size := by
        have z0 : (ByteArray.mk #[115, 101, 116, 32]).size = 4 := rfl
        have z1 : (ByteArray.mk #[10]).size = 1 := rfl
        simp only [ByteArray.size_append, bs_size, List.length_append, List.length_singleton, z0, z1]; omega
      have kzt3 : ¬ 9223372036854775807 < (ByteArray.mk #[115, 101, 116, 32] ++ bs TS ++ ByteArray.mk #[10] ++ SET).size + (ByteArray.mk #[99, 117, 116, 10]).size := by
        have z0 : (ByteArray.mk #[115, 101, 116, 32]).size = 4 := rfl
        have z1 : (ByteArray.mk #[10]).size = 1 := rfl
        have z2 : (ByteArray.mk #[99, 117, 116, 10]).size = 4 := rfl
        simp only [ByteArray.size_append, bs_size, List.length_append, List.length_singleton, z0, z1, z2]; omega
      have kzt4 : ¬ 9223372036854775807 < (ByteArray.mk #[115, 101, 116, 32] ++ bs TS ++ ByteArray.mk #[10] ++ SET ++ ByteArray.mk #[99, 117, 116, 10]).size + (SET).size := by
        have z0 : (ByteArray.mk #[115, 101, 116, 32]).size = 4 := rfl
        have z1 : (ByteArray.mk #[10]).size = 1 := rfl
        have z2 : (ByteArray.mk #[99, 117, 116, 10]).size = 4 := rfl
        simp only [ByteArray.size_append, bs_size, List.length_append, List.length_singleton, z0, z1, z2]; omega
      have kzt5 : ¬ 9223372036854775807 < (ByteArray.mk #[115, 101, 116, 32] ++ bs TS ++ ByteArray.mk #[10] ++ SET ++ ByteArray.mk #[99, 117, 116, 10] ++ SET).size + (ByteArray.mk #[108, 101, 97, 114, 110, 10]).size := by
        have z0 : (ByteArray.mk #[115, 101, 116, 32]).size = 4 := rfl
        have z1 : (ByteArray.mk #[10]).size = 1 := rfl
        have z2 : (ByteArray.mk #[99, 117, 116, 10]).size = 4 := rfl
        have z3 : (ByteArray.mk #[108, 101, 97, 114, 110, 10]).size = 6 := rfl
        simp only [ByteArray.size_append, bs_size, List.length_append, List.length_singleton, z0, z1, z2, z3]; omega
      have kzt6 : ¬ 9223372036854775807 < (ByteArray.mk #[115, 101, 116, 32] ++ bs TS ++ ByteArray.mk #[10] ++ SET ++ ByteArray.mk #[99, 117, 116, 10] ++ SET ++ ByteArray.mk #[108, 101, 97, 114, 110, 10]).size + (SET).size := by
        have z0 : (ByteArray.mk #[115, 101, 116, 32]).size = 4 := rfl
        have z1 : (ByteArray.mk #[10]).size = 1 := rfl
        have z2 : (ByteArray.mk #[99, 117, 116, 10]).size = 4 := rfl
        have z3 : (ByteArray.mk #[108, 101, 97, 114, 110, 10]).size = 6 := rfl
        simp only [ByteArray.size_append, bs_size, List.length_append, List.length_singleton, z0, z1, z2, z3]; omega
      have kzt7 : ¬ 9223372036854775807 < (ByteArray.mk #[115, 101, 116, 32] ++ bs TS ++ ByteArray.mk #[10] ++ SET ++ ByteArray.mk #[99, 117, 116, 10] ++ SET ++ ByteArray.mk #[108, 101, 97, 114, 110, 10] ++ SET).size + (ByteArray.mk #[102, 111, 99, 117, 115, 10, 110, 111, 116, 10, 110, 111, 116, 10]).size := by
        have z0 : (ByteArray.mk #[115, 101, 116, 32]).size = 4 := rfl
        have z1 : (ByteArray.mk #[10]).size = 1 := rfl
        have z2 : (ByteArray.mk #[99, 117, 116, 10]).size = 4 := rfl
        have z3 : (ByteArray.mk #[108, 101, 97, 114, 110, 10]).size = 6 := rfl
        have z4 : (ByteArray.mk #[102, 111, 99, 117, 115, 10, 110, 111, 116, 10, 110, 111, 116, 10]).size = 14 := rfl
        simp only [ByteArray.size_append, bs_size, List.length_append, List.length_singleton, z0, z1, z2, z3, z4]; omega
      go_wp2_with fail
      rw [HSET.out]
      go_wp2_with fail
      refine (FormatSet_any q _ hq16).mono ?_; rw [HTS.out]; rintro e w9 ⟨rfl, hb⟩
      have hd := hb
      replace mm0 := keep hd mm0
      replace mm1 := keep hd mm1
      replace mK0 := keep hd mK0
      replace mK1 := keep hd mK1
      replace mW0 := keep hd mW0
      replace mW1 := keep hd mW1
      replace mA0 := keep hd mA0
      replace mA1 := keep hd mA1
      replace mF0 := keep hd mF0
      replace mF1 := keep hd mF1
      replace him := him.below hd
      replace hiK := hiK.below hd
      replace hiW := hiW.below hd
      replace hiA := hiA.below hd
      replace hiF := hiF.below hd
      replace hB := chain hB hd
      have hs9 := hd.size
      clear hb hd
      cases ho : rF.ok
      · rw [ho] at HWLF
        have HML := HM
        obtain ⟨rN, HN⟩ : ∃ r, Hid ((⟨s, negL xs, true⟩ : MR) = r) := ⟨_, rfl⟩
        go_wp2_with fail
        refine (NegateMass_of s _ _ _ xs _ (him.below (by (repeat (first | exact Below.refl _ _ | assumption | refine Below.alloc ?_ (by first | omega | (simp <;> omega)) _ | refine Below.setCell ?_ (by first | omega | (simp <;> omega)) _ | refine Below.drew ?_ | refine below_drewN ?_)))) HML.out).mono ?_; rw [HN.out]; rintro e w10 ⟨⟨vN, rfl, hrN⟩, hb⟩
        obtain ⟨aN, nN, cN, rfl, hiN⟩ := hrN.ints
        clear hrN
        have ll0 := keep hb (a := ⟨w9.heap.size, 0, none⟩) (v := .int .i64 s) (by simp)
        have ll1 := keep hb (a := ⟨w9.heap.size, 1, none⟩) (v := .slice am nm cm) (by simp)
        have hN6 : w9.heap.size < w10.heap.size := by have := World.block_lt_of_cell? w10 _ ll0; simpa using this
        have hd : Below w9.heap.size w9 w10 := Below.trans (by (repeat (first | exact Below.refl _ _ | assumption | refine Below.alloc ?_ (by first | omega | (simp <;> omega)) _ | refine Below.setCell ?_ (by first | omega | (simp <;> omega)) _ | refine Below.drew ?_ | refine below_drewN ?_))) (hb.mono (by simp <;> omega))
        replace mm0 := keep hd mm0
        replace mm1 := keep hd mm1
        replace mK0 := keep hd mK0
        replace mK1 := keep hd mK1
        replace mW0 := keep hd mW0
        replace mW1 := keep hd mW1
        replace mA0 := keep hd mA0
        replace mA1 := keep hd mA1
        replace mF0 := keep hd mF0
        replace mF1 := keep hd mF1
        replace him := him.below hd
        replace hiK := hiK.below hd
        replace hiW := hiW.below hd
        replace hiA := hiA.below hd
        replace hiF := hiF.below hd
        replace hB := chain hB hd
        have hs10 := hd.size
        clear hb hd
        obtain ⟨TL, HTL⟩ : ∃ T, Hid (massT s xs = T) := ⟨_, rfl⟩
        have hlL : TL.length ≤ 220 := by rw [← HTL.out]; exact massT_len _ _
        obtain ⟨TN, HTN⟩ : ∃ T, Hid (massT s (negL xs) = T) := ⟨_, rfl⟩
        have hlN : TN.length ≤ 220 := by rw [← HTN.out]; exact massT_len _ _
        have kzo0 : ¬ 9223372036854775807 < (ByteArray.mk #[111, 107, 10, 111, 107, 10]).size + (bs (LA ++ [10])).size := by
          have z0 : (ByteArray.mk #[111, 107, 10, 111, 107, 10]).size = 6 := rfl
          simp only [ByteArray.size_append, bs_size, List.length_append, List.length_singleton, z0]; omega
        have kzo1 : ¬ 9223372036854775807 < (ByteArray.mk #[111, 107, 10, 111, 107, 10] ++ bs (LA ++ [10])).size + (ByteArray.mk #[111, 107, 10]).size := by
          have z0 : (ByteArray.mk #[111, 107, 10, 111, 107, 10]).size = 6 := rfl
          have z1 : (ByteArray.mk #[111, 107, 10]).size = 3 := rfl
          simp only [ByteArray.size_append, bs_size, List.length_append, List.length_singleton, z0, z1]; omega
        have kzo2 : ¬ 9223372036854775807 < (ByteArray.mk #[111, 107, 10, 111, 107, 10] ++ bs (LA ++ [10]) ++ ByteArray.mk #[111, 107, 10]).size + (bs (LK ++ [10])).size := by
          have z0 : (ByteArray.mk #[111, 107, 10, 111, 107, 10]).size = 6 := rfl
          have z1 : (ByteArray.mk #[111, 107, 10]).size = 3 := rfl
          simp only [ByteArray.size_append, bs_size, List.length_append, List.length_singleton, z0, z1]; omega
        have kzo3 : ¬ 9223372036854775807 < (ByteArray.mk #[111, 107, 10, 111, 107, 10] ++ bs (LA ++ [10]) ++ ByteArray.mk #[111, 107, 10] ++ bs (LK ++ [10])).size + (ByteArray.mk #[111, 107, 10]).size := by
          have z0 : (ByteArray.mk #[111, 107, 10, 111, 107, 10]).size = 6 := rfl
          have z1 : (ByteArray.mk #[111, 107, 10]).size = 3 := rfl
          simp only [ByteArray.size_append, bs_size, List.length_append, List.length_singleton, z0, z1]; omega
        have kzo4 : ¬ 9223372036854775807 < (ByteArray.mk #[111, 107, 10, 111, 107, 10] ++ bs (LA ++ [10]) ++ ByteArray.mk #[111, 107, 10] ++ bs (LK ++ [10]) ++ ByteArray.mk #[111, 107, 10]).size + (bs (LF ++ [10])).size := by
          have z0 : (ByteArray.mk #[111, 107, 10, 111, 107, 10]).size = 6 := rfl
          have z1 : (ByteArray.mk #[111, 107, 10]).size = 3 := rfl
          simp only [ByteArray.size_append, bs_size, List.length_append, List.length_singleton, z0, z1]; omega
        have kzo5 : ¬ 9223372036854775807 < (ByteArray.mk #[111, 107, 10, 111, 107, 10] ++ bs (LA ++ [10]) ++ ByteArray.mk #[111, 107, 10] ++ bs (LK ++ [10]) ++ ByteArray.mk #[111, 107, 10] ++ bs (LF ++ [10])).size + (bs TN).size := by
          have z0 : (ByteArray.mk #[111, 107, 10, 111, 107, 10]).size = 6 := rfl
          have z1 : (ByteArray.mk #[111, 107, 10]).size = 3 := rfl
          simp only [ByteArray.size_append, bs_size, List.length_append, List.length_singleton, z0, z1]; omega
        have kzo6 : ¬ 9223372036854775807 < (ByteArray.mk #[111, 107, 10, 111, 107, 10] ++ bs (LA ++ [10]) ++ ByteArray.mk #[111, 107, 10] ++ bs (LK ++ [10]) ++ ByteArray.mk #[111, 107, 10] ++ bs (LF ++ [10]) ++ bs TN).size + (ByteArray.mk #[10]).size := by
          have z0 : (ByteArray.mk #[111, 107, 10, 111, 107, 10]).size = 6 := rfl
          have z1 : (ByteArray.mk #[111, 107, 10]).size = 3 := rfl
          have z2 : (ByteArray.mk #[10]).size = 1 := rfl
          simp only [ByteArray.size_append, bs_size, List.length_append, List.length_singleton, z0, z1, z2]; omega
        have kzo7 : ¬ 9223372036854775807 < (ByteArray.mk #[111, 107, 10, 111, 107, 10] ++ bs (LA ++ [10]) ++ ByteArray.mk #[111, 107, 10] ++ bs (LK ++ [10]) ++ ByteArray.mk #[111, 107, 10] ++ bs (LF ++ [10]) ++ bs TN ++ ByteArray.mk #[10]).size + (bs TL).size := by
          have z0 : (ByteArray.mk #[111, 107, 10, 111, 107, 10]).size = 6 := rfl
          have z1 : (ByteArray.mk #[111, 107, 10]).size = 3 := rfl
          have z2 : (ByteArray.mk #[10]).size = 1 := rfl
          simp only [ByteArray.size_append, bs_size, List.length_append, List.length_singleton, z0, z1, z2]; omega
        have kzo8 : ¬ 9223372036854775807 < (ByteArray.mk #[111, 107, 10, 111, 107, 10] ++ bs (LA ++ [10]) ++ ByteArray.mk #[111, 107, 10] ++ bs (LK ++ [10]) ++ ByteArray.mk #[111, 107, 10] ++ bs (LF ++ [10]) ++ bs TN ++ ByteArray.mk #[10] ++ bs TL).size + (ByteArray.mk #[10]).size := by
          have z0 : (ByteArray.mk #[111, 107, 10, 111, 107, 10]).size = 6 := rfl
          have z1 : (ByteArray.mk #[111, 107, 10]).size = 3 := rfl
          have z2 : (ByteArray.mk #[10]).size = 1 := rfl
          simp only [ByteArray.size_append, bs_size, List.length_append, List.length_singleton, z0, z1, z2]; omega
        obtain ⟨ST, hST⟩ : ∃ S : List (List UInt8 × List UInt8), [([115, 101, 116] ++ 32 :: TS, [111, 107]), ([108, 101, 102, 116] ++ 32 :: TM, [111, 107]), ([99, 117, 116], LA), ([108, 101, 102, 116] ++ 32 :: TM, [111, 107]), ([108, 101, 97, 114, 110], LK), ([108, 101, 102, 116] ++ 32 :: TM, [111, 107]), ([102, 111, 99, 117, 115], LF), ([110, 111, 116], TN), ([110, 111, 116], TL)] = S := ⟨_, rfl⟩
        have HTX : Hid (ByteArray.mk #[115, 101, 116, 32] ++ bs TS ++ ByteArray.mk #[10] ++ SET ++ ByteArray.mk #[99, 117, 116, 10] ++ SET ++ ByteArray.mk #[108, 101, 97, 114, 110, 10] ++ SET ++ ByteArray.mk #[102, 111, 99, 117, 115, 10, 110, 111, 116, 10, 110, 111, 116, 10] = bs (lineT (ST.map Prod.fst))) := by rw [Hid, ← hST, ← HST.out]; simp only [mkbs, bs_append]; congr 1; simp [lineT]
        have HOX : Hid (ByteArray.mk #[111, 107, 10, 111, 107, 10] ++ bs (LA ++ [10]) ++ ByteArray.mk #[111, 107, 10] ++ bs (LK ++ [10]) ++ ByteArray.mk #[111, 107, 10] ++ bs (LF ++ [10]) ++ bs TN ++ ByteArray.mk #[10] ++ bs TL ++ ByteArray.mk #[10] = bs (lineT (ST.map Prod.snd))) := by rw [Hid, ← hST]; simp only [mkbs, bs_append]; congr 1; simp [lineT]
        have HCH : Hid (∃ d', Chain startD ST d') := by
          have hml := HML.out; have ho2 : (focusM s xs q).ok = false := by rw [HF.out]; exact ho
          rw [Hid, ← hST, ← HLK.out, ← HLA.out, ← HLF.out, ← HTM.out, ← HTS.out, ← HTN.out, ← HTL.out, ← HW.out, ← HA.out, ← HF.out]
          exact ⟨_, Chain.cons (run_set _ hq16) (Chain.cons (run_left _ HM.out) (Chain.cons (run_plain (by decide) (by decide) (pl_cut _ q rfl HM.out hq)) (Chain.cons (run_left _ HM.out) (Chain.cons (run_plain (by decide) (by decide) (pl_learn _ q (leftM_a _ _) HM.out hq)) (Chain.cons (run_left _ HM.out) (Chain.cons (run_plain (by decide) (by decide) (pl_focus _ q ((leftM_a _ _).trans (leftM_a _ _)) HM.out hq)) (Chain.cons (run_plain (by decide) (by decide) (pl_notE _ (leftM_s0 ho2) (leftM_x0 ho2) hml)) (Chain.cons (run_plain (by decide) (by decide) (pl_back _ rfl rfl hml)) (Chain.nil _)))))))))⟩
        have HNL : Hid ((10 : UInt8) ∉ TS ∧ (10 : UInt8) ∉ TM) := by rw [Hid, ← HTS.out, ← HTM.out]; exact ⟨setT_line ⟨q, hq16⟩, massT_line⟩
        have HRUN : Hid (∀ w', LibV w' → Calls Tryz.prog 18 #[.string (bs (lineT (ST.map Prod.fst)))] w' fun e w'' => e = .returned (.string (bs (lineT (ST.map Prod.snd)))) ∧ Below w'.heap.size w' w'') := fun w' h => by
          obtain ⟨d', hch⟩ := HCH.out
          obtain ⟨k1, k2⟩ := HNL.out
          refine RunScript_any ST d' w' h hch ?_ ?_ ?_ ?_
          · rw [← hST]; show 9 ≤ 99; omega
          · rw [← hST]; intro q hq; simp only [List.mem_cons, List.not_mem_nil, or_false] at hq; rcases hq with rfl | rfl | rfl | rfl | rfl | rfl | rfl | rfl | rfl <;> simp [k1, k2]
          · rw [← hST]; simp [lineT]; omega
          · rw [← hST]; simp [lineT]; omega
        clear hST HCH HNL
        have HFA : Hid (∀ w', IntsAt w' aA nA rA.parts → LibV w' → Calls Tryz.prog 14 #[.agg #[.int .i64 rA.size, .slice aA nA cA]] w' fun e w'' => e = .returned (.string (bs TA)) ∧ Below w'.heap.size w' w'') := fun w' h1 h2 => by rw [← HTA.out]; exact FormatMass_any rA.size _ _ _ rA.parts w' h1 h2
        have HFK : Hid (∀ w', IntsAt w' aK nK rW.parts → LibV w' → Calls Tryz.prog 14 #[.agg #[.int .i64 rW.size, .slice aK nK cK]] w' fun e w'' => e = .returned (.string (bs TK)) ∧ Below w'.heap.size w' w'') := fun w' h1 h2 => by rw [← HTK.out]; exact FormatMass_any rW.size _ _ _ rW.parts w' h1 h2
        have HFF : Hid (∀ w', IntsAt w' aF nF rF.parts → LibV w' → Calls Tryz.prog 14 #[.agg #[.int .i64 rF.size, .slice aF nF cF]] w' fun e w'' => e = .returned (.string (bs TF)) ∧ Below w'.heap.size w' w'') := fun w' h1 h2 => by rw [← HTF.out]; exact FormatMass_any rF.size _ _ _ rF.parts w' h1 h2
        have HFN : Hid (∀ w', IntsAt w' aN nN rN.parts → LibV w' → Calls Tryz.prog 14 #[.agg #[.int .i64 rN.size, .slice aN nN cN]] w' fun e w'' => e = .returned (.string (bs TN)) ∧ Below w'.heap.size w' w'') := by
          refine hid fun w' h1 h2 => ?_
          have e : massT rN.size rN.parts = TN := by rw [← HN.out]; exact HTN.out
          rw [← e]; exact FormatMass_any rN.size _ _ _ rN.parts w' h1 h2
        have HFL : Hid (∀ w', IntsAt w' am nm xs → LibV w' → Calls Tryz.prog 14 #[.agg #[.int .i64 s, .slice am nm cm]] w' fun e w'' => e = .returned (.string (bs TL)) ∧ Below w'.heap.size w' w'') := fun w' h1 h2 => by rw [← HTL.out]; exact FormatMass_any s _ _ _ xs w' h1 h2
        go_wp2
        rw [HTX.out]
        go_wp2
        obtain ⟨w11, hww11⟩ : ∃ W, (w10.alloc (.cells #[.int .i64 rN.size, .slice aN nN cN] 25)) = W := ⟨_, rfl⟩
        rw [hww11]
        have hd : Below w10.heap.size w10 w11 := by rw [← hww11]; (repeat (first | exact Below.refl _ _ | assumption | refine Below.alloc ?_ (by first | omega | (simp <;> omega)) _ | refine Below.setCell ?_ (by first | omega | (simp <;> omega)) _ | refine Below.drew ?_ | refine below_drewN ?_))
        have mN0 : w11.cell? ⟨w10.heap.size, 0, none⟩ = some (.int .i64 rN.size) := by rw [← hww11]; simp
        have mN1 : w11.cell? ⟨w10.heap.size, 1, none⟩ = some (.slice aN nN cN) := by rw [← hww11]; simp
        have hN7 : w10.heap.size < w11.heap.size := by rw [← hww11]; simp
        replace mm0 := keep hd mm0
        replace mm1 := keep hd mm1
        replace mK0 := keep hd mK0
        replace mK1 := keep hd mK1
        replace mW0 := keep hd mW0
        replace mW1 := keep hd mW1
        replace mA0 := keep hd mA0
        replace mA1 := keep hd mA1
        replace mF0 := keep hd mF0
        replace mF1 := keep hd mF1
        replace ll0 := keep hd ll0
        replace ll1 := keep hd ll1
        replace him := him.below hd
        replace hiK := hiK.below hd
        replace hiW := hiW.below hd
        replace hiA := hiA.below hd
        replace hiF := hiF.below hd
        replace hiN := hiN.below hd
        replace hB := chain hB hd
        have hs11 := hd.size
        clear hd hww11
        have hlv := HV.out.below hB
        refine wp_region_ov (by kernel_rfl) (by kernel_rfl) ?_
        repeat (first | go_big_quiet_step ((first | (go_at_call 14; first | (with_reducible exact ov_call (HFA.out _ (hiA.below (ov_below _ _)) (hlv.below (ov_below _ _)))) | (with_reducible exact ov_call (HFK.out _ (hiK.below (ov_below _ _)) (hlv.below (ov_below _ _)))) | (with_reducible exact ov_call (HFF.out _ (hiF.below (ov_below _ _)) (hlv.below (ov_below _ _)))) | (with_reducible exact ov_call (HFN.out _ (hiN.below (ov_below _ _)) (hlv.below (ov_below _ _)))) | (with_reducible exact ov_call (HFL.out _ (him.below (ov_below _ _)) (hlv.below (ov_below _ _))))) | (go_at_call 17; first | (with_reducible exact ov_call (HWLA.out _)) | (with_reducible exact ov_call (HWLK.out _)) | (with_reducible exact ov_call (HWLF.out _))))) | quiet_step ((first | (go_at_call 14; first | (with_reducible exact ov_call (HFA.out _ (hiA.below (ov_below _ _)) (hlv.below (ov_below _ _)))) | (with_reducible exact ov_call (HFK.out _ (hiK.below (ov_below _ _)) (hlv.below (ov_below _ _)))) | (with_reducible exact ov_call (HFF.out _ (hiF.below (ov_below _ _)) (hlv.below (ov_below _ _)))) | (with_reducible exact ov_call (HFN.out _ (hiN.below (ov_below _ _)) (hlv.below (ov_below _ _)))) | (with_reducible exact ov_call (HFL.out _ (him.below (ov_below _ _)) (hlv.below (ov_below _ _))))) | (go_at_call 17; first | (with_reducible exact ov_call (HWLA.out _)) | (with_reducible exact ov_call (HWLK.out _)) | (with_reducible exact ov_call (HWLF.out _))))))
        refine wpQuiet_nil ?_
        intro _ hw_ov
        obtain ⟨x_ov, hw_ov2⟩ := hw_ov
        subst hw_ov2
        obtain ⟨wz, hw_ov3, hbz⟩ := ov_gen _ x_ov
        rw [hw_ov3]
        clear hw_ov3 x_ov
        rw [HOX.out]
        obtain ⟨w12, rfl⟩ : ∃ q : World, q = wz := ⟨_, rfl⟩
        clear hlv
        have hd := hbz
        replace mm0 := keep hd mm0
        replace mm1 := keep hd mm1
        replace mK0 := keep hd mK0
        replace mK1 := keep hd mK1
        replace mW0 := keep hd mW0
        replace mW1 := keep hd mW1
        replace mA0 := keep hd mA0
        replace mA1 := keep hd mA1
        replace mF0 := keep hd mF0
        replace mF1 := keep hd mF1
        replace ll0 := keep hd ll0
        replace ll1 := keep hd ll1
        replace mN0 := keep hd mN0
        replace mN1 := keep hd mN1
        replace him := him.below hd
        replace hiK := hiK.below hd
        replace hiW := hiW.below hd
        replace hiA := hiA.below hd
        replace hiF := hiF.below hd
        replace hiN := hiN.below hd
        replace hB := chain hB hd
        have hs12 := hd.size
        clear hbz hd
        have hse : ((bs (lineT (ST.map Prod.snd))).toList == (bs (lineT (ST.map Prod.snd))).toList) = true := beq_self_eq_true _
        go_wp2_with fail
        refine (HRUN.out _ (HV.out.below hB)).mono ?_; rintro e w13 ⟨rfl, hb⟩
        have hd := hb
        replace mm0 := keep hd mm0
        replace mm1 := keep hd mm1
        replace mK0 := keep hd mK0
        replace mK1 := keep hd mK1
        replace mW0 := keep hd mW0
        replace mW1 := keep hd mW1
        replace mA0 := keep hd mA0
        replace mA1 := keep hd mA1
        replace mF0 := keep hd mF0
        replace mF1 := keep hd mF1
        replace ll0 := keep hd ll0
        replace ll1 := keep hd ll1
        replace mN0 := keep hd mN0
        replace mN1 := keep hd mN1
        replace him := him.below hd
        replace hiK := hiK.below hd
        replace hiW := hiW.below hd
        replace hiA := hiA.below hd
        replace hiF := hiF.below hd
        replace hiN := hiN.below hd
        replace hB := chain hB hd
        have hs13 := hd.size
        clear hb hd
        go_wp2
        go_ret
        exact ⟨rfl, hB⟩
      · rw [ho] at HWLF
        have HML : Hid (massOk rF.size rF.parts = true) := by
          have h := mkMass_parts (s := s) (xs := focTo2 xs q xs.length xs.length) (by show (focusM s xs q).ok = true; rw [HF.out]; exact ho)
          have e : mkMass s (focTo2 xs q xs.length xs.length) = rF := HF.out
          rw [e] at h; rw [Hid, h.2.1]; exact h.2.2.2.1
        obtain ⟨rN, HN⟩ : ∃ r, Hid ((⟨rF.size, negL rF.parts, true⟩ : MR) = r) := ⟨_, rfl⟩
        go_wp2_with fail
        refine (NegateMass_of rF.size _ _ _ rF.parts _ (hiF.below (by (repeat (first | exact Below.refl _ _ | assumption | refine Below.alloc ?_ (by first | omega | (simp <;> omega)) _ | refine Below.setCell ?_ (by first | omega | (simp <;> omega)) _ | refine Below.drew ?_ | refine below_drewN ?_)))) HML.out).mono ?_; rw [HN.out]; rintro e w10 ⟨⟨vN, rfl, hrN⟩, hb⟩
        obtain ⟨aN, nN, cN, rfl, hiN⟩ := hrN.ints
        clear hrN
        have ll0 := keep hb (a := ⟨w9.heap.size, 0, none⟩) (v := .int .i64 rF.size) (by simp)
        have ll1 := keep hb (a := ⟨w9.heap.size, 1, none⟩) (v := .slice aF nF cF) (by simp)
        have hN8 : w9.heap.size < w10.heap.size := by have := World.block_lt_of_cell? w10 _ ll0; simpa using this
        have hd : Below w9.heap.size w9 w10 := Below.trans (by (repeat (first | exact Below.refl _ _ | assumption | refine Below.alloc ?_ (by first | omega | (simp <;> omega)) _ | refine Below.setCell ?_ (by first | omega | (simp <;> omega)) _ | refine Below.drew ?_ | refine below_drewN ?_))) (hb.mono (by simp <;> omega))
        replace mm0 := keep hd mm0
        replace mm1 := keep hd mm1
        replace mK0 := keep hd mK0
        replace mK1 := keep hd mK1
        replace mW0 := keep hd mW0
        replace mW1 := keep hd mW1
        replace mA0 := keep hd mA0
        replace mA1 := keep hd mA1
        replace mF0 := keep hd mF0
        replace mF1 := keep hd mF1
        replace him := him.below hd
        replace hiK := hiK.below hd
        replace hiW := hiW.below hd
        replace hiA := hiA.below hd
        replace hiF := hiF.below hd
        replace hB := chain hB hd
        have hs10 := hd.size
        clear hb hd
        obtain ⟨TN, HTN⟩ : ∃ T, Hid (massT rF.size (negL rF.parts) = T) := ⟨_, rfl⟩
        have hlN : TN.length ≤ 220 := by rw [← HTN.out]; exact massT_len _ _
        have kzo0 : ¬ 9223372036854775807 < (ByteArray.mk #[111, 107, 10, 111, 107, 10]).size + (bs (LA ++ [10])).size := by
          have z0 : (ByteArray.mk #[111, 107, 10, 111, 107, 10]).size = 6 := rfl
          simp only [ByteArray.size_append, bs_size, List.length_append, List.length_singleton, z0]; omega
        have kzo1 : ¬ 9223372036854775807 < (ByteArray.mk #[111, 107, 10, 111, 107, 10] ++ bs (LA ++ [10])).size + (ByteArray.mk #[111, 107, 10]).size := by
          have z0 : (ByteArray.mk #[111, 107, 10, 111, 107, 10]).size = 6 := rfl
          have z1 : (ByteArray.mk #[111, 107, 10]).size = 3 := rfl
          simp only [ByteArray.size_append, bs_size, List.length_append, List.length_singleton, z0, z1]; omega
        have kzo2 : ¬ 9223372036854775807 < (ByteArray.mk #[111, 107, 10, 111, 107, 10] ++ bs (LA ++ [10]) ++ ByteArray.mk #[111, 107, 10]).size + (bs (LK ++ [10])).size := by
          have z0 : (ByteArray.mk #[111, 107, 10, 111, 107, 10]).size = 6 := rfl
          have z1 : (ByteArray.mk #[111, 107, 10]).size = 3 := rfl
          simp only [ByteArray.size_append, bs_size, List.length_append, List.length_singleton, z0, z1]; omega
        have kzo3 : ¬ 9223372036854775807 < (ByteArray.mk #[111, 107, 10, 111, 107, 10] ++ bs (LA ++ [10]) ++ ByteArray.mk #[111, 107, 10] ++ bs (LK ++ [10])).size + (ByteArray.mk #[111, 107, 10]).size := by
          have z0 : (ByteArray.mk #[111, 107, 10, 111, 107, 10]).size = 6 := rfl
          have z1 : (ByteArray.mk #[111, 107, 10]).size = 3 := rfl
          simp only [ByteArray.size_append, bs_size, List.length_append, List.length_singleton, z0, z1]; omega
        have kzo4 : ¬ 9223372036854775807 < (ByteArray.mk #[111, 107, 10, 111, 107, 10] ++ bs (LA ++ [10]) ++ ByteArray.mk #[111, 107, 10] ++ bs (LK ++ [10]) ++ ByteArray.mk #[111, 107, 10]).size + (bs (LF ++ [10])).size := by
          have z0 : (ByteArray.mk #[111, 107, 10, 111, 107, 10]).size = 6 := rfl
          have z1 : (ByteArray.mk #[111, 107, 10]).size = 3 := rfl
          simp only [ByteArray.size_append, bs_size, List.length_append, List.length_singleton, z0, z1]; omega
        have kzo5 : ¬ 9223372036854775807 < (ByteArray.mk #[111, 107, 10, 111, 107, 10] ++ bs (LA ++ [10]) ++ ByteArray.mk #[111, 107, 10] ++ bs (LK ++ [10]) ++ ByteArray.mk #[111, 107, 10] ++ bs (LF ++ [10])).size + (bs TN).size := by
          have z0 : (ByteArray.mk #[111, 107, 10, 111, 107, 10]).size = 6 := rfl
          have z1 : (ByteArray.mk #[111, 107, 10]).size = 3 := rfl
          simp only [ByteArray.size_append, bs_size, List.length_append, List.length_singleton, z0, z1]; omega
        have kzo6 : ¬ 9223372036854775807 < (ByteArray.mk #[111, 107, 10, 111, 107, 10] ++ bs (LA ++ [10]) ++ ByteArray.mk #[111, 107, 10] ++ bs (LK ++ [10]) ++ ByteArray.mk #[111, 107, 10] ++ bs (LF ++ [10]) ++ bs TN).size + (ByteArray.mk #[10]).size := by
          have z0 : (ByteArray.mk #[111, 107, 10, 111, 107, 10]).size = 6 := rfl
          have z1 : (ByteArray.mk #[111, 107, 10]).size = 3 := rfl
          have z2 : (ByteArray.mk #[10]).size = 1 := rfl
          simp only [ByteArray.size_append, bs_size, List.length_append, List.length_singleton, z0, z1, z2]; omega
        have kzo7 : ¬ 9223372036854775807 < (ByteArray.mk #[111, 107, 10, 111, 107, 10] ++ bs (LA ++ [10]) ++ ByteArray.mk #[111, 107, 10] ++ bs (LK ++ [10]) ++ ByteArray.mk #[111, 107, 10] ++ bs (LF ++ [10]) ++ bs TN ++ ByteArray.mk #[10]).size + (bs TF).size := by
          have z0 : (ByteArray.mk #[111, 107, 10, 111, 107, 10]).size = 6 := rfl
          have z1 : (ByteArray.mk #[111, 107, 10]).size = 3 := rfl
          have z2 : (ByteArray.mk #[10]).size = 1 := rfl
          simp only [ByteArray.size_append, bs_size, List.length_append, List.length_singleton, z0, z1, z2]; omega
        have kzo8 : ¬ 9223372036854775807 < (ByteArray.mk #[111, 107, 10, 111, 107, 10] ++ bs (LA ++ [10]) ++ ByteArray.mk #[111, 107, 10] ++ bs (LK ++ [10]) ++ ByteArray.mk #[111, 107, 10] ++ bs (LF ++ [10]) ++ bs TN ++ ByteArray.mk #[10] ++ bs TF).size + (ByteArray.mk #[10]).size := by
          have z0 : (ByteArray.mk #[111, 107, 10, 111, 107, 10]).size = 6 := rfl
          have z1 : (ByteArray.mk #[111, 107, 10]).size = 3 := rfl
          have z2 : (ByteArray.mk #[10]).size = 1 := rfl
          simp only [ByteArray.size_append, bs_size, List.length_append, List.length_singleton, z0, z1, z2]; omega
        obtain ⟨ST, hST⟩ : ∃ S : List (List UInt8 × List UInt8), [([115, 101, 116] ++ 32 :: TS, [111, 107]), ([108, 101, 102, 116] ++ 32 :: TM, [111, 107]), ([99, 117, 116], LA), ([108, 101, 102, 116] ++ 32 :: TM, [111, 107]), ([108, 101, 97, 114, 110], LK), ([108, 101, 102, 116] ++ 32 :: TM, [111, 107]), ([102, 111, 99, 117, 115], LF), ([110, 111, 116], TN), ([110, 111, 116], TF)] = S := ⟨_, rfl⟩
        have HTX : Hid (ByteArray.mk #[115, 101, 116, 32] ++ bs TS ++ ByteArray.mk #[10] ++ SET ++ ByteArray.mk #[99, 117, 116, 10] ++ SET ++ ByteArray.mk #[108, 101, 97, 114, 110, 10] ++ SET ++ ByteArray.mk #[102, 111, 99, 117, 115, 10, 110, 111, 116, 10, 110, 111, 116, 10] = bs (lineT (ST.map Prod.fst))) := by rw [Hid, ← hST, ← HST.out]; simp only [mkbs, bs_append]; congr 1; simp [lineT]
        have HOX : Hid (ByteArray.mk #[111, 107, 10, 111, 107, 10] ++ bs (LA ++ [10]) ++ ByteArray.mk #[111, 107, 10] ++ bs (LK ++ [10]) ++ ByteArray.mk #[111, 107, 10] ++ bs (LF ++ [10]) ++ bs TN ++ ByteArray.mk #[10] ++ bs TF ++ ByteArray.mk #[10] = bs (lineT (ST.map Prod.snd))) := by rw [Hid, ← hST]; simp only [mkbs, bs_append]; congr 1; simp [lineT]
        have HCH : Hid (∃ d', Chain startD ST d') := by
          have hml := HML.out; have ho2 : (focusM s xs q).ok = true := by rw [HF.out]; exact ho
          rw [← HF.out] at hml
          rw [Hid, ← hST, ← HLK.out, ← HLA.out, ← HLF.out, ← HTM.out, ← HTS.out, ← HTN.out, ← HTF.out, ← HW.out, ← HA.out, ← HF.out]
          exact ⟨_, Chain.cons (run_set _ hq16) (Chain.cons (run_left _ HM.out) (Chain.cons (run_plain (by decide) (by decide) (pl_cut _ q rfl HM.out hq)) (Chain.cons (run_left _ HM.out) (Chain.cons (run_plain (by decide) (by decide) (pl_learn _ q (leftM_a _ _) HM.out hq)) (Chain.cons (run_left _ HM.out) (Chain.cons (run_plain (by decide) (by decide) (pl_focus _ q ((leftM_a _ _).trans (leftM_a _ _)) HM.out hq)) (Chain.cons (run_plain (by decide) (by decide) (pl_notE _ (leftM_s1 ho2) (leftM_x1 ho2) hml)) (Chain.cons (run_plain (by decide) (by decide) (pl_back _ rfl rfl hml)) (Chain.nil _)))))))))⟩
        have HNL : Hid ((10 : UInt8) ∉ TS ∧ (10 : UInt8) ∉ TM) := by rw [Hid, ← HTS.out, ← HTM.out]; exact ⟨setT_line ⟨q, hq16⟩, massT_line⟩
        have HRUN : Hid (∀ w', LibV w' → Calls Tryz.prog 18 #[.string (bs (lineT (ST.map Prod.fst)))] w' fun e w'' => e = .returned (.string (bs (lineT (ST.map Prod.snd)))) ∧ Below w'.heap.size w' w'') := fun w' h => by
          obtain ⟨d', hch⟩ := HCH.out
          obtain ⟨k1, k2⟩ := HNL.out
          refine RunScript_any ST d' w' h hch ?_ ?_ ?_ ?_
          · rw [← hST]; show 9 ≤ 99; omega
          · rw [← hST]; intro q hq; simp only [List.mem_cons, List.not_mem_nil, or_false] at hq; rcases hq with rfl | rfl | rfl | rfl | rfl | rfl | rfl | rfl | rfl <;> simp [k1, k2]
          · rw [← hST]; simp [lineT]; omega
          · rw [← hST]; simp [lineT]; omega
        clear hST HCH HNL
        have HFA : Hid (∀ w', IntsAt w' aA nA rA.parts → LibV w' → Calls Tryz.prog 14 #[.agg #[.int .i64 rA.size, .slice aA nA cA]] w' fun e w'' => e = .returned (.string (bs TA)) ∧ Below w'.heap.size w' w'') := fun w' h1 h2 => by rw [← HTA.out]; exact FormatMass_any rA.size _ _ _ rA.parts w' h1 h2
        have HFK : Hid (∀ w', IntsAt w' aK nK rW.parts → LibV w' → Calls Tryz.prog 14 #[.agg #[.int .i64 rW.size, .slice aK nK cK]] w' fun e w'' => e = .returned (.string (bs TK)) ∧ Below w'.heap.size w' w'') := fun w' h1 h2 => by rw [← HTK.out]; exact FormatMass_any rW.size _ _ _ rW.parts w' h1 h2
        have HFF : Hid (∀ w', IntsAt w' aF nF rF.parts → LibV w' → Calls Tryz.prog 14 #[.agg #[.int .i64 rF.size, .slice aF nF cF]] w' fun e w'' => e = .returned (.string (bs TF)) ∧ Below w'.heap.size w' w'') := fun w' h1 h2 => by rw [← HTF.out]; exact FormatMass_any rF.size _ _ _ rF.parts w' h1 h2
        have HFN : Hid (∀ w', IntsAt w' aN nN rN.parts → LibV w' → Calls Tryz.prog 14 #[.agg #[.int .i64 rN.size, .slice aN nN cN]] w' fun e w'' => e = .returned (.string (bs TN)) ∧ Below w'.heap.size w' w'') := by
          refine hid fun w' h1 h2 => ?_
          have e : massT rN.size rN.parts = TN := by rw [← HN.out]; exact HTN.out
          rw [← e]; exact FormatMass_any rN.size _ _ _ rN.parts w' h1 h2
        go_wp2
        rw [HTX.out]
        go_wp2
        obtain ⟨w11, hww11⟩ : ∃ W, (w10.alloc (.cells #[.int .i64 rN.size, .slice aN nN cN] 25)) = W := ⟨_, rfl⟩
        rw [hww11]
        have hd : Below w10.heap.size w10 w11 := by rw [← hww11]; (repeat (first | exact Below.refl _ _ | assumption | refine Below.alloc ?_ (by first | omega | (simp <;> omega)) _ | refine Below.setCell ?_ (by first | omega | (simp <;> omega)) _ | refine Below.drew ?_ | refine below_drewN ?_))
        have mN0 : w11.cell? ⟨w10.heap.size, 0, none⟩ = some (.int .i64 rN.size) := by rw [← hww11]; simp
        have mN1 : w11.cell? ⟨w10.heap.size, 1, none⟩ = some (.slice aN nN cN) := by rw [← hww11]; simp
        have hN9 : w10.heap.size < w11.heap.size := by rw [← hww11]; simp
        replace mm0 := keep hd mm0
        replace mm1 := keep hd mm1
        replace mK0 := keep hd mK0
        replace mK1 := keep hd mK1
        replace mW0 := keep hd mW0
        replace mW1 := keep hd mW1
        replace mA0 := keep hd mA0
        replace mA1 := keep hd mA1
        replace mF0 := keep hd mF0
        replace mF1 := keep hd mF1
        replace ll0 := keep hd ll0
        replace ll1 := keep hd ll1
        replace him := him.below hd
        replace hiK := hiK.below hd
        replace hiW := hiW.below hd
        replace hiA := hiA.below hd
        replace hiF := hiF.below hd
        replace hiN := hiN.below hd
        replace hB := chain hB hd
        have hs11 := hd.size
        clear hd hww11
        have hlv := HV.out.below hB
        refine wp_region_ov (by kernel_rfl) (by kernel_rfl) ?_
        repeat (first | go_big_quiet_step ((first | (go_at_call 14; first | (with_reducible exact ov_call (HFA.out _ (hiA.below (ov_below _ _)) (hlv.below (ov_below _ _)))) | (with_reducible exact ov_call (HFK.out _ (hiK.below (ov_below _ _)) (hlv.below (ov_below _ _)))) | (with_reducible exact ov_call (HFF.out _ (hiF.below (ov_below _ _)) (hlv.below (ov_below _ _)))) | (with_reducible exact ov_call (HFN.out _ (hiN.below (ov_below _ _)) (hlv.below (ov_below _ _))))) | (go_at_call 17; first | (with_reducible exact ov_call (HWLA.out _)) | (with_reducible exact ov_call (HWLK.out _)) | (with_reducible exact ov_call (HWLF.out _))))) | quiet_step ((first | (go_at_call 14; first | (with_reducible exact ov_call (HFA.out _ (hiA.below (ov_below _ _)) (hlv.below (ov_below _ _)))) | (with_reducible exact ov_call (HFK.out _ (hiK.below (ov_below _ _)) (hlv.below (ov_below _ _)))) | (with_reducible exact ov_call (HFF.out _ (hiF.below (ov_below _ _)) (hlv.below (ov_below _ _)))) | (with_reducible exact ov_call (HFN.out _ (hiN.below (ov_below _ _)) (hlv.below (ov_below _ _))))) | (go_at_call 17; first | (with_reducible exact ov_call (HWLA.out _)) | (with_reducible exact ov_call (HWLK.out _)) | (with_reducible exact ov_call (HWLF.out _))))))
        refine wpQuiet_nil ?_
        intro _ hw_ov
        obtain ⟨x_ov, hw_ov2⟩ := hw_ov
        subst hw_ov2
        obtain ⟨wz, hw_ov3, hbz⟩ := ov_gen _ x_ov
        rw [hw_ov3]
        clear hw_ov3 x_ov
        rw [HOX.out]
        obtain ⟨w12, rfl⟩ : ∃ q : World, q = wz := ⟨_, rfl⟩
        clear hlv
        have hd := hbz
        replace mm0 := keep hd mm0
        replace mm1 := keep hd mm1
        replace mK0 := keep hd mK0
        replace mK1 := keep hd mK1
        replace mW0 := keep hd mW0
        replace mW1 := keep hd mW1
        replace mA0 := keep hd mA0
        replace mA1 := keep hd mA1
        replace mF0 := keep hd mF0
        replace mF1 := keep hd mF1
        replace ll0 := keep hd ll0
        replace ll1 := keep hd ll1
        replace mN0 := keep hd mN0
        replace mN1 := keep hd mN1
        replace him := him.below hd
        replace hiK := hiK.below hd
        replace hiW := hiW.below hd
        replace hiA := hiA.below hd
        replace hiF := hiF.below hd
        replace hiN := hiN.below hd
        replace hB := chain hB hd
        have hs12 := hd.size
        clear hbz hd
        have hse : ((bs (lineT (ST.map Prod.snd))).toList == (bs (lineT (ST.map Prod.snd))).toList) = true := beq_self_eq_true _
        go_wp2_with fail
        refine (HRUN.out _ (HV.out.below hB)).mono ?_; rintro e w13 ⟨rfl, hb⟩
        have hd := hb
        replace mm0 := keep hd mm0
        replace mm1 := keep hd mm1
        replace mK0 := keep hd mK0
        replace mK1 := keep hd mK1
        replace mW0 := keep hd mW0
        replace mW1 := keep hd mW1
        replace mA0 := keep hd mA0
        replace mA1 := keep hd mA1
        replace mF0 := keep hd mF0
        replace mF1 := keep hd mF1
        replace ll0 := keep hd ll0
        replace ll1 := keep hd ll1
        replace mN0 := keep hd mN0
        replace mN1 := keep hd mN1
        replace him := him.below hd
        replace hiK := hiK.below hd
        replace hiW := hiW.below hd
        replace hiA := hiA.below hd
        replace hiF := hiF.below hd
        replace hiN := hiN.below hd
        replace hB := chain hB hd
        have hs13 := hd.size
        clear hb hd
        go_wp2
        go_ret
        exact ⟨rfl, hB⟩
end Go.Proofs.YtlelnnglpimgjaaGreatDoor
