/- The law FnScriptBelief: its walk (printed by scriptgen.py). -/
import Derived.Test.YtlelnnglpimgjaaGreatDoorV2
import Derived.Test.YtlelnnglpimgjaaGreatDoorE3
import Derived.Test.YtlelnnglpimgjaaGreatDoorF4
set_option linter.unusedSimpArgs false
set_option linter.unusedVariables false
namespace Go.Proofs.YtlelnnglpimgjaaGreatDoor
open Go.RowKit
theorem mkbs (l : Array UInt8) : ByteArray.mk l = bs l.toList := rfl
theorem tellM_len (r : MR) : (tellM r).length ≤ 220 := by
  unfold tellM; split
  · exact massT_len _ _
  · simp
theorem iMassValid_any (s : Int) (ao : Option Addr) (n c : Nat) (xs : List Int) (w : World) (hx : IntsAt w ao n xs) :
    Calls Tryz.prog 10 #[.agg #[.int .i64 s, .slice ao n c]] w fun e w' => e = .returned (.bool (massOk s xs)) ∧ Below w.heap.size w w' := by
  go_enter Tryz.func10, Tryz.ntmps10
  go_wp2_with fail
  refine (isMass_any _ _ _ _ xs _ (hx.below (by (repeat (first | exact Below.refl _ _ | assumption | refine Below.alloc ?_ (by first | omega | (simp <;> omega)) _ | refine Below.setCell ?_ (by first | omega | (simp <;> omega)) _ | refine Below.drew ?_ | refine below_drewN ?_))))).mono ?_; rintro e w1 ⟨rfl, hb1⟩
  go_wp2
  go_ret
  exact ⟨rfl, Below.trans (by (repeat (first | exact Below.refl _ _ | assumption | refine Below.alloc ?_ (by first | omega | (simp <;> omega)) _ | refine Below.setCell ?_ (by first | omega | (simp <;> omega)) _ | refine Below.drew ?_ | refine below_drewN ?_))) (hb1.mono (by simp <;> omega))⟩
/-- a line, or no -/
theorem weLine_any (l : List UInt8) (ok : Bool) (w : World) (hl : l.length ≤ 100000) :
    Calls Tryz.prog 17 #[.string (bs l), .bool ok] w fun e w' => e = .returned (.string (bs ((if ok then l else [110, 111]) ++ [10]))) ∧ w = w' := by
  have kz : ¬ 9223372036854775807 < (bs l).size + (ByteArray.mk #[10]).size := by simp only [bs_size]; simp [ByteArray.size]; omega
  cases ok
  · go_enter Tryz.func17, Tryz.ntmps17
    go_wp2
    go_ret
    exact ⟨rfl, rfl⟩
  · have HE : Hid (bs l ++ ByteArray.mk #[10] = bs (l ++ [10])) := by rw [Hid, mkbs, bs_append]
    go_enter Tryz.func17, Tryz.ntmps17
    go_wp2
    go_ret
    exact ⟨by rw [HE.out]; rfl, rfl⟩
theorem weLine_of (r : MR) (w : World) :
    Calls Tryz.prog 17 #[.string (bs (massT r.size r.parts)), .bool r.ok] w fun e w' => e = .returned (.string (bs (tellM r ++ [10]))) ∧ Below w.heap.size w w' :=
  (weLine_any _ r.ok w (by have := massT_len r.size r.parts; omega)).mono fun e w' ⟨he, hw⟩ => ⟨by rw [he]; rfl, by subst hw; exact Below.refl _ _⟩
/-- the line of a fraction -/
theorem wePart_any (f : FR) (w : World) (hp : Pow w) :
    Calls Tryz.prog 25 #[.agg #[.int .i64 f.num, .int .i64 f.den], .bool f.ok] w fun e w' => e = .returned (.string (bs (tellF f ++ [10]))) ∧ Below w.heap.size w w' := by
  have HE : Hid ((if f.ok then fracT f.num f.den else [110, 111]) ++ [10] = tellF f ++ [10]) := rfl
  have HL := hid (fracT_len f.num f.den)
  go_enter Tryz.func25, Tryz.ntmps25
  go_wp2_with fail
  refine (FormatFraction_any _ _ _ (hp.below (by (repeat (first | exact Below.refl _ _ | assumption | refine Below.alloc ?_ (by first | omega | (simp <;> omega)) _ | refine Below.setCell ?_ (by first | omega | (simp <;> omega)) _ | refine Below.drew ?_ | refine below_drewN ?_))))).mono ?_; rintro e w1 ⟨rfl, hb1⟩
  go_wp2_with fail
  refine (weLine_any _ f.ok _ (by have := HL.out; omega)).mono ?_; rintro e w' ⟨rfl, rfl⟩
  rw [HE.out]
  go_wp2
  go_ret
  exact ⟨rfl, Below.trans (by (repeat (first | exact Below.refl _ _ | assumption | refine Below.alloc ?_ (by first | omega | (simp <;> omega)) _ | refine Below.setCell ?_ (by first | omega | (simp <;> omega)) _ | refine Below.drew ?_ | refine below_drewN ?_))) (hb1.mono (by simp <;> omega))⟩
theorem setT_line : ∀ a : Fin 16, (10 : UInt8) ∉ setT a.val := by decide +kernel
theorem numT_len (xs : List Int) (h : I64 xs) : (numT xs).length ≤ 22 * xs.length + 1 := by
  unfold numT; split
  · simp
  · have := txt_len xs h xs.length (Nat.le_refl _); omega
set_option maxRecDepth 100000 in
set_option maxHeartbeats 16000000 in
theorem FnScriptBelief_walk (ao : Option Addr) (n c : Nat) (w : World) (hx : n ≤ 1048576 → BytesIn w w.heap.size ao n) (hnc : n ≤ c) (hcap : n ≤ 9223372036854775807)
    (hP : Pow w) (hSE : ∃ tp p, w.var? Tryz.prog "strconv.ErrSyntax" = some #[.iface tp p]) (hRE : ∃ tp p, w.var? Tryz.prog "strconv.ErrRange" = some #[.iface tp p]) (hsh : w.ShapedOpen Tryz.prog) :
    Calls Tryz.prog 4 #[.slice ao n c] w fun e w' => e = .returned (.bool true) ∧ Below w.heap.size w w' := by
  have HV := hid (libV_of w hP hSE hRE hsh)
  clear hP hSE hRE hsh
  by_cases hn : 1048576 < n
  · go_enter Tryz.func4, Tryz.ntmps4
    go_wp2
    go_ret
    exact ⟨rfl, Below.refl _ _⟩
  have HX := hid (hx (by omega))
  clear hx
  go_enter Tryz.func4, Tryz.ntmps4
  have hB := Below.refl w.heap.size w
  go_wp2_with fail
  refine (DrawBeliefOf_any ao n c _ HX.out hnc).mono ?_; rintro e w1 ⟨⟨s, p, xs, a, rfl, hr, hlx⟩, hb⟩
  have hd := hb
  replace hB := chain hB hd
  have hs1 := hd.size
  clear hb hd
  obtain ⟨am, nm, cm, rfl, him⟩ := hr.ints
  clear hr
  obtain ⟨fK, HK⟩ : ∃ r, Hid (belF s xs a = r) := ⟨_, rfl⟩
  go_wp2_with fail
  refine (BeliefOf_all s a _ _ _ xs _ (him.below (by (repeat (first | exact Below.refl _ _ | assumption | refine Below.alloc ?_ (by first | omega | (simp <;> omega)) _ | refine Below.setCell ?_ (by first | omega | (simp <;> omega)) _ | refine Below.drew ?_ | refine below_drewN ?_))))).mono ?_; rw [HK.out]; rintro e w2 ⟨rfl, hb⟩
  have mm0 := keep hb (a := ⟨w1.heap.size, 0, none⟩) (v := .int .i64 s) (by simp)
  have mm1 := keep hb (a := ⟨w1.heap.size, 1, none⟩) (v := .slice am nm cm) (by simp)
  have hN1 : w1.heap.size < w2.heap.size := by have := World.block_lt_of_cell? w2 _ mm0; simpa using this
  have hd : Below w1.heap.size w1 w2 := Below.trans (by (repeat (first | exact Below.refl _ _ | assumption | refine Below.alloc ?_ (by first | omega | (simp <;> omega)) _ | refine Below.setCell ?_ (by first | omega | (simp <;> omega)) _ | refine Below.drew ?_ | refine below_drewN ?_))) (hb.mono (by simp <;> omega))
  replace him := him.below hd
  replace hB := chain hB hd
  have hs2 := hd.size
  clear hb hd
  obtain ⟨fW, HW⟩ : ∃ r, Hid (belF s xs a = r) := ⟨_, rfl⟩
  go_wp2_with fail
  refine (specBeliefOf_any s a _ _ _ xs _ (him.below (by (repeat (first | exact Below.refl _ _ | assumption | refine Below.alloc ?_ (by first | omega | (simp <;> omega)) _ | refine Below.setCell ?_ (by first | omega | (simp <;> omega)) _ | refine Below.drew ?_ | refine below_drewN ?_))))).mono ?_; rw [HW.out]; rintro e w3 ⟨rfl, hb⟩
  have fK0 := keep hb (a := ⟨w2.heap.size, 0, none⟩) (v := .int .i64 fK.num) (by simp)
  have fK1 := keep hb (a := ⟨w2.heap.size, 1, none⟩) (v := .int .i64 fK.den) (by simp)
  have hN2 : w2.heap.size < w3.heap.size := by have := World.block_lt_of_cell? w3 _ fK0; simpa using this
  have hd : Below w2.heap.size w2 w3 := Below.trans (by (repeat (first | exact Below.refl _ _ | assumption | refine Below.alloc ?_ (by first | omega | (simp <;> omega)) _ | refine Below.setCell ?_ (by first | omega | (simp <;> omega)) _ | refine Below.drew ?_ | refine below_drewN ?_))) (hb.mono (by simp <;> omega))
  replace mm0 := keep hd mm0
  replace mm1 := keep hd mm1
  replace him := him.below hd
  replace hB := chain hB hd
  have hs3 := hd.size
  clear hb hd
  have hE : fW = fK := HW.out.symm.trans HK.out
  subst hE
  clear HK
  have x1 : (fW.num == fW.num) = true := beq_self_eq_true _
  have y1 : (fW.den == fW.den) = true := beq_self_eq_true _
  cases ho : fW.ok
  · go_wp2
    go_ret
    exact ⟨rfl, by (repeat (first | exact Below.refl _ _ | assumption | refine Below.alloc ?_ (by first | omega | (simp <;> omega)) _ | refine Below.setCell ?_ (by first | omega | (simp <;> omega)) _ | refine Below.drew ?_ | refine below_drewN ?_))⟩
  · have hok : (massOk s xs && setOk s a) = true := by
      cases h : massOk s xs && setOk s a
      · have e : belF s xs a = fW := HW.out
        rw [belF_no h] at e; rw [← e] at ho; exact absurd ho (by decide)
      · rfl
    rw [Bool.and_eq_true] at hok
    obtain ⟨hm1, hm2⟩ := hok
    obtain ⟨hs, hlen, h16, _, _, _, _⟩ := massOk_facts hm1
    have hin : inB 0 ((nsets s : Int) - 1) a = true := by simpa [setOk, hs] using hm2
    obtain ⟨q, rfl⟩ : ∃ q : Nat, a = (q : Int) := ⟨a.toNat, by have := inB_iff.1 hin; omega⟩
    have hq : q < xs.length := by have := inB_iff.1 hin; omega
    have hq16 : q < 16 := by omega
    have hBF : belF s xs (q : Int) = redF (dot (predI (subB q)) xs xs.length - nth xs 0) (isum xs) := belF_yes (by rw [hm1, hm2]; rfl)
    have HW2 : Hid (redF (dot (predI (subB q)) xs xs.length - nth xs 0) (isum xs) = fW) := hBF.symm.trans HW.out
    have HM := hid hm1
    have HO := hid ho
    clear hm1 hm2 hin hlen hs hBF HW
    obtain ⟨fP, HP⟩ : ∃ r, Hid (redF (dot (predI (meetB q)) xs xs.length) (isum xs) = r) := ⟨_, rfl⟩
    go_wp2_with fail
    refine (PossibilityOf_of s q _ _ _ xs _ (him.below (by (repeat (first | exact Below.refl _ _ | assumption | refine Below.alloc ?_ (by first | omega | (simp <;> omega)) _ | refine Below.setCell ?_ (by first | omega | (simp <;> omega)) _ | refine Below.drew ?_ | refine below_drewN ?_)))) HM.out hq).mono ?_; rw [HP.out]; rintro e w4 ⟨rfl, hb⟩
    have fW0 := keep hb (a := ⟨w3.heap.size, 0, none⟩) (v := .int .i64 fW.num) (by simp)
    have fW1 := keep hb (a := ⟨w3.heap.size, 1, none⟩) (v := .int .i64 fW.den) (by simp)
    have hN3 : w3.heap.size < w4.heap.size := by have := World.block_lt_of_cell? w4 _ fW0; simpa using this
    have hd : Below w3.heap.size w3 w4 := Below.trans (by (repeat (first | exact Below.refl _ _ | assumption | refine Below.alloc ?_ (by first | omega | (simp <;> omega)) _ | refine Below.setCell ?_ (by first | omega | (simp <;> omega)) _ | refine Below.drew ?_ | refine below_drewN ?_))) (hb.mono (by simp <;> omega))
    replace mm0 := keep hd mm0
    replace mm1 := keep hd mm1
    replace fK0 := keep hd fK0
    replace fK1 := keep hd fK1
    replace him := him.below hd
    replace hB := chain hB hd
    have hs4 := hd.size
    clear hb hd
    obtain ⟨fC, HC⟩ : ∃ r, Hid (chaF xs q = r) := ⟨_, rfl⟩
    go_wp2_with fail
    refine (ChanceOf_all s q _ _ _ xs _ (him.below (by (repeat (first | exact Below.refl _ _ | assumption | refine Below.alloc ?_ (by first | omega | (simp <;> omega)) _ | refine Below.setCell ?_ (by first | omega | (simp <;> omega)) _ | refine Below.drew ?_ | refine below_drewN ?_)))) HM.out hq).mono ?_; rw [HC.out]; rintro e w5 ⟨rfl, hb⟩
    have fP0 := keep hb (a := ⟨w4.heap.size, 0, none⟩) (v := .int .i64 fP.num) (by simp)
    have fP1 := keep hb (a := ⟨w4.heap.size, 1, none⟩) (v := .int .i64 fP.den) (by simp)
    have hN4 : w4.heap.size < w5.heap.size := by have := World.block_lt_of_cell? w5 _ fP0; simpa using this
    have hd : Below w4.heap.size w4 w5 := Below.trans (by (repeat (first | exact Below.refl _ _ | assumption | refine Below.alloc ?_ (by first | omega | (simp <;> omega)) _ | refine Below.setCell ?_ (by first | omega | (simp <;> omega)) _ | refine Below.drew ?_ | refine below_drewN ?_))) (hb.mono (by simp <;> omega))
    replace mm0 := keep hd mm0
    replace mm1 := keep hd mm1
    replace fK0 := keep hd fK0
    replace fK1 := keep hd fK1
    replace fW0 := keep hd fW0
    replace fW1 := keep hd fW1
    replace him := him.below hd
    replace hB := chain hB hd
    have hs5 := hd.size
    clear hb hd
    obtain ⟨fS, HS⟩ : ∃ r, Hid (redF (sizeTo xs xs.length) (isum xs) = r) := ⟨_, rfl⟩
    go_wp2_with fail
    refine (MeanSize_of s _ _ _ xs _ (him.below (by (repeat (first | exact Below.refl _ _ | assumption | refine Below.alloc ?_ (by first | omega | (simp <;> omega)) _ | refine Below.setCell ?_ (by first | omega | (simp <;> omega)) _ | refine Below.drew ?_ | refine below_drewN ?_)))) HM.out).mono ?_; rw [HS.out]; rintro e w6 ⟨rfl, hb⟩
    have fC0 := keep hb (a := ⟨w5.heap.size, 0, none⟩) (v := .int .i64 fC.num) (by simp)
    have fC1 := keep hb (a := ⟨w5.heap.size, 1, none⟩) (v := .int .i64 fC.den) (by simp)
    have hN5 : w5.heap.size < w6.heap.size := by have := World.block_lt_of_cell? w6 _ fC0; simpa using this
    have hd : Below w5.heap.size w5 w6 := Below.trans (by (repeat (first | exact Below.refl _ _ | assumption | refine Below.alloc ?_ (by first | omega | (simp <;> omega)) _ | refine Below.setCell ?_ (by first | omega | (simp <;> omega)) _ | refine Below.drew ?_ | refine below_drewN ?_))) (hb.mono (by simp <;> omega))
    replace mm0 := keep hd mm0
    replace mm1 := keep hd mm1
    replace fK0 := keep hd fK0
    replace fK1 := keep hd fK1
    replace fW0 := keep hd fW0
    replace fW1 := keep hd fW1
    replace fP0 := keep hd fP0
    replace fP1 := keep hd fP1
    replace him := him.below hd
    replace hB := chain hB hd
    have hs6 := hd.size
    clear hb hd
    obtain ⟨TM, HTM⟩ : ∃ T, Hid (massT s xs = T) := ⟨_, rfl⟩
    have hlM : TM.length ≤ 220 := by rw [← HTM.out]; exact massT_len _ _
    obtain ⟨TS, HTS⟩ : ∃ T, Hid (setT q = T) := ⟨_, rfl⟩
    have hlS : TS.length ≤ 4 := by rw [← HTS.out]; exact setT_len ⟨q, hq16⟩
    obtain ⟨LW, HLW⟩ : ∃ T, Hid (tellF fW = T) := ⟨_, rfl⟩
    have hmW : LW.length ≤ 70 := by rw [← HLW.out]; exact tellF_len _
    have HWPW : Hid (∀ w', LibV w' → Calls Tryz.prog 25 #[.agg #[.int .i64 fW.num, .int .i64 fW.den], .bool true] w' fun e w'' => e = .returned (.string (bs (LW ++ [10]))) ∧ Below w'.heap.size w' w'') := hid fun w' h => by rw [← HLW.out, ← HO.out]; exact wePart_any fW w' h.pow
    obtain ⟨LP, HLP⟩ : ∃ T, Hid (tellF fP = T) := ⟨_, rfl⟩
    have hmP : LP.length ≤ 70 := by rw [← HLP.out]; exact tellF_len _
    have HWPP : Hid (∀ w', LibV w' → Calls Tryz.prog 25 #[.agg #[.int .i64 fP.num, .int .i64 fP.den], .bool fP.ok] w' fun e w'' => e = .returned (.string (bs (LP ++ [10]))) ∧ Below w'.heap.size w' w'') := hid fun w' h => by rw [← HLP.out]; exact wePart_any fP w' h.pow
    obtain ⟨LC, HLC⟩ : ∃ T, Hid (tellF fC = T) := ⟨_, rfl⟩
    have hmC : LC.length ≤ 70 := by rw [← HLC.out]; exact tellF_len _
    have HWPC : Hid (∀ w', LibV w' → Calls Tryz.prog 25 #[.agg #[.int .i64 fC.num, .int .i64 fC.den], .bool fC.ok] w' fun e w'' => e = .returned (.string (bs (LC ++ [10]))) ∧ Below w'.heap.size w' w'') := hid fun w' h => by rw [← HLC.out]; exact wePart_any fC w' h.pow
    obtain ⟨LS, HLS⟩ : ∃ T, Hid (tellF fS = T) := ⟨_, rfl⟩
    have hmS : LS.length ≤ 70 := by rw [← HLS.out]; exact tellF_len _
    have HWPS : Hid (∀ w', LibV w' → Calls Tryz.prog 25 #[.agg #[.int .i64 fS.num, .int .i64 fS.den], .bool fS.ok] w' fun e w'' => e = .returned (.string (bs (LS ++ [10]))) ∧ Below w'.heap.size w' w'') := hid fun w' h => by rw [← HLS.out]; exact wePart_any fS w' h.pow
    obtain ⟨X1, HX1⟩ : ∃ X, Hid (contL s xs = X) := ⟨_, rfl⟩
    obtain ⟨X2, HX2⟩ : ∃ X, Hid (comL xs = X) := ⟨_, rfl⟩
    have HI1 : Hid (I64 X1) := by rw [← HX1.out]; exact I64_of (contL_bd HM.out)
    have HI2 : Hid (I64 X2) := by rw [← HX2.out]; exact I64_of (comL_bd HM.out)
    have hz1 : X1.length ≤ 4 := by rw [← HX1.out]; exact contL_len HM.out
    have hz2 : X2.length ≤ 16 := by rw [← HX2.out, comL_len]; exact h16
    obtain ⟨N1, HN1⟩ : ∃ T, Hid (numT X1 = T) := ⟨_, rfl⟩
    have hn1 : N1.length ≤ 353 := by rw [← HN1.out]; have := numT_len X1 HI1.out; omega
    obtain ⟨N2, HN2⟩ : ∃ T, Hid (numT X2 = T) := ⟨_, rfl⟩
    have hn2 : N2.length ≤ 353 := by rw [← HN2.out]; have := numT_len X2 HI2.out; omega
    have kzt0 : ¬ 9223372036854775807 < (ByteArray.mk #[108, 101, 102, 116, 32]).size + (bs TM).size := by
      have z0 : (ByteArray.mk #[108, 101, 102, 116, 32]).size = 5 := rfl
      simp only [ByteArray.size_append, bs_size, List.length_append, List.length_singleton, z0]; omega
    have kzt1 : ¬ 9223372036854775807 < (ByteArray.mk #[108, 101, 102, 116, 32] ++ bs TM).size + (ByteArray.mk #[10, 115, 101, 116, 32]).size := by
      have z0 : (ByteArray.mk #[108, 101, 102, 116, 32]).size = 5 := rfl
      have z1 : (ByteArray.mk #[10, 115, 101, 116, 32]).size = 5 := rfl
      simp only [ByteArray.size_append, bs_size, List.length_append, List.length_singleton, z0, z1]; omega
    have kzt2 : ¬ 9223372036854775807 < (ByteArray.mk #[108, 101, 102, 116, 32] ++ bs TM ++ ByteArray.mk #[10, 115, 101, 116, 32]).size + (bs TS).size := by
      have z0 : (ByteArray.mk #[108, 101, 102, 116, 32]).size = 5 := rfl
      have z1 : (ByteArray.mk #[10, 115, 101, 116, 32]).size = 5 := rfl
      simp only [ByteArray.size_append, bs_size, List.length_append, List.length_singleton, z0, z1]; omega
    have kzt3 : ¬ 9223372036854775807 < (ByteArray.mk #[108, 101, 102, 116, 32] ++ bs TM ++ ByteArray.mk #[10, 115, 101, 116, 32] ++ bs TS).size + (ByteArray.mk (List.toArray (10 :: 98 :: 101 :: 108 :: 105 :: 101 :: 102 :: 10 :: 112 :: 111 :: 115 :: 115 :: 105 :: 98 :: 108 :: 101 :: 10 :: 99 :: 104 :: 97 :: 110 :: 99 :: 101 :: 10 :: 115 :: 105 :: 122 :: 101 :: 10 :: 99 :: 111 :: 110 :: 116 :: 111 :: 117 :: 114 :: 10 :: 116 :: 97 :: 98 :: 108 :: 101 :: 32 :: 99 :: 111 :: 109 :: 109 :: 111 :: 110 :: 10 :: []))).size := by
      have z0 : (ByteArray.mk #[108, 101, 102, 116, 32]).size = 5 := rfl
      have z1 : (ByteArray.mk #[10, 115, 101, 116, 32]).size = 5 := rfl
      have z2 : (ByteArray.mk (List.toArray (10 :: 98 :: 101 :: 108 :: 105 :: 101 :: 102 :: 10 :: 112 :: 111 :: 115 :: 115 :: 105 :: 98 :: 108 :: 101 :: 10 :: 99 :: 104 :: 97 :: 110 :: 99 :: 101 :: 10 :: 115 :: 105 :: 122 :: 101 :: 10 :: 99 :: 111 :: 110 :: 116 :: 111 :: 117 :: 114 :: 10 :: 116 :: 97 :: 98 :: 108 :: 101 :: 32 :: 99 :: 111 :: 109 :: 109 :: 111 :: 110 :: 10 :: []))).size = 50 := rfl
      simp only [ByteArray.size_append, bs_size, List.length_append, List.length_singleton, z0, z1, z2]; omega
    have kzo0 : ¬ 9223372036854775807 < (ByteArray.mk #[111, 107, 10, 111, 107, 10]).size + (bs (LW ++ [10])).size := by
      have z0 : (ByteArray.mk #[111, 107, 10, 111, 107, 10]).size = 6 := rfl
      simp only [ByteArray.size_append, bs_size, List.length_append, List.length_singleton, z0]; omega
    have kzo1 : ¬ 9223372036854775807 < (ByteArray.mk #[111, 107, 10, 111, 107, 10] ++ bs (LW ++ [10])).size + (bs (LP ++ [10])).size := by
      have z0 : (ByteArray.mk #[111, 107, 10, 111, 107, 10]).size = 6 := rfl
      simp only [ByteArray.size_append, bs_size, List.length_append, List.length_singleton, z0]; omega
    have kzo2 : ¬ 9223372036854775807 < (ByteArray.mk #[111, 107, 10, 111, 107, 10] ++ bs (LW ++ [10]) ++ bs (LP ++ [10])).size + (bs (LC ++ [10])).size := by
      have z0 : (ByteArray.mk #[111, 107, 10, 111, 107, 10]).size = 6 := rfl
      simp only [ByteArray.size_append, bs_size, List.length_append, List.length_singleton, z0]; omega
    have kzo3 : ¬ 9223372036854775807 < (ByteArray.mk #[111, 107, 10, 111, 107, 10] ++ bs (LW ++ [10]) ++ bs (LP ++ [10]) ++ bs (LC ++ [10])).size + (bs (LS ++ [10])).size := by
      have z0 : (ByteArray.mk #[111, 107, 10, 111, 107, 10]).size = 6 := rfl
      simp only [ByteArray.size_append, bs_size, List.length_append, List.length_singleton, z0]; omega
    have kzo4 : ¬ 9223372036854775807 < (ByteArray.mk #[111, 107, 10, 111, 107, 10] ++ bs (LW ++ [10]) ++ bs (LP ++ [10]) ++ bs (LC ++ [10]) ++ bs (LS ++ [10])).size + (bs N1).size := by
      have z0 : (ByteArray.mk #[111, 107, 10, 111, 107, 10]).size = 6 := rfl
      simp only [ByteArray.size_append, bs_size, List.length_append, List.length_singleton, z0]; omega
    have kzo5 : ¬ 9223372036854775807 < (ByteArray.mk #[111, 107, 10, 111, 107, 10] ++ bs (LW ++ [10]) ++ bs (LP ++ [10]) ++ bs (LC ++ [10]) ++ bs (LS ++ [10]) ++ bs N1).size + (ByteArray.mk #[10]).size := by
      have z0 : (ByteArray.mk #[111, 107, 10, 111, 107, 10]).size = 6 := rfl
      have z1 : (ByteArray.mk #[10]).size = 1 := rfl
      simp only [ByteArray.size_append, bs_size, List.length_append, List.length_singleton, z0, z1]; omega
    have kzo6 : ¬ 9223372036854775807 < (ByteArray.mk #[111, 107, 10, 111, 107, 10] ++ bs (LW ++ [10]) ++ bs (LP ++ [10]) ++ bs (LC ++ [10]) ++ bs (LS ++ [10]) ++ bs N1 ++ ByteArray.mk #[10]).size + (bs N2).size := by
      have z0 : (ByteArray.mk #[111, 107, 10, 111, 107, 10]).size = 6 := rfl
      have z1 : (ByteArray.mk #[10]).size = 1 := rfl
      simp only [ByteArray.size_append, bs_size, List.length_append, List.length_singleton, z0, z1]; omega
    have kzo7 : ¬ 9223372036854775807 < (ByteArray.mk #[111, 107, 10, 111, 107, 10] ++ bs (LW ++ [10]) ++ bs (LP ++ [10]) ++ bs (LC ++ [10]) ++ bs (LS ++ [10]) ++ bs N1 ++ ByteArray.mk #[10] ++ bs N2).size + (ByteArray.mk #[10]).size := by
      have z0 : (ByteArray.mk #[111, 107, 10, 111, 107, 10]).size = 6 := rfl
      have z1 : (ByteArray.mk #[10]).size = 1 := rfl
      simp only [ByteArray.size_append, bs_size, List.length_append, List.length_singleton, z0, z1]; omega
    obtain ⟨ST, hST⟩ : ∃ S : List (List UInt8 × List UInt8), [([108, 101, 102, 116] ++ 32 :: TM, [111, 107]), ([115, 101, 116] ++ 32 :: TS, [111, 107]), ([98, 101, 108, 105, 101, 102], LW), ([112, 111, 115, 115, 105, 98, 108, 101], LP), ([99, 104, 97, 110, 99, 101], LC), ([115, 105, 122, 101], LS), ([99, 111, 110, 116, 111, 117, 114], N1), ([116, 97, 98, 108, 101] ++ 32 :: [99, 111, 109, 109, 111, 110], N2)] = S := ⟨_, rfl⟩
    have HTX : Hid (ByteArray.mk #[108, 101, 102, 116, 32] ++ bs TM ++ ByteArray.mk #[10, 115, 101, 116, 32] ++ bs TS ++ ByteArray.mk (List.toArray (10 :: 98 :: 101 :: 108 :: 105 :: 101 :: 102 :: 10 :: 112 :: 111 :: 115 :: 115 :: 105 :: 98 :: 108 :: 101 :: 10 :: 99 :: 104 :: 97 :: 110 :: 99 :: 101 :: 10 :: 115 :: 105 :: 122 :: 101 :: 10 :: 99 :: 111 :: 110 :: 116 :: 111 :: 117 :: 114 :: 10 :: 116 :: 97 :: 98 :: 108 :: 101 :: 32 :: 99 :: 111 :: 109 :: 109 :: 111 :: 110 :: 10 :: [])) = bs (lineT (ST.map Prod.fst))) := by rw [Hid, ← hST]; simp only [mkbs, bs_append]; congr 1; simp [lineT]
    have HOX : Hid (ByteArray.mk #[111, 107, 10, 111, 107, 10] ++ bs (LW ++ [10]) ++ bs (LP ++ [10]) ++ bs (LC ++ [10]) ++ bs (LS ++ [10]) ++ bs N1 ++ ByteArray.mk #[10] ++ bs N2 ++ ByteArray.mk #[10] = bs (lineT (ST.map Prod.snd))) := by rw [Hid, ← hST]; simp only [mkbs, bs_append]; congr 1; simp [lineT]
    have HCH : Hid (∃ d', Chain startD ST d') := by
      rw [Hid, ← hST, ← HLW.out, ← HLP.out, ← HLC.out, ← HLS.out, ← HTM.out, ← HTS.out, ← HN1.out, ← HN2.out, ← HX1.out, ← HX2.out, ← HW2.out, ← HP.out, ← HC.out, ← HS.out]
      exact ⟨_, Chain.cons (run_left _ HM.out) (Chain.cons (run_set _ hq16) (Chain.cons (run_plain (by decide) (by decide) (pl_belief _ q rfl HM.out hq)) (Chain.cons (run_plain (by decide) (by decide) (pl_possible _ q rfl HM.out hq)) (Chain.cons (run_plain (by decide) (by decide) (pl_chance _ q rfl HM.out hq)) (Chain.cons (run_plain (by decide) (by decide) (pl_size _ HM.out)) (Chain.cons (run_plain (by decide) (by decide) (pl_contour _ HM.out)) (Chain.cons (run_table _ HM.out) (Chain.nil _))))))))⟩
    have HNL : Hid ((10 : UInt8) ∉ TM ∧ (10 : UInt8) ∉ TS) := by rw [Hid, ← HTS.out, ← HTM.out]; exact ⟨massT_line, setT_line ⟨q, hq16⟩⟩
    have HRUN : Hid (∀ w', LibV w' → Calls Tryz.prog 18 #[.string (bs (lineT (ST.map Prod.fst)))] w' fun e w'' => e = .returned (.string (bs (lineT (ST.map Prod.snd)))) ∧ Below w'.heap.size w' w'') := hid fun w' h => by
      obtain ⟨d', hch⟩ := HCH.out
      obtain ⟨k1, k2⟩ := HNL.out
      refine RunScript_any ST d' w' h hch ?_ ?_ ?_ ?_
      · rw [← hST]; show 8 ≤ 99; omega
      · rw [← hST]; intro q hq; simp only [List.mem_cons, List.not_mem_nil, or_false] at hq; rcases hq with rfl | rfl | rfl | rfl | rfl | rfl | rfl | rfl <;> simp [k1, k2]
      · rw [← hST]; simp [lineT]; omega
      · rw [← hST]; simp [lineT]; omega
    clear hST HCH HNL
    go_wp2_with fail
    refine (FormatMass_any s _ _ _ xs _ (him.below (by (repeat (first | exact Below.refl _ _ | assumption | refine Below.alloc ?_ (by first | omega | (simp <;> omega)) _ | refine Below.setCell ?_ (by first | omega | (simp <;> omega)) _ | refine Below.drew ?_ | refine below_drewN ?_)))) ((HV.out.below hB).below (by (repeat (first | exact Below.refl _ _ | assumption | refine Below.alloc ?_ (by first | omega | (simp <;> omega)) _ | refine Below.setCell ?_ (by first | omega | (simp <;> omega)) _ | refine Below.drew ?_ | refine below_drewN ?_))))).mono ?_; rw [HTM.out]; rintro e w7 ⟨rfl, hb⟩
    have fS0 := keep hb (a := ⟨w6.heap.size, 0, none⟩) (v := .int .i64 fS.num) (by simp)
    have fS1 := keep hb (a := ⟨w6.heap.size, 1, none⟩) (v := .int .i64 fS.den) (by simp)
    have hN6 : w6.heap.size < w7.heap.size := by have := World.block_lt_of_cell? w7 _ fS0; simpa using this
    have hd : Below w6.heap.size w6 w7 := Below.trans (by (repeat (first | exact Below.refl _ _ | assumption | refine Below.alloc ?_ (by first | omega | (simp <;> omega)) _ | refine Below.setCell ?_ (by first | omega | (simp <;> omega)) _ | refine Below.drew ?_ | refine below_drewN ?_))) (hb.mono (by simp <;> omega))
    replace mm0 := keep hd mm0
    replace mm1 := keep hd mm1
    replace fK0 := keep hd fK0
    replace fK1 := keep hd fK1
    replace fW0 := keep hd fW0
    replace fW1 := keep hd fW1
    replace fP0 := keep hd fP0
    replace fP1 := keep hd fP1
    replace fC0 := keep hd fC0
    replace fC1 := keep hd fC1
    replace him := him.below hd
    replace hB := chain hB hd
    have hs7 := hd.size
    clear hb hd
    go_wp2_with fail
    refine (FormatSet_any q _ hq16).mono ?_; rw [HTS.out]; rintro e w8 ⟨rfl, hb⟩
    have hd := hb
    replace mm0 := keep hd mm0
    replace mm1 := keep hd mm1
    replace fK0 := keep hd fK0
    replace fK1 := keep hd fK1
    replace fW0 := keep hd fW0
    replace fW1 := keep hd fW1
    replace fP0 := keep hd fP0
    replace fP1 := keep hd fP1
    replace fC0 := keep hd fC0
    replace fC1 := keep hd fC1
    replace fS0 := keep hd fS0
    replace fS1 := keep hd fS1
    replace him := him.below hd
    replace hB := chain hB hd
    have hs8 := hd.size
    clear hb hd
    go_wp2
    rw [HTX.out]
    go_wp2_with fail
    have hlv := HV.out.below hB
    have HF1 : Hid (∀ (a : Option Addr) (n c : Nat) (w' : World), IntsAt w' a n X1 → LibV w' → Calls Tryz.prog 26 #[.slice a n c] w' fun e w'' => e = .returned (.string (bs N1)) ∧ Below w'.heap.size w' w'') := by
      refine hid fun a n c w' h1 h2 => ?_
      rw [← HN1.out]; exact implFormat_any a n c X1 w' h1 HI1.out (by have := h1.len; omega) h2.pow
    have HF2 : Hid (∀ (a : Option Addr) (n c : Nat) (w' : World), IntsAt w' a n X2 → LibV w' → Calls Tryz.prog 26 #[.slice a n c] w' fun e w'' => e = .returned (.string (bs N2)) ∧ Below w'.heap.size w' w'') := by
      refine hid fun a n c w' h1 h2 => ?_
      rw [← HN2.out]; exact implFormat_any a n c X2 w' h1 HI2.out (by have := h1.len; omega) h2.pow
    have HCO : Hid (∀ w', IntsAt w' am nm xs → Calls Tryz.prog 27 #[.agg #[.int .i64 s, .slice am nm cm]] w' fun e w'' => (∃ v, e = .returned v ∧ Row w'' w'.heap.size v X1) ∧ Below w'.heap.size w' w'') := hid fun w' h => by rw [← HX1.out]; exact ContourOf_of s _ _ _ xs w' h HM.out
    have HTA : Hid (∀ w', IntsAt w' am nm xs → Calls Tryz.prog 28 #[.agg #[.int .i64 s, .slice am nm cm], .string (ByteArray.mk #[99, 111, 109, 109, 111, 110])] w' fun e w'' => (∃ v, e = .returned v ∧ Row w'' w'.heap.size v X2) ∧ Below w'.heap.size w' w'') := hid fun w' h => by rw [← HX2.out]; exact TableOf_common s _ _ _ xs w' h HM.out
    refine wp_region_P (fun w' => Below w8.heap.size w8 w') (fun _ => True) 26 (by kernel_rfl) ?_
    change wpAnyP _ _ _ _ _ _ _ _ _ _ (World.drew _)
    have hS : Below w8.heap.size w8 (World.drew w8) := drew_below w8
    refine wpAnyP_takeS (i := 0) (v := ?_) rfl (by kernel_rfl) (by kernel_rfl) (by kernel_rfl) (fun _ _ _ h => h) (by decide) (Or.inl ⟨by rfl, fun w' hS' => ?_⟩) hS (fun _ => trivial) ?_
    rotate_left
    · have q0 := keep hS' fK0; have q1 := keep hS' fK1; go_simp; first | done | rfl
    simp only [Act.put]
    refine wpAnyP_takeS (i := 1) (v := ?_) rfl (by kernel_rfl) (by kernel_rfl) (by kernel_rfl) (fun _ _ _ h => h) (by decide) (Or.inl ⟨by rfl, fun w' hS' => ?_⟩) hS (fun _ => trivial) ?_
    rotate_left
    · go_simp; first | done | rfl
    simp only [Act.put]
    refine wpAnyP_takeS (i := 4) (v := ?_) rfl (by kernel_rfl) (by kernel_rfl) (by kernel_rfl) (fun _ _ _ h => h) (by decide) (Or.inl ⟨by rfl, fun w' hS' => ?_⟩) hS (fun _ => trivial) ?_
    rotate_left
    · have q0 := keep hS' fP0; have q1 := keep hS' fP1; go_simp; first | done | rfl
    simp only [Act.put]
    refine wpAnyP_takeS (i := 5) (v := ?_) rfl (by kernel_rfl) (by kernel_rfl) (by kernel_rfl) (fun _ _ _ h => h) (by decide) (Or.inl ⟨by rfl, fun w' hS' => ?_⟩) hS (fun _ => trivial) ?_
    rotate_left
    · go_simp; first | done | rfl
    simp only [Act.put]
    refine wpAnyP_takeS (i := 8) (v := ?_) rfl (by kernel_rfl) (by kernel_rfl) (by kernel_rfl) (fun _ _ _ h => h) (by decide) (Or.inl ⟨by rfl, fun w' hS' => ?_⟩) hS (fun _ => trivial) ?_
    rotate_left
    · have q0 := keep hS' fC0; have q1 := keep hS' fC1; go_simp; first | done | rfl
    simp only [Act.put]
    refine wpAnyP_takeS (i := 9) (v := ?_) rfl (by kernel_rfl) (by kernel_rfl) (by kernel_rfl) (fun _ _ _ h => h) (by decide) (Or.inl ⟨by rfl, fun w' hS' => ?_⟩) hS (fun _ => trivial) ?_
    rotate_left
    · go_simp; first | done | rfl
    simp only [Act.put]
    refine wpAnyP_takeS (i := 12) (v := ?_) rfl (by kernel_rfl) (by kernel_rfl) (by kernel_rfl) (fun _ _ _ h => h) (by decide) (Or.inl ⟨by rfl, fun w' hS' => ?_⟩) hS (fun _ => trivial) ?_
    rotate_left
    · have q0 := keep hS' fS0; have q1 := keep hS' fS1; go_simp; first | done | rfl
    simp only [Act.put]
    refine wpAnyP_takeS (i := 13) (v := ?_) rfl (by kernel_rfl) (by kernel_rfl) (by kernel_rfl) (fun _ _ _ h => h) (by decide) (Or.inl ⟨by rfl, fun w' hS' => ?_⟩) hS (fun _ => trivial) ?_
    rotate_left
    · go_simp; first | done | rfl
    simp only [Act.put]
    refine wpAnyP_takeS (i := 16) (v := ?_) rfl (by kernel_rfl) (by kernel_rfl) (by kernel_rfl) (fun _ _ _ h => h) (by decide) (Or.inl ⟨by rfl, fun w' hS' => ?_⟩) hS (fun _ => trivial) ?_
    rotate_left
    · have q0 := keep hS' mm0; have q1 := keep hS' mm1; go_simp; first | done | rfl
    simp only [Act.put]
    refine wpAnyP_takeS (i := 21) (v := ?_) rfl (by kernel_rfl) (by kernel_rfl) (by kernel_rfl) (fun _ _ _ h => h) (by decide) (Or.inl ⟨by rfl, fun w' hS' => ?_⟩) hS (fun _ => trivial) ?_
    rotate_left
    · have q0 := keep hS' mm0; have q1 := keep hS' mm1; go_simp; first | done | rfl
    simp only [Act.put]
    refine wpAnyP_step 2 rfl (by kernel_rfl) (by rfl) (fun K hK => ?_)
    go_simp
    refine (HWPW.out _ (hlv.below hS)).mono ?_; rintro e v1 ⟨rfl, hb1⟩
    go_simp
    have hS1 := chain hS hb1
    refine hK _ _ hS1 (fun _ => trivial) ?_
    clear hK K hS hb1
    have hS := hS1
    clear hS1
    refine wpAnyP_takeS (i := 3) (v := .string (ByteArray.mk #[111, 107, 10, 111, 107, 10] ++ bs (LW ++ [10]))) rfl (by kernel_rfl) (by kernel_rfl) (by kernel_rfl) (fun _ _ _ h => h) (by decide) (Or.inl ⟨by rfl, fun w' hS' => ?_⟩) hS (fun _ => trivial) ?_
    · go_simp; first | done | rfl | exact Nat.not_lt.1 kzo0 | (have hz := Nat.not_lt.1 kzo0; simpa using hz) | (simp only [ByteArray.size_append, bs_size, List.length_append, List.length_singleton]; omega)
    simp only [Act.put]
    refine wpAnyP_step 6 rfl (by kernel_rfl) (by rfl) (fun K hK => ?_)
    go_simp
    refine (HWPP.out _ (hlv.below hS)).mono ?_; rintro e v2 ⟨rfl, hb2⟩
    go_simp
    have hS2 := chain hS hb2
    refine hK _ _ hS2 (fun _ => trivial) ?_
    clear hK K hS hb2
    have hS := hS2
    clear hS2
    refine wpAnyP_takeS (i := 7) (v := .string (ByteArray.mk #[111, 107, 10, 111, 107, 10] ++ bs (LW ++ [10]) ++ bs (LP ++ [10]))) rfl (by kernel_rfl) (by kernel_rfl) (by kernel_rfl) (fun _ _ _ h => h) (by decide) (Or.inl ⟨by rfl, fun w' hS' => ?_⟩) hS (fun _ => trivial) ?_
    · go_simp; first | done | rfl | exact Nat.not_lt.1 kzo1 | (have hz := Nat.not_lt.1 kzo1; simpa using hz) | (simp only [ByteArray.size_append, bs_size, List.length_append, List.length_singleton]; omega)
    simp only [Act.put]
    refine wpAnyP_step 10 rfl (by kernel_rfl) (by rfl) (fun K hK => ?_)
    go_simp
    refine (HWPC.out _ (hlv.below hS)).mono ?_; rintro e v3 ⟨rfl, hb3⟩
    go_simp
    have hS3 := chain hS hb3
    refine hK _ _ hS3 (fun _ => trivial) ?_
    clear hK K hS hb3
    have hS := hS3
    clear hS3
    refine wpAnyP_takeS (i := 11) (v := .string (ByteArray.mk #[111, 107, 10, 111, 107, 10] ++ bs (LW ++ [10]) ++ bs (LP ++ [10]) ++ bs (LC ++ [10]))) rfl (by kernel_rfl) (by kernel_rfl) (by kernel_rfl) (fun _ _ _ h => h) (by decide) (Or.inl ⟨by rfl, fun w' hS' => ?_⟩) hS (fun _ => trivial) ?_
    · go_simp; first | done | rfl | exact Nat.not_lt.1 kzo2 | (have hz := Nat.not_lt.1 kzo2; simpa using hz) | (simp only [ByteArray.size_append, bs_size, List.length_append, List.length_singleton]; omega)
    simp only [Act.put]
    refine wpAnyP_step 14 rfl (by kernel_rfl) (by rfl) (fun K hK => ?_)
    go_simp
    refine (HWPS.out _ (hlv.below hS)).mono ?_; rintro e v4 ⟨rfl, hb4⟩
    go_simp
    have hS4 := chain hS hb4
    refine hK _ _ hS4 (fun _ => trivial) ?_
    clear hK K hS hb4
    have hS := hS4
    clear hS4
    refine wpAnyP_takeS (i := 15) (v := .string (ByteArray.mk #[111, 107, 10, 111, 107, 10] ++ bs (LW ++ [10]) ++ bs (LP ++ [10]) ++ bs (LC ++ [10]) ++ bs (LS ++ [10]))) rfl (by kernel_rfl) (by kernel_rfl) (by kernel_rfl) (fun _ _ _ h => h) (by decide) (Or.inl ⟨by rfl, fun w' hS' => ?_⟩) hS (fun _ => trivial) ?_
    · go_simp; first | done | rfl | exact Nat.not_lt.1 kzo3 | (have hz := Nat.not_lt.1 kzo3; simpa using hz) | (simp only [ByteArray.size_append, bs_size, List.length_append, List.length_singleton]; omega)
    simp only [Act.put]
    refine wpAnyP_step 17 rfl (by kernel_rfl) (by rfl) (fun K hK => ?_)
    go_simp
    refine (HCO.out _ (him.below hS)).mono ?_; rintro e v5 ⟨⟨u5, rfl, hr5⟩, hb5⟩
    obtain ⟨a5, n5, c5, rfl, hi5⟩ := hr5.ints
    go_simp
    have hS5 := chain hS hb5
    refine hK _ _ hS5 (fun _ => trivial) ?_
    clear hK K hS hb5
    have hS := hS5
    clear hS5
    refine wpAnyP_step 18 rfl (by kernel_rfl) (by rfl) (fun K hK => ?_)
    go_simp
    refine (HF1.out _ _ _ _ hi5 (hlv.below hS)).mono ?_; rintro e v6 ⟨rfl, hb6⟩
    go_simp
    have hS6 := chain hS hb6
    refine hK _ _ hS6 (fun _ => trivial) ?_
    clear hK K hS hb6
    have hS := hS6
    clear hS6
    refine wpAnyP_takeS (i := 19) (v := .string (ByteArray.mk #[111, 107, 10, 111, 107, 10] ++ bs (LW ++ [10]) ++ bs (LP ++ [10]) ++ bs (LC ++ [10]) ++ bs (LS ++ [10]) ++ bs N1)) rfl (by kernel_rfl) (by kernel_rfl) (by kernel_rfl) (fun _ _ _ h => h) (by decide) (Or.inl ⟨by rfl, fun w' hS' => ?_⟩) hS (fun _ => trivial) ?_
    · go_simp; first | done | rfl | exact Nat.not_lt.1 kzo4 | (have hz := Nat.not_lt.1 kzo4; simpa using hz) | (simp only [ByteArray.size_append, bs_size, List.length_append, List.length_singleton]; omega)
    simp only [Act.put]
    refine wpAnyP_takeS (i := 20) (v := .string (ByteArray.mk #[111, 107, 10, 111, 107, 10] ++ bs (LW ++ [10]) ++ bs (LP ++ [10]) ++ bs (LC ++ [10]) ++ bs (LS ++ [10]) ++ bs N1 ++ ByteArray.mk #[10])) rfl (by kernel_rfl) (by kernel_rfl) (by kernel_rfl) (fun _ _ _ h => h) (by decide) (Or.inl ⟨by rfl, fun w' hS' => ?_⟩) hS (fun _ => trivial) ?_
    · go_simp; first | done | rfl | exact Nat.not_lt.1 kzo5 | (have hz := Nat.not_lt.1 kzo5; simpa using hz) | (simp only [ByteArray.size_append, bs_size, List.length_append, List.length_singleton]; omega)
    simp only [Act.put]
    refine wpAnyP_step 22 rfl (by kernel_rfl) (by rfl) (fun K hK => ?_)
    go_simp
    refine (HTA.out _ (him.below hS)).mono ?_; rintro e v7 ⟨⟨u7, rfl, hr7⟩, hb7⟩
    obtain ⟨a7, n7, c7, rfl, hi7⟩ := hr7.ints
    go_simp
    have hS7 := chain hS hb7
    refine hK _ _ hS7 (fun _ => trivial) ?_
    clear hK K hS hb7
    have hS := hS7
    clear hS7
    refine wpAnyP_step 23 rfl (by kernel_rfl) (by rfl) (fun K hK => ?_)
    go_simp
    refine (HF2.out _ _ _ _ hi7 (hlv.below hS)).mono ?_; rintro e v8 ⟨rfl, hb8⟩
    go_simp
    have hS8 := chain hS hb8
    refine hK _ _ hS8 (fun _ => trivial) ?_
    clear hK K hS hb8
    have hS := hS8
    clear hS8
    refine wpAnyP_takeS (i := 24) (v := .string (ByteArray.mk #[111, 107, 10, 111, 107, 10] ++ bs (LW ++ [10]) ++ bs (LP ++ [10]) ++ bs (LC ++ [10]) ++ bs (LS ++ [10]) ++ bs N1 ++ ByteArray.mk #[10] ++ bs N2)) rfl (by kernel_rfl) (by kernel_rfl) (by kernel_rfl) (fun _ _ _ h => h) (by decide) (Or.inl ⟨by rfl, fun w' hS' => ?_⟩) hS (fun _ => trivial) ?_
    · go_simp; first | done | rfl | exact Nat.not_lt.1 kzo6 | (have hz := Nat.not_lt.1 kzo6; simpa using hz) | (simp only [ByteArray.size_append, bs_size, List.length_append, List.length_singleton]; omega)
    simp only [Act.put]
    refine wpAnyP_takeS (i := 25) (v := .string (ByteArray.mk #[111, 107, 10, 111, 107, 10] ++ bs (LW ++ [10]) ++ bs (LP ++ [10]) ++ bs (LC ++ [10]) ++ bs (LS ++ [10]) ++ bs N1 ++ ByteArray.mk #[10] ++ bs N2 ++ ByteArray.mk #[10])) rfl (by kernel_rfl) (by kernel_rfl) (by kernel_rfl) (fun _ _ _ h => h) (by decide) (Or.inl ⟨by rfl, fun w' hS' => ?_⟩) hS (fun _ => trivial) ?_
    · go_simp; first | done | rfl | exact Nat.not_lt.1 kzo7 | (have hz := Nat.not_lt.1 kzo7; simpa using hz) | (simp only [ByteArray.size_append, bs_size, List.length_append, List.length_singleton]; omega)
    simp only [Act.put]
    refine wpAnyP_step 26 rfl (by kernel_rfl) (by rfl) (fun K hK => ?_)
    go_simp
    refine hK _ _ hS (fun _ => trivial) ?_
    clear hK K
    refine wpAnyP_done (by kernel_rfl) ?_ _
    rw [HOX.out]
    obtain ⟨w9, rfl⟩ : ∃ q : World, q = v8 := ⟨_, rfl⟩
    clear hlv
    have hd := hS
    replace mm0 := keep hd mm0
    replace mm1 := keep hd mm1
    replace fK0 := keep hd fK0
    replace fK1 := keep hd fK1
    replace fW0 := keep hd fW0
    replace fW1 := keep hd fW1
    replace fP0 := keep hd fP0
    replace fP1 := keep hd fP1
    replace fC0 := keep hd fC0
    replace fC1 := keep hd fC1
    replace fS0 := keep hd fS0
    replace fS1 := keep hd fS1
    replace him := him.below hd
    replace hB := chain hB hd
    have hs9 := hd.size
    clear hS hd
    have hse : ((bs (lineT (ST.map Prod.snd))).toList == (bs (lineT (ST.map Prod.snd))).toList) = true := beq_self_eq_true _
    go_wp2_with fail
    refine (HRUN.out _ (HV.out.below hB)).mono ?_; rintro e w10 ⟨rfl, hb⟩
    have hd := hb
    replace mm0 := keep hd mm0
    replace mm1 := keep hd mm1
    replace fK0 := keep hd fK0
    replace fK1 := keep hd fK1
    replace fW0 := keep hd fW0
    replace fW1 := keep hd fW1
    replace fP0 := keep hd fP0
    replace fP1 := keep hd fP1
    replace fC0 := keep hd fC0
    replace fC1 := keep hd fC1
    replace fS0 := keep hd fS0
    replace fS1 := keep hd fS1
    replace him := him.below hd
    replace hB := chain hB hd
    have hs10 := hd.size
    clear hb hd
    go_wp2
    go_ret
    exact ⟨rfl, hB⟩
end Go.Proofs.YtlelnnglpimgjaaGreatDoor
