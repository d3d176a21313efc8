/- The law FnScriptCorners: its walk (printed by scriptgen.py). -/
import Derived.Test.YtdkgomlpadeleaaGreatDoorD13
import Derived.Test.YtdkgomlpadeleaaGreatDoorE3
import Derived.Test.YtdkgomlpadeleaaGreatDoorU7
set_option linter.unusedSimpArgs false
set_option linter.unusedVariables false
namespace Go.Proofs.YtdkgomlpadeleaaGreatDoor
open Go.RowKit
theorem mkbs (l : Array UInt8) : ByteArray.mk l = bs l.toList := rfl
theorem tellM_len (r : MR) : (tellM r).length ≤ 220 := by
  unfold tellM; split
  · exact massT_len _ _
  · simp
theorem iMassValid_any (s : Int) (ao : Option Addr) (n c : Nat) (xs : List Int) (w : World) (hx : IntsAt w ao n xs) :
    Calls Tryz.prog 9 #[.agg #[.int .i64 s, .slice ao n c]] w fun e w' => e = .returned (.bool (massOk s xs)) ∧ Below w.heap.size w w' := by
  go_enter Tryz.func9, Tryz.ntmps9
  go_wp2_with fail
  refine (isMass_any _ _ _ _ xs _ (hx.below (by (repeat (first | exact Below.refl _ _ | assumption | refine Below.alloc ?_ (by first | omega | (simp <;> omega)) _ | refine Below.setCell ?_ (by first | omega | (simp <;> omega)) _ | refine Below.drew ?_ | refine below_drewN ?_))))).mono ?_; rintro e w1 ⟨rfl, hb1⟩
  go_wp2
  go_ret
  exact ⟨rfl, Below.trans (by (repeat (first | exact Below.refl _ _ | assumption | refine Below.alloc ?_ (by first | omega | (simp <;> omega)) _ | refine Below.setCell ?_ (by first | omega | (simp <;> omega)) _ | refine Below.drew ?_ | refine below_drewN ?_))) (hb1.mono (by simp <;> omega))⟩
/-- a line, or no -/
theorem weLine_any (l : List UInt8) (ok : Bool) (w : World) (hl : l.length ≤ 100000) :
    Calls Tryz.prog 13 #[.string (bs l), .bool ok] w fun e w' => e = .returned (.string (bs ((if ok then l else [110, 111]) ++ [10]))) ∧ w = w' := by
  have kz : ¬ 9223372036854775807 < (bs l).size + (ByteArray.mk #[10]).size := by simp only [bs_size]; simp [ByteArray.size]; omega
  cases ok
  · go_enter Tryz.func13, Tryz.ntmps13
    go_wp2
    go_ret
    exact ⟨rfl, rfl⟩
  · have HE : Hid (bs l ++ ByteArray.mk #[10] = bs (l ++ [10])) := by rw [Hid, mkbs, bs_append]
    go_enter Tryz.func13, Tryz.ntmps13
    go_wp2
    go_ret
    exact ⟨by rw [HE.out]; rfl, rfl⟩
theorem weLine_of (r : MR) (w : World) :
    Calls Tryz.prog 13 #[.string (bs (massT r.size r.parts)), .bool r.ok] w fun e w' => e = .returned (.string (bs (tellM r ++ [10]))) ∧ Below w.heap.size w w' :=
  (weLine_any _ r.ok w (by have := massT_len r.size r.parts; omega)).mono fun e w' ⟨he, hw⟩ => ⟨by rw [he]; rfl, by subst hw; exact Below.refl _ _⟩
theorem corners_none {s : Int} {xs : List Int} (h : normalOk s xs = false) : cornersL s xs = [] := by unfold cornersL; rw [h]; rfl
set_option maxRecDepth 100000 in
set_option maxHeartbeats 16000000 in
theorem FnScriptCorners_walk (ao : Option Addr) (n c : Nat) (w : World) (hx : n ≤ 1048576 → BytesIn w w.heap.size ao n) (hnc : n ≤ c) (hcap : n ≤ 9223372036854775807)
    (hP : Pow w) (hSE : ∃ tp p, w.var? Tryz.prog "strconv.ErrSyntax" = some #[.iface tp p]) (hRE : ∃ tp p, w.var? Tryz.prog "strconv.ErrRange" = some #[.iface tp p]) (hsh : w.ShapedOpen Tryz.prog) :
    Calls Tryz.prog 4 #[.slice ao n c] w fun e w' => e = .returned (.bool true) ∧ Below w.heap.size w w' := by
  have HV := hid (libV_of w hP hSE hRE hsh)
  clear hP hSE hRE hsh
  by_cases hn : 1048576 < n
  · go_enter Tryz.func4, Tryz.ntmps4
    go_wp2
    go_ret
    exact ⟨rfl, Below.refl _ _⟩
  have HX := hid (hx (by omega))
  clear hx
  go_enter Tryz.func4, Tryz.ntmps4
  have hB := Below.refl w.heap.size w
  go_wp2_with fail
  refine (DrawCornersOf_any ao n c _ HX.out hnc).mono ?_; rintro e w1 ⟨⟨s, p, xs, rfl, hr, hlx⟩, hb⟩
  have hd := hb
  replace hB := chain hB hd
  have hs1 := hd.size
  clear hb hd
  obtain ⟨am, nm, cm, rfl, him⟩ := hr.ints
  clear hr
  go_wp2_with fail
  refine (iCornersOf_any s _ _ _ xs _ (him.below (by (repeat (first | exact Below.refl _ _ | assumption | refine Below.alloc ?_ (by first | omega | (simp <;> omega)) _ | refine Below.setCell ?_ (by first | omega | (simp <;> omega)) _ | refine Below.drew ?_ | refine below_drewN ?_))))).mono ?_; rintro e w2 ⟨⟨vc, rfl, hmo⟩, hb⟩
  have mm0 := keep hb (a := ⟨w1.heap.size, 0, none⟩) (v := .int .i64 s) (by simp)
  have mm1 := keep hb (a := ⟨w1.heap.size, 1, none⟩) (v := .slice am nm cm) (by simp)
  have hN1 : w1.heap.size < w2.heap.size := by have := World.block_lt_of_cell? w2 _ mm0; simpa using this
  have hd : Below w1.heap.size w1 w2 := Below.trans (by (repeat (first | exact Below.refl _ _ | assumption | refine Below.alloc ?_ (by first | omega | (simp <;> omega)) _ | refine Below.setCell ?_ (by first | omega | (simp <;> omega)) _ | refine Below.drew ?_ | refine below_drewN ?_))) (hb.mono (by simp <;> omega))
  replace him := him.below hd
  replace hB := chain hB hd
  have hs2 := hd.size
  clear hb hd
  obtain ⟨ac, cc, he, hat⟩ := hmo.form
  subst he
  clear hmo
  obtain ⟨C, HC⟩ : ∃ C, Hid (cornersL s xs = C) := ⟨_, rfl⟩
  obtain ⟨Q, HQ⟩ : ∃ Q, Hid (C.length = Q) := ⟨_, rfl⟩
  rw [HC.out, HQ.out] at hat ⊢
  have hQ24 : Q ≤ 24 := by rw [← HQ.out, ← HC.out]; exact corners_len _ _
  go_wp2_with fail
  refine (CornersOf_any s _ _ _ xs _ him).mono ?_; rintro e w3 ⟨⟨vc2, rfl, hmo⟩, hb⟩
  have hd := hb
  replace mm0 := keep hd mm0
  replace mm1 := keep hd mm1
  replace him := him.below hd
  replace hat := hat.below hd
  replace hB := chain hB hd
  have hs3 := hd.size
  clear hb hd
  obtain ⟨ac2, cc2, he, hat2⟩ := hmo.form
  subst he
  clear hmo
  rw [HC.out, HQ.out] at hat2 ⊢
  cases hno : normalOk s xs
  · have hQ0 : Q = 0 := by rw [← HQ.out, ← HC.out, corners_none hno]; rfl
    subst hQ0
    go_wp2
    go_ret
    exact ⟨rfl, hB⟩
  · have hQ1 : 1 ≤ Q := by rw [← HQ.out, ← HC.out]; exact corners_some hno
    have hq0 : ((Q : Int) == 0) = false := by rw [beq_eq_false_iff_ne]; omega
    have HNO := hid hno
    have HMO := hid (norm_facts hno).1
    clear hno
    have HLN : Hid (∀ k, (lineT ((C.take k).map (massT s))).length ≤ 221 * 24) := fun k => by
      have h1 := lineT_masses s (C.take k)
      have h2 : (C.take k).length ≤ C.length := by rw [List.length_take]; omega
      have h3 := HQ.out
      omega
    go_wp2
    have HVk := hid (HV.out.below hB)
    go_loopw [6, 7] (fun r1 i wr => ∃ k : Nat, k ≤ Q ∧ i = .int .i64 k ∧ r1 = .string (bs (lineT ((C.take k).map (massT s)))) ∧ Below w3.heap.size w3 wr) (fun _ i _ => Q - (intOf i).toNat)
    case atStart => exact ⟨0, by omega, rfl, rfl, Below.refl _ _⟩
    case round =>
      obtain ⟨k, hk, rfl, rfl, hBr⟩ := hrel
      obtain ⟨w4, rfl⟩ : ∃ q : World, q = wr := ⟨_, rfl⟩
      replace mm0 := keep hBr mm0
      replace mm1 := keep hBr mm1
      replace him := him.below hBr
      replace hat := hat.below hBr
      replace hat2 := hat2.below hBr
      have hB0k := hB
      have hswk := hB.size
      have hsr := hBr.size
      clear hB
      have hB := hBr
      clear hBr
      by_cases hlt : k < Q
      · have hk0 : (0 : Int) ≤ (k : Int) := by omega
        have hk1 : (k : Int) < (Q : Int) := by omega
        obtain ⟨b1, a1, n1, c1, e1, _, hbb, hc0, hc1, hi1⟩ := hat.at (Below.refl _ _) hlt
        subst e1
        have hkl : k < C.length := by rw [HQ.out]; exact hlt
        have HT : Hid (lineT ((C.take (k + 1)).map (massT s)) = lineT ((C.take k).map (massT s)) ++ (massT s (nthL C k) ++ [10])) := by
          rw [Hid, List.take_add_one, List.getElem?_eq_getElem hkl, List.map_append, lineT_app]
          congr 1
          rw [show C[k] = nthL C k by unfold nthL; rw [List.getD_eq_getElem?_getD, List.getElem?_eq_getElem hkl]; rfl]; rfl
        have hle := HLN.out k
        have hmt := massT_len s (nthL C k)
        obtain ⟨P, hP⟩ : ∃ P, nthL C k = P := ⟨_, rfl⟩
        rw [hP] at hi1 HT hmt
        obtain ⟨O, hO⟩ : ∃ O, lineT ((C.take k).map (massT s)) = O := ⟨_, rfl⟩
        rw [hO] at HT hle ⊢
        obtain ⟨TP, HTP⟩ : ∃ T, Hid (massT s P = T) := ⟨_, rfl⟩
        rw [HTP.out] at HT hmt
        have HT2 : Hid (bs (lineT ((C.take (k + 1)).map (massT s))) = bs O ++ bs TP ++ ByteArray.mk #[10]) := by rw [Hid, HT.out]; simp only [mkbs, bs_append]; congr 1 <;> simp
        have kzl0 : ¬ 9223372036854775807 < (bs O).size + (bs TP).size := by
          simp only [ByteArray.size_append, bs_size, List.length_append, List.length_singleton]; omega
        have kzl1 : ¬ 9223372036854775807 < (bs O ++ bs TP).size + (ByteArray.mk #[10]).size := by
          have z0 : (ByteArray.mk #[10]).size = 1 := rfl
          simp only [ByteArray.size_append, bs_size, List.length_append, List.length_singleton, z0]; omega
        clear hkl hP hO HT
        go_wp2_with fail
        refine (FormatMass_any s _ _ _ P _ hi1 (HVk.out.below hB)).mono ?_; rw [HTP.out]; rintro e w5 ⟨rfl, hb⟩
        have hd := hb
        replace mm0 := keep hd mm0
        replace mm1 := keep hd mm1
        replace hc0 := keep hd hc0
        replace hc1 := keep hd hc1
        replace him := him.below hd
        replace hat := hat.below hd
        replace hat2 := hat2.below hd
        replace hi1 := hi1.below hd
        replace hB := chain hB hd
        have hs5 := hd.size
        clear hb hd
        go_wp2
        go_roundw
        case rel => first | exact ⟨k + 1, by omega, by go_num, by rw [HT2.out], hB⟩ | exact ⟨_, ⟨k + 1, by omega, by go_num, by rw [HT2.out], hB⟩, rfl⟩ | exact ⟨_, _, ⟨k + 1, by omega, by go_num, by rw [HT2.out], hB⟩, rfl, rfl⟩ | exact ⟨_, _, _, ⟨k + 1, by omega, by go_num, by rw [HT2.out], hB⟩, rfl, rfl, rfl⟩ | exact ⟨_, _, _, _, ⟨k + 1, by omega, by go_num, by rw [HT2.out], hB⟩, rfl, rfl, rfl, rfl⟩ | exact ⟨_, _, _, _, _, ⟨k + 1, by omega, by go_num, by rw [HT2.out], hB⟩, rfl, rfl, rfl, rfl, rfl⟩
        case measure => simp [intOf]; omega
      · obtain rfl : k = Q := by omega
        replace hB := hB0k.trans (hB.mono hswk)
        have hall : C.take k = C := by rw [← HQ.out]; exact List.take_length
        have hle := HLN.out k
        rw [hall] at hle ⊢
        clear hall
        have hCne : C ≠ [] := by intro e; have := HQ.out; rw [e] at this; simp at this; omega
        have HCT : Hid (cornT s xs ++ [10] = lineT (C.map (massT s))) := by rw [Hid, ← cornT_line s hCne, ← HC.out]; rfl
        obtain ⟨O, hO⟩ : ∃ O, lineT (C.map (massT s)) = O := ⟨_, rfl⟩
        rw [hO] at HCT hle ⊢
        obtain ⟨CT, HCT2⟩ : ∃ T, Hid (cornT s xs = T) := ⟨_, rfl⟩
        rw [HCT2.out] at HCT
        clear hO hCne
        obtain ⟨rS, HS⟩ : ∃ r, Hid (shareM s xs = r) := ⟨_, rfl⟩
        go_wp2_with fail
        refine (SharedChance_any s _ _ _ xs _ him).mono ?_; rw [HS.out]; rintro e w5 ⟨⟨vS, rfl, hrS⟩, hb⟩
        obtain ⟨aS, nS, cS, rfl, hiS⟩ := hrS.ints
        clear hrS
        have hd := hb
        replace mm0 := keep hd mm0
        replace mm1 := keep hd mm1
        replace him := him.below hd
        replace hat := hat.below hd
        replace hat2 := hat2.below hd
        replace hB := chain hB hd
        have hs5 := hd.size
        clear hb hd
        obtain ⟨TM, HTM⟩ : ∃ T, Hid (massT s xs = T) := ⟨_, rfl⟩
        have hlM : TM.length ≤ 220 := by rw [← HTM.out]; exact massT_len _ _
        obtain ⟨TS, HTS⟩ : ∃ T, Hid (massT rS.size rS.parts = T) := ⟨_, rfl⟩
        have hlS : TS.length ≤ 220 := by rw [← HTS.out]; exact massT_len _ _
        obtain ⟨LS, HLS⟩ : ∃ T, Hid (tellM rS = T) := ⟨_, rfl⟩
        have hmS : LS.length ≤ 220 := by rw [← HLS.out]; exact tellM_len _
        have HWLS : Hid (∀ w', Calls Tryz.prog 13 #[.string (bs TS), .bool rS.ok] w' fun e w'' => e = .returned (.string (bs (LS ++ [10]))) ∧ Below w'.heap.size w' w'') := fun w' => by rw [← HTS.out, ← HLS.out]; exact weLine_of rS w'
        have kzt0 : ¬ 9223372036854775807 < (ByteArray.mk #[108, 101, 102, 116, 32]).size + (bs TM).size := by
          have z0 : (ByteArray.mk #[108, 101, 102, 116, 32]).size = 5 := rfl
          simp only [ByteArray.size_append, bs_size, List.length_append, List.length_singleton, z0]; omega
        have kzt1 : ¬ 9223372036854775807 < (ByteArray.mk #[108, 101, 102, 116, 32] ++ bs TM).size + (ByteArray.mk #[10, 99, 111, 114, 110, 101, 114, 115, 10, 101, 120, 99, 104, 97, 110, 103, 101, 10, 101, 120, 99, 104, 97, 110, 103, 101, 10, 115, 104, 97, 114, 101, 100, 10]).size := by
          have z0 : (ByteArray.mk #[108, 101, 102, 116, 32]).size = 5 := rfl
          have z1 : (ByteArray.mk #[10, 99, 111, 114, 110, 101, 114, 115, 10, 101, 120, 99, 104, 97, 110, 103, 101, 10, 101, 120, 99, 104, 97, 110, 103, 101, 10, 115, 104, 97, 114, 101, 100, 10]).size = 34 := rfl
          simp only [ByteArray.size_append, bs_size, List.length_append, List.length_singleton, z0, z1]; omega
        have kzo0 : ¬ 9223372036854775807 < (ByteArray.mk #[111, 107, 10]).size + (bs O).size := by
          have z0 : (ByteArray.mk #[111, 107, 10]).size = 3 := rfl
          simp only [ByteArray.size_append, bs_size, List.length_append, List.length_singleton, z0]; omega
        have kzo1 : ¬ 9223372036854775807 < (ByteArray.mk #[111, 107, 10] ++ bs O).size + (ByteArray.mk #[50, 58, 97, 98, 32, 49, 10]).size := by
          have z0 : (ByteArray.mk #[111, 107, 10]).size = 3 := rfl
          have z1 : (ByteArray.mk #[50, 58, 97, 98, 32, 49, 10]).size = 7 := rfl
          simp only [ByteArray.size_append, bs_size, List.length_append, List.length_singleton, z0, z1]; omega
        have kzo2 : ¬ 9223372036854775807 < (ByteArray.mk #[111, 107, 10] ++ bs O ++ ByteArray.mk #[50, 58, 97, 98, 32, 49, 10]).size + (bs TM).size := by
          have z0 : (ByteArray.mk #[111, 107, 10]).size = 3 := rfl
          have z1 : (ByteArray.mk #[50, 58, 97, 98, 32, 49, 10]).size = 7 := rfl
          simp only [ByteArray.size_append, bs_size, List.length_append, List.length_singleton, z0, z1]; omega
        have kzo3 : ¬ 9223372036854775807 < (ByteArray.mk #[111, 107, 10] ++ bs O ++ ByteArray.mk #[50, 58, 97, 98, 32, 49, 10] ++ bs TM).size + (ByteArray.mk #[10]).size := by
          have z0 : (ByteArray.mk #[111, 107, 10]).size = 3 := rfl
          have z1 : (ByteArray.mk #[50, 58, 97, 98, 32, 49, 10]).size = 7 := rfl
          have z2 : (ByteArray.mk #[10]).size = 1 := rfl
          simp only [ByteArray.size_append, bs_size, List.length_append, List.length_singleton, z0, z1, z2]; omega
        have kzo4 : ¬ 9223372036854775807 < (ByteArray.mk #[111, 107, 10] ++ bs O ++ ByteArray.mk #[50, 58, 97, 98, 32, 49, 10] ++ bs TM ++ ByteArray.mk #[10]).size + (bs (LS ++ [10])).size := by
          have z0 : (ByteArray.mk #[111, 107, 10]).size = 3 := rfl
          have z1 : (ByteArray.mk #[50, 58, 97, 98, 32, 49, 10]).size = 7 := rfl
          have z2 : (ByteArray.mk #[10]).size = 1 := rfl
          simp only [ByteArray.size_append, bs_size, List.length_append, List.length_singleton, z0, z1, z2]; omega
        obtain ⟨ST, hST⟩ : ∃ S : List (List UInt8 × List UInt8), [([108, 101, 102, 116] ++ 32 :: TM, [111, 107]), ([99, 111, 114, 110, 101, 114, 115], CT), ([101, 120, 99, 104, 97, 110, 103, 101], [50, 58, 97, 98, 32, 49]), ([101, 120, 99, 104, 97, 110, 103, 101], TM), ([115, 104, 97, 114, 101, 100], LS)] = S := ⟨_, rfl⟩
        have HTX : Hid (ByteArray.mk #[108, 101, 102, 116, 32] ++ bs TM ++ ByteArray.mk #[10, 99, 111, 114, 110, 101, 114, 115, 10, 101, 120, 99, 104, 97, 110, 103, 101, 10, 101, 120, 99, 104, 97, 110, 103, 101, 10, 115, 104, 97, 114, 101, 100, 10] = bs (lineT (ST.map Prod.fst))) := by rw [Hid, ← hST]; simp only [mkbs, bs_append]; congr 1 <;> simp [lineT]
        have HOX : Hid (ByteArray.mk #[111, 107, 10] ++ bs O ++ ByteArray.mk #[50, 58, 97, 98, 32, 49, 10] ++ bs TM ++ ByteArray.mk #[10] ++ bs (LS ++ [10]) = bs (lineT (ST.map Prod.snd))) := by rw [Hid, ← hST, ← HCT.out]; simp only [mkbs, bs_append]; congr 1 <;> simp [lineT]
        have HCH : Hid (∃ d', Chain startD ST d') := by
          have h2 : massT 2 (sureP 2 3) = [50, 58, 97, 98, 32, 49] := by decide +kernel
          rw [Hid, ← hST, ← HLS.out, ← HTM.out, ← HCT2.out, ← HS.out, ← h2]
          exact ⟨_, Chain.cons (run_left _ HMO.out) (Chain.cons (run_plain (by decide) (by decide) (pl_corners _ HNO.out)) (Chain.cons (run_plain (by decide) (by decide) (pl_exchange _)) (Chain.cons (run_plain (by decide) (by decide) (pl_exchange _)) (Chain.cons (run_plain (by decide) (by decide) (pl_shared _)) (Chain.nil _)))))⟩
        have HNL : Hid ((10 : UInt8) ∉ TM) := by rw [Hid, ← HTM.out]; exact massT_line
        have hctl : CT.length ≤ 5304 := by have h1 := congrArg List.length HCT.out; rw [List.length_append] at h1; simp at h1; omega
        have HRUN : Hid (∀ w', LibV w' → Calls Tryz.prog 14 #[.string (bs (lineT (ST.map Prod.fst)))] w' fun e w'' => e = .returned (.string (bs (lineT (ST.map Prod.snd)))) ∧ Below w'.heap.size w' w'') := fun w' h => by
          obtain ⟨d', hch⟩ := HCH.out
          have k1 := HNL.out
          refine RunScript_any ST d' w' h hch ?_ ?_ ?_ ?_
          · rw [← hST]; show 5 ≤ 99; omega
          · rw [← hST]; intro q hq; simp only [List.mem_cons, List.not_mem_nil, or_false] at hq; rcases hq with rfl | rfl | rfl | rfl | rfl <;> simp [k1]
          · rw [← hST]; simp [lineT]; omega
          · rw [← hST]; simp [lineT]; omega
        clear hST HCH HNL HCT
        go_wp2_with fail
        refine (FormatMass_any s _ _ _ xs _ (him.below (by (repeat (first | exact Below.refl _ _ | assumption | refine Below.alloc ?_ (by first | omega | (simp <;> omega)) _ | refine Below.setCell ?_ (by first | omega | (simp <;> omega)) _ | refine Below.drew ?_ | refine below_drewN ?_)))) ((HV.out.below hB).below (by (repeat (first | exact Below.refl _ _ | assumption | refine Below.alloc ?_ (by first | omega | (simp <;> omega)) _ | refine Below.setCell ?_ (by first | omega | (simp <;> omega)) _ | refine Below.drew ?_ | refine below_drewN ?_))))).mono ?_; rw [HTM.out]; rintro e w6 ⟨rfl, hb⟩
        have mS0 := keep hb (a := ⟨w5.heap.size, 0, none⟩) (v := .int .i64 rS.size) (by simp)
        have mS1 := keep hb (a := ⟨w5.heap.size, 1, none⟩) (v := .slice aS nS cS) (by simp)
        have hN2 : w5.heap.size < w6.heap.size := by have := World.block_lt_of_cell? w6 _ mS0; simpa using this
        have hd : Below w5.heap.size w5 w6 := Below.trans (by (repeat (first | exact Below.refl _ _ | assumption | refine Below.alloc ?_ (by first | omega | (simp <;> omega)) _ | refine Below.setCell ?_ (by first | omega | (simp <;> omega)) _ | refine Below.drew ?_ | refine below_drewN ?_))) (hb.mono (by simp <;> omega))
        replace mm0 := keep hd mm0
        replace mm1 := keep hd mm1
        replace him := him.below hd
        replace hat := hat.below hd
        replace hat2 := hat2.below hd
        replace hiS := hiS.below hd
        replace hB := chain hB hd
        have hs6 := hd.size
        clear hb hd
        have HFM : Hid (∀ w', IntsAt w' am nm xs → LibV w' → Calls Tryz.prog 12 #[.agg #[.int .i64 s, .slice am nm cm]] w' fun e w'' => e = .returned (.string (bs TM)) ∧ Below w'.heap.size w' w'') := fun w' h1 h2 => by rw [← HTM.out]; exact FormatMass_any s _ _ _ xs w' h1 h2
        have HFS : Hid (∀ w', IntsAt w' aS nS rS.parts → LibV w' → Calls Tryz.prog 12 #[.agg #[.int .i64 rS.size, .slice aS nS cS]] w' fun e w'' => e = .returned (.string (bs TS)) ∧ Below w'.heap.size w' w'') := fun w' h1 h2 => by rw [← HTS.out]; exact FormatMass_any rS.size _ _ _ rS.parts w' h1 h2
        have hlv := HV.out.below hB
        go_wp2
        rw [HTX.out]
        go_wp2
        refine wp_region_ov (by kernel_rfl) (by kernel_rfl) ?_
        repeat (first | go_big_quiet_step ((first | (go_at_call 12; first | (with_reducible exact ov_call (HFM.out _ (him.below (ov_below _ _)) (hlv.below (ov_below _ _)))) | (with_reducible exact ov_call (HFS.out _ (hiS.below (ov_below _ _)) (hlv.below (ov_below _ _))))) | (go_at_call 13; (with_reducible exact ov_call (HWLS.out _))))) | quiet_step ((first | (go_at_call 12; first | (with_reducible exact ov_call (HFM.out _ (him.below (ov_below _ _)) (hlv.below (ov_below _ _)))) | (with_reducible exact ov_call (HFS.out _ (hiS.below (ov_below _ _)) (hlv.below (ov_below _ _))))) | (go_at_call 13; (with_reducible exact ov_call (HWLS.out _))))))
        refine wpQuiet_nil ?_
        intro _ hw_ov
        obtain ⟨x_ov, hw_ov2⟩ := hw_ov
        subst hw_ov2
        obtain ⟨wz, hw_ov3, hbz⟩ := ov_gen _ x_ov
        rw [hw_ov3]
        clear hw_ov3 x_ov
        rw [HOX.out]
        obtain ⟨w7, rfl⟩ : ∃ q : World, q = wz := ⟨_, rfl⟩
        clear hlv
        have hd := hbz
        replace mm0 := keep hd mm0
        replace mm1 := keep hd mm1
        replace mS0 := keep hd mS0
        replace mS1 := keep hd mS1
        replace him := him.below hd
        replace hat := hat.below hd
        replace hat2 := hat2.below hd
        replace hiS := hiS.below hd
        replace hB := chain hB hd
        have hs7 := hd.size
        clear hbz hd
        have hse : ((bs (lineT (ST.map Prod.snd))).toList == (bs (lineT (ST.map Prod.snd))).toList) = true := beq_self_eq_true _
        go_wp2_with fail
        refine (HRUN.out _ (HV.out.below hB)).mono ?_; rintro e w8 ⟨rfl, hb⟩
        have hd := hb
        replace mm0 := keep hd mm0
        replace mm1 := keep hd mm1
        replace mS0 := keep hd mS0
        replace mS1 := keep hd mS1
        replace him := him.below hd
        replace hat := hat.below hd
        replace hat2 := hat2.below hd
        replace hiS := hiS.below hd
        replace hB := chain hB hd
        have hs8 := hd.size
        clear hb hd
        go_wp2
        go_ret
        exact ⟨rfl, hB⟩
end Go.Proofs.YtdkgomlpadeleaaGreatDoor
