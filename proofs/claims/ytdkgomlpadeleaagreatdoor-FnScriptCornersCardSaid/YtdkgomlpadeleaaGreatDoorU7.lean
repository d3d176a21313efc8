/- Lines of a script: corners, exchange, shared. -/
import Derived.Test.YtdkgomlpadeleaaGreatDoorU5
import Derived.Test.YtdkgomlpadeleaaGreatDoorC6
import Derived.Test.YtdkgomlpadeleaaGreatDoorW21
set_option linter.unusedSimpArgs false
set_option linter.unusedVariables false
namespace Go.Proofs.YtdkgomlpadeleaaGreatDoor
open Go.RowKit
/-- what is told of corners -/
def cornT (s : Int) (xs : List Int) : List UInt8 := Lib.join ((cornersL s xs).map (massT s)) [10]
theorem cornT_line {C : List (List Int)} (s : Int) (h : C ≠ []) : Lib.join (C.map (massT s)) [10] ++ [10] = lineT (C.map (massT s)) := by
  induction C with
  | nil => exact absurd rfl h
  | cons x r ih =>
    cases r with
    | nil => rw [List.map_cons, List.map_nil, Lib.join_one]; rfl
    | cons y t =>
      have e : Lib.join ((x :: y :: t).map (massT s)) [10] = massT s x ++ ([10] ++ Lib.join ((y :: t).map (massT s)) [10]) := by
        rw [List.map_cons, List.map_cons, Lib.join_cons, Lib.join_cons]; simp [Lib.joinTail, List.append_assoc]
      rw [e, List.append_assoc, List.append_assoc, ih (by simp)]; rfl
theorem lineT_masses (s : Int) (C : List (List Int)) : (lineT (C.map (massT s))).length ≤ 221 * C.length := by
  induction C with
  | nil => simp [lineT]
  | cons x r ih =>
    have h := massT_len s x
    have e : lineT ((x :: r).map (massT s)) = massT s x ++ 10 :: lineT (r.map (massT s)) := rfl
    have e2 : (x :: r).length = r.length + 1 := rfl
    rw [e, List.length_append, List.length_cons, e2, Nat.mul_add]
    omega
set_option maxRecDepth 100000 in
set_option maxHeartbeats 4000000 in
theorem deskCorners_any (w0 w : World) (D : Nat) (d : DS) (hv : LibV w0) (hb : Below w0.heap.size w0 w) (hd : Desk w D d) (hn : normalOk d.s d.xs = true) :
    Calls Tryz.prog 202 #[.pointer (some ⟨D, 0, none⟩)] w fun e w' => e = .returned (.string (bs (cornT d.s d.xs))) ∧ Below w.heap.size w w' := by
  obtain ⟨am, nm, cm, h1, hrm, hnm⟩ := hd.m
  have h0 := hd.c0
  have hlt := hd.lt
  have hvw := hv.below hb
  have HC1 : Hid (1 ≤ (cornersL d.s d.xs).length ∧ (cornersL d.s d.xs).length ≤ 24) := ⟨corners_some hn, corners_len _ _⟩
  have HNE : Hid (cornT d.s d.xs = Lib.join ((cornersL d.s d.xs).map (massT d.s)) [10]) := rfl
  have HLL := hid (lineT_masses d.s (cornersL d.s d.xs))
  have HLJ : Hid (Lib.join ((cornersL d.s d.xs).map (massT d.s)) [10] ++ [10] = lineT ((cornersL d.s d.xs).map (massT d.s))) := cornT_line d.s (by intro e; have := HC1.out.1; rw [e] at this; simp at this)
  have HCO : Hid (∀ w', Below w.heap.size w w' → Calls Tryz.prog 16 #[.agg #[.int .i64 d.s, .slice am nm cm]] w' fun e w'' => (∃ v, e = .returned v ∧ MassesO w'' w'.heap.size v (cornersL d.s d.xs).length (fun _ => d.s) (nthL (cornersL d.s d.xs))) ∧ Below w'.heap.size w' w'') := fun w' h => iCornersOf_any d.s _ _ _ d.xs w' (hrm.view.below h)
  obtain ⟨s, hs⟩ : ∃ s, d.s = s := ⟨_, rfl⟩
  rw [hs] at h0 HC1 HNE HLL HLJ HCO ⊢
  obtain ⟨C, hC⟩ : ∃ C, cornersL s d.xs = C := ⟨_, rfl⟩
  rw [hC] at HC1 HNE HLL HLJ HCO
  obtain ⟨Q, hQ⟩ : ∃ Q, C.length = Q := ⟨_, rfl⟩
  rw [hQ] at HC1 HLL HCO
  have HQ := hid hQ
  clear hn hs hC hQ hd hrm
  go_enter Tryz.func202, Tryz.ntmps202
  go_wp2_with fail
  obtain ⟨q0, hq0⟩ : ∃ q : World, w.alloc (.cells #[] 9) = q := ⟨_, rfl⟩
  rw [hq0]
  have hbq : Below w.heap.size w q0 := by rw [← hq0]; exact below_alloc _ _
  have hsr0 : SRow q0 w.heap.size (.slice (some ⟨w.heap.size, 0, none⟩) 0 0) [] := by rw [← hq0]; exact SRow.lit _
  have hzq : w.heap.size < q0.heap.size := by rw [← hq0]; simp
  clear hq0
  refine (HCO.out q0 hbq).mono ?_; rintro e w2 ⟨⟨vc, rfl, hmo⟩, hb2⟩
  obtain ⟨ac, cc, rfl, hat⟩ := hmo.form
  clear hat
  have hB2 := chain hbq hb2
  have hsr2 := hsr0.below hb2
  have hz2 := hb2.size
  obtain ⟨G, hG⟩ : ∃ G, w.heap.size = G := ⟨_, rfl⟩
  replace hmo := hmo.mono (base' := G + 1) (by omega)
  have hGw := hG
  rw [hG] at hsr2 hzq ⊢
  clear hb2 hsr0 hbq
  go_wp2
  go_loopw [3, 5, 13] (fun ws u i wr => ∃ (k g cp : Nat), k ≤ Q ∧ i = .int .i64 k ∧ ws = .slice (some ⟨g, 0, none⟩) k cp ∧ SRow wr G (.slice (some ⟨g, 0, none⟩) k cp) ((C.take k).map fun p => bs (massT s p)) ∧ Span G (G + 1) w2 wr ∧ (g = G ∨ w2.heap.size ≤ g)) (fun _ _ i _ => Q - (intOf i).toNat)
  case atStart => exact ⟨0, G, 0, by omega, rfl, rfl, hsr2, Span.refl _ _ _, .inl rfl⟩
  case round =>
    obtain ⟨k, g, cp, hk, rfl, rfl, hrow, hsp, hgg⟩ := hrel
    have hB : Below w.heap.size w wr := Span.below hB2 hB2.size hsp (by omega)
    have hzr := hsp.size
    have hvr := hvw.below hB
    by_cases hlq : k < Q
    · have hk0 : (0 : Int) ≤ (k : Int) := by omega
      have hk1 : (k : Int) < (Q : Int) := by omega
      have hmr := hmo.span hsp (Nat.le_refl _)
      obtain ⟨ac2, cc2, e2, hat⟩ := hmr.form
      injection e2 with e2 _ e3
      subst e2 e3
      obtain ⟨b1, a1, n1, c1, e1, _, hbb, hc0, hc1, hi1⟩ := hat.at (Below.refl _ _) hlq
      subst e1
      have hkl : k < C.length := by rw [HQ.out]; exact hlq
      have HT : Hid ((C.take (k + 1)).map (fun p => bs (massT s p)) = ((C.take k).map fun p => bs (massT s p)) ++ [bs (massT s (nthL C k))]) := by
        rw [Hid, List.take_add_one, List.getElem?_eq_getElem hkl, List.map_append]
        congr 2
        show [bs (massT s C[k])] = _
        rw [show C[k] = nthL C k by unfold nthL; rw [List.getD_eq_getElem?_getD, List.getElem?_eq_getElem hkl]; rfl]
      obtain ⟨P, hP⟩ : ∃ P, nthL C k = P := ⟨_, rfl⟩
      rw [hP] at hi1 HT
      have hlk : ((C.take k).map fun p => bs (massT s p)).length = k := by rw [List.length_map, List.length_take]; omega
      have hQ24 := HC1.out.2
      clear hkl hP hmr hat
      go_wp2_with fail
      refine (FormatMass_any s _ _ _ P _ (hi1.below (by (repeat (first | exact Below.refl _ _ | assumption | refine Below.alloc ?_ (by first | omega | (simp <;> omega)) _ | refine Below.setCell ?_ (by first | omega | (simp <;> omega)) _ | refine Below.drew ?_ | refine below_drewN ?_)))) (hvr.below (by (repeat (first | exact Below.refl _ _ | assumption | refine Below.alloc ?_ (by first | omega | (simp <;> omega)) _ | refine Below.setCell ?_ (by first | omega | (simp <;> omega)) _ | refine Below.drew ?_ | refine below_drewN ?_))))).mono ?_; rintro e w5 ⟨rfl, hb5⟩
      have hb5' : Below wr.heap.size wr w5 := Below.trans (by (repeat (first | exact Below.refl _ _ | assumption | refine Below.alloc ?_ (by first | omega | (simp <;> omega)) _ | refine Below.setCell ?_ (by first | omega | (simp <;> omega)) _ | refine Below.drew ?_ | refine below_drewN ?_))) (hb5.mono (by simp <;> omega))
      have hrow5 := hrow.below hb5'
      have hz5 := hb5'.size
      go_wp2_with (at_builtin; refine wpList_append_str2 rfl _ _ rfl G _ _ k hlk (by rfl) (hrow5.below (below_alloc w5 _)) _ _ (bs (massT s P)) (by rfl) (by simp) (by omega) (by simp; omega) ?_; intro g' c' w' hrow' hgrow hgn)
      have hsp5 : Span G (G + 1) w2 (w5.alloc (.cells #[.string (bs (massT s P))] 9)) := (hsp.trans (Span.of_below hb5')).trans (Span.of_below (below_alloc _ _))
      have HS' := hid (hsp5.grown2 hgrow (fun b e => by have := own_eq e; omega))
      have hg' : g' = G ∨ w2.heap.size ≤ g' := by
        rcases hgn with h | h
        · have := own_eq h; omega
        · simp at h; omega
      clear hgrow hrow hrow5 hsp hsp5 hb5 hb5' hgn
      go_roundw
      case rel => first | exact ⟨k + 1, g', c', by omega, by go_num, rfl, by rw [HT.out]; exact hrow', HS'.out, hg'⟩ | exact ⟨_, ⟨k + 1, g', c', by omega, by go_num, rfl, by rw [HT.out]; exact hrow', HS'.out, hg'⟩, rfl⟩ | exact ⟨_, _, ⟨k + 1, g', c', by omega, by go_num, rfl, by rw [HT.out]; exact hrow', HS'.out, hg'⟩, rfl, rfl⟩ | exact ⟨_, _, _, ⟨k + 1, g', c', by omega, by go_num, rfl, by rw [HT.out]; exact hrow', HS'.out, hg'⟩, rfl, rfl, rfl⟩ | exact ⟨_, _, _, _, ⟨k + 1, g', c', by omega, by go_num, rfl, by rw [HT.out]; exact hrow', HS'.out, hg'⟩, rfl, rfl, rfl, rfl⟩ | exact ⟨_, _, _, _, _, ⟨k + 1, g', c', by omega, by go_num, rfl, by rw [HT.out]; exact hrow', HS'.out, hg'⟩, rfl, rfl, rfl, rfl, rfl⟩
      case measure => simp [intOf]; omega
    · obtain rfl : k = Q := by omega
      have et : C.take k = C := by rw [← HQ.out]; exact List.take_length
      rw [et] at hrow
      obtain ⟨hq, hkc, hg1, hg2, hcs⟩ := hrow.at
      have hq0 : ((k : Int) == 0) = false := by have := HC1.out; rw [beq_eq_false_iff_ne]; omega
      have HJ : Hid (Lib.join ((C.map fun p => bs (massT s p)).map (·.data.toList)) (bs [10]).data.toList = Lib.join (C.map (massT s)) [10]) := by
        rw [Hid, bs_data, List.map_map]
        congr 1
      have hjl : (Lib.join ((C.map fun p => bs (massT s p)).map (·.data.toList)) (bs [10]).data.toList).length ≤ 140737488355328 := by
        have h1 := HLL.out
        have h2 := HC1.out
        have h3 := congrArg List.length HLJ.out
        rw [HJ.out]
        rw [List.length_append] at h3
        omega
      have hml : (C.map fun p => bs (massT s p)).length = k := by rw [List.length_map, HQ.out]
      have hj := Tryz.strings_Join g 0 cp (C.map fun p => bs (massT s p)) (bs [10]) wr hcs hg2 (by have := HC1.out; omega) (by omega) hjl
      rw [hml, HJ.out, show bs [10] = ByteArray.mk #[10] from rfl] at hj
      clear et hjl hq hml hcs hkc
      go_wp2_with fail
      refine hj.mono ?_; rintro e w6 ⟨rfl, hb6⟩
      have hB6 := chain hB hb6
      go_wp2
      go_ret
      exact ⟨by rw [HNE.out]; rfl, hB6⟩
theorem word_corners : bs [99, 111, 114, 110, 101, 114, 115] = ByteArray.mk #[99, 111, 114, 110, 101, 114, 115] := rfl
theorem word_exchange : bs [101, 120, 99, 104, 97, 110, 103, 101] = ByteArray.mk #[101, 120, 99, 104, 97, 110, 103, 101] := rfl
theorem word_shared : bs [115, 104, 97, 114, 101, 100] = ByteArray.mk #[115, 104, 97, 114, 101, 100] := rfl
set_option maxRecDepth 100000 in
set_option maxHeartbeats 2000000 in
theorem told_corners (w0 w : World) (D : Nat) (d : DS) (hv : LibV w0) (hb : Below w0.heap.size w0 w) (hd : Desk w D d) (hn : normalOk d.s d.xs = true) :
    Calls Tryz.prog 139 #[.pointer (some ⟨D, 0, none⟩), .string (ByteArray.mk #[99, 111, 114, 110, 101, 114, 115])] w fun e w' => e = .returned (.string (bs (cornT d.s d.xs))) ∧ Below w.heap.size w w' := by
  have HD := hid (deskCorners_any w0 w D d hv hb hd hn)
  clear hd hn hb hv
  go_enter Tryz.func139, Tryz.ntmps139
  go_wp2_with fail
  refine HD.out.mono ?_; rintro e w1 ⟨rfl, hb1⟩
  go_wp2
  go_ret
  exact ⟨rfl, hb1⟩
set_option maxRecDepth 100000 in
set_option maxHeartbeats 2000000 in
theorem pl_corners (d : DS) (hn : normalOk d.s d.xs = true) : Pl [99, 111, 114, 110, 101, 114, 115] d (cornT d.s d.xs) d := by
  intro w0 w D hv hD hb hd
  rw [word_corners]
  have HT := hid (told_corners w0 w D d hv hb hd hn)
  clear hn
  go_enter Tryz.func80, Tryz.ntmps80
  go_wp2_with fail
  refine HT.out.mono ?_; rintro e w1 ⟨rfl, hb1⟩
  go_wp2
  go_ret
  exact ⟨rfl, hd.below hb1, Span.of_below hb1⟩
set_option maxRecDepth 100000 in
set_option maxHeartbeats 2000000 in
theorem pl_shared (d : DS) : Pl [115, 104, 97, 114, 101, 100] d (tellM (shareM d.s d.xs)) (leftM d (shareM d.s d.xs)) := by
  intro w0 w D hv hD hb hd
  rw [word_shared]
  obtain ⟨r, hr⟩ : ∃ r, shareM d.s d.xs = r := ⟨_, rfl⟩
  rw [hr]
  have HR := hid hr
  obtain ⟨am, nm, cm, h1, hrm, hnm⟩ := hd.m
  have h0 := hd.c0
  have hlt := hd.lt
  clear hr
  go_enter Tryz.func80, Tryz.ntmps80
  go_wp2_with fail
  refine (SharedChance_any d.s _ _ _ d.xs _ hrm.view).mono ?_; rw [HR.out]; rintro e w1 ⟨⟨v, rfl, hr1⟩, hb1⟩
  obtain ⟨a, n, c, rfl, hi⟩ := hr1.ints
  have hne : (Value.slice a n c).ownBlock ≠ some D := fun e => by have := (hr1.block _ e).1; omega
  go_wp2_with fail
  refine (become_any w0 w1 D d r a n c hv hD (hb.trans (hb1.mono hb.size)) (hd.below hb1) (hr1.mono (Nat.zero_le _)) hne).mono ?_; rintro e w2 ⟨rfl, hd2, hs2⟩
  have hs3 := (Span.of_below (lo := D) (hi := D + 1) hb1).trans hs2
  clear hs2 hb1
  go_wp2
  go_ret
  exact ⟨rfl, hd2, hs3⟩
set_option maxRecDepth 100000 in
set_option maxHeartbeats 2000000 in
theorem pl_exchange (d : DS) : Pl [101, 120, 99, 104, 97, 110, 103, 101] d (massT d.t d.ys) ⟨d.t, d.ys, d.s, d.xs, d.a⟩ := by
  intro w0 w D hv hD hb hd
  rw [word_exchange]
  obtain ⟨am, nm, cm, h1, hrm, hnm⟩ := hd.m
  obtain ⟨an, nn, cn, h3, hrn, hnn⟩ := hd.n
  have h0 := hd.c0
  have h2 := hd.c2
  have f0 := hd.f0
  have f1 := hd.f1
  have f2 := hd.f2
  have f3 := hd.f3
  have hlt := hd.lt
  have hd1 := hd.putM d.t d.ys an nn cn hrn hnn
  have hrm1 : Row ((w.setCell ⟨D, 0, none⟩ (.int .i64 d.t)).setCell ⟨D, 1, none⟩ (.slice an nn cn)) 0 (.slice am nm cm) d.xs := hrm.put2 (fun k e e2 => hnm (by rw [e, e2]))
  have hd2 := hd1.putN d.s d.xs am nm cm hrm1 hnm
  have hs2 : Span D (D + 1) w ((((w.setCell ⟨D, 0, none⟩ (.int .i64 d.t)).setCell ⟨D, 1, none⟩ (.slice an nn cn)).setCell ⟨D, 2, none⟩ (.int .i64 d.s)).setCell ⟨D, 3, none⟩ (.slice am nm cm)) :=
    (((Span.set (by omega)).trans (Span.set (by omega))).trans (Span.set (by omega))).trans (Span.set (by omega))
  have hbq : Below w0.heap.size w0 ((((w.setCell ⟨D, 0, none⟩ (.int .i64 d.t)).setCell ⟨D, 1, none⟩ (.slice an nn cn)).setCell ⟨D, 2, none⟩ (.int .i64 d.s)).setCell ⟨D, 3, none⟩ (.slice am nm cm)) := Span.below_D hb hs2 hD
  obtain ⟨wq, hwq⟩ : ∃ q, (((w.setCell ⟨D, 0, none⟩ (.int .i64 d.t)).setCell ⟨D, 1, none⟩ (.slice an nn cn)).setCell ⟨D, 2, none⟩ (.int .i64 d.s)).setCell ⟨D, 3, none⟩ (.slice am nm cm) = q := ⟨_, rfl⟩
  rw [hwq] at hd2 hs2 hbq
  have HWQ := hid hwq
  clear hwq hd1 hrm1
  go_enter Tryz.func80, Tryz.ntmps80
  go_wp2_with fail
  go_big_region
  rw [HWQ.out]
  obtain ⟨a9, n9, c9, k1, hr9, _⟩ := hd2.m
  have k0 := hd2.c0
  clear h0 h1 h2 h3 f0 f1 f2 f3
  go_wp2_with fail
  refine (FormatMass_any d.t _ _ _ d.ys _ (hr9.view.below (by (repeat (first | exact Below.refl _ _ | assumption | refine Below.alloc ?_ (by first | omega | (simp <;> omega)) _ | refine Below.setCell ?_ (by first | omega | (simp <;> omega)) _ | refine Below.drew ?_ | refine below_drewN ?_)))) (hv.below (hbq.trans (Below.mono (by (repeat (first | exact Below.refl _ _ | assumption | refine Below.alloc ?_ (by first | omega | (simp <;> omega)) _ | refine Below.setCell ?_ (by first | omega | (simp <;> omega)) _ | refine Below.drew ?_ | refine below_drewN ?_))) hbq.size)))).mono ?_; rintro e w5 ⟨rfl, hb5⟩
  have hb5' : Below wq.heap.size wq w5 := Below.trans (by (repeat (first | exact Below.refl _ _ | assumption | refine Below.alloc ?_ (by first | omega | (simp <;> omega)) _ | refine Below.setCell ?_ (by first | omega | (simp <;> omega)) _ | refine Below.drew ?_ | refine below_drewN ?_))) (hb5.mono (by simp <;> omega))
  go_wp2
  go_ret
  exact ⟨rfl, hd2.below hb5', hs2.trans (Span.of_below hb5')⟩
end Go.Proofs.YtdkgomlpadeleaaGreatDoor
