/- Lines of a script: a mass laid on the desk, commands without a rest. -/
import Derived.Test.YtdkgomlpadeleaaGreatDoorU4
import Derived.Test.YtdkgomlpadeleaaGreatDoorS8
import Derived.Test.YtdkgomlpadeleaaGreatDoorS10
import Derived.Deep.RegionHeld3
set_option linter.unusedSimpArgs false
set_option linter.unusedVariables false
namespace Go.Proofs.YtdkgomlpadeleaaGreatDoor
open Go.RowKit
/-- what is told of a mass that is made -/
def tellM (r : MR) : List UInt8 := if r.ok then massT r.size r.parts else [110, 111]
/-- the desk behind it -/
def leftM (d : DS) (r : MR) : DS := if r.ok then ⟨r.size, r.parts, d.t, d.ys, d.a⟩ else d
set_option maxRecDepth 100000 in
set_option maxHeartbeats 1000000 in
theorem become_any (w0 w : World) (D : Nat) (d : DS) (r : MR) (a : Option Addr) (n c : Nat) (hv : LibV w0) (hD : w0.heap.size ≤ D) (hb : Below w0.heap.size w0 w) (hd : Desk w D d) (hr : Row w 0 (.slice a n c) r.parts) (hne : (Value.slice a n c).ownBlock ≠ some D) :
    Calls Tryz.prog 128 #[.pointer (some ⟨D, 0, none⟩), .agg #[.int .i64 r.size, .slice a n c], .bool r.ok] w fun e w' => e = .returned (.string (bs (tellM r))) ∧ Desk w' D (leftM d r) ∧ Span D (D + 1) w w' := by
  cases ho : r.ok
  · have HT : Hid (tellM r = [110, 111]) := by show tellM r = _; unfold tellM; rw [ho]; rfl
    have HL : Hid (leftM d r = d) := by show leftM d r = _; unfold leftM; rw [ho]; rfl
    rw [HT.out, HL.out]
    go_enter Tryz.func128, Tryz.ntmps128
    go_wp2
    go_ret
    exact ⟨rfl, hd.below (below_alloc _ _), Span.of_below (below_alloc _ _)⟩
  · have HT : Hid (tellM r = massT r.size r.parts) := by show tellM r = _; unfold tellM; rw [ho]; rfl
    have HL : Hid (leftM d r = ⟨r.size, r.parts, d.t, d.ys, d.a⟩) := by show leftM d r = _; unfold leftM; rw [ho]; rfl
    rw [HT.out, HL.out]
    obtain ⟨a1, n1, c1, h1, _, _⟩ := hd.m
    have h0 := hd.c0
    have g0 := hd.f0
    have g1 := hd.f1
    have hlt := hd.lt
    have hDn : w.heap.size ≠ D := by omega
    have hDn2 : D ≠ w.heap.size := by omega
    obtain ⟨wq, hwq⟩ : ∃ q, (w.setCell ⟨D, 0, none⟩ (.int .i64 r.size)).setCell ⟨D, 1, none⟩ (.slice a n c) = q := ⟨_, rfl⟩
    have hrq : Row wq 0 (.slice a n c) r.parts := by rw [← hwq]; exact hr.put2 (fun k e e2 => hne (by rw [e, e2]))
    have hdq : Desk wq D ⟨r.size, r.parts, d.t, d.ys, d.a⟩ := by rw [← hwq]; exact hd.putM r.size r.parts a n c hr hne
    have hbq : Below w0.heap.size w0 wq := by rw [← hwq]; (repeat (first | exact Below.refl _ _ | assumption | refine Below.alloc ?_ (by first | omega | (simp <;> omega)) _ | refine Below.setCell ?_ (by first | omega | (simp <;> omega)) _ | refine Below.drew ?_ | refine below_drewN ?_))
    have hsq : Span D (D + 1) w wq := by rw [← hwq]; exact (Span.set (by show D ≤ D ∧ D < D + 1; omega)).trans (Span.set (by show D ≤ D ∧ D < D + 1; omega))
    have HWQ := hid hwq
    clear hwq hb hr hd
    go_enter Tryz.func128, Tryz.ntmps128
    go_wp2_with fail
    rw [HWQ.out]
    refine (FormatMass_any r.size _ _ _ r.parts _ (hrq.view.below (below_alloc _ _)) (hv.below (hbq.trans ((below_alloc wq _).mono (hbq.size))))).mono ?_; rintro e w5 ⟨rfl, hb5⟩
    have hd5 := (hdq.below (below_alloc wq _)).below hb5
    have hs5 := (hsq.trans (Span.of_below (below_alloc wq _))).trans (Span.of_below hb5)
    clear hb5
    go_wp2
    go_ret
    exact ⟨rfl, hd5, hs5⟩
theorem word_left : bs [108, 101, 102, 116] = ByteArray.mk #[108, 101, 102, 116] := rfl
theorem word_right : bs [114, 105, 103, 104, 116] = ByteArray.mk #[114, 105, 103, 104, 116] := rfl
theorem bs_ok : (ByteArray.mk #[111, 107] : ByteArray) = bs [111, 107] := rfl
set_option maxRecDepth 100000 in
set_option maxHeartbeats 2000000 in
theorem run_left (d : DS) {s : Int} {xs : List Int} (hm : massOk s xs = true) : Ln ([108, 101, 102, 116] ++ 32 :: massT s xs) d [111, 107] ⟨s, xs, d.t, d.ys, d.a⟩ := by
  intro w0 w D hv hD hb hd
  have HC := hid (cut_app 32 [108, 101, 102, 116] (massT s xs) (by decide))
  have hln := massT_len s xs
  have hll : ([108, 101, 102, 116] ++ 32 :: massT s xs : List UInt8).length ≤ 2000000 := by simp; omega
  have hz0 := hb.size
  obtain ⟨T, hT⟩ : ∃ T, massT s xs = T := ⟨_, rfl⟩
  have HTT := hid hT
  rw [hT] at HC hll ⊢
  clear hT hln
  obtain ⟨L, hL⟩ : ∃ L, ([108, 101, 102, 116] ++ 32 :: T : List UInt8) = L := ⟨_, rfl⟩
  rw [hL] at HC hll ⊢
  clear hL
  go_enter Tryz.func40, Tryz.ntmps40
  go_wp2_with fail
  refine (cut_any L 32 _ _ _ HC.out hll _ (hv.below hb)).mono ?_; rw [word_left]; rintro e w1 ⟨rfl, hb1⟩
  have hbb := hb.trans (hb1.mono hz0)
  have hd1 := hd.below hb1
  have hs1 := Span.of_below (lo := D) (hi := D + 1) hb1
  clear hb1 hd
  go_wp2_with fail
  rw [← HTT.out]
  refine (ParseMass_any s xs _ hm (hv.below hbb)).mono ?_; rintro e w2 ⟨⟨v, rfl, hr⟩, hb2⟩
  obtain ⟨a, n, c, rfl, hi⟩ := hr.ints
  have hne : (Value.slice a n c).ownBlock ≠ some D := fun e => by have := (hr.block _ e).1; have := hd1.lt; omega
  have hbb2 := hbb.trans (hb2.mono hbb.size)
  have hd2 := hd1.below hb2
  have hs2 := hs1.trans (Span.of_below hb2)
  clear hb2 hi hd1 hs1
  obtain ⟨a1, n1, c1, h1, _, _⟩ := hd2.m
  have h0 := hd2.c0
  have g0 := hd2.f0
  have g1 := hd2.f1
  have hlt := hd2.lt
  have hDn : w2.heap.size ≠ D := by omega
  have hDn2 : D ≠ w2.heap.size := by omega
  obtain ⟨wq, hwq⟩ : ∃ q, (w2.setCell ⟨D, 0, none⟩ (.int .i64 s)).setCell ⟨D, 1, none⟩ (.slice a n c) = q := ⟨_, rfl⟩
  have hdq : Desk wq D ⟨s, xs, d.t, d.ys, d.a⟩ := by rw [← hwq]; exact hd2.putM s xs a n c (hr.mono (Nat.zero_le _)) hne
  have hsq : Span D (D + 1) w2 wq := by rw [← hwq]; exact (Span.set (by show D ≤ D ∧ D < D + 1; omega)).trans (Span.set (by show D ≤ D ∧ D < D + 1; omega))
  have HWQ := hid hwq
  clear hwq hr
  go_wp2
  rw [HWQ.out]
  go_ret
  exact ⟨rfl, hdq.below (below_alloc wq _), (hs2.trans hsq).trans (Span.of_below (below_alloc wq _))⟩
set_option maxRecDepth 100000 in
set_option maxHeartbeats 2000000 in
theorem run_right (d : DS) {s : Int} {xs : List Int} (hm : massOk s xs = true) : Ln ([114, 105, 103, 104, 116] ++ 32 :: massT s xs) d [111, 107] ⟨d.s, d.xs, s, xs, d.a⟩ := by
  intro w0 w D hv hD hb hd
  have HC := hid (cut_app 32 [114, 105, 103, 104, 116] (massT s xs) (by decide))
  have hln := massT_len s xs
  have hll : ([114, 105, 103, 104, 116] ++ 32 :: massT s xs : List UInt8).length ≤ 2000000 := by simp; omega
  have hz0 := hb.size
  obtain ⟨T, hT⟩ : ∃ T, massT s xs = T := ⟨_, rfl⟩
  have HTT := hid hT
  rw [hT] at HC hll ⊢
  clear hT hln
  obtain ⟨L, hL⟩ : ∃ L, ([114, 105, 103, 104, 116] ++ 32 :: T : List UInt8) = L := ⟨_, rfl⟩
  rw [hL] at HC hll ⊢
  clear hL
  go_enter Tryz.func40, Tryz.ntmps40
  go_wp2_with fail
  refine (cut_any L 32 _ _ _ HC.out hll _ (hv.below hb)).mono ?_; rw [word_right]; rintro e w1 ⟨rfl, hb1⟩
  have hbb := hb.trans (hb1.mono hz0)
  have hd1 := hd.below hb1
  have hs1 := Span.of_below (lo := D) (hi := D + 1) hb1
  clear hb1 hd
  go_wp2_with fail
  rw [← HTT.out]
  refine (ParseMass_any s xs _ hm (hv.below hbb)).mono ?_; rintro e w2 ⟨⟨v, rfl, hr⟩, hb2⟩
  obtain ⟨a, n, c, rfl, hi⟩ := hr.ints
  have hne : (Value.slice a n c).ownBlock ≠ some D := fun e => by have := (hr.block _ e).1; have := hd1.lt; omega
  have hbb2 := hbb.trans (hb2.mono hbb.size)
  have hd2 := hd1.below hb2
  have hs2 := hs1.trans (Span.of_below hb2)
  clear hb2 hi hd1 hs1
  obtain ⟨a1, n1, c1, h1, _, _⟩ := hd2.n
  have h0 := hd2.c2
  have g0 := hd2.f2
  have g1 := hd2.f3
  have hlt := hd2.lt
  have hDn : w2.heap.size ≠ D := by omega
  have hDn2 : D ≠ w2.heap.size := by omega
  obtain ⟨wq, hwq⟩ : ∃ q, (w2.setCell ⟨D, 2, none⟩ (.int .i64 s)).setCell ⟨D, 3, none⟩ (.slice a n c) = q := ⟨_, rfl⟩
  have hdq : Desk wq D ⟨d.s, d.xs, s, xs, d.a⟩ := by rw [← hwq]; exact hd2.putN s xs a n c (hr.mono (Nat.zero_le _)) hne
  have hsq : Span D (D + 1) w2 wq := by rw [← hwq]; exact (Span.set (by show D ≤ D ∧ D < D + 1; omega)).trans (Span.set (by show D ≤ D ∧ D < D + 1; omega))
  have HWQ := hid hwq
  clear hwq hr
  go_wp2
  rw [HWQ.out]
  go_ret
  exact ⟨rfl, hdq.below (below_alloc wq _), (hs2.trans hsq).trans (Span.of_below (below_alloc wq _))⟩
/-- a word without a rest is executed -/
def Pl (word : List UInt8) (d : DS) (out : List UInt8) (d' : DS) : Prop :=
  ∀ (w0 w : World) (D : Nat), LibV w0 → w0.heap.size ≤ D → Below w0.heap.size w0 w → Desk w D d →
    Calls Tryz.prog 80 #[.pointer (some ⟨D, 0, none⟩), .string (bs word)] w fun e w' => e = .returned (.string (bs out)) ∧ Desk w' D d' ∧ Span D (D + 1) w w'
set_option maxRecDepth 100000 in
set_option maxHeartbeats 1000000 in
theorem run_plain {word : List UInt8} {d : DS} {out : List UInt8} {d' : DS} (hw : (32 : UInt8) ∉ word) (hl : word.length ≤ 100) (h : Pl word d out d') : Ln word d out d' := by
  intro w0 w D hv hD hb hd
  have HC := hid (cut_miss 32 word hw)
  have hz0 := hb.size
  have HP := hid h
  clear hw h
  go_enter Tryz.func40, Tryz.ntmps40
  go_wp2_with fail
  refine (cut_any word 32 _ _ _ HC.out (by omega) _ (hv.below hb)).mono ?_; rintro e w1 ⟨rfl, hb1⟩
  have hbb := hb.trans (hb1.mono hz0)
  have hd1 := hd.below hb1
  have hs1 := Span.of_below (lo := D) (hi := D + 1) hb1
  clear hb1 hd
  go_wp2_with fail
  refine (HP.out w0 w1 D hv hD hbb hd1).mono ?_; rintro e w2 ⟨rfl, hd2, hs2⟩
  have hs3 := hs1.trans hs2
  clear hs1 hs2
  go_wp2
  go_ret
  exact ⟨rfl, hd2, hs3⟩
theorem word_first : bs [102, 105, 114, 115, 116] = ByteArray.mk #[102, 105, 114, 115, 116] := rfl
theorem word_second : bs [115, 101, 99, 111, 110, 100] = ByteArray.mk #[115, 101, 99, 111, 110, 100] := rfl
theorem word_pass : bs [112, 97, 115, 115] = ByteArray.mk #[112, 97, 115, 115] := rfl
set_option maxRecDepth 100000 in
set_option maxHeartbeats 2000000 in
theorem pl_first (d : DS) : Pl [102, 105, 114, 115, 116] d (tellM (sideM false d.s d.xs)) (leftM d (sideM false d.s d.xs)) := by
  intro w0 w D hv hD hb hd
  rw [word_first]
  obtain ⟨r, hr⟩ : ∃ r, sideM false d.s d.xs = r := ⟨_, rfl⟩
  rw [hr]
  have HR := hid hr
  obtain ⟨am, nm, cm, h1, hrm, hnm⟩ := hd.m
  have h0 := hd.c0
  have hlt := hd.lt
  clear hr
  go_enter Tryz.func80, Tryz.ntmps80
  go_wp2_with fail
  refine (FirstOf_any d.s _ _ _ d.xs _ hrm.view).mono ?_; rw [HR.out]; rintro e w1 ⟨⟨v, rfl, hr1⟩, hb1⟩
  obtain ⟨a, n, c, rfl, hi⟩ := hr1.ints
  have hne : (Value.slice a n c).ownBlock ≠ some D := fun e => by have := (hr1.block _ e).1; omega
  go_wp2_with fail
  refine (become_any w0 w1 D d r a n c hv hD (hb.trans (hb1.mono hb.size)) (hd.below hb1) (hr1.mono (Nat.zero_le _)) hne).mono ?_; rintro e w2 ⟨rfl, hd2, hs2⟩
  have hs3 := (Span.of_below (lo := D) (hi := D + 1) hb1).trans hs2
  clear hs2 hb1
  go_wp2
  go_ret
  exact ⟨rfl, hd2, hs3⟩
set_option maxRecDepth 100000 in
set_option maxHeartbeats 2000000 in
theorem pl_second (d : DS) : Pl [115, 101, 99, 111, 110, 100] d (tellM (sideM true d.s d.xs)) (leftM d (sideM true d.s d.xs)) := by
  intro w0 w D hv hD hb hd
  rw [word_second]
  obtain ⟨r, hr⟩ : ∃ r, sideM true d.s d.xs = r := ⟨_, rfl⟩
  rw [hr]
  have HR := hid hr
  obtain ⟨am, nm, cm, h1, hrm, hnm⟩ := hd.m
  have h0 := hd.c0
  have hlt := hd.lt
  clear hr
  go_enter Tryz.func80, Tryz.ntmps80
  go_wp2_with fail
  refine (SecondOf_any d.s _ _ _ d.xs _ hrm.view).mono ?_; rw [HR.out]; rintro e w1 ⟨⟨v, rfl, hr1⟩, hb1⟩
  obtain ⟨a, n, c, rfl, hi⟩ := hr1.ints
  have hne : (Value.slice a n c).ownBlock ≠ some D := fun e => by have := (hr1.block _ e).1; omega
  go_wp2_with fail
  refine (become_any w0 w1 D d r a n c hv hD (hb.trans (hb1.mono hb.size)) (hd.below hb1) (hr1.mono (Nat.zero_le _)) hne).mono ?_; rintro e w2 ⟨rfl, hd2, hs2⟩
  have hs3 := (Span.of_below (lo := D) (hi := D + 1) hb1).trans hs2
  clear hs2 hb1
  go_wp2
  go_ret
  exact ⟨rfl, hd2, hs3⟩
set_option maxRecDepth 100000 in
set_option maxHeartbeats 2000000 in
theorem pl_pass (d : DS) : Pl [112, 97, 115, 115] d (tellM (passM d.s d.xs d.t d.ys)) (leftM d (passM d.s d.xs d.t d.ys)) := by
  intro w0 w D hv hD hb hd
  rw [word_pass]
  obtain ⟨r, hr⟩ : ∃ r, passM d.s d.xs d.t d.ys = r := ⟨_, rfl⟩
  rw [hr]
  have HR := hid hr
  obtain ⟨am, nm, cm, h1, hrm, hnm⟩ := hd.m
  obtain ⟨an, nn, cn, h3, hrn, hnn⟩ := hd.n
  have h0 := hd.c0
  have h2 := hd.c2
  have hlt := hd.lt
  have hz0 := hb.size
  clear hr
  go_enter Tryz.func80, Tryz.ntmps80
  go_wp2_with fail
  have HP : Hid (∀ w', Below w.heap.size w w' → Calls Tryz.prog 6 #[.agg #[.int .i64 d.s, .slice am nm cm], .agg #[.int .i64 d.t, .slice an nn cn]] w' fun e w'' => RetM r w'.heap.size e w'' ∧ Below w'.heap.size w' w'') := fun w' h => by rw [← HR.out]; exact PassOn_any d.s d.t _ _ _ _ _ _ d.xs d.ys w' (hrm.view.below h) (hrn.view.below h)
  go_region_with (first | (go_at_call 6; refine (HP.out _ (by (repeat (first | exact Below.refl _ _ | assumption | refine Below.alloc ?_ (by first | omega | (simp <;> omega)) _ | refine Below.setCell ?_ (by first | omega | (simp <;> omega)) _ | refine Below.drew ?_ | refine below_drewN ?_)))).mono ?_; rintro e w1 ⟨⟨v, rfl, hr1⟩, hb1⟩; obtain ⟨a, n, c, rfl, hi⟩ := hr1.ints; have hbb : Below w.heap.size w w1 := Below.trans (by (repeat (first | exact Below.refl _ _ | assumption | refine Below.alloc ?_ (by first | omega | (simp <;> omega)) _ | refine Below.setCell ?_ (by first | omega | (simp <;> omega)) _ | refine Below.drew ?_ | refine below_drewN ?_))) (hb1.mono (Nat.le_refl _)); have k0 := keep hbb h0; have k1 := keep hbb h1; have k2 := keep hbb h2; have k3 := keep hbb h3; have hne : (Value.slice a n c).ownBlock ≠ some D := fun e => by have h9 := (hr1.block _ e).1; have h8 : w.heap.size ≤ D := h9; omega) | (go_at_call 128; refine (become_any w0 w1 D d r a n c hv hD (hb.trans (hbb.mono hz0)) (hd.below hbb) (hr1.mono (Nat.zero_le _)) hne).mono ?_; rintro e w2 ⟨rfl, hd2, hs2⟩))
  all_goals
    have hs3 := (Span.of_below (lo := D) (hi := D + 1) hbb).trans hs2
    clear hs2 hb1
    go_wp2
    go_ret
    exact ⟨rfl, hd2, hs3⟩
end Go.Proofs.YtdkgomlpadeleaaGreatDoor
