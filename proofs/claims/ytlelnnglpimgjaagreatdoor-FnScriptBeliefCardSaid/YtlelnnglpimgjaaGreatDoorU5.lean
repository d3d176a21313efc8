/- RunScript: the lines of a script, one after the other; a mass laid on the desk; commands without a rest. -/
import Derived.Test.YtlelnnglpimgjaaGreatDoorU4
import Derived.Test.YtlelnnglpimgjaaGreatDoorE3
set_option linter.unusedSimpArgs false
set_option linter.unusedVariables false
namespace Go.Proofs.YtlelnnglpimgjaaGreatDoor
open Go.RowKit
theorem SRow.span {lo hi : Nat} {w w' : World} {base g n c : Nat} {xs : List ByteArray} (h : SRow w base (.slice (some ⟨g, 0, none⟩) n c) xs) (hs : Span lo hi w w') (hne : g < lo ∨ hi ≤ g) : SRow w' base (.slice (some ⟨g, 0, none⟩) n c) xs := by
  have hl := SRow.block h g rfl
  refine ⟨h.1, ?_⟩
  rcases h.2 with h2 | ⟨g', cap, cur, hv, hg', hh, r⟩
  · exact .inl h2
  · refine .inr ⟨g', cap, cur, hv, hg', ?_, r⟩
    injection hv with e1 e2 e3
    injection e1 with e1; injection e1 with e1
    rw [← e1] at hh ⊢
    rw [hs.block g hl.2 hne]; exact hh
theorem lineT_take {steps : List (List UInt8 × List UInt8)} {k : Nat} (hk : k < steps.length) : lineT ((steps.take (k + 1)).map Prod.snd) = lineT ((steps.take k).map Prod.snd) ++ (steps[k].2 ++ [10]) := by
  rw [List.take_add_one, List.getElem?_eq_getElem hk, List.map_append, lineT_app]
  rfl
theorem lineT_le {steps : List (List UInt8 × List UInt8)} (k : Nat) : (lineT ((steps.take k).map Prod.snd)).length ≤ (lineT (steps.map Prod.snd)).length := by
  have h : steps = steps.take k ++ steps.drop k := (List.take_append_drop k steps).symm
  have h2 : lineT (steps.map Prod.snd) = lineT ((steps.take k).map Prod.snd) ++ lineT ((steps.drop k).map Prod.snd) := by
    rw [← lineT_app, ← List.map_append, ← h]
  rw [h2, List.length_append]; omega
theorem chain_step {steps : List (List UInt8 × List UInt8)} {d d' : DS} {k : Nat} (hk : k < steps.length) (h : Chain d (steps.drop k) d') : ∃ d1, Ln steps[k].1 d steps[k].2 d1 ∧ Chain d1 (steps.drop (k + 1)) d' := by
  rw [List.drop_eq_getElem_cons hk] at h
  generalize hp : steps[k] = p at h ⊢
  obtain ⟨l, o⟩ := p
  cases h with
  | cons h1 h2 => exact ⟨_, h1, h2⟩
def startD : DS := ⟨2, sureP 2 3, 2, sureP 2 3, 1⟩
set_option maxRecDepth 100000 in
set_option maxHeartbeats 4000000 in
theorem RunScript_any (steps : List (List UInt8 × List UInt8)) (d' : DS) (w : World) (hv : LibV w) (hch : Chain startD steps d') (hn : steps.length ≤ 99) (hl : ∀ p ∈ steps, p.1 ≠ [] ∧ (10 : UInt8) ∉ p.1) (ht : (lineT (steps.map Prod.fst)).length ≤ 20000) (ho : (lineT (steps.map Prod.snd)).length ≤ 40000) :
    Calls Tryz.prog 18 #[.string (bs (lineT (steps.map Prod.fst)))] w fun e w' => e = .returned (.string (bs (lineT (steps.map Prod.snd)))) ∧ Below w.heap.size w w' := by
  have HCUT : Hid (cutAt 10 (lineT (steps.map Prod.fst)) = steps.map Prod.fst ++ [[]]) := cut_lines _ fun l hl2 => by
    rw [List.mem_map] at hl2
    obtain ⟨p, hp, rfl⟩ := hl2
    exact (hl p hp).2
  have HLE : Hid (∀ k, (lineT ((steps.take k).map Prod.snd)).length ≤ 40000) := fun k => by have := lineT_le (steps := steps) k; omega
  have HCH := hid hch
  have HL := hid hl
  obtain ⟨M, hM⟩ : ∃ M, steps.length = M := ⟨_, rfl⟩
  have HM := hid hM
  rw [hM] at hn
  have HALL : Hid (∀ k, M ≤ k → lineT ((steps.take k).map Prod.snd) = lineT (steps.map Prod.snd)) := fun k hk => by rw [List.take_of_length_le (by omega)]
  obtain ⟨T, hT⟩ : ∃ T, lineT (steps.map Prod.fst) = T := ⟨_, rfl⟩
  rw [hT] at ht HCUT ⊢
  clear hch hl hM hT ho
  have hts : (bs T).size ≤ 20000 := by rw [bs_size]; exact ht
  have htz : ¬ (20000 : Int) < ((bs T).size : Nat) := by omega
  go_enter Tryz.func18, Tryz.ntmps18
  go_wp2_with fail
  refine (sureMass_any 2 3 _ (by decide) (by decide)).mono ?_; rintro e w1 ⟨⟨v1, rfl, hr1⟩, hb1⟩
  obtain ⟨a1, n1, c1, rfl, hi1⟩ := hr1.ints
  clear hi1
  go_wp2_with fail
  refine (sureMass_any 2 3 _ (by decide) (by decide)).mono ?_; rintro e w2 ⟨⟨v2, rfl, hr2⟩, hb2⟩
  obtain ⟨a2, n2, c2, rfl, hi2⟩ := hr2.ints
  clear hi2
  replace hr1 := hr1.below hb2
  have hB2 := chain hb1 hb2
  clear hb1 hb2
  go_wp2_with fail
  obtain ⟨w3, hw3⟩ : ∃ W, w2.alloc (.cells #[.int .i64 2, .slice a1 n1 c1, .int .i64 2, .slice a2 n2 c2, .int .i64 1, .slice none 0 0] 72) = W := ⟨_, rfl⟩
  rw [hw3]
  have hb3 : Below w2.heap.size w2 w3 := by rw [← hw3]; exact below_alloc _ _
  have hD0 : Desk w3 w2.heap.size startD := by
    have e1 := hr1.below (below_alloc w2 (.cells #[.int .i64 2, .slice a1 n1 c1, .int .i64 2, .slice a2 n2 c2, .int .i64 1, .slice none 0 0] 72))
    have e2 := hr2.below (below_alloc w2 (.cells #[.int .i64 2, .slice a1 n1 c1, .int .i64 2, .slice a2 n2 c2, .int .i64 1, .slice none 0 0] 72))
    have b1 := hr1.block
    have b2 := hr2.block
    rw [hw3] at e1 e2
    refine ⟨by rw [← hw3]; simp, by rw [← hw3]; simp [startD], by rw [← hw3]; simp [startD], by rw [← hw3]; simp [startD], by rw [← hw3]; simp, by rw [← hw3]; simp, by rw [← hw3]; simp, by rw [← hw3]; simp, by rw [← hw3]; simp, ⟨a1, n1, c1, by rw [← hw3]; simp, e1.mono (by omega), fun e => ?_⟩, ⟨a2, n2, c2, by rw [← hw3]; simp, e2.mono (by omega), fun e => ?_⟩⟩
    · have := (b1 _ e).2; omega
    · have := (b2 _ e).2; omega
  have hB3 := chain hB2 hb3
  have hz3 : w2.heap.size < w3.heap.size := hD0.lt
  obtain ⟨D, hDe⟩ : ∃ D, w2.heap.size = D := ⟨_, rfl⟩
  have hDw : w.heap.size ≤ D := by have := hB2.size; omega
  rw [hDe] at hD0 hz3 ⊢
  clear hb3 hw3 hDe hr1 hr2
  refine (split_at 10 T _ (by omega) (hv.below hB3)).mono ?_; rintro e w4 ⟨n, ys, rfl, hsr, hys, hb4⟩
  rw [HCUT.out] at hys
  have hn4 : n = M + 1 := by rw [hsr.at.1, hys]; simp [HM.out]
  subst hn4
  have hD4 := hD0.below hb4
  have hB4 := chain hB3 hb4
  have hz4 := hb4.size
  obtain ⟨gw, hgw⟩ : ∃ gw, w3.heap.size = gw := ⟨_, rfl⟩
  rw [hgw] at hsr hz3 ⊢
  have HYS := hid hys
  clear hb4 hgw hys hD0
  go_wp2
  go_loopw [4, 5, 6, 17] (fun o _ _ i wr => ∃ k : Nat, k ≤ M + 1 ∧ i = .int .i64 k ∧ o = .string (bs (lineT ((steps.take k).map Prod.snd))) ∧ (∃ d, Hid (Chain d (steps.drop k) d') ∧ Desk wr D d) ∧ Span D (D + 1) w4 wr) (fun _ _ _ i _ => M + 1 - (intOf i).toNat)
  case atStart => exact ⟨0, by omega, rfl, rfl, ⟨startD, HCH.out, hD4⟩, Span.refl _ _ _⟩
  case round =>
    obtain ⟨k, hk, rfl, rfl, ⟨d, HC, hD⟩, hsp⟩ := hrel
    have hsrr := hsr.span hsp (by omega)
    have hB : Below w.heap.size w wr := Span.below hB4 hB4.size hsp hDw
    have hle := HLE.out k
    by_cases hlt : k < M
    · have hk0 : (0 : Int) ≤ (k : Int) := by omega
      have hk1 : (k : Int) < ((M + 1 : Nat) : Int) := by omega
      have hkl : k < steps.length := by rw [HM.out]; exact hlt
      obtain ⟨d1, hln, hch1⟩ := chain_step hkl HC.out
      have HC1 := hid hch1
      have HT := lineT_take hkl
      have hle1 := HLE.out (k + 1)
      have hp := HL.out steps[k] (List.getElem_mem _)
      have hyk : ys[k]? = some (bs steps[k].1) := by
        rw [HYS.out, List.map_append, List.map_map, List.getElem?_append_left (by rw [List.length_map]; exact hkl), List.getElem?_map, List.getElem?_eq_getElem hkl]; rfl
      have hcell : wr.cell? ⟨gw, k, none⟩ = some (.string (bs steps[k].1)) := by have := hsrr.at.2.2.2.2 k _ hyk; simpa using this
      generalize steps[k] = p at *
      obtain ⟨l, o⟩ := p
      simp only at hln hp HT hcell
      rw [HT, List.length_append, List.length_append] at hle1
      obtain ⟨O, hO⟩ : ∃ O, lineT ((steps.take k).map Prod.snd) = O := ⟨_, rfl⟩
      rw [hO] at HT hle hle1 ⊢
      have HT2 : Hid (bs (lineT ((steps.take (k + 1)).map Prod.snd)) = bs O ++ (bs o ++ ByteArray.mk #[10])) := by
        rw [Hid, HT, show ByteArray.mk #[10] = bs [10] from rfl, bs_append, bs_append]
      have ke : (bs l).toList.isEmpty = false := bs_empty l false (by cases l with | nil => exact absurd rfl hp.1 | cons _ _ => rfl)
      have HLN := hid hln
      have h100 : ¬ (100 : Int) ≤ (k : Int) := by omega
      have hos : ¬ (40000 : Int) < ((bs O).size : Nat) := by rw [bs_size]; omega
      have kz : ¬ 9223372036854775807 < (bs o).size + (ByteArray.mk #[10]).size := by rw [bs_size]; simp [ByteArray.size]; simp at hle1; omega
      have kz2 : ¬ 9223372036854775807 < (bs O).size + (bs o ++ ByteArray.mk #[10]).size := by rw [ByteArray.size_append, bs_size, bs_size]; simp [ByteArray.size]; simp at hle1; omega
      clear HT hO hyk hkl hln hp hch1 hle hle1
      go_wp2_with fail
      refine (HLN.out w wr D hv hDw hB hD).mono ?_; rintro e w5 ⟨rfl, hD5, hs5⟩
      have HSP := hid (hsp.trans hs5)
      clear hsp hs5 hsrr hD
      go_wp2
      go_roundw
      case rel => first | exact ⟨k + 1, by omega, by go_num, by rw [HT2.out], ⟨d1, HC1, hD5⟩, HSP.out⟩ | exact ⟨_, ⟨k + 1, by omega, by go_num, by rw [HT2.out], ⟨d1, HC1, hD5⟩, HSP.out⟩, rfl⟩ | exact ⟨_, _, ⟨k + 1, by omega, by go_num, by rw [HT2.out], ⟨d1, HC1, hD5⟩, HSP.out⟩, rfl, rfl⟩ | exact ⟨_, _, _, ⟨k + 1, by omega, by go_num, by rw [HT2.out], ⟨d1, HC1, hD5⟩, HSP.out⟩, rfl, rfl, rfl⟩ | exact ⟨_, _, _, _, ⟨k + 1, by omega, by go_num, by rw [HT2.out], ⟨d1, HC1, hD5⟩, HSP.out⟩, rfl, rfl, rfl, rfl⟩ | exact ⟨_, _, _, _, _, ⟨k + 1, by omega, by go_num, by rw [HT2.out], ⟨d1, HC1, hD5⟩, HSP.out⟩, rfl, rfl, rfl, rfl, rfl⟩
      case measure => simp [intOf]; omega
    · by_cases hlt2 : k < M + 1
      · obtain rfl : k = M := by omega
        have hk0 : (0 : Int) ≤ (k : Int) := by omega
        have hk1 : (k : Int) < ((k + 1 : Nat) : Int) := by omega
        have hyk : ys[k]? = some (bs []) := by
          rw [HYS.out, List.map_append, List.getElem?_append_right (by rw [List.length_map, List.length_map, HM.out]; exact Nat.le_refl _), List.length_map, List.length_map, HM.out, Nat.sub_self]; rfl
        have hcell : wr.cell? ⟨gw, k, none⟩ = some (.string (bs [])) := by have := hsrr.at.2.2.2.2 k _ hyk; simpa using this
        have ke : (bs ([] : List UInt8)).toList.isEmpty = true := bs_empty [] true rfl
        have HT2 : Hid (lineT ((steps.take (k + 1)).map Prod.snd) = lineT ((steps.take k).map Prod.snd)) := by rw [Hid, HALL.out _ (by omega), HALL.out _ (Nat.le_refl _)]
        have HC2 : Hid (Chain d (steps.drop (k + 1)) d') := by
          have h1 := HC.out
          rw [List.drop_of_length_le (by rw [HM.out]; exact Nat.le_refl _)] at h1
          rw [Hid, List.drop_of_length_le (by rw [HM.out]; omega)]; exact h1
        clear hyk hsrr
        go_wp2
        go_roundw
        case rel => first | exact ⟨k + 1, by omega, by go_num, by rw [HT2.out], ⟨d, HC2, hD⟩, hsp⟩ | exact ⟨_, ⟨k + 1, by omega, by go_num, by rw [HT2.out], ⟨d, HC2, hD⟩, hsp⟩, rfl⟩ | exact ⟨_, _, ⟨k + 1, by omega, by go_num, by rw [HT2.out], ⟨d, HC2, hD⟩, hsp⟩, rfl, rfl⟩ | exact ⟨_, _, _, ⟨k + 1, by omega, by go_num, by rw [HT2.out], ⟨d, HC2, hD⟩, hsp⟩, rfl, rfl, rfl⟩ | exact ⟨_, _, _, _, ⟨k + 1, by omega, by go_num, by rw [HT2.out], ⟨d, HC2, hD⟩, hsp⟩, rfl, rfl, rfl, rfl⟩ | exact ⟨_, _, _, _, _, ⟨k + 1, by omega, by go_num, by rw [HT2.out], ⟨d, HC2, hD⟩, hsp⟩, rfl, rfl, rfl, rfl, rfl⟩
        case measure => simp [intOf]
      · obtain rfl : k = M + 1 := by omega
        have HE := hid (HALL.out (M + 1) (by omega))
        go_wp2
        go_ret
        exact ⟨by rw [HE.out]; rfl, hB⟩
/-- what is told of a mass that is made -/
def tellM (r : MR) : List UInt8 := if r.ok then massT r.size r.parts else [110, 111]
/-- the desk behind it -/
def leftM (d : DS) (r : MR) : DS := if r.ok then ⟨r.size, r.parts, d.t, d.ys, d.a⟩ else d
set_option maxRecDepth 100000 in
set_option maxHeartbeats 1000000 in
theorem become_any (w0 w : World) (D : Nat) (d : DS) (r : MR) (a : Option Addr) (n c : Nat) (hv : LibV w0) (hD : w0.heap.size ≤ D) (hb : Below w0.heap.size w0 w) (hd : Desk w D d) (hr : Row w 0 (.slice a n c) r.parts) (hne : (Value.slice a n c).ownBlock ≠ some D) :
    Calls Tryz.prog 162 #[.pointer (some ⟨D, 0, none⟩), .agg #[.int .i64 r.size, .slice a n c], .bool r.ok] w fun e w' => e = .returned (.string (bs (tellM r))) ∧ Desk w' D (leftM d r) ∧ Span D (D + 1) w w' := by
  cases ho : r.ok
  · have HT : Hid (tellM r = [110, 111]) := by show tellM r = _; unfold tellM; rw [ho]; rfl
    have HL : Hid (leftM d r = d) := by show leftM d r = _; unfold leftM; rw [ho]; rfl
    rw [HT.out, HL.out]
    go_enter Tryz.func162, Tryz.ntmps162
    go_wp2
    go_ret
    exact ⟨rfl, hd.below (below_alloc _ _), Span.of_below (below_alloc _ _)⟩
  · have HT : Hid (tellM r = massT r.size r.parts) := by show tellM r = _; unfold tellM; rw [ho]; rfl
    have HL : Hid (leftM d r = ⟨r.size, r.parts, d.t, d.ys, d.a⟩) := by show leftM d r = _; unfold leftM; rw [ho]; rfl
    rw [HT.out, HL.out]
    obtain ⟨a1, n1, c1, h1, _, _⟩ := hd.m
    have h0 := hd.c0
    have g0 := hd.f0
    have g1 := hd.f1
    have hlt := hd.lt
    have hDn : w.heap.size ≠ D := by omega
    have hDn2 : D ≠ w.heap.size := by omega
    obtain ⟨wq, hwq⟩ : ∃ q, (w.setCell ⟨D, 0, none⟩ (.int .i64 r.size)).setCell ⟨D, 1, none⟩ (.slice a n c) = q := ⟨_, rfl⟩
    have hrq : Row wq 0 (.slice a n c) r.parts := by rw [← hwq]; exact hr.put2 (fun k e e2 => hne (by rw [e, e2]))
    have hdq : Desk wq D ⟨r.size, r.parts, d.t, d.ys, d.a⟩ := by rw [← hwq]; exact hd.putM r.size r.parts a n c hr hne
    have hbq : Below w0.heap.size w0 wq := by rw [← hwq]; (repeat (first | exact Below.refl _ _ | assumption | refine Below.alloc ?_ (by first | omega | (simp <;> omega)) _ | refine Below.setCell ?_ (by first | omega | (simp <;> omega)) _ | refine Below.drew ?_ | refine below_drewN ?_))
    have hsq : Span D (D + 1) w wq := by rw [← hwq]; exact (Span.set (by show D ≤ D ∧ D < D + 1; omega)).trans (Span.set (by show D ≤ D ∧ D < D + 1; omega))
    have HWQ := hid hwq
    clear hwq hb hr hd
    go_enter Tryz.func162, Tryz.ntmps162
    go_wp2_with fail
    rw [HWQ.out]
    refine (FormatMass_any r.size _ _ _ r.parts _ (hrq.view.below (below_alloc _ _)) (hv.below (hbq.trans ((below_alloc wq _).mono (hbq.size))))).mono ?_; rintro e w5 ⟨rfl, hb5⟩
    have hd5 := (hdq.below (below_alloc wq _)).below hb5
    have hs5 := (hsq.trans (Span.of_below (below_alloc wq _))).trans (Span.of_below hb5)
    clear hb5
    go_wp2
    go_ret
    exact ⟨rfl, hd5, hs5⟩
theorem word_left : bs [108, 101, 102, 116] = ByteArray.mk #[108, 101, 102, 116] := rfl
theorem word_right : bs [114, 105, 103, 104, 116] = ByteArray.mk #[114, 105, 103, 104, 116] := rfl
theorem bs_ok : (ByteArray.mk #[111, 107] : ByteArray) = bs [111, 107] := rfl
set_option maxRecDepth 100000 in
set_option maxHeartbeats 2000000 in
theorem run_left (d : DS) {s : Int} {xs : List Int} (hm : massOk s xs = true) : Ln ([108, 101, 102, 116] ++ 32 :: massT s xs) d [111, 107] ⟨s, xs, d.t, d.ys, d.a⟩ := by
  intro w0 w D hv hD hb hd
  have HC := hid (cut_app 32 [108, 101, 102, 116] (massT s xs) (by decide))
  have hln := massT_len s xs
  have hll : ([108, 101, 102, 116] ++ 32 :: massT s xs : List UInt8).length ≤ 2000000 := by simp; omega
  have hz0 := hb.size
  obtain ⟨T, hT⟩ : ∃ T, massT s xs = T := ⟨_, rfl⟩
  have HTT := hid hT
  rw [hT] at HC hll ⊢
  clear hT hln
  obtain ⟨L, hL⟩ : ∃ L, ([108, 101, 102, 116] ++ 32 :: T : List UInt8) = L := ⟨_, rfl⟩
  rw [hL] at HC hll ⊢
  clear hL
  go_enter Tryz.func60, Tryz.ntmps60
  go_wp2_with fail
  refine (cut_any L 32 _ _ _ HC.out hll _ (hv.below hb)).mono ?_; rw [word_left]; rintro e w1 ⟨rfl, hb1⟩
  have hbb := hb.trans (hb1.mono hz0)
  have hd1 := hd.below hb1
  have hs1 := Span.of_below (lo := D) (hi := D + 1) hb1
  clear hb1 hd
  go_wp2_with fail
  rw [← HTT.out]
  refine (ParseMass_any s xs _ hm (hv.below hbb)).mono ?_; rintro e w2 ⟨⟨v, rfl, hr⟩, hb2⟩
  obtain ⟨a, n, c, rfl, hi⟩ := hr.ints
  have hne : (Value.slice a n c).ownBlock ≠ some D := fun e => by have := (hr.block _ e).1; have := hd1.lt; omega
  have hbb2 := hbb.trans (hb2.mono hbb.size)
  have hd2 := hd1.below hb2
  have hs2 := hs1.trans (Span.of_below hb2)
  clear hb2 hi hd1 hs1
  obtain ⟨a1, n1, c1, h1, _, _⟩ := hd2.m
  have h0 := hd2.c0
  have g0 := hd2.f0
  have g1 := hd2.f1
  have hlt := hd2.lt
  have hDn : w2.heap.size ≠ D := by omega
  have hDn2 : D ≠ w2.heap.size := by omega
  obtain ⟨wq, hwq⟩ : ∃ q, (w2.setCell ⟨D, 0, none⟩ (.int .i64 s)).setCell ⟨D, 1, none⟩ (.slice a n c) = q := ⟨_, rfl⟩
  have hdq : Desk wq D ⟨s, xs, d.t, d.ys, d.a⟩ := by rw [← hwq]; exact hd2.putM s xs a n c (hr.mono (Nat.zero_le _)) hne
  have hsq : Span D (D + 1) w2 wq := by rw [← hwq]; exact (Span.set (by show D ≤ D ∧ D < D + 1; omega)).trans (Span.set (by show D ≤ D ∧ D < D + 1; omega))
  have HWQ := hid hwq
  clear hwq hr
  go_wp2
  rw [HWQ.out]
  go_ret
  exact ⟨rfl, hdq.below (below_alloc wq _), (hs2.trans hsq).trans (Span.of_below (below_alloc wq _))⟩
set_option maxRecDepth 100000 in
set_option maxHeartbeats 2000000 in
theorem run_right (d : DS) {s : Int} {xs : List Int} (hm : massOk s xs = true) : Ln ([114, 105, 103, 104, 116] ++ 32 :: massT s xs) d [111, 107] ⟨d.s, d.xs, s, xs, d.a⟩ := by
  intro w0 w D hv hD hb hd
  have HC := hid (cut_app 32 [114, 105, 103, 104, 116] (massT s xs) (by decide))
  have hln := massT_len s xs
  have hll : ([114, 105, 103, 104, 116] ++ 32 :: massT s xs : List UInt8).length ≤ 2000000 := by simp; omega
  have hz0 := hb.size
  obtain ⟨T, hT⟩ : ∃ T, massT s xs = T := ⟨_, rfl⟩
  have HTT := hid hT
  rw [hT] at HC hll ⊢
  clear hT hln
  obtain ⟨L, hL⟩ : ∃ L, ([114, 105, 103, 104, 116] ++ 32 :: T : List UInt8) = L := ⟨_, rfl⟩
  rw [hL] at HC hll ⊢
  clear hL
  go_enter Tryz.func60, Tryz.ntmps60
  go_wp2_with fail
  refine (cut_any L 32 _ _ _ HC.out hll _ (hv.below hb)).mono ?_; rw [word_right]; rintro e w1 ⟨rfl, hb1⟩
  have hbb := hb.trans (hb1.mono hz0)
  have hd1 := hd.below hb1
  have hs1 := Span.of_below (lo := D) (hi := D + 1) hb1
  clear hb1 hd
  go_wp2_with fail
  rw [← HTT.out]
  refine (ParseMass_any s xs _ hm (hv.below hbb)).mono ?_; rintro e w2 ⟨⟨v, rfl, hr⟩, hb2⟩
  obtain ⟨a, n, c, rfl, hi⟩ := hr.ints
  have hne : (Value.slice a n c).ownBlock ≠ some D := fun e => by have := (hr.block _ e).1; have := hd1.lt; omega
  have hbb2 := hbb.trans (hb2.mono hbb.size)
  have hd2 := hd1.below hb2
  have hs2 := hs1.trans (Span.of_below hb2)
  clear hb2 hi hd1 hs1
  obtain ⟨a1, n1, c1, h1, _, _⟩ := hd2.n
  have h0 := hd2.c2
  have g0 := hd2.f2
  have g1 := hd2.f3
  have hlt := hd2.lt
  have hDn : w2.heap.size ≠ D := by omega
  have hDn2 : D ≠ w2.heap.size := by omega
  obtain ⟨wq, hwq⟩ : ∃ q, (w2.setCell ⟨D, 2, none⟩ (.int .i64 s)).setCell ⟨D, 3, none⟩ (.slice a n c) = q := ⟨_, rfl⟩
  have hdq : Desk wq D ⟨d.s, d.xs, s, xs, d.a⟩ := by rw [← hwq]; exact hd2.putN s xs a n c (hr.mono (Nat.zero_le _)) hne
  have hsq : Span D (D + 1) w2 wq := by rw [← hwq]; exact (Span.set (by show D ≤ D ∧ D < D + 1; omega)).trans (Span.set (by show D ≤ D ∧ D < D + 1; omega))
  have HWQ := hid hwq
  clear hwq hr
  go_wp2
  rw [HWQ.out]
  go_ret
  exact ⟨rfl, hdq.below (below_alloc wq _), (hs2.trans hsq).trans (Span.of_below (below_alloc wq _))⟩
/-- a word without a rest is executed -/
def Pl (word : List UInt8) (d : DS) (out : List UInt8) (d' : DS) : Prop :=
  ∀ (w0 w : World) (D : Nat), LibV w0 → w0.heap.size ≤ D → Below w0.heap.size w0 w → Desk w D d →
    Calls Tryz.prog 113 #[.pointer (some ⟨D, 0, none⟩), .string (bs word)] w fun e w' => e = .returned (.string (bs out)) ∧ Desk w' D d' ∧ Span D (D + 1) w w'
set_option maxRecDepth 100000 in
set_option maxHeartbeats 1000000 in
theorem run_plain {word : List UInt8} {d : DS} {out : List UInt8} {d' : DS} (hw : (32 : UInt8) ∉ word) (hl : word.length ≤ 100) (h : Pl word d out d') : Ln word d out d' := by
  intro w0 w D hv hD hb hd
  have HC := hid (cut_miss 32 word hw)
  have hz0 := hb.size
  have HP := hid h
  clear hw h
  go_enter Tryz.func60, Tryz.ntmps60
  go_wp2_with fail
  refine (cut_any word 32 _ _ _ HC.out (by omega) _ (hv.below hb)).mono ?_; rintro e w1 ⟨rfl, hb1⟩
  have hbb := hb.trans (hb1.mono hz0)
  have hd1 := hd.below hb1
  have hs1 := Span.of_below (lo := D) (hi := D + 1) hb1
  clear hb1 hd
  go_wp2_with fail
  refine (HP.out w0 w1 D hv hD hbb hd1).mono ?_; rintro e w2 ⟨rfl, hd2, hs2⟩
  have hs3 := hs1.trans hs2
  clear hs1 hs2
  go_wp2
  go_ret
  exact ⟨rfl, hd2, hs3⟩
end Go.Proofs.YtlelnnglpimgjaaGreatDoor
