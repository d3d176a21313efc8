/- The desk with acts; RunScript over lines that may change them (printed by mka1.py). The commands on acts: act, safest, boldest, even, unbeaten, best, regret, lowest, highest (printed by mka2.py). -/
import Derived.Test.YtefmlbahmakboaaGreatDoorU5
import Derived.Test.YtefmlbahmakboaaGreatDoorDR
import Derived.Test.YtefmlbahmakboaaGreatDoorV2
import Derived.Test.YtefmlbahmakboaaGreatDoorW11
import Derived.Test.YtefmlbahmakboaaGreatDoorW20
import Derived.Test.YtefmlbahmakboaaGreatDoorW22
import Derived.Test.YtefmlbahmakboaaGreatDoorW24
set_option linter.unusedSimpArgs false
set_option linter.unusedVariables false
namespace Go.Proofs.YtefmlbahmakboaaGreatDoor
open Go.RowKit
/-- below block B only block D has changed -/
structure SpD (D B : Nat) (w w' : World) : Prop where
  os : w'.os = w.os
  tape : w'.tape = w.tape
  output : w'.output = w.output
  size : w.heap.size ≤ w'.heap.size
  block : ∀ k, k < w.heap.size → k < B → k ≠ D → w'.heap[k]? = w.heap[k]?
theorem SpD.refl (D B : Nat) (w : World) : SpD D B w w := ⟨rfl, rfl, rfl, Nat.le_refl _, fun _ _ _ _ => rfl⟩
theorem SpD.trans {D B : Nat} {a b c : World} (h : SpD D B a b) (k : SpD D B b c) : SpD D B a c :=
  ⟨k.os.trans h.os, k.tape.trans h.tape, k.output.trans h.output, Nat.le_trans h.size k.size, fun j hj h1 h2 => (k.block j (Nat.lt_of_lt_of_le hj h.size) h1 h2).trans (h.block j hj h1 h2)⟩
theorem SpD.of_span {D B : Nat} {a b : World} (h : Span D (D + 1) a b) : SpD D B a b := ⟨h.os, h.tape, h.output, h.size, fun k hk _ h2 => h.block k hk (by omega)⟩
theorem SpD.of_below {D B : Nat} {a b : World} (h : Below a.heap.size a b) : SpD D B a b := ⟨h.os, h.tape, h.output, h.size, fun k hk _ _ => h.block k hk⟩
theorem SpD.grown {D B : Nat} {a b : World} {row : Option Nat} (h : a.grownBy b row) (hr : ∀ k, row = some k → B ≤ k) : SpD D B a b :=
  ⟨h.os, h.tape, h.output, h.size, fun k hk h1 _ => h.block k hk (fun e => by have := hr k e.symm; omega)⟩
theorem SpD.below {D B S : Nat} {w a b : World} (h : Below S w a) (hS : S ≤ a.heap.size) (hs : SpD D B a b) (hD : S ≤ D) (hB : D < B) : Below S w b :=
  ⟨hs.os.trans h.os, hs.tape.trans h.tape, hs.output.trans h.output, Nat.le_trans h.size hs.size, fun k hk => (hs.block k (by omega) (by omega) (by omega)).trans (h.block k hk)⟩
/-- the desk, and the acts on it; these lie from block B on -/
structure DeskA (w : World) (D B : Nat) (d : DS) (gg : List (List Int)) : Prop where
  desk : Desk w D d
  f5 : w.frozen? ⟨D, 5, none⟩ = false
  c5 : ∃ v, w.cell? ⟨D, 5, none⟩ = some v ∧ RowsO w B v gg ∧ (gg = [] → v.ownBlock = none)
theorem DeskA.below {w w' : World} {D B : Nat} {d : DS} {gg : List (List Int)} (h : DeskA w D B d gg) (hb : Below w.heap.size w w') : DeskA w' D B d gg := by
  obtain ⟨v, h1, h2, h3⟩ := h.c5
  exact ⟨h.desk.below hb, (hb.frozen (p := ⟨D, 5, none⟩) h.desk.lt).trans h.f5, v, (hb.cell (p := ⟨D, 5, none⟩) h.desk.lt).trans h1, h2.below hb, h3⟩
/-- a line is executed: what it prints, and what it leaves on the desk -/
def LnA (line : List UInt8) (d : DS) (gg : List (List Int)) (out : List UInt8) (d' : DS) (gg' : List (List Int)) : Prop :=
  ∀ (w0 w : World) (D B : Nat), LibV w0 → w0.heap.size ≤ D → D < B → B ≤ w.heap.size → Below w0.heap.size w0 w → DeskA w D B d gg →
    Calls Tryz.prog 58 #[.pointer (some ⟨D, 0, none⟩), .string (bs line)] w fun e w' => e = .returned (.string (bs out)) ∧ DeskA w' D B d' gg' ∧ SpD D B w w'
inductive ChainA : DS → List (List Int) → List (List UInt8 × List UInt8) → DS → List (List Int) → Prop
  | nil (d : DS) (gg : List (List Int)) : ChainA d gg [] d gg
  | cons {l o : List UInt8} {d d' d'' : DS} {gg gg' gg'' : List (List Int)} {r : List (List UInt8 × List UInt8)} : LnA l d gg o d' gg' → ChainA d' gg' r d'' gg'' → ChainA d gg ((l, o) :: r) d'' gg''
theorem SRow.spD {D B : Nat} {w w' : World} {base g n c : Nat} {xs : List ByteArray} (h : SRow w base (.slice (some ⟨g, 0, none⟩) n c) xs) (hs : SpD D B w w') (h1 : g < B) (h2 : g ≠ D) : SRow w' base (.slice (some ⟨g, 0, none⟩) n c) xs := by
  have hl := SRow.block h g rfl
  refine ⟨h.1, ?_⟩
  rcases h.2 with h2 | ⟨g', cap, cur, hv, hg', hh, r⟩
  · exact .inl h2
  · refine .inr ⟨g', cap, cur, hv, hg', ?_, r⟩
    injection hv with e1 e2 e3
    injection e1 with e1; injection e1 with e1
    rw [← e1] at hh ⊢
    rw [hs.block g hl.2 h1 (by assumption)]; exact hh
theorem ChainA.app {d d' d'' : DS} {gg gg' gg'' : List (List Int)} {r t : List (List UInt8 × List UInt8)} (h : ChainA d gg r d' gg') (k : ChainA d' gg' t d'' gg'') : ChainA d gg (r ++ t) d'' gg'' := by
  induction h with
  | nil => exact k
  | cons h1 _ ih => exact .cons h1 (ih k)
theorem chainA_step {steps : List (List UInt8 × List UInt8)} {d d' : DS} {gg gg' : List (List Int)} {k : Nat} (hk : k < steps.length) (h : ChainA d gg (steps.drop k) d' gg') : ∃ d1 gg1, LnA steps[k].1 d gg steps[k].2 d1 gg1 ∧ ChainA d1 gg1 (steps.drop (k + 1)) d' gg' := by
  rw [List.drop_eq_getElem_cons hk] at h
  generalize hp : steps[k] = p at h ⊢
  obtain ⟨l, o⟩ := p
  cases h with
  | cons h1 h2 => exact ⟨_, _, h1, h2⟩
set_option maxRecDepth 100000 in
set_option maxHeartbeats 4000000 in
theorem RunScript_acts (steps : List (List UInt8 × List UInt8)) (d' : DS) (gg' : List (List Int)) (w : World) (hv : LibV w) (hch : ChainA startD [] steps d' gg') (hn : steps.length ≤ 99) (hl : ∀ p ∈ steps, p.1 ≠ [] ∧ (10 : UInt8) ∉ p.1) (ht : (lineT (steps.map Prod.fst)).length ≤ 20000) (ho : (lineT (steps.map Prod.snd)).length ≤ 40000) :
    Calls Tryz.prog 21 #[.string (bs (lineT (steps.map Prod.fst)))] w fun e w' => e = .returned (.string (bs (lineT (steps.map Prod.snd)))) ∧ Below w.heap.size w w' := by
  have HCUT : Hid (cutAt 10 (lineT (steps.map Prod.fst)) = steps.map Prod.fst ++ [[]]) := cut_lines _ fun l hl2 => by
    rw [List.mem_map] at hl2
    obtain ⟨p, hp, rfl⟩ := hl2
    exact (hl p hp).2
  have HLE : Hid (∀ k, (lineT ((steps.take k).map Prod.snd)).length ≤ 40000) := fun k => by have := lineT_le (steps := steps) k; omega
  have HCH := hid hch
  have HL := hid hl
  obtain ⟨M, hM⟩ : ∃ M, steps.length = M := ⟨_, rfl⟩
  have HM := hid hM
  rw [hM] at hn
  have HALL : Hid (∀ k, M ≤ k → lineT ((steps.take k).map Prod.snd) = lineT (steps.map Prod.snd)) := fun k hk => by rw [List.take_of_length_le (by omega)]
  obtain ⟨T, hT⟩ : ∃ T, lineT (steps.map Prod.fst) = T := ⟨_, rfl⟩
  rw [hT] at ht HCUT ⊢
  clear hch hl hM hT ho
  have hts : (bs T).size ≤ 20000 := by rw [bs_size]; exact ht
  have htz : ¬ (20000 : Int) < ((bs T).size : Nat) := by omega
  go_enter Tryz.func21, Tryz.ntmps21
  go_wp2_with fail
  refine (sureMass_any 2 3 _ (by decide) (by decide)).mono ?_; rintro e w1 ⟨⟨v1, rfl, hr1⟩, hb1⟩
  obtain ⟨a1, n1, c1, rfl, hi1⟩ := hr1.ints
  clear hi1
  go_wp2_with fail
  refine (sureMass_any 2 3 _ (by decide) (by decide)).mono ?_; rintro e w2 ⟨⟨v2, rfl, hr2⟩, hb2⟩
  obtain ⟨a2, n2, c2, rfl, hi2⟩ := hr2.ints
  clear hi2
  replace hr1 := hr1.below hb2
  have hB2 := chain hb1 hb2
  clear hb1 hb2
  go_wp2_with fail
  obtain ⟨w3, hw3⟩ : ∃ W, w2.alloc (.cells #[.int .i64 2, .slice a1 n1 c1, .int .i64 2, .slice a2 n2 c2, .int .i64 1, .slice none 0 0] 72) = W := ⟨_, rfl⟩
  rw [hw3]
  have hb3 : Below w2.heap.size w2 w3 := by rw [← hw3]; exact below_alloc _ _
  have hD0 : Desk w3 w2.heap.size startD := by
    have e1 := hr1.below (below_alloc w2 (.cells #[.int .i64 2, .slice a1 n1 c1, .int .i64 2, .slice a2 n2 c2, .int .i64 1, .slice none 0 0] 72))
    have e2 := hr2.below (below_alloc w2 (.cells #[.int .i64 2, .slice a1 n1 c1, .int .i64 2, .slice a2 n2 c2, .int .i64 1, .slice none 0 0] 72))
    have b1 := hr1.block
    have b2 := hr2.block
    rw [hw3] at e1 e2
    refine ⟨by rw [← hw3]; simp, by rw [← hw3]; simp [startD], by rw [← hw3]; simp [startD], by rw [← hw3]; simp [startD], by rw [← hw3]; simp, by rw [← hw3]; simp, by rw [← hw3]; simp, by rw [← hw3]; simp, by rw [← hw3]; simp, ⟨a1, n1, c1, by rw [← hw3]; simp, e1.mono (by omega), fun e => ?_⟩, ⟨a2, n2, c2, by rw [← hw3]; simp, e2.mono (by omega), fun e => ?_⟩⟩
    · have := (b1 _ e).2; omega
    · have := (b2 _ e).2; omega
  have hc5 : w3.cell? ⟨w2.heap.size, 5, none⟩ = some (.slice none 0 0) ∧ w3.frozen? ⟨w2.heap.size, 5, none⟩ = false := ⟨by rw [← hw3]; simp, by rw [← hw3]; simp⟩
  have hB3 := chain hB2 hb3
  have hz3 : w2.heap.size < w3.heap.size := hD0.lt
  obtain ⟨D, hDe⟩ : ∃ D, w2.heap.size = D := ⟨_, rfl⟩
  have hDw : w.heap.size ≤ D := by have := hB2.size; omega
  rw [hDe] at hD0 hz3 hc5 ⊢
  clear hb3 hw3 hDe hr1 hr2
  refine (split_at 10 T _ (by omega) (hv.below hB3)).mono ?_; rintro e w4 ⟨n, ys, rfl, hsr, hys, hb4⟩
  rw [HCUT.out] at hys
  have hn4 : n = M + 1 := by rw [hsr.at.1, hys]; simp [HM.out]
  subst hn4
  have hD4 : DeskA w4 D w4.heap.size startD [] := ⟨hD0.below hb4, (hb4.frozen (p := ⟨D, 5, none⟩) hz3).trans hc5.2, .slice none 0 0, (hb4.cell (p := ⟨D, 5, none⟩) hz3).trans hc5.1, ⟨[], World.ownsRow_nil _ _ _ _, rfl, fun k u hu => by simp at hu⟩, fun _ => rfl⟩
  obtain ⟨B, hBe⟩ : ∃ B, w4.heap.size = B := ⟨_, rfl⟩
  have hgB : w3.heap.size < B := by rw [← hBe]; exact (SRow.block hsr w3.heap.size rfl).2
  have hDB : D < B := by omega
  have hB4 := chain hB3 hb4
  obtain ⟨gw, hgw⟩ : ∃ gw, w3.heap.size = gw := ⟨_, rfl⟩
  rw [hgw] at hsr hz3 hgB ⊢
  rw [hBe] at hD4
  have HYS := hid hys
  clear hb4 hgw hys hD0 hc5
  go_wp2
  go_loopw [4, 5, 6, 17] (fun o _ _ i wr => ∃ k : Nat, k ≤ M + 1 ∧ i = .int .i64 k ∧ o = .string (bs (lineT ((steps.take k).map Prod.snd))) ∧ (∃ d gg, Hid (ChainA d gg (steps.drop k) d' gg') ∧ DeskA wr D B d gg) ∧ SpD D B w4 wr) (fun _ _ _ i _ => M + 1 - (intOf i).toNat)
  case atStart => exact ⟨0, by omega, rfl, rfl, ⟨startD, [], HCH.out, hD4⟩, SpD.refl _ _ _⟩
  case round =>
    obtain ⟨k, hk, rfl, rfl, ⟨d, gg, HC, hD⟩, hsp⟩ := hrel
    have hsrr := hsr.spD hsp (by omega) (by omega)
    have hB : Below w.heap.size w wr := SpD.below hB4 hB4.size hsp hDw hDB
    have hBr : B ≤ wr.heap.size := by have := hsp.size; omega
    have hle := HLE.out k
    by_cases hlt : k < M
    · have hk0 : (0 : Int) ≤ (k : Int) := by omega
      have hk1 : (k : Int) < ((M + 1 : Nat) : Int) := by omega
      have hkl : k < steps.length := by rw [HM.out]; exact hlt
      obtain ⟨d1, gg1, hln, hch1⟩ := chainA_step hkl HC.out
      have HC1 := hid hch1
      have HT := lineT_take hkl
      have hle1 := HLE.out (k + 1)
      have hp := HL.out steps[k] (List.getElem_mem _)
      have hyk : ys[k]? = some (bs steps[k].1) := by
        rw [HYS.out, List.map_append, List.map_map, List.getElem?_append_left (by rw [List.length_map]; exact hkl), List.getElem?_map, List.getElem?_eq_getElem hkl]; rfl
      have hcell : wr.cell? ⟨gw, k, none⟩ = some (.string (bs steps[k].1)) := by have := hsrr.at.2.2.2.2 k _ hyk; simpa using this
      generalize steps[k] = p at *
      obtain ⟨l, o⟩ := p
      simp only at hln hp HT hcell
      rw [HT, List.length_append, List.length_append] at hle1
      obtain ⟨O, hO⟩ : ∃ O, lineT ((steps.take k).map Prod.snd) = O := ⟨_, rfl⟩
      rw [hO] at HT hle hle1 ⊢
      have HT2 : Hid (bs (lineT ((steps.take (k + 1)).map Prod.snd)) = bs O ++ (bs o ++ ByteArray.mk #[10])) := by
        rw [Hid, HT, show ByteArray.mk #[10] = bs [10] from rfl, bs_append, bs_append]
      have ke : (bs l).toList.isEmpty = false := bs_empty l false (by cases l with | nil => exact absurd rfl hp.1 | cons _ _ => rfl)
      have HLN := hid hln
      have h100 : ¬ (100 : Int) ≤ (k : Int) := by omega
      have hos : ¬ (40000 : Int) < ((bs O).size : Nat) := by rw [bs_size]; omega
      have kz : ¬ 9223372036854775807 < (bs o).size + (ByteArray.mk #[10]).size := by rw [bs_size]; simp [ByteArray.size]; simp at hle1; omega
      have kz2 : ¬ 9223372036854775807 < (bs O).size + (bs o ++ ByteArray.mk #[10]).size := by rw [ByteArray.size_append, bs_size, bs_size]; simp [ByteArray.size]; simp at hle1; omega
      clear HT hO hyk hkl hln hp hch1 hle hle1
      go_wp2_with fail
      refine (HLN.out w wr D B hv hDw hDB hBr hB hD).mono ?_; rintro e w5 ⟨rfl, hD5, hs5⟩
      have HSP := hid (hsp.trans hs5)
      clear hsp hs5 hsrr hD
      go_wp2
      go_roundw
      case rel => first | exact ⟨k + 1, by omega, by go_num, by rw [HT2.out], ⟨d1, gg1, HC1, hD5⟩, HSP.out⟩ | exact ⟨_, ⟨k + 1, by omega, by go_num, by rw [HT2.out], ⟨d1, gg1, HC1, hD5⟩, HSP.out⟩, rfl⟩ | exact ⟨_, _, ⟨k + 1, by omega, by go_num, by rw [HT2.out], ⟨d1, gg1, HC1, hD5⟩, HSP.out⟩, rfl, rfl⟩ | exact ⟨_, _, _, ⟨k + 1, by omega, by go_num, by rw [HT2.out], ⟨d1, gg1, HC1, hD5⟩, HSP.out⟩, rfl, rfl, rfl⟩ | exact ⟨_, _, _, _, ⟨k + 1, by omega, by go_num, by rw [HT2.out], ⟨d1, gg1, HC1, hD5⟩, HSP.out⟩, rfl, rfl, rfl, rfl⟩ | exact ⟨_, _, _, _, _, ⟨k + 1, by omega, by go_num, by rw [HT2.out], ⟨d1, gg1, HC1, hD5⟩, HSP.out⟩, rfl, rfl, rfl, rfl, rfl⟩
      case measure => simp [intOf]; omega
    · by_cases hlt2 : k < M + 1
      · obtain rfl : k = M := by omega
        have hk0 : (0 : Int) ≤ (k : Int) := by omega
        have hk1 : (k : Int) < ((k + 1 : Nat) : Int) := by omega
        have hyk : ys[k]? = some (bs []) := by
          rw [HYS.out, List.map_append, List.getElem?_append_right (by rw [List.length_map, List.length_map, HM.out]; exact Nat.le_refl _), List.length_map, List.length_map, HM.out, Nat.sub_self]; rfl
        have hcell : wr.cell? ⟨gw, k, none⟩ = some (.string (bs [])) := by have := hsrr.at.2.2.2.2 k _ hyk; simpa using this
        have ke : (bs ([] : List UInt8)).toList.isEmpty = true := bs_empty [] true rfl
        have HT2 : Hid (lineT ((steps.take (k + 1)).map Prod.snd) = lineT ((steps.take k).map Prod.snd)) := by rw [Hid, HALL.out _ (by omega), HALL.out _ (Nat.le_refl _)]
        have HC2 : Hid (ChainA d gg (steps.drop (k + 1)) d' gg') := by
          have h1 := HC.out
          rw [List.drop_of_length_le (by rw [HM.out]; exact Nat.le_refl _)] at h1
          rw [Hid, List.drop_of_length_le (by rw [HM.out]; omega)]; exact h1
        clear hyk hsrr
        go_wp2
        go_roundw
        case rel => first | exact ⟨k + 1, by omega, by go_num, by rw [HT2.out], ⟨d, gg, HC2, hD⟩, hsp⟩ | exact ⟨_, ⟨k + 1, by omega, by go_num, by rw [HT2.out], ⟨d, gg, HC2, hD⟩, hsp⟩, rfl⟩ | exact ⟨_, _, ⟨k + 1, by omega, by go_num, by rw [HT2.out], ⟨d, gg, HC2, hD⟩, hsp⟩, rfl, rfl⟩ | exact ⟨_, _, _, ⟨k + 1, by omega, by go_num, by rw [HT2.out], ⟨d, gg, HC2, hD⟩, hsp⟩, rfl, rfl, rfl⟩ | exact ⟨_, _, _, _, ⟨k + 1, by omega, by go_num, by rw [HT2.out], ⟨d, gg, HC2, hD⟩, hsp⟩, rfl, rfl, rfl, rfl⟩ | exact ⟨_, _, _, _, _, ⟨k + 1, by omega, by go_num, by rw [HT2.out], ⟨d, gg, HC2, hD⟩, hsp⟩, rfl, rfl, rfl, rfl, rfl⟩
        case measure => simp [intOf]
      · obtain rfl : k = M + 1 := by omega
        have HE := hid (HALL.out (M + 1) (by omega))
        go_wp2
        go_ret
        exact ⟨by rw [HE.out]; rfl, hB⟩
set_option maxRecDepth 100000 in
set_option maxHeartbeats 2000000 in
theorem run_leftA (d : DS) (gg : List (List Int)) {s : Int} {xs : List Int} (hm : massOk s xs = true) : LnA ([108, 101, 102, 116] ++ 32 :: massT s xs) d gg [111, 107] ⟨s, xs, d.t, d.ys, d.a⟩ gg := by
  intro w0 w D B hv hD hDB hBw hb hda
  have hd := hda.desk
  have HC := hid (cut_app 32 [108, 101, 102, 116] (massT s xs) (by decide))
  have hln := massT_len s xs
  have hll : ([108, 101, 102, 116] ++ 32 :: massT s xs : List UInt8).length ≤ 2000000 := by simp; omega
  have hz0 := hb.size
  obtain ⟨T, hT⟩ : ∃ T, massT s xs = T := ⟨_, rfl⟩
  have HTT := hid hT
  rw [hT] at HC hll ⊢
  clear hT hln
  obtain ⟨L, hL⟩ : ∃ L, ([108, 101, 102, 116] ++ 32 :: T : List UInt8) = L := ⟨_, rfl⟩
  rw [hL] at HC hll ⊢
  clear hL
  go_enter Tryz.func58, Tryz.ntmps58
  go_wp2_with fail
  refine (cut_any L 32 _ _ _ HC.out hll _ (hv.below hb)).mono ?_; rw [word_left]; rintro e w1 ⟨rfl, hb1⟩
  have hbb := hb.trans (hb1.mono hz0)
  have hd1 := hd.below hb1
  have ha1 := hda.below hb1
  have hs1 := Span.of_below (lo := D) (hi := D + 1) hb1
  clear hb1 hd hda
  go_wp2_with fail
  rw [← HTT.out]
  refine (ParseMass_any s xs _ hm (hv.below hbb)).mono ?_; rintro e w2 ⟨⟨v, rfl, hr⟩, hb2⟩
  obtain ⟨a, n, c, rfl, hi⟩ := hr.ints
  have hne : (Value.slice a n c).ownBlock ≠ some D := fun e => by have := (hr.block _ e).1; have := hd1.lt; omega
  have hbb2 := hbb.trans (hb2.mono hbb.size)
  have hd2 := hd1.below hb2
  have ha2 := ha1.below hb2
  have hs2 := hs1.trans (Span.of_below hb2)
  clear hb2 hi hd1 hs1 ha1
  obtain ⟨a1, n1, c1, h1, _, _⟩ := hd2.m
  have h0 := hd2.c0
  have g0 := hd2.f0
  have g1 := hd2.f1
  have hlt := hd2.lt
  have hDn : w2.heap.size ≠ D := by omega
  have hDn2 : D ≠ w2.heap.size := by omega
  obtain ⟨wq, hwq⟩ : ∃ q, (w2.setCell ⟨D, 0, none⟩ (.int .i64 s)).setCell ⟨D, 1, none⟩ (.slice a n c) = q := ⟨_, rfl⟩
  have hdq : Desk wq D ⟨s, xs, d.t, d.ys, d.a⟩ := by rw [← hwq]; exact hd2.putM s xs a n c (hr.mono (Nat.zero_le _)) hne
  have hsq : Span D (D + 1) w2 wq := by rw [← hwq]; exact (Span.set (by show D ≤ D ∧ D < D + 1; omega)).trans (Span.set (by show D ≤ D ∧ D < D + 1; omega))
  obtain ⟨v5, k1, k2, k3⟩ := ha2.c5
  have haq : DeskA wq D B ⟨s, xs, d.t, d.ys, d.a⟩ gg := by
    refine ⟨hdq, by rw [← hwq]; simp [ha2.f5], v5, ?_, ?_, k3⟩
    · rw [← hwq]; exact (World.cell?_setCell_other _ _ _ _ (by simp)).trans ((World.cell?_setCell_other _ _ _ _ (by simp)).trans k1)
    · rw [← hwq]; exact k2.put2 hDB
  have HWQ := hid hwq
  clear k1 k2 k3 ha2
  clear hwq hr
  go_wp2
  rw [HWQ.out]
  go_ret
  exact ⟨rfl, haq.below (below_alloc wq _), SpD.of_span ((hs2.trans hsq).trans (Span.of_below (below_alloc wq _)))⟩
theorem numT_text2 {xs : List Int} (h : xs ≠ []) : numT xs = Lib.join (xs.map Lib.itoa) [32] := by
  unfold numT txt; rw [if_neg (by intro e; exact h (List.length_eq_zero_iff.1 e)), List.take_length]
theorem cut_numT2 {xs : List Int} (h : xs ≠ []) : cutAt 32 (numT xs) = xs.map Lib.itoa := by
  rw [numT_text2 h]
  exact cut_join 32 _ (by intro e; exact h (List.map_eq_nil_iff.1 e)) (fun x hx => by
    obtain ⟨v, _, rfl⟩ := List.mem_map.1 hx
    exact itoa_no_space v)
theorem parse_numT {xs : List Int} (h0 : xs ≠ []) (hl : xs.length ≤ 16) (hall : ∀ x ∈ xs, -1000000000 ≤ x ∧ x ≤ 1000000000) : parseR (numT xs) = some xs := by
  rw [parseR_good]
  · rw [cut_numT2 h0]; unfold valsOf; rw [List.map_map]
    conv => rhs; rw [← List.map_id xs]
    congr 1
    refine List.map_congr_left fun x hx => ?_
    simp only [Function.comp, numP_of_itoa (hall x hx).1 (hall x hx).2, Option.getD_some, id]
  · rw [cut_numT2 h0, okAll_iff]; intro y hy
    obtain ⟨x, hx, rfl⟩ := List.mem_map.1 hy
    rw [numP_of_itoa (hall x hx).1 (hall x hx).2]; rfl
  · rw [cut_numT2 h0]; simp; omega
theorem gains_small {s : Int} {gs : List Int} (hg : gainsOk s gs = true) (hs : okSize s = true) : gs ≠ [] ∧ gs.length ≤ 4 ∧ ∀ x ∈ gs, -1000 ≤ x ∧ x ≤ 1000 := by
  obtain ⟨h1, h2⟩ := gainsOk_facts hg
  have h3 : 1 ≤ s ∧ s ≤ 4 := by rcases okSize_iff.1 hs with h | h | h | h <;> omega
  refine ⟨by intro e; rw [e] at h1; simp at h1; omega, by omega, fun x hx => ?_⟩
  obtain ⟨k, hk, hxk⟩ := List.getElem_of_mem hx
  have := h2 k hk
  rw [nth_eq _ _ hk, hxk] at this
  exact this
theorem gains_I64 {s : Int} {gs : List Int} (hg : gainsOk s gs = true) : I64 gs := fun k hk => by have := (gainsOk_facts hg).2 k hk; omega
theorem numT_len2 (xs : List Int) (h : I64 xs) : (numT xs).length ≤ 22 * xs.length + 1 := by
  unfold numT; split
  · simp
  · have := txt_len xs h xs.length (Nat.le_refl _); omega
theorem parse_own {s : Int} {gs : List Int} (hg : gainsOk s gs = true) (hs : okSize s = true) (w : World) (hv : LibV w) :
    Calls Tryz.prog 172 #[.string (bs (numT gs))] w fun e w' => (∃ v, e = .returned (.tuple #[v, .bool true]) ∧ Row w' w.heap.size v gs) ∧ Below w.heap.size w w' := by
  obtain ⟨h0, hl, hall⟩ := gains_small hg hs
  have hz := numT_len2 gs (gains_I64 hg)
  have h := implParse_any (bs (numT gs)) w (by rw [bs_size]; omega) hv
  have e : parseR (bs (numT gs)).data.toList = some gs := by rw [bs_data]; exact parse_numT h0 (by omega) (fun x hx => by have := hall x hx; omega)
  rw [e] at h
  exact h
theorem Desk.grown {w w' : World} {D : Nat} {d : DS} {row : Option Nat} (h : Desk w D d) (hg : w.grownBy w' row) (hD : row ≠ some D)
    (hm : ∀ v, Row w 0 v d.xs → ∀ b, v.ownBlock = some b → row ≠ some b) (hn : ∀ v, Row w 0 v d.ys → ∀ b, v.ownBlock = some b → row ≠ some b) : Desk w' D d := by
  have hb : w'.heap[D]? = w.heap[D]? := hg.block D h.lt (fun e => hD e.symm)
  have hc : ∀ o, w'.cell? ⟨D, o, none⟩ = w.cell? ⟨D, o, none⟩ := fun o => cell_block hb
  have hf : ∀ o, w'.frozen? ⟨D, o, none⟩ = w.frozen? ⟨D, o, none⟩ := fun o => frozen_block hb
  refine ⟨Nat.lt_of_lt_of_le h.lt hg.size, (hc 0).trans h.c0, (hc 2).trans h.c2, (hc 4).trans h.c4, (hf 0).trans h.f0, (hf 1).trans h.f1, (hf 2).trans h.f2, (hf 3).trans h.f3, (hf 4).trans h.f4, ?_, ?_⟩
  · obtain ⟨a, n, c, h1, h2, h3⟩ := h.m
    exact ⟨a, n, c, (hc 1).trans h1, owns_below h2 (fun k e => hg.block k (h2.block k e).2 (fun e2 => hm _ h2 k e e2.symm)), h3⟩
  · obtain ⟨a, n, c, h1, h2, h3⟩ := h.n
    exact ⟨a, n, c, (hc 3).trans h1, owns_below h2 (fun k e => hg.block k (h2.block k e).2 (fun e2 => hn _ h2 k e e2.symm)), h3⟩
theorem row_ne_rows {w : World} {b0 B : Nat} {v u : Value} {xs : List Int} {gg : List (List Int)} (hr : Row w b0 v xs) (hx : 0 < xs.length) (ho : RowsO w B u gg) (hz : gg = [] → u.ownBlock = none) : ∀ b, v.ownBlock = some b → u.ownBlock ≠ some b := by
  intro b hb hu
  have h0 : 0 < gg.length := by
    cases gg with
    | nil => rw [hz rfl] at hu; cases hu
    | cons => simp
  obtain ⟨vals, h1, h2, h3⟩ := ho.own
  have hk2 : 0 < vals.length := by omega
  have hv2 : vals[0]? = some (vals[0]) := List.getElem?_eq_getElem hk2
  have e := World.ownsRow.cells h1 (g := b) hu 0 _ hv2
  obtain ⟨a', n', c', e2, _⟩ := (h3 0 _ hv2).1.ints
  have hx2 : (xs.map (Value.int .i64))[0]? = some (.int .i64 xs[0]) := by rw [List.getElem?_map, List.getElem?_eq_getElem hx]; rfl
  have e3 := World.ownsRow.cells hr (g := b) hb 0 _ hx2
  rw [e, e2] at e3
  cases e3
theorem Desk.put5 {w : World} {D : Nat} {d : DS} (h : Desk w D d) (v : Value) : Desk (w.setCell ⟨D, 5, none⟩ v) D d := by
  obtain ⟨a1, n1, c1, h1, h2, h3⟩ := h.m
  obtain ⟨a2, n2, c2, k1, k2, k3⟩ := h.n
  refine ⟨by simp; exact h.lt, ?_, ?_, ?_, by simp [h.f0], by simp [h.f1], by simp [h.f2], by simp [h.f3], by simp [h.f4], ⟨a1, n1, c1, ?_, h2.setOther (a := ⟨D, 5, none⟩) h3 _, h3⟩, ⟨a2, n2, c2, ?_, k2.setOther (a := ⟨D, 5, none⟩) k3 _, k3⟩⟩
  · exact (World.cell?_setCell_other _ _ _ _ (by simp)).trans h.c0
  · exact (World.cell?_setCell_other _ _ _ _ (by simp)).trans h.c2
  · exact (World.cell?_setCell_other _ _ _ _ (by simp)).trans h.c4
  · exact (World.cell?_setCell_other _ _ _ _ (by simp)).trans h1
  · exact (World.cell?_setCell_other _ _ _ _ (by simp)).trans k1
set_option maxRecDepth 100000 in
set_option maxHeartbeats 4000000 in
theorem listed_act (d : DS) (gg : List (List Int)) {gs : List Int} (hg : gainsOk d.s gs = true) (hs : okSize d.s = true) (hl : gg.length < 8) (hx : 0 < d.xs.length) (hy : 0 < d.ys.length) (w0 w : World) (D B : Nat) (hv : LibV w0) (hDB : D < B) (hBw : B ≤ w.heap.size) (hb : Below w0.heap.size w0 w) (hda : DeskA w D B d gg) :
    Calls Tryz.prog 107 #[.pointer (some ⟨D, 0, none⟩), .string (ByteArray.mk #[97, 99, 116]), .string (bs (numT gs))] w fun e w' => e = .returned (.string (ByteArray.mk #[111, 107])) ∧ DeskA w' D B d (gg ++ [gs]) ∧ SpD D B w w' := by
  have HP := hid (parse_own hg hs w (hv.below hb))
  have HG := hid hg
  obtain ⟨v5, k5, hro, hnil⟩ := hda.c5
  have hbl := hro.block
  obtain ⟨a5, n5, c5, rfl, hn5, _⟩ := hro.form
  subst hn5
  have hlt := hda.desk.lt
  have f5 := hda.f5
  have hc8 : ¬ (8 : Int) ≤ (gg.length : Int) := by omega
  obtain ⟨am, nm, cm, h1, hrm, hnm⟩ := hda.desk.m
  have h0 := hda.desk.c0
  have hDn : ∀ b, (Value.slice a5 gg.length c5).ownBlock = some b → b ≠ D := fun b e => by have := (hbl b e).1; omega
  clear hg hs
  go_enter Tryz.func107, Tryz.ntmps107
  go_wp2_with fail
  refine HP.out.mono ?_; rintro e w1 ⟨⟨v, rfl, hr⟩, hb1⟩
  obtain ⟨a, n, c, rfl, hi⟩ := hr.ints
  have hbr := hr.block
  have hda1 := hda.below hb1
  have g5 := keepF hb1 k5 f5
  replace k5 := keep hb1 k5
  replace h0 := keep hb1 h0
  replace h1 := keep hb1 h1
  have hz1 := hb1.size
  go_wp2_with fail
  refine (areGains_any d.s _ _ _ _ gs _ hi).mono ?_; rw [HG.out]; rintro e w2 ⟨rfl, hb2⟩
  have hda2 := hda1.below hb2
  have g6 := keepF hb2 k5 g5
  replace k5 := keep hb2 k5
  replace h0 := keep hb2 h0
  replace h1 := keep hb2 h1
  have hr2 := hr.below hb2
  have hro2 := (hro.below hb1).below hb2
  have hz2 := hb2.size
  have hs2 : SpD D B w w2 := (SpD.of_below hb1).trans (SpD.of_below hb2)
  clear hb1 hb2 hi hda hda1 hro f5 g5
  go_wp2_with (at_builtin; refine wpList_append_row rfl _ _ rfl B (.slice a5 gg.length c5) gg gg.length rfl (by rfl) (hro2.below (below_alloc w2 _)) _ _ (.slice a n c) gs (by rfl) (by simp) ((hr2.mono hBw).below (below_alloc w2 _)) (fun b e1 e2 => by have := (hbr b e1).1; have := (hbl b e2).2; omega) (by omega) (by simp; omega) ?_; intro g' c' w3 hrow' hgrow hgb; (have hdk : Desk w3 D d := (hda2.desk.below (below_alloc w2 _)).grown hgrow (fun e => hDn D e rfl) (fun v hv => row_ne_rows hv hx (hro2.below (below_alloc w2 _)) hnil |> fun f b e => f b e) (fun v hv => row_ne_rows hv hy (hro2.below (below_alloc w2 _)) hnil |> fun f b e => f b e)); (have hblk := hgrow.block D (by simp; omega) (fun e => hDn D e.symm rfl)); (have k53 : w3.cell? ⟨D, 5, none⟩ = some (.slice a5 gg.length c5) := (cell_block hblk).trans (keep (below_alloc w2 _) k5)); (have f53 : w3.frozen? ⟨D, 5, none⟩ = false := (frozen_block hblk).trans (keepF (below_alloc w2 _) k5 g6)); (have hs3 : SpD D B w w3 := (hs2.trans (SpD.of_below (below_alloc w2 _))).trans (SpD.grown hgrow (fun k e => (hbl k e).1))); (have hsd : Span D (D + 1) w3 (w3.setCell ⟨D, 5, none⟩ (.slice (some ⟨g', 0, none⟩) (gg.length + 1) c')) := Span.set (by show D ≤ D ∧ D < D + 1; omega)); (have hro4 := hrow'.span hsd (by omega)); (have hlt3 : D < w3.heap.size := hdk.lt); clear hro2 hr2 hda2 hgrow k5 h0 h1 hs2)
  go_wp2
  go_ret
  exact ⟨rfl, ⟨hdk.put5 _, by simp [f53], _, World.cell?_setCell_same _ _ _ k53, hro4, fun e => absurd (congrArg List.length e) (by simp)⟩, hs3.trans (SpD.of_span hsd)⟩
set_option maxRecDepth 100000 in
set_option maxHeartbeats 4000000 in
theorem run_act (d : DS) (gg : List (List Int)) {gs : List Int} (hg : gainsOk d.s gs = true) (hs : okSize d.s = true) (hl : gg.length < 8) (hx : 0 < d.xs.length) (hy : 0 < d.ys.length) : LnA ([97, 99, 116] ++ 32 :: numT gs) d gg [111, 107] d (gg ++ [gs]) := by
  intro w0 w D B hv hD hDB hBw hb hda
  have HC := hid (cut_app 32 [97, 99, 116] (numT gs) (by decide))
  have hln := numT_len2 gs (gains_I64 hg)
  have hll : ([97, 99, 116] ++ 32 :: numT gs : List UInt8).length ≤ 2000000 := by have := (gains_small hg hs).2.1; simp; omega
  have hz0 := hb.size
  have HA : Hid (∀ w1, B ≤ w1.heap.size → Below w0.heap.size w0 w1 → DeskA w1 D B d gg → Calls Tryz.prog 107 #[.pointer (some ⟨D, 0, none⟩), .string (ByteArray.mk #[97, 99, 116]), .string (bs (numT gs))] w1 fun e w' => e = .returned (.string (ByteArray.mk #[111, 107])) ∧ DeskA w' D B d (gg ++ [gs]) ∧ SpD D B w1 w') := fun w1 h1 h2 h3 => listed_act d gg hg hs hl hx hy w0 w1 D B hv hDB h1 h2 h3
  obtain ⟨T, hT⟩ : ∃ T, numT gs = T := ⟨_, rfl⟩
  rw [hT] at HC hll HA ⊢
  clear hT hln hg hs
  obtain ⟨L, hL⟩ : ∃ L, ([97, 99, 116] ++ 32 :: T : List UInt8) = L := ⟨_, rfl⟩
  rw [hL] at HC hll ⊢
  clear hL
  go_enter Tryz.func58, Tryz.ntmps58
  go_wp2_with fail
  refine (cut_any L 32 _ _ _ HC.out hll _ (hv.below hb)).mono ?_; rw [show bs [97, 99, 116] = ByteArray.mk #[97, 99, 116] from rfl]; rintro e w1 ⟨rfl, hb1⟩
  have hz1 := hb1.size
  go_wp2_with fail
  refine (HA.out w1 (by omega) (hb.trans (hb1.mono hz0)) (hda.below hb1)).mono ?_; rintro e w2 ⟨rfl, hd2, hs2⟩
  have hs3 := (SpD.of_below (D := D) (B := B) hb1).trans hs2
  go_wp2
  go_ret
  exact ⟨rfl, hd2, hs3⟩
set_option maxRecDepth 100000 in
set_option maxHeartbeats 4000000 in
theorem run_lowest (d : DS) (gg : List (List Int)) {gs : List Int} (hg : gainsOk d.s gs = true) (hs : okSize d.s = true) : LnA ([108, 111, 119, 101, 115, 116] ++ 32 :: numT gs) d gg (tellF (meanM d.s d.xs gs)) d gg := by
  intro w0 w D B hv hD hDB hBw hb hda
  have HC := hid (cut_app 32 [108, 111, 119, 101, 115, 116] (numT gs) (by decide))
  have hln := numT_len2 gs (gains_I64 hg)
  have hll : ([108, 111, 119, 101, 115, 116] ++ 32 :: numT gs : List UInt8).length ≤ 2000000 := by have := (gains_small hg hs).2.1; simp; omega
  have hz0 := hb.size
  have HP : Hid (∀ w1, LibV w1 → Calls Tryz.prog 172 #[.string (bs (numT gs))] w1 fun e w' => (∃ v, e = .returned (.tuple #[v, .bool true]) ∧ Row w' w1.heap.size v gs) ∧ Below w1.heap.size w1 w') := fun w1 h => parse_own hg hs w1 h
  obtain ⟨T, hT⟩ : ∃ T, numT gs = T := ⟨_, rfl⟩
  rw [hT] at HC hll HP ⊢
  clear hT hln hg hs
  obtain ⟨L, hL⟩ : ∃ L, ([108, 111, 119, 101, 115, 116] ++ 32 :: T : List UInt8) = L := ⟨_, rfl⟩
  rw [hL] at HC hll ⊢
  clear hL
  have HL : Hid (∀ w1, LibV w1 → Desk w1 D d → Calls Tryz.prog 107 #[.pointer (some ⟨D, 0, none⟩), .string (ByteArray.mk #[108, 111, 119, 101, 115, 116]), .string (bs T)] w1 fun e w' => e = .returned (.string (bs (tellF (meanM d.s d.xs gs)))) ∧ Below w1.heap.size w1 w') := by
    refine hid fun w1 hlv hd => ?_
    obtain ⟨am, nm, cm, h1, hrm, hnm⟩ := hd.m
    have h0 := hd.c0
    have hlt := hd.lt
    have him := hrm.view
    obtain ⟨f, hf⟩ : ∃ f, meanM d.s d.xs gs = f := ⟨_, rfl⟩
    rw [hf]
    have HB : Hid (∀ w' a n c, IntsAt w' am nm d.xs → IntsAt w' a n gs → Calls Tryz.prog 27 #[.agg #[.int .i64 d.s, .slice am nm cm], .slice a n c] w' fun e w'' => e = .returned (.tuple #[.agg #[.int .i64 f.num, .int .i64 f.den], .bool f.ok]) ∧ Below w'.heap.size w' w'') := fun w' a n c h3 h4 => by rw [← hf]; exact LowestMean_any d.s _ _ _ _ _ _ d.xs gs w' h3 h4
    clear hf HC hda hb hv hll
    go_enter Tryz.func107, Tryz.ntmps107
    go_wp2_with fail
    refine (HP.out _ hlv).mono ?_; rintro e w2 ⟨⟨v, rfl, hr⟩, hb2⟩
    obtain ⟨a, n, c, rfl, hi⟩ := hr.ints
    replace h0 := keep hb2 h0
    replace h1 := keep hb2 h1
    have hz2 := hb2.size
    go_wp2_with fail
    refine (HB.out _ _ _ _ (him.below hb2) hi).mono ?_; rintro e w3 ⟨rfl, hb3⟩
    have hB3 := chain hb2 hb3
    go_wp2_with fail
    refine (fractionOr_any f _ (hlv.below hB3).pow).mono ?_; rintro e w4 ⟨rfl, hb4⟩
    go_wp2
    go_ret
    exact ⟨rfl, chain hB3 hb4⟩
  clear HP
  go_enter Tryz.func58, Tryz.ntmps58
  go_wp2_with fail
  refine (cut_any L 32 _ _ _ HC.out hll _ (hv.below hb)).mono ?_; rw [show bs [108, 111, 119, 101, 115, 116] = ByteArray.mk #[108, 111, 119, 101, 115, 116] from rfl]; rintro e w1 ⟨rfl, hb1⟩
  have hz1 := hb1.size
  have hd1 := hda.below hb1
  go_wp2_with fail
  refine (HL.out w1 (hv.below (hb.trans (hb1.mono hz0))) hd1.desk).mono ?_; rintro e w2 ⟨rfl, hb2⟩
  have hs3 := (SpD.of_below (D := D) (B := B) hb1).trans (SpD.of_below hb2)
  go_wp2
  go_ret
  exact ⟨rfl, hd1.below hb2, hs3⟩
set_option maxRecDepth 100000 in
set_option maxHeartbeats 4000000 in
theorem run_highest (d : DS) (gg : List (List Int)) {gs : List Int} (hg : gainsOk d.s gs = true) (hs : okSize d.s = true) : LnA ([104, 105, 103, 104, 101, 115, 116] ++ 32 :: numT gs) d gg (tellF (meanH d.s d.xs gs)) d gg := by
  intro w0 w D B hv hD hDB hBw hb hda
  have HC := hid (cut_app 32 [104, 105, 103, 104, 101, 115, 116] (numT gs) (by decide))
  have hln := numT_len2 gs (gains_I64 hg)
  have hll : ([104, 105, 103, 104, 101, 115, 116] ++ 32 :: numT gs : List UInt8).length ≤ 2000000 := by have := (gains_small hg hs).2.1; simp; omega
  have hz0 := hb.size
  have HP : Hid (∀ w1, LibV w1 → Calls Tryz.prog 172 #[.string (bs (numT gs))] w1 fun e w' => (∃ v, e = .returned (.tuple #[v, .bool true]) ∧ Row w' w1.heap.size v gs) ∧ Below w1.heap.size w1 w') := fun w1 h => parse_own hg hs w1 h
  obtain ⟨T, hT⟩ : ∃ T, numT gs = T := ⟨_, rfl⟩
  rw [hT] at HC hll HP ⊢
  clear hT hln hg hs
  obtain ⟨L, hL⟩ : ∃ L, ([104, 105, 103, 104, 101, 115, 116] ++ 32 :: T : List UInt8) = L := ⟨_, rfl⟩
  rw [hL] at HC hll ⊢
  clear hL
  have HL : Hid (∀ w1, LibV w1 → Desk w1 D d → Calls Tryz.prog 107 #[.pointer (some ⟨D, 0, none⟩), .string (ByteArray.mk #[104, 105, 103, 104, 101, 115, 116]), .string (bs T)] w1 fun e w' => e = .returned (.string (bs (tellF (meanH d.s d.xs gs)))) ∧ Below w1.heap.size w1 w') := by
    refine hid fun w1 hlv hd => ?_
    obtain ⟨am, nm, cm, h1, hrm, hnm⟩ := hd.m
    have h0 := hd.c0
    have hlt := hd.lt
    have him := hrm.view
    obtain ⟨f, hf⟩ : ∃ f, meanH d.s d.xs gs = f := ⟨_, rfl⟩
    rw [hf]
    have HB : Hid (∀ w' a n c, IntsAt w' am nm d.xs → IntsAt w' a n gs → Calls Tryz.prog 28 #[.agg #[.int .i64 d.s, .slice am nm cm], .slice a n c] w' fun e w'' => e = .returned (.tuple #[.agg #[.int .i64 f.num, .int .i64 f.den], .bool f.ok]) ∧ Below w'.heap.size w' w'') := fun w' a n c h3 h4 => by rw [← hf]; exact HighestMean_any d.s _ _ _ _ _ _ d.xs gs w' h3 h4
    clear hf HC hda hb hv hll
    go_enter Tryz.func107, Tryz.ntmps107
    go_wp2_with fail
    refine (HP.out _ hlv).mono ?_; rintro e w2 ⟨⟨v, rfl, hr⟩, hb2⟩
    obtain ⟨a, n, c, rfl, hi⟩ := hr.ints
    replace h0 := keep hb2 h0
    replace h1 := keep hb2 h1
    have hz2 := hb2.size
    go_wp2_with fail
    refine (HB.out _ _ _ _ (him.below hb2) hi).mono ?_; rintro e w3 ⟨rfl, hb3⟩
    have hB3 := chain hb2 hb3
    go_wp2_with fail
    refine (fractionOr_any f _ (hlv.below hB3).pow).mono ?_; rintro e w4 ⟨rfl, hb4⟩
    go_wp2
    go_ret
    exact ⟨rfl, chain hB3 hb4⟩
  clear HP
  go_enter Tryz.func58, Tryz.ntmps58
  go_wp2_with fail
  refine (cut_any L 32 _ _ _ HC.out hll _ (hv.below hb)).mono ?_; rw [show bs [104, 105, 103, 104, 101, 115, 116] = ByteArray.mk #[104, 105, 103, 104, 101, 115, 116] from rfl]; rintro e w1 ⟨rfl, hb1⟩
  have hz1 := hb1.size
  have hd1 := hda.below hb1
  go_wp2_with fail
  refine (HL.out w1 (hv.below (hb.trans (hb1.mono hz0))) hd1.desk).mono ?_; rintro e w2 ⟨rfl, hb2⟩
  have hs3 := (SpD.of_below (D := D) (B := B) hb1).trans (SpD.of_below hb2)
  go_wp2
  go_ret
  exact ⟨rfl, hd1.below hb2, hs3⟩
/-- a word without a rest is told of acts -/
def PlA (word : List UInt8) (d : DS) (gg : List (List Int)) (out : List UInt8) : Prop :=
  ∀ (w : World) (D B : Nat), LibV w → DeskA w D B d gg →
    Calls Tryz.prog 99 #[.pointer (some ⟨D, 0, none⟩), .string (bs word)] w fun e w' => e = .returned (.string (bs out)) ∧ Below w.heap.size w w'
set_option maxRecDepth 100000 in
set_option maxHeartbeats 1000000 in
theorem run_plainA {word : List UInt8} {d : DS} {gg : List (List Int)} {out : List UInt8} (hw : (32 : UInt8) ∉ word) (hl : word.length ≤ 100) (h : PlA word d gg out) : LnA word d gg out d gg := by
  intro w0 w D B hv hD hDB hBw hb hda
  have HC := hid (cut_miss 32 word hw)
  have hz0 := hb.size
  have HP := hid h
  clear hw h
  go_enter Tryz.func58, Tryz.ntmps58
  go_wp2_with fail
  refine (cut_any word 32 _ _ _ HC.out (by omega) _ (hv.below hb)).mono ?_; rintro e w1 ⟨rfl, hb1⟩
  have hd1 := hda.below hb1
  have hlv := hv.below (hb.trans (hb1.mono hz0))
  go_wp2_with fail
  refine (HP.out w1 D B hlv hd1).mono ?_; rintro e w2 ⟨rfl, hb2⟩
  have hs3 := (SpD.of_below (D := D) (B := B) hb1).trans (SpD.of_below hb2)
  go_wp2
  go_ret
  exact ⟨rfl, hd1.below hb2, hs3⟩
theorem indexOr_any (k : Int) (h0 : 0 ≤ k) (h1 : k ≤ 1000000000) (w : World) (hp : Pow w) :
    Calls Tryz.prog 212 #[.int .i64 k] w fun e w' => e = .returned (.string (bs (Lib.itoa k))) ∧ Below w.heap.size w w' := by
  have hk : (k == -1) = false := by rw [beq_eq_false_iff_ne]; omega
  go_enter Tryz.func212, Tryz.ntmps212
  go_wp2_with fail
  refine (Itoa_any k (by omega) (by omega) _ hp).mono ?_; rintro e w1 ⟨rfl, hb1⟩
  go_wp2
  go_ret
  exact ⟨rfl, hb1⟩
theorem best_bd {s : Int} {xs : List Int} {acts : List (List Int)} (h : actsOk s xs acts = true) (f : Nat → Int) : 0 ≤ bestM (actsOk s xs acts) f acts.length ∧ bestM (actsOk s xs acts) f acts.length ≤ 8 := by
  obtain ⟨_, _, h1, h2, _⟩ := actsOk_facts h
  unfold bestM; rw [h, if_pos rfl]
  have := argTo_lt f acts.length (by omega)
  omega
set_option maxRecDepth 100000 in
set_option maxHeartbeats 2000000 in
theorem tell_safest (d : DS) (gg : List (List Int)) (ha : actsOk d.s d.xs gg = true) : PlA [115, 97, 102, 101, 115, 116] d gg (Lib.itoa (bestM (actsOk d.s d.xs gg) (fun k => sumF 1000 d.xs (nthL gg k) d.xs.length) gg.length)) := by
  intro w D B hlv hda
  rw [show bs [115, 97, 102, 101, 115, 116] = ByteArray.mk #[115, 97, 102, 101, 115, 116] from rfl]
  have hbb := best_bd ha (fun k => sumF 1000 d.xs (nthL gg k) d.xs.length)
  obtain ⟨k, hk⟩ : ∃ k, bestM (actsOk d.s d.xs gg) (fun k => sumF 1000 d.xs (nthL gg k) d.xs.length) gg.length = k := ⟨_, rfl⟩
  rw [hk] at hbb ⊢
  obtain ⟨am, nm, cm, h1, hrm, hnm⟩ := hda.desk.m
  have h0 := hda.desk.c0
  have hlt := hda.desk.lt
  have him := hrm.view
  obtain ⟨v5, k5, hro, hnil⟩ := hda.c5
  obtain ⟨a5, n5, c5, rfl, hn5, hat⟩ := hro.form
  subst hn5
  have HB : Hid (∀ w', IntsAt w' am nm d.xs → RowsAt w' a5 gg.length gg → Calls Tryz.prog 23 #[.agg #[.int .i64 d.s, .slice am nm cm], .slice a5 gg.length c5] w' fun e w'' => e = .returned (.int .i64 k) ∧ Below w'.heap.size w' w'') := fun w' h3 h4 => by rw [← hk]; exact SafestAct_any d.s _ _ _ _ _ _ d.xs gg w' h3 h4
  have HF : Hid (∀ w', LibV w' → Calls Tryz.prog 212 #[.int .i64 k] w' fun e w'' => e = .returned (.string (bs (Lib.itoa k))) ∧ Below w'.heap.size w' w'') := fun w' h => indexOr_any k hbb.1 (by omega) w' h.pow
  have HT : Hid (Calls Tryz.prog 158 #[.pointer (some ⟨D, 0, none⟩), .string (ByteArray.mk #[115, 97, 102, 101, 115, 116])] w fun e w' => e = .returned (.string (bs (Lib.itoa k))) ∧ Below w.heap.size w w') := by
    show Calls Tryz.prog 158 #[.pointer (some ⟨D, 0, none⟩), .string (ByteArray.mk #[115, 97, 102, 101, 115, 116])] w fun e w' => e = .returned (.string (bs (Lib.itoa k))) ∧ Below w.heap.size w w'
    clear hk ha hbb hda hrm hnm hro hnil
    go_enter Tryz.func158, Tryz.ntmps158
    go_wp2_with fail
    refine wp_region_ov (by kernel_rfl) (by kernel_rfl) ?_
    repeat (first | go_big_quiet_step ((first | (go_at_call 23; (with_reducible exact ov_call (HB.out _ (him.below (ov_below _ _)) (hat.below (ov_below _ _))))) | (go_at_call 212; (with_reducible exact ov_call (HF.out _ (hlv.below (ov_below _ _))))))) | quiet_step ((first | (go_at_call 23; (with_reducible exact ov_call (HB.out _ (him.below (ov_below _ _)) (hat.below (ov_below _ _))))) | (go_at_call 212; (with_reducible exact ov_call (HF.out _ (hlv.below (ov_below _ _))))))))
    refine wpQuiet_nil ?_
    intro _ hw_ov
    obtain ⟨x_ov, hw_ov2⟩ := hw_ov
    subst hw_ov2
    obtain ⟨wz, hw_ov3, hbz⟩ := ov_gen _ x_ov
    rw [hw_ov3]
    clear hw_ov3 x_ov
    go_wp2
    go_ret
    exact ⟨rfl, hbz⟩
  clear hk ha hbb
  go_enter Tryz.func99, Tryz.ntmps99
  go_wp2_with fail
  refine HT.out.mono ?_; rintro e w1 ⟨rfl, hb1⟩
  go_wp2
  go_ret
  exact ⟨rfl, hb1⟩
set_option maxRecDepth 100000 in
set_option maxHeartbeats 2000000 in
theorem tell_boldest (d : DS) (gg : List (List Int)) (ha : actsOk d.s d.xs gg = true) : PlA [98, 111, 108, 100, 101, 115, 116] d gg (Lib.itoa (bestM (actsOk d.s d.xs gg) (fun k => -(sumF 1000 d.xs (negTo (nthL gg k) (nthL gg k).length) d.xs.length)) gg.length)) := by
  intro w D B hlv hda
  rw [show bs [98, 111, 108, 100, 101, 115, 116] = ByteArray.mk #[98, 111, 108, 100, 101, 115, 116] from rfl]
  have hbb := best_bd ha (fun k => -(sumF 1000 d.xs (negTo (nthL gg k) (nthL gg k).length) d.xs.length))
  obtain ⟨k, hk⟩ : ∃ k, bestM (actsOk d.s d.xs gg) (fun k => -(sumF 1000 d.xs (negTo (nthL gg k) (nthL gg k).length) d.xs.length)) gg.length = k := ⟨_, rfl⟩
  rw [hk] at hbb ⊢
  obtain ⟨am, nm, cm, h1, hrm, hnm⟩ := hda.desk.m
  have h0 := hda.desk.c0
  have hlt := hda.desk.lt
  have him := hrm.view
  obtain ⟨v5, k5, hro, hnil⟩ := hda.c5
  obtain ⟨a5, n5, c5, rfl, hn5, hat⟩ := hro.form
  subst hn5
  have HB : Hid (∀ w', IntsAt w' am nm d.xs → RowsAt w' a5 gg.length gg → Calls Tryz.prog 29 #[.agg #[.int .i64 d.s, .slice am nm cm], .slice a5 gg.length c5] w' fun e w'' => e = .returned (.int .i64 k) ∧ Below w'.heap.size w' w'') := fun w' h3 h4 => by rw [← hk]; exact BoldestAct_any d.s _ _ _ _ _ _ d.xs gg w' h3 h4
  have HF : Hid (∀ w', LibV w' → Calls Tryz.prog 212 #[.int .i64 k] w' fun e w'' => e = .returned (.string (bs (Lib.itoa k))) ∧ Below w'.heap.size w' w'') := fun w' h => indexOr_any k hbb.1 (by omega) w' h.pow
  have HT : Hid (Calls Tryz.prog 158 #[.pointer (some ⟨D, 0, none⟩), .string (ByteArray.mk #[98, 111, 108, 100, 101, 115, 116])] w fun e w' => e = .returned (.string (bs (Lib.itoa k))) ∧ Below w.heap.size w w') := by
    show Calls Tryz.prog 158 #[.pointer (some ⟨D, 0, none⟩), .string (ByteArray.mk #[98, 111, 108, 100, 101, 115, 116])] w fun e w' => e = .returned (.string (bs (Lib.itoa k))) ∧ Below w.heap.size w w'
    clear hk ha hbb hda hrm hnm hro hnil
    go_enter Tryz.func158, Tryz.ntmps158
    go_wp2_with fail
    refine wp_region_ov (by kernel_rfl) (by kernel_rfl) ?_
    repeat (first | go_big_quiet_step ((first | (go_at_call 29; (with_reducible exact ov_call (HB.out _ (him.below (ov_below _ _)) (hat.below (ov_below _ _))))) | (go_at_call 212; (with_reducible exact ov_call (HF.out _ (hlv.below (ov_below _ _))))))) | quiet_step ((first | (go_at_call 29; (with_reducible exact ov_call (HB.out _ (him.below (ov_below _ _)) (hat.below (ov_below _ _))))) | (go_at_call 212; (with_reducible exact ov_call (HF.out _ (hlv.below (ov_below _ _))))))))
    refine wpQuiet_nil ?_
    intro _ hw_ov
    obtain ⟨x_ov, hw_ov2⟩ := hw_ov
    subst hw_ov2
    obtain ⟨wz, hw_ov3, hbz⟩ := ov_gen _ x_ov
    rw [hw_ov3]
    clear hw_ov3 x_ov
    go_wp2
    go_ret
    exact ⟨rfl, hbz⟩
  clear hk ha hbb
  go_enter Tryz.func99, Tryz.ntmps99
  go_wp2_with fail
  refine HT.out.mono ?_; rintro e w1 ⟨rfl, hb1⟩
  go_wp2
  go_ret
  exact ⟨rfl, hb1⟩
set_option maxRecDepth 100000 in
set_option maxHeartbeats 2000000 in
theorem tell_even (d : DS) (gg : List (List Int)) (ha : actsOk d.s d.xs gg = true) : PlA [101, 118, 101, 110] d gg (Lib.itoa (bestM (actsOk d.s d.xs gg) (fun k => shTo d.xs (nthL gg k) (nthL gg k).length) gg.length)) := by
  intro w D B hlv hda
  rw [show bs [101, 118, 101, 110] = ByteArray.mk #[101, 118, 101, 110] from rfl]
  have hbb := best_bd ha (fun k => shTo d.xs (nthL gg k) (nthL gg k).length)
  obtain ⟨k, hk⟩ : ∃ k, bestM (actsOk d.s d.xs gg) (fun k => shTo d.xs (nthL gg k) (nthL gg k).length) gg.length = k := ⟨_, rfl⟩
  rw [hk] at hbb ⊢
  obtain ⟨am, nm, cm, h1, hrm, hnm⟩ := hda.desk.m
  have h0 := hda.desk.c0
  have hlt := hda.desk.lt
  have him := hrm.view
  obtain ⟨v5, k5, hro, hnil⟩ := hda.c5
  obtain ⟨a5, n5, c5, rfl, hn5, hat⟩ := hro.form
  subst hn5
  have HB : Hid (∀ w', IntsAt w' am nm d.xs → RowsAt w' a5 gg.length gg → Calls Tryz.prog 30 #[.agg #[.int .i64 d.s, .slice am nm cm], .slice a5 gg.length c5] w' fun e w'' => e = .returned (.int .i64 k) ∧ Below w'.heap.size w' w'') := fun w' h3 h4 => by rw [← hk]; exact SharedAct_any d.s _ _ _ _ _ _ d.xs gg w' h3 h4
  have HF : Hid (∀ w', LibV w' → Calls Tryz.prog 212 #[.int .i64 k] w' fun e w'' => e = .returned (.string (bs (Lib.itoa k))) ∧ Below w'.heap.size w' w'') := fun w' h => indexOr_any k hbb.1 (by omega) w' h.pow
  have HT : Hid (Calls Tryz.prog 158 #[.pointer (some ⟨D, 0, none⟩), .string (ByteArray.mk #[101, 118, 101, 110])] w fun e w' => e = .returned (.string (bs (Lib.itoa k))) ∧ Below w.heap.size w w') := by
    show Calls Tryz.prog 158 #[.pointer (some ⟨D, 0, none⟩), .string (ByteArray.mk #[101, 118, 101, 110])] w fun e w' => e = .returned (.string (bs (Lib.itoa k))) ∧ Below w.heap.size w w'
    clear hk ha hbb hda hrm hnm hro hnil
    go_enter Tryz.func158, Tryz.ntmps158
    go_wp2_with fail
    refine wp_region_ov (by kernel_rfl) (by kernel_rfl) ?_
    repeat (first | go_big_quiet_step ((first | (go_at_call 30; (with_reducible exact ov_call (HB.out _ (him.below (ov_below _ _)) (hat.below (ov_below _ _))))) | (go_at_call 212; (with_reducible exact ov_call (HF.out _ (hlv.below (ov_below _ _))))))) | quiet_step ((first | (go_at_call 30; (with_reducible exact ov_call (HB.out _ (him.below (ov_below _ _)) (hat.below (ov_below _ _))))) | (go_at_call 212; (with_reducible exact ov_call (HF.out _ (hlv.below (ov_below _ _))))))))
    refine wpQuiet_nil ?_
    intro _ hw_ov
    obtain ⟨x_ov, hw_ov2⟩ := hw_ov
    subst hw_ov2
    obtain ⟨wz, hw_ov3, hbz⟩ := ov_gen _ x_ov
    rw [hw_ov3]
    clear hw_ov3 x_ov
    go_wp2
    go_ret
    exact ⟨rfl, hbz⟩
  clear hk ha hbb
  go_enter Tryz.func99, Tryz.ntmps99
  go_wp2_with fail
  refine HT.out.mono ?_; rintro e w1 ⟨rfl, hb1⟩
  go_wp2
  go_ret
  exact ⟨rfl, hb1⟩
theorem freeTo_bd (xs : List Int) (acts : List (List Int)) (k : Nat) : ∀ x ∈ freeTo xs acts k, 0 ≤ x ∧ x < (k : Int) := by
  induction k with
  | zero => intro x hx; simp [freeTo, iter] at hx
  | succ k ih =>
    intro x hx
    rw [freeTo_succ] at hx
    split at hx
    · rw [List.mem_append, List.mem_singleton] at hx
      rcases hx with hx | rfl
      · have := ih x hx; omega
      · omega
    · have := ih x hx; omega
theorem possTo_bd (C acts : List (List Int)) (k : Nat) : ∀ x ∈ possTo C acts k, 0 ≤ x ∧ x < (k : Int) := by
  induction k with
  | zero => intro x hx; simp [possTo, iter] at hx
  | succ k ih =>
    intro x hx
    rw [possTo_succ] at hx
    split at hx
    · rw [List.mem_append, List.mem_singleton] at hx
      rcases hx with hx | rfl
      · have := ih x hx; omega
      · omega
    · have := ih x hx; omega
theorem unb_facts {s : Int} {xs : List Int} {acts : List (List Int)} (h : actsOk s xs acts = true) : I64 (unbeaten s xs acts) ∧ (unbeaten s xs acts).length ≤ 8 := by
  obtain ⟨_, _, h1, h2, _⟩ := actsOk_facts h
  unfold unbeaten; rw [h, if_pos rfl]
  refine ⟨fun k hk => ?_, by have := freeTo_len xs acts acts.length; omega⟩
  have := freeTo_bd xs acts acts.length _ (List.getElem_mem hk)
  rw [nth_eq _ _ hk]; omega
theorem possL_facts {s : Int} {xs : List Int} {acts : List (List Int)} (h : actsOk s xs acts = true) : I64 (possL s xs acts) ∧ (possL s xs acts).length ≤ 8 := by
  obtain ⟨_, _, h1, h2, _⟩ := actsOk_facts h
  unfold possL; rw [h, if_pos rfl]
  refine ⟨fun k hk => ?_, by have := possTo_len (cornersL s xs) acts acts.length; omega⟩
  have := possTo_bd (cornersL s xs) acts acts.length _ (List.getElem_mem hk)
  rw [nth_eq _ _ hk]; omega
set_option maxRecDepth 100000 in
set_option maxHeartbeats 2000000 in
theorem tell_unbeaten (d : DS) (gg : List (List Int)) (ha : actsOk d.s d.xs gg = true) : PlA [117, 110, 98, 101, 97, 116, 101, 110] d gg (numT (unbeaten d.s d.xs gg)) := by
  intro w D B hlv hda
  rw [show bs [117, 110, 98, 101, 97, 116, 101, 110] = ByteArray.mk #[117, 110, 98, 101, 97, 116, 101, 110] from rfl]
  have hbb := unb_facts ha
  have HB : Hid (∀ (am a5 : Option Addr) (nm cm c5 : Nat) w', IntsAt w' am nm d.xs → RowsAt w' a5 gg.length gg → Calls Tryz.prog 31 #[.agg #[.int .i64 d.s, .slice am nm cm], .slice a5 gg.length c5] w' fun e w'' => (∃ v, e = .returned v ∧ Row w'' w'.heap.size v (unbeaten d.s d.xs gg)) ∧ Below w'.heap.size w' w'') := fun am a5 nm cm c5 w' h3 h4 => UnbeatenActs_any d.s _ _ _ _ _ _ d.xs gg w' h3 h4
  obtain ⟨X, hX⟩ : ∃ X, unbeaten d.s d.xs gg = X := ⟨_, rfl⟩
  rw [hX] at hbb HB ⊢
  have HI := hid hbb.1
  have hl8 := hbb.2
  obtain ⟨am, nm, cm, h1, hrm, hnm⟩ := hda.desk.m
  have h0 := hda.desk.c0
  have hlt := hda.desk.lt
  have him := hrm.view
  obtain ⟨v5, k5, hro, hnil⟩ := hda.c5
  obtain ⟨a5, n5, c5, rfl, hn5, hat⟩ := hro.form
  subst hn5
  have HT : Hid (Calls Tryz.prog 158 #[.pointer (some ⟨D, 0, none⟩), .string (ByteArray.mk #[117, 110, 98, 101, 97, 116, 101, 110])] w fun e w' => e = .returned (.string (bs (numT X))) ∧ Below w.heap.size w w') := by
    show Calls Tryz.prog 158 #[.pointer (some ⟨D, 0, none⟩), .string (ByteArray.mk #[117, 110, 98, 101, 97, 116, 101, 110])] w fun e w' => e = .returned (.string (bs (numT X))) ∧ Below w.heap.size w w'
    clear hX ha hbb hda hrm hnm hro hnil
    go_enter Tryz.func158, Tryz.ntmps158
    go_wp2_with fail
    go_region_with (first | (go_at_call 31; refine (HB.out _ _ _ _ _ _ (him.below (by (repeat (first | exact Below.refl _ _ | assumption | refine Below.alloc ?_ (by first | omega | (simp <;> omega)) _ | refine Below.setCell ?_ (by first | omega | (simp <;> omega)) _ | refine Below.drew ?_ | refine below_drewN ?_)))) (hat.below (by (repeat (first | exact Below.refl _ _ | assumption | refine Below.alloc ?_ (by first | omega | (simp <;> omega)) _ | refine Below.setCell ?_ (by first | omega | (simp <;> omega)) _ | refine Below.drew ?_ | refine below_drewN ?_))))).mono ?_; rintro e w1 ⟨⟨v, rfl, hr1⟩, hb1⟩; obtain ⟨a, n, c, rfl, hi⟩ := hr1.ints; have hbb : Below w.heap.size w w1 := Below.trans (by (repeat (first | exact Below.refl _ _ | assumption | refine Below.alloc ?_ (by first | omega | (simp <;> omega)) _ | refine Below.setCell ?_ (by first | omega | (simp <;> omega)) _ | refine Below.drew ?_ | refine below_drewN ?_))) (hb1.mono (Nat.le_refl _)); have k0 := keep hbb h0; have k1 := keep hbb h1; have kk := keep hbb k5) | (go_at_call 67; refine (numbersText_any _ _ _ _ _ hi HI.out (by have := hi.len; omega) (hlv.below hbb).pow).mono ?_; rintro e w2 ⟨rfl, hb2⟩))
    all_goals
      go_wp2
      go_ret
      exact ⟨rfl, chain hbb hb2⟩
  clear hX ha hbb
  go_enter Tryz.func99, Tryz.ntmps99
  go_wp2_with fail
  refine HT.out.mono ?_; rintro e w1 ⟨rfl, hb1⟩
  go_wp2
  go_ret
  exact ⟨rfl, hb1⟩
set_option maxRecDepth 100000 in
set_option maxHeartbeats 2000000 in
theorem tell_best (d : DS) (gg : List (List Int)) (ha : actsOk d.s d.xs gg = true) : PlA [98, 101, 115, 116] d gg (numT (possL d.s d.xs gg)) := by
  intro w D B hlv hda
  rw [show bs [98, 101, 115, 116] = ByteArray.mk #[98, 101, 115, 116] from rfl]
  have hbb := possL_facts ha
  have HB : Hid (∀ (am a5 : Option Addr) (nm cm c5 : Nat) w', IntsAt w' am nm d.xs → RowsAt w' a5 gg.length gg → Calls Tryz.prog 32 #[.agg #[.int .i64 d.s, .slice am nm cm], .slice a5 gg.length c5] w' fun e w'' => (∃ v, e = .returned v ∧ Row w'' w'.heap.size v (possL d.s d.xs gg)) ∧ Below w'.heap.size w' w'') := fun am a5 nm cm c5 w' h3 h4 => PossiblyBest_any d.s _ _ _ _ _ _ d.xs gg w' h3 h4
  obtain ⟨X, hX⟩ : ∃ X, possL d.s d.xs gg = X := ⟨_, rfl⟩
  rw [hX] at hbb HB ⊢
  have HI := hid hbb.1
  have hl8 := hbb.2
  obtain ⟨am, nm, cm, h1, hrm, hnm⟩ := hda.desk.m
  have h0 := hda.desk.c0
  have hlt := hda.desk.lt
  have him := hrm.view
  obtain ⟨v5, k5, hro, hnil⟩ := hda.c5
  obtain ⟨a5, n5, c5, rfl, hn5, hat⟩ := hro.form
  subst hn5
  have HT : Hid (Calls Tryz.prog 158 #[.pointer (some ⟨D, 0, none⟩), .string (ByteArray.mk #[98, 101, 115, 116])] w fun e w' => e = .returned (.string (bs (numT X))) ∧ Below w.heap.size w w') := by
    show Calls Tryz.prog 158 #[.pointer (some ⟨D, 0, none⟩), .string (ByteArray.mk #[98, 101, 115, 116])] w fun e w' => e = .returned (.string (bs (numT X))) ∧ Below w.heap.size w w'
    clear hX ha hbb hda hrm hnm hro hnil
    go_enter Tryz.func158, Tryz.ntmps158
    go_wp2_with fail
    go_region_with (first | (go_at_call 32; refine (HB.out _ _ _ _ _ _ (him.below (by (repeat (first | exact Below.refl _ _ | assumption | refine Below.alloc ?_ (by first | omega | (simp <;> omega)) _ | refine Below.setCell ?_ (by first | omega | (simp <;> omega)) _ | refine Below.drew ?_ | refine below_drewN ?_)))) (hat.below (by (repeat (first | exact Below.refl _ _ | assumption | refine Below.alloc ?_ (by first | omega | (simp <;> omega)) _ | refine Below.setCell ?_ (by first | omega | (simp <;> omega)) _ | refine Below.drew ?_ | refine below_drewN ?_))))).mono ?_; rintro e w1 ⟨⟨v, rfl, hr1⟩, hb1⟩; obtain ⟨a, n, c, rfl, hi⟩ := hr1.ints; have hbb : Below w.heap.size w w1 := Below.trans (by (repeat (first | exact Below.refl _ _ | assumption | refine Below.alloc ?_ (by first | omega | (simp <;> omega)) _ | refine Below.setCell ?_ (by first | omega | (simp <;> omega)) _ | refine Below.drew ?_ | refine below_drewN ?_))) (hb1.mono (Nat.le_refl _)); have k0 := keep hbb h0; have k1 := keep hbb h1; have kk := keep hbb k5) | (go_at_call 67; refine (numbersText_any _ _ _ _ _ hi HI.out (by have := hi.len; omega) (hlv.below hbb).pow).mono ?_; rintro e w2 ⟨rfl, hb2⟩))
    all_goals
      go_wp2
      go_ret
      exact ⟨rfl, chain hbb hb2⟩
  clear hX ha hbb
  go_enter Tryz.func99, Tryz.ntmps99
  go_wp2_with fail
  refine HT.out.mono ?_; rintro e w1 ⟨rfl, hb1⟩
  go_wp2
  go_ret
  exact ⟨rfl, hb1⟩
theorem HasPrefix_at (w : World) : Calls Tryz.prog 220 #[.string (ByteArray.mk #[48]), .string (ByteArray.mk #[45])] w fun e w' => e = .returned (.bool false) ∧ w = w' := by
  go_enter Tryz.func220, Tryz.ntmps220
  go_wp2
  go_ret
  exact ⟨ret_bool (by decide +kernel), rfl⟩
theorem TrimPrefix_lite (w : World) : Calls Tryz.prog 166 #[.string (ByteArray.mk #[48]), .string (ByteArray.mk #[45])] w fun e w' => e = .returned (.string (ByteArray.mk #[48])) ∧ w = w' := by
  go_enter Tryz.func166, Tryz.ntmps166
  go_wp2_with fail
  refine (HasPrefix_at _).mono ?_; rintro e w' ⟨rfl, rfl⟩
  go_wp2
  go_ret
  exact ⟨rfl, rfl⟩
theorem TrimPrefix_at (w : World) : Calls Tryz.prog 104 #[.string (ByteArray.mk #[48]), .string (ByteArray.mk #[45])] w fun e w' => e = .returned (.string (ByteArray.mk #[48])) ∧ w = w' := by
  go_enter Tryz.func104, Tryz.ntmps104
  go_wp2_with fail
  refine (TrimPrefix_lite _).mono ?_; rintro e w' ⟨rfl, rfl⟩
  go_wp2
  go_ret
  exact ⟨rfl, rfl⟩
theorem bs_zero : bs (Lib.itoa 0) = ByteArray.mk #[48] := by decide +kernel
set_option maxRecDepth 100000 in
set_option maxHeartbeats 4000000 in
theorem run_regret (d : DS) (gg : List (List Int)) : LnA ([114, 101, 103, 114, 101, 116] ++ 32 :: [48]) d gg (tellF (regretM d.s d.xs gg 0)) d gg := by
  intro w0 w D B hv hD hDB hBw hb hda
  have HC := hid (cut_app 32 [114, 101, 103, 114, 101, 116] [48] (by decide))
  have hll : ([114, 101, 103, 114, 101, 116] ++ 32 :: [48] : List UInt8).length ≤ 2000000 := by simp
  have hz0 := hb.size
  obtain ⟨f, hf⟩ : ∃ f, regretM d.s d.xs gg 0 = f := ⟨_, rfl⟩
  rw [hf]
  obtain ⟨L, hL⟩ : ∃ L, ([114, 101, 103, 114, 101, 116] ++ 32 :: [48] : List UInt8) = L := ⟨_, rfl⟩
  rw [hL] at HC hll ⊢
  clear hL
  obtain ⟨am, nm, cm, h1, hrm, hnm⟩ := hda.desk.m
  have h0 := hda.desk.c0
  have hlt := hda.desk.lt
  have him := hrm.view
  obtain ⟨v5, k5, hro, hnil⟩ := hda.c5
  obtain ⟨a5, n5, c5, rfl, hn5, hat⟩ := hro.form
  subst hn5
  have HB : Hid (∀ w', IntsAt w' am nm d.xs → RowsAt w' a5 gg.length gg → Calls Tryz.prog 26 #[.agg #[.int .i64 d.s, .slice am nm cm], .slice a5 gg.length c5, .int .i64 0] w' fun e w'' => e = .returned (.tuple #[.agg #[.int .i64 f.num, .int .i64 f.den], .bool f.ok]) ∧ Below w'.heap.size w' w'') := fun w' h3 h4 => by rw [← hf]; exact RegretOf_any d.s 0 _ _ _ _ _ _ d.xs gg w' h3 h4
  have HF : Hid (∀ w', LibV w' → Calls Tryz.prog 105 #[.agg #[.int .i64 f.num, .int .i64 f.den], .bool f.ok] w' fun e w'' => e = .returned (.string (bs (tellF f))) ∧ Below w'.heap.size w' w'') := fun w' h => fractionOr_any f w' h.pow
  clear hf hrm hnm hro hnil
  go_enter Tryz.func58, Tryz.ntmps58
  go_wp2_with fail
  refine (cut_any L 32 _ _ _ HC.out hll _ (hv.below hb)).mono ?_; rw [show bs [114, 101, 103, 114, 101, 116] = ByteArray.mk #[114, 101, 103, 114, 101, 116] from rfl, show bs [48] = ByteArray.mk #[48] from rfl]; rintro e w1 ⟨rfl, hb1⟩
  have hbb := hb.trans (hb1.mono hz0)
  go_wp2_with fail
  have hat0 := atoi_itoa 0 (by omega) (by omega) w1
  rw [bs_zero] at hat0
  refine hat0.mono ?_; rintro e w2 ⟨rfl, hb2⟩
  have hB2 := chain hb1 hb2
  have hbb2 := hbb.trans (hb2.mono hbb.size)
  go_wp2_with fail
  have hit0 := Itoa_any 0 (by omega) (by omega) w2 (hv.below hbb2).pow
  rw [bs_zero] at hit0
  refine hit0.mono ?_; rintro e w3 ⟨rfl, hb3⟩
  have hB3 := chain hB2 hb3
  have hbb3 := hbb2.trans (hb3.mono hbb2.size)
  go_wp2_with fail
  refine (TrimPrefix_at _).mono ?_; rintro e w' ⟨rfl, rfl⟩
  have hlv := hv.below hbb3
  have hx3 := him.below hB3
  have hy3 := hat.below hB3
  have hd3 := hda.below hB3
  replace h0 := keep hB3 h0
  replace h1 := keep hB3 h1
  replace k5 := keep hB3 k5
  have hs3 : SpD D B w w3 := SpD.of_below hB3
  clear hb1 hb2 hb3 hB2 hB3 hda him hat hbb hbb2 hbb3
  go_wp2_with fail
  refine wp_region_ov (by kernel_rfl) (by kernel_rfl) ?_
  repeat (first | go_big_quiet_step ((first | (go_at_call 26; (with_reducible exact ov_call (HB.out _ (hx3.below (ov_below _ _)) (hy3.below (ov_below _ _))))) | (go_at_call 105; (with_reducible exact ov_call (HF.out _ (hlv.below (ov_below _ _))))))) | quiet_step ((first | (go_at_call 26; (with_reducible exact ov_call (HB.out _ (hx3.below (ov_below _ _)) (hy3.below (ov_below _ _))))) | (go_at_call 105; (with_reducible exact ov_call (HF.out _ (hlv.below (ov_below _ _))))))))
  refine wpQuiet_nil ?_
  intro _ hw_ov
  obtain ⟨x_ov, hw_ov2⟩ := hw_ov
  subst hw_ov2
  obtain ⟨wz, hw_ov3, hbz⟩ := ov_gen _ x_ov
  rw [hw_ov3]
  clear hw_ov3 x_ov
  go_wp2
  go_ret
  exact ⟨rfl, hd3.below hbz, hs3.trans (SpD.of_below hbz)⟩
end Go.Proofs.YtefmlbahmakboaaGreatDoor
