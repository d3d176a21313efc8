/- The law FnBeatsAct: its walk (printed by fngen.py). -/
import Derived.Test.YtchjnjmlambpjaaD21
import Derived.Test.YtchjnjmlambpjaaN10
import Derived.Test.YtchjnjmlambpjaaW9
import Derived.Test.YtchjnjmlambpjaaW14
import Derived.Test.YtchjnjmlambpjaaW22
import Derived.Test.YtchjnjmlambpjaaC5
set_option linter.unusedSimpArgs false
set_option linter.unusedVariables false
namespace Go.Proofs.Ytchjnjmlambpjaa
open Go.RowKit
theorem rows2 (W : World) (af ag : Option Addr) (nf cf ng cg : Nat) (f g : List Int) (hf : IntsAt W af nf f) (hg : IntsAt W ag ng g) : RowsAt (W.alloc (.cells #[.slice af nf cf, .slice ag ng cg] 22)) (some ⟨W.heap.size, 0, none⟩) 2 [f, g] := by
  refine ⟨rfl, by omega, fun _ => ⟨W.heap.size, 0, rfl, by simp, fun k hk => ?_⟩⟩
  rw [Nat.zero_add]
  match k, hk with
  | 0, _ => exact ⟨af, nf, cf, by simp, hf.below (below_alloc _ _)⟩
  | 1, _ => exact ⟨ag, ng, cg, by simp, hg.below (below_alloc _ _)⟩
theorem acts2 (s : Int) (xs f g : List Int) : actsOk s xs [f, g] = (normalOk s xs && (gainsOk s f && gainsOk s g)) := by
  show (normalOk s xs && (true && ((true && gainsOk s f) && gainsOk s g))) = _
  simp
theorem beats_bad {s : Int} {xs f g : List Int} (h : actsOk s xs [f, g] = false) : beatsM s xs f g = false := by
  rw [acts2] at h
  unfold beatsM
  cases h1 : normalOk s xs <;> cases h2 : gainsOk s f <;> cases h3 : gainsOk s g <;> simp_all
set_option maxRecDepth 100000 in
set_option maxHeartbeats 8000000 in
theorem FnBeatsAct_walk (ao : Option Addr) (n c : Nat) (w : World) (hx : n ≤ 1048576 → BytesIn w w.heap.size ao n) (hnc : n ≤ c) (hcap : n ≤ 9223372036854775807) :
    Calls Try.prog 8 #[.slice ao n c] w fun e w' => e = .returned (.bool true) ∧ Below w.heap.size w w' := by
  by_cases hn : 1048576 < n
  · go_enter Try.func8, Try.ntmps8
    go_wp2
    go_ret
    exact ⟨rfl, Below.refl _ _⟩
  have HX := hid (hx (by omega))
  clear hx
  go_enter Try.func8, Try.ntmps8
  have hB := Below.refl w.heap.size w
  go_wp2_with fail
  refine (DrawBeatsAct_any ao n c _ HX.out hnc).mono ?_; rintro e w1 ⟨⟨s, p, xs, q, f, z, g, rfl, hr, hlx, hr2, hlf, hr3, hlg⟩, hb⟩
  have hd := hb
  replace hB := chain hB hd
  have hs1 := hd.size
  clear hb hd
  obtain ⟨am, nm, cm, rfl, him⟩ := hr.ints
  clear hr
  obtain ⟨af, nf, cf, rfl, hif⟩ := hr2.ints
  clear hr2
  obtain ⟨ag, ng, cg, rfl, hig⟩ := hr3.ints
  clear hr3
  obtain ⟨r, HR⟩ : ∃ r, Hid (beatsM s xs f g = r) := ⟨_, rfl⟩
  go_wp2_with fail
  refine (BeatsAct_any s _ _ _ _ _ _ _ _ _ xs f g _ (him.below (by (repeat (first | exact Below.refl _ _ | assumption | refine Below.alloc ?_ (by first | omega | (simp <;> omega)) _ | refine Below.setCell ?_ (by first | omega | (simp <;> omega)) _ | refine Below.drew ?_ | refine below_drewN ?_)))) (hif.below (by (repeat (first | exact Below.refl _ _ | assumption | refine Below.alloc ?_ (by first | omega | (simp <;> omega)) _ | refine Below.setCell ?_ (by first | omega | (simp <;> omega)) _ | refine Below.drew ?_ | refine below_drewN ?_)))) (hig.below (by (repeat (first | exact Below.refl _ _ | assumption | refine Below.alloc ?_ (by first | omega | (simp <;> omega)) _ | refine Below.setCell ?_ (by first | omega | (simp <;> omega)) _ | refine Below.drew ?_ | refine below_drewN ?_))))).mono ?_; rw [HR.out]; rintro e w2 ⟨rfl, hb⟩
  have mm0 := keep hb (a := ⟨w1.heap.size, 0, none⟩) (v := .int .i64 s) (by simp)
  have mm1 := keep hb (a := ⟨w1.heap.size, 1, none⟩) (v := .slice am nm cm) (by simp)
  have hN1 : w1.heap.size < w2.heap.size := by have := World.block_lt_of_cell? w2 _ mm0; simpa using this
  have hd : Below w1.heap.size w1 w2 := Below.trans (by (repeat (first | exact Below.refl _ _ | assumption | refine Below.alloc ?_ (by first | omega | (simp <;> omega)) _ | refine Below.setCell ?_ (by first | omega | (simp <;> omega)) _ | refine Below.drew ?_ | refine below_drewN ?_))) (hb.mono (by simp <;> omega))
  replace him := him.below hd
  replace hif := hif.below hd
  replace hig := hig.below hd
  replace hB := chain hB hd
  have hs2 := hd.size
  clear hb hd
  go_wp2_with fail
  refine (specBeatsAct_any s _ _ _ _ _ _ _ _ _ xs f g _ him hif hig).mono ?_; rw [HR.out]; rintro e w3 ⟨rfl, hb⟩
  have hd := hb
  replace mm0 := keep hd mm0
  replace mm1 := keep hd mm1
  replace him := him.below hd
  replace hif := hif.below hd
  replace hig := hig.below hd
  replace hB := chain hB hd
  have hs3 := hd.size
  clear hb hd
  obtain ⟨v, HV⟩ : ∃ r, Hid (actsOk s xs [f, g] = r) := ⟨_, rfl⟩
  go_wp2_with fail
  refine (ActsValid_any s _ _ _ _ _ _ xs [f, g] _ (him.below (by (repeat (first | exact Below.refl _ _ | assumption | refine Below.alloc ?_ (by first | omega | (simp <;> omega)) _ | refine Below.setCell ?_ (by first | omega | (simp <;> omega)) _ | refine Below.drew ?_ | refine below_drewN ?_)))) (rows2 w3 af ag nf cf ng cg f g hif hig)).mono ?_; rw [HV.out]; rintro e w4 ⟨rfl, hb⟩
  have vv0 := keep hb (a := ⟨w3.heap.size, 0, none⟩) (v := .slice af nf cf) (by simp)
  have vv1 := keep hb (a := ⟨w3.heap.size, 1, none⟩) (v := .slice ag ng cg) (by simp)
  have hN2 : w3.heap.size < w4.heap.size := by have := World.block_lt_of_cell? w4 _ vv0; simpa using this
  have hd : Below w3.heap.size w3 w4 := Below.trans (by (repeat (first | exact Below.refl _ _ | assumption | refine Below.alloc ?_ (by first | omega | (simp <;> omega)) _ | refine Below.setCell ?_ (by first | omega | (simp <;> omega)) _ | refine Below.drew ?_ | refine below_drewN ?_))) (hb.mono (by simp <;> omega))
  replace mm0 := keep hd mm0
  replace mm1 := keep hd mm1
  replace him := him.below hd
  replace hif := hif.below hd
  replace hig := hig.below hd
  replace hB := chain hB hd
  have hs4 := hd.size
  clear hb hd
  cases v
  · have hr0 : r = false := by rw [← HR.out]; exact beats_bad HV.out
    subst hr0
    go_wp2_with fail
    refine (specBeatsAct_any s _ _ _ _ _ _ _ _ _ xs f g _ him hif hig).mono ?_; rw [HR.out]; rintro e w5 ⟨rfl, hb⟩
    have hd := hb
    replace mm0 := keep hd mm0
    replace mm1 := keep hd mm1
    replace vv0 := keep hd vv0
    replace vv1 := keep hd vv1
    replace him := him.below hd
    replace hif := hif.below hd
    replace hig := hig.below hd
    replace hB := chain hB hd
    have hs5 := hd.size
    clear hb hd
    go_wp2
    go_ret
    exact ⟨rfl, hB⟩
  · have hac := HV.out
    rw [acts2, Bool.and_eq_true, Bool.and_eq_true] at hac
    obtain ⟨hno, hfa, hga⟩ := hac
    have HLAW := hid (beats_law hno hfa hga)
    obtain ⟨n1, n2⟩ := beats_not (s := s) (xs := xs) (f := f) (g := g)
    have HN1 := hid n1
    have HN2 := hid n2
    clear n1 n2 hno hfa hga
    go_wp2_with fail
    refine (iCornersOf_any s _ _ _ xs _ him).mono ?_; rintro e w5 ⟨⟨vc, rfl, hmo⟩, hb⟩
    have hd := hb
    replace mm0 := keep hd mm0
    replace mm1 := keep hd mm1
    replace vv0 := keep hd vv0
    replace vv1 := keep hd vv1
    replace him := him.below hd
    replace hif := hif.below hd
    replace hig := hig.below hd
    replace hB := chain hB hd
    have hs5 := hd.size
    clear hb hd
    obtain ⟨ac, cc, he, hat⟩ := hmo.form
    subst he
    clear hmo
    obtain ⟨C, HC⟩ : ∃ C, Hid (cornersL s xs = C) := ⟨_, rfl⟩
    obtain ⟨Q, HQ⟩ : ∃ Q, Hid (C.length = Q) := ⟨_, rfl⟩
    rw [HC.out, HQ.out] at hat ⊢
    have hQ24 : Q ≤ 24 := by rw [← HQ.out, ← HC.out]; exact corners_len _ _
    rw [HC.out, HQ.out, HR.out] at HLAW
    go_wp2
    go_loopw [7, 9] (fun r1 i wr => ∃ k : Nat, k ≤ Q ∧ i = .int .i64 k ∧ r1 = .bool (allN (fun i => lessF (meanC s (nthL C i) g).num (meanC s (nthL C i) g).den (meanC s (nthL C i) f).num (meanC s (nthL C i) f).den) k) ∧ Below w5.heap.size w5 wr) (fun _ i _ => Q - (intOf i).toNat)
    case atStart => exact ⟨0, by omega, rfl, rfl, Below.refl _ _⟩
    case round =>
      obtain ⟨k, hk, rfl, rfl, hBr⟩ := hrel
      obtain ⟨w6, rfl⟩ : ∃ q : World, q = wr := ⟨_, rfl⟩
      replace mm0 := keep hBr mm0
      replace mm1 := keep hBr mm1
      replace vv0 := keep hBr vv0
      replace vv1 := keep hBr vv1
      replace him := him.below hBr
      replace hif := hif.below hBr
      replace hig := hig.below hBr
      replace hat := hat.below hBr
      have hB0 := hB
      have hsw := hB.size
      have hsr := hBr.size
      clear hB
      have hB := hBr
      clear hBr
      by_cases hlt : k < Q
      · have hk0 : (0 : Int) ≤ (k : Int) := by omega
        have hk1 : (k : Int) < (Q : Int) := by omega
        obtain ⟨b1, a1, n1, c1, e1, _, hbb, hc0, hc1, hi1⟩ := hat.at (Below.refl _ _) hlt
        subst e1
        have HS := hid (allN_step (fun i => lessF (meanC s (nthL C i) g).num (meanC s (nthL C i) g).den (meanC s (nthL C i) f).num (meanC s (nthL C i) f).den) k)
        obtain ⟨fX, HX⟩ : ∃ r, Hid (meanC s (nthL C k) f = r) := ⟨_, rfl⟩
        go_wp2_with fail
        refine (MeanOf_any s _ _ _ _ _ _ (nthL C k) f _ hi1 hif).mono ?_; rw [HX.out]; rintro e w7 ⟨rfl, hb⟩
        have hd := hb
        replace mm0 := keep hd mm0
        replace mm1 := keep hd mm1
        replace vv0 := keep hd vv0
        replace vv1 := keep hd vv1
        replace hc0 := keep hd hc0
        replace hc1 := keep hd hc1
        replace him := him.below hd
        replace hif := hif.below hd
        replace hig := hig.below hd
        replace hat := hat.below hd
        replace hi1 := hi1.below hd
        replace hB := chain hB hd
        have hs7 := hd.size
        clear hb hd
        obtain ⟨fY, HY⟩ : ∃ r, Hid (meanC s (nthL C k) g = r) := ⟨_, rfl⟩
        go_wp2_with fail
        refine (MeanOf_any s _ _ _ _ _ _ (nthL C k) g _ (hi1.below (by (repeat (first | exact Below.refl _ _ | assumption | refine Below.alloc ?_ (by first | omega | (simp <;> omega)) _ | refine Below.setCell ?_ (by first | omega | (simp <;> omega)) _ | refine Below.drew ?_ | refine below_drewN ?_)))) (hig.below (by (repeat (first | exact Below.refl _ _ | assumption | refine Below.alloc ?_ (by first | omega | (simp <;> omega)) _ | refine Below.setCell ?_ (by first | omega | (simp <;> omega)) _ | refine Below.drew ?_ | refine below_drewN ?_))))).mono ?_; rw [HY.out]; rintro e w8 ⟨rfl, hb⟩
        have fX0 := keep hb (a := ⟨w7.heap.size, 0, none⟩) (v := .int .i64 fX.num) (by simp)
        have fX1 := keep hb (a := ⟨w7.heap.size, 1, none⟩) (v := .int .i64 fX.den) (by simp)
        have hN3 : w7.heap.size < w8.heap.size := by have := World.block_lt_of_cell? w8 _ fX0; simpa using this
        have hd : Below w7.heap.size w7 w8 := Below.trans (by (repeat (first | exact Below.refl _ _ | assumption | refine Below.alloc ?_ (by first | omega | (simp <;> omega)) _ | refine Below.setCell ?_ (by first | omega | (simp <;> omega)) _ | refine Below.drew ?_ | refine below_drewN ?_))) (hb.mono (by simp <;> omega))
        replace mm0 := keep hd mm0
        replace mm1 := keep hd mm1
        replace vv0 := keep hd vv0
        replace vv1 := keep hd vv1
        replace hc0 := keep hd hc0
        replace hc1 := keep hd hc1
        replace him := him.below hd
        replace hif := hif.below hd
        replace hig := hig.below hd
        replace hat := hat.below hd
        replace hi1 := hi1.below hd
        replace hB := chain hB hd
        have hs8 := hd.size
        clear hb hd
        rw [HX.out, HY.out] at HS
        cases hal : allN (fun i => lessF (meanC s (nthL C i) g).num (meanC s (nthL C i) g).den (meanC s (nthL C i) f).num (meanC s (nthL C i) f).den) k
        · rw [hal] at HS
          go_wp2
          go_roundw
          case rel => first | exact ⟨k + 1, by omega, by go_num, by rw [HS.out]; rfl, by (repeat (first | exact Below.refl _ _ | assumption | refine Below.alloc ?_ (by first | omega | (simp <;> omega)) _ | refine Below.setCell ?_ (by first | omega | (simp <;> omega)) _ | refine Below.drew ?_ | refine below_drewN ?_))⟩ | exact ⟨_, ⟨k + 1, by omega, by go_num, by rw [HS.out]; rfl, by (repeat (first | exact Below.refl _ _ | assumption | refine Below.alloc ?_ (by first | omega | (simp <;> omega)) _ | refine Below.setCell ?_ (by first | omega | (simp <;> omega)) _ | refine Below.drew ?_ | refine below_drewN ?_))⟩, rfl⟩ | exact ⟨_, _, ⟨k + 1, by omega, by go_num, by rw [HS.out]; rfl, by (repeat (first | exact Below.refl _ _ | assumption | refine Below.alloc ?_ (by first | omega | (simp <;> omega)) _ | refine Below.setCell ?_ (by first | omega | (simp <;> omega)) _ | refine Below.drew ?_ | refine below_drewN ?_))⟩, rfl, rfl⟩ | exact ⟨_, _, _, ⟨k + 1, by omega, by go_num, by rw [HS.out]; rfl, by (repeat (first | exact Below.refl _ _ | assumption | refine Below.alloc ?_ (by first | omega | (simp <;> omega)) _ | refine Below.setCell ?_ (by first | omega | (simp <;> omega)) _ | refine Below.drew ?_ | refine below_drewN ?_))⟩, rfl, rfl, rfl⟩ | exact ⟨_, _, _, _, ⟨k + 1, by omega, by go_num, by rw [HS.out]; rfl, by (repeat (first | exact Below.refl _ _ | assumption | refine Below.alloc ?_ (by first | omega | (simp <;> omega)) _ | refine Below.setCell ?_ (by first | omega | (simp <;> omega)) _ | refine Below.drew ?_ | refine below_drewN ?_))⟩, rfl, rfl, rfl, rfl⟩ | exact ⟨_, _, _, _, _, ⟨k + 1, by omega, by go_num, by rw [HS.out]; rfl, by (repeat (first | exact Below.refl _ _ | assumption | refine Below.alloc ?_ (by first | omega | (simp <;> omega)) _ | refine Below.setCell ?_ (by first | omega | (simp <;> omega)) _ | refine Below.drew ?_ | refine below_drewN ?_))⟩, rfl, rfl, rfl, rfl, rfl⟩
          case measure => simp [intOf]; omega
        · rw [hal] at HS
          go_wp2_with fail
          refine (LessFraction_any fY.num fY.den fX.num fX.den _).mono ?_; rintro e w9 ⟨rfl, hb⟩
          have fY0 := keep hb (a := ⟨w8.heap.size, 0, none⟩) (v := .int .i64 fY.num) (by simp)
          have fY1 := keep hb (a := ⟨w8.heap.size, 1, none⟩) (v := .int .i64 fY.den) (by simp)
          have hN4 : w8.heap.size < w9.heap.size := by have := World.block_lt_of_cell? w9 _ fY0; simpa using this
          have hd : Below w8.heap.size w8 w9 := Below.trans (by (repeat (first | exact Below.refl _ _ | assumption | refine Below.alloc ?_ (by first | omega | (simp <;> omega)) _ | refine Below.setCell ?_ (by first | omega | (simp <;> omega)) _ | refine Below.drew ?_ | refine below_drewN ?_))) (hb.mono (by simp <;> omega))
          replace mm0 := keep hd mm0
          replace mm1 := keep hd mm1
          replace vv0 := keep hd vv0
          replace vv1 := keep hd vv1
          replace hc0 := keep hd hc0
          replace hc1 := keep hd hc1
          replace fX0 := keep hd fX0
          replace fX1 := keep hd fX1
          replace him := him.below hd
          replace hif := hif.below hd
          replace hig := hig.below hd
          replace hat := hat.below hd
          replace hi1 := hi1.below hd
          replace hB := chain hB hd
          have hs9 := hd.size
          clear hb hd
          go_wp2
          go_roundw
          case rel => first | exact ⟨k + 1, by omega, by go_num, by rw [HS.out]; rfl, hB⟩ | exact ⟨_, ⟨k + 1, by omega, by go_num, by rw [HS.out]; rfl, hB⟩, rfl⟩ | exact ⟨_, _, ⟨k + 1, by omega, by go_num, by rw [HS.out]; rfl, hB⟩, rfl, rfl⟩ | exact ⟨_, _, _, ⟨k + 1, by omega, by go_num, by rw [HS.out]; rfl, hB⟩, rfl, rfl, rfl⟩ | exact ⟨_, _, _, _, ⟨k + 1, by omega, by go_num, by rw [HS.out]; rfl, hB⟩, rfl, rfl, rfl, rfl⟩ | exact ⟨_, _, _, _, _, ⟨k + 1, by omega, by go_num, by rw [HS.out]; rfl, hB⟩, rfl, rfl, rfl, rfl, rfl⟩
          case measure => simp [intOf]; omega
      · obtain rfl : k = Q := by omega
        rw [← HLAW.out]
        cases r
        · go_wp2_with fail
          refine (BeatsAct_any s _ _ _ _ _ _ _ _ _ xs f f _ him hif hif).mono ?_; rw [HN1.out]; rintro e w7 ⟨rfl, hb⟩
          have hd := hb
          replace mm0 := keep hd mm0
          replace mm1 := keep hd mm1
          replace vv0 := keep hd vv0
          replace vv1 := keep hd vv1
          replace him := him.below hd
          replace hif := hif.below hd
          replace hig := hig.below hd
          replace hat := hat.below hd
          replace hB := chain hB hd
          have hs7 := hd.size
          clear hb hd
          go_wp2
          go_ret
          exact ⟨rfl, hB0.trans (hB.mono hsw)⟩
        · have HN3 := hid (HN2.out HR.out)
          go_wp2_with fail
          refine (BeatsAct_any s _ _ _ _ _ _ _ _ _ xs g f _ him hig hif).mono ?_; rw [HN3.out]; rintro e w7 ⟨rfl, hb⟩
          have hd := hb
          replace mm0 := keep hd mm0
          replace mm1 := keep hd mm1
          replace vv0 := keep hd vv0
          replace vv1 := keep hd vv1
          replace him := him.below hd
          replace hif := hif.below hd
          replace hig := hig.below hd
          replace hat := hat.below hd
          replace hB := chain hB hd
          have hs7 := hd.size
          clear hb hd
          go_wp2_with fail
          refine (BeatsAct_any s _ _ _ _ _ _ _ _ _ xs f f _ him hif hif).mono ?_; rw [HN1.out]; rintro e w8 ⟨rfl, hb⟩
          have hd := hb
          replace mm0 := keep hd mm0
          replace mm1 := keep hd mm1
          replace vv0 := keep hd vv0
          replace vv1 := keep hd vv1
          replace him := him.below hd
          replace hif := hif.below hd
          replace hig := hig.below hd
          replace hat := hat.below hd
          replace hB := chain hB hd
          have hs8 := hd.size
          clear hb hd
          go_wp2
          go_ret
          exact ⟨rfl, hB0.trans (hB.mono hsw)⟩
end Go.Proofs.Ytchjnjmlambpjaa
