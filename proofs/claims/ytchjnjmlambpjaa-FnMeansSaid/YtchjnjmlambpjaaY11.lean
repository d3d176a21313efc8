/- The law FnMeans: its walk (printed by fngen.py). -/
import Derived.Test.YtchjnjmlambpjaaD13
import Derived.Test.YtchjnjmlambpjaaN10
import Derived.Test.YtchjnjmlambpjaaW23
import Derived.Test.YtchjnjmlambpjaaC5
set_option linter.unusedSimpArgs false
set_option linter.unusedVariables false
namespace Go.Proofs.Ytchjnjmlambpjaa
open Go.RowKit
theorem means_okb (s : Int) (xs gs : List Int) : (meanH s xs gs).ok = (meanM s xs gs).ok := by
  cases hn : normalOk s xs
  · rw [meanH_bad (.inl hn), meanM_bad (.inl hn)]
  cases hg : gainsOk s gs
  · rw [meanH_bad (.inr hg), meanM_bad (.inr hg)]
  have h1 := mean_ok hn hg
  have h2 := high_ok hn hg
  rw [h1.1, h2.1, h1.2.1, h2.2]
theorem meanM_okI {s : Int} {xs gs : List Int} (h : (meanM s xs gs).ok = true) : normalOk s xs = true ∧ gainsOk s gs = true := meanH_ok (by rw [means_okb]; exact h)
/-- is a fraction among the first ones? -/
def amongN (f : Nat → FR) (r : FR) (k : Nat) : Bool := !allN (fun i => !((f i).num == r.num && (f i).den == r.den)) k
theorem among_succ (f : Nat → FR) (r : FR) (k : Nat) : amongN f r (k + 1) = (amongN f r k || ((f k).num == r.num && (f k).den == r.den)) := by
  show (!(allN _ k && !((f k).num == r.num && (f k).den == r.den))) = _
  unfold amongN
  cases allN (fun i => !((f i).num == r.num && (f i).den == r.den)) k <;> cases ((f k).num == r.num && (f k).den == r.den) <;> rfl
theorem among_of {f : Nat → FR} {r : FR} {k i : Nat} (hi : i < k) (h : f i = r) : amongN f r k = true := by
  unfold amongN
  rw [allN_false (p := fun i => !((f i).num == r.num && (f i).den == r.den)) hi (by show (!((f i).num == r.num && (f i).den == r.den)) = false; rw [h]; simp)]
  rfl
set_option maxRecDepth 100000 in
set_option maxHeartbeats 8000000 in
theorem FnMeans_walk (ao : Option Addr) (n c : Nat) (w : World) (hx : n ≤ 1048576 → BytesIn w w.heap.size ao n) (hnc : n ≤ c) (hcap : n ≤ 9223372036854775807) :
    Calls Try.prog 6 #[.slice ao n c] w fun e w' => e = .returned (.bool true) ∧ Below w.heap.size w w' := by
  by_cases hn : 1048576 < n
  · go_enter Try.func6, Try.ntmps6
    go_wp2
    go_ret
    exact ⟨rfl, Below.refl _ _⟩
  have HX := hid (hx (by omega))
  clear hx
  go_enter Try.func6, Try.ntmps6
  have hB := Below.refl w.heap.size w
  go_wp2_with fail
  refine (DrawLowestMean_any ao n c _ HX.out hnc).mono ?_; rintro e w1 ⟨⟨s, p, xs, q, gs, rfl, hr, hlx, hr2, hlg⟩, hb⟩
  have hd := hb
  replace hB := chain hB hd
  have hs1 := hd.size
  clear hb hd
  obtain ⟨am, nm, cm, rfl, him⟩ := hr.ints
  clear hr
  obtain ⟨ag, ng, cg, rfl, hig⟩ := hr2.ints
  clear hr2
  have hgl := hig.len
  obtain ⟨fL, HL⟩ : ∃ r, Hid (meanM s xs gs = r) := ⟨_, rfl⟩
  go_wp2_with fail
  refine (LowestMean_any s _ _ _ _ _ _ xs gs _ (him.below (by (repeat (first | exact Below.refl _ _ | assumption | refine Below.alloc ?_ (by first | omega | (simp <;> omega)) _ | refine Below.setCell ?_ (by first | omega | (simp <;> omega)) _ | refine Below.drew ?_ | refine below_drewN ?_)))) (hig.below (by (repeat (first | exact Below.refl _ _ | assumption | refine Below.alloc ?_ (by first | omega | (simp <;> omega)) _ | refine Below.setCell ?_ (by first | omega | (simp <;> omega)) _ | refine Below.drew ?_ | refine below_drewN ?_))))).mono ?_; rw [HL.out]; rintro e w2 ⟨rfl, hb⟩
  have mm0 := keep hb (a := ⟨w1.heap.size, 0, none⟩) (v := .int .i64 s) (by simp)
  have mm1 := keep hb (a := ⟨w1.heap.size, 1, none⟩) (v := .slice am nm cm) (by simp)
  have hN1 : w1.heap.size < w2.heap.size := by have := World.block_lt_of_cell? w2 _ mm0; simpa using this
  have hd : Below w1.heap.size w1 w2 := Below.trans (by (repeat (first | exact Below.refl _ _ | assumption | refine Below.alloc ?_ (by first | omega | (simp <;> omega)) _ | refine Below.setCell ?_ (by first | omega | (simp <;> omega)) _ | refine Below.drew ?_ | refine below_drewN ?_))) (hb.mono (by simp <;> omega))
  replace him := him.below hd
  replace hig := hig.below hd
  replace hB := chain hB hd
  have hs2 := hd.size
  clear hb hd
  go_wp2_with fail
  refine (specLowestMean_any s _ _ _ _ _ _ xs gs _ (him.below (by (repeat (first | exact Below.refl _ _ | assumption | refine Below.alloc ?_ (by first | omega | (simp <;> omega)) _ | refine Below.setCell ?_ (by first | omega | (simp <;> omega)) _ | refine Below.drew ?_ | refine below_drewN ?_)))) (hig.below (by (repeat (first | exact Below.refl _ _ | assumption | refine Below.alloc ?_ (by first | omega | (simp <;> omega)) _ | refine Below.setCell ?_ (by first | omega | (simp <;> omega)) _ | refine Below.drew ?_ | refine below_drewN ?_))))).mono ?_; rw [HL.out]; rintro e w3 ⟨rfl, hb⟩
  have fL0 := keep hb (a := ⟨w2.heap.size, 0, none⟩) (v := .int .i64 fL.num) (by simp)
  have fL1 := keep hb (a := ⟨w2.heap.size, 1, none⟩) (v := .int .i64 fL.den) (by simp)
  have hN2 : w2.heap.size < w3.heap.size := by have := World.block_lt_of_cell? w3 _ fL0; simpa using this
  have hd : Below w2.heap.size w2 w3 := Below.trans (by (repeat (first | exact Below.refl _ _ | assumption | refine Below.alloc ?_ (by first | omega | (simp <;> omega)) _ | refine Below.setCell ?_ (by first | omega | (simp <;> omega)) _ | refine Below.drew ?_ | refine below_drewN ?_))) (hb.mono (by simp <;> omega))
  replace mm0 := keep hd mm0
  replace mm1 := keep hd mm1
  replace him := him.below hd
  replace hig := hig.below hd
  replace hB := chain hB hd
  have hs3 := hd.size
  clear hb hd
  obtain ⟨fH, HH⟩ : ∃ r, Hid (meanH s xs gs = r) := ⟨_, rfl⟩
  go_wp2_with fail
  refine (HighestMean_any s _ _ _ _ _ _ xs gs _ (him.below (by (repeat (first | exact Below.refl _ _ | assumption | refine Below.alloc ?_ (by first | omega | (simp <;> omega)) _ | refine Below.setCell ?_ (by first | omega | (simp <;> omega)) _ | refine Below.drew ?_ | refine below_drewN ?_)))) (hig.below (by (repeat (first | exact Below.refl _ _ | assumption | refine Below.alloc ?_ (by first | omega | (simp <;> omega)) _ | refine Below.setCell ?_ (by first | omega | (simp <;> omega)) _ | refine Below.drew ?_ | refine below_drewN ?_))))).mono ?_; rw [HH.out]; rintro e w4 ⟨rfl, hb⟩
  have fQ0 := keep hb (a := ⟨w3.heap.size, 0, none⟩) (v := .int .i64 fL.num) (by simp)
  have fQ1 := keep hb (a := ⟨w3.heap.size, 1, none⟩) (v := .int .i64 fL.den) (by simp)
  have hN3 : w3.heap.size < w4.heap.size := by have := World.block_lt_of_cell? w4 _ fQ0; simpa using this
  have hd : Below w3.heap.size w3 w4 := Below.trans (by (repeat (first | exact Below.refl _ _ | assumption | refine Below.alloc ?_ (by first | omega | (simp <;> omega)) _ | refine Below.setCell ?_ (by first | omega | (simp <;> omega)) _ | refine Below.drew ?_ | refine below_drewN ?_))) (hb.mono (by simp <;> omega))
  replace mm0 := keep hd mm0
  replace mm1 := keep hd mm1
  replace fL0 := keep hd fL0
  replace fL1 := keep hd fL1
  replace him := him.below hd
  replace hig := hig.below hd
  replace hB := chain hB hd
  have hs4 := hd.size
  clear hb hd
  go_wp2_with fail
  refine (specHighestMean_any s _ _ _ _ _ _ xs gs _ (him.below (by (repeat (first | exact Below.refl _ _ | assumption | refine Below.alloc ?_ (by first | omega | (simp <;> omega)) _ | refine Below.setCell ?_ (by first | omega | (simp <;> omega)) _ | refine Below.drew ?_ | refine below_drewN ?_)))) (hig.below (by (repeat (first | exact Below.refl _ _ | assumption | refine Below.alloc ?_ (by first | omega | (simp <;> omega)) _ | refine Below.setCell ?_ (by first | omega | (simp <;> omega)) _ | refine Below.drew ?_ | refine below_drewN ?_)))) (by omega)).mono ?_; rw [HH.out]; rintro e w5 ⟨rfl, hb⟩
  have fH0 := keep hb (a := ⟨w4.heap.size, 0, none⟩) (v := .int .i64 fH.num) (by simp)
  have fH1 := keep hb (a := ⟨w4.heap.size, 1, none⟩) (v := .int .i64 fH.den) (by simp)
  have hN4 : w4.heap.size < w5.heap.size := by have := World.block_lt_of_cell? w5 _ fH0; simpa using this
  have hd : Below w4.heap.size w4 w5 := Below.trans (by (repeat (first | exact Below.refl _ _ | assumption | refine Below.alloc ?_ (by first | omega | (simp <;> omega)) _ | refine Below.setCell ?_ (by first | omega | (simp <;> omega)) _ | refine Below.drew ?_ | refine below_drewN ?_))) (hb.mono (by simp <;> omega))
  replace mm0 := keep hd mm0
  replace mm1 := keep hd mm1
  replace fL0 := keep hd fL0
  replace fL1 := keep hd fL1
  replace fQ0 := keep hd fQ0
  replace fQ1 := keep hd fQ1
  replace him := him.below hd
  replace hig := hig.below hd
  replace hB := chain hB hd
  have hs5 := hd.size
  clear hb hd
  have hoo : fH.ok = fL.ok := by rw [← HL.out, ← HH.out]; exact means_okb s xs gs
  cases ho : fL.ok
  · rw [ho] at hoo
    go_wp2
    go_ret
    exact ⟨rfl, by (repeat (first | exact Below.refl _ _ | assumption | refine Below.alloc ?_ (by first | omega | (simp <;> omega)) _ | refine Below.setCell ?_ (by first | omega | (simp <;> omega)) _ | refine Below.drew ?_ | refine below_drewN ?_))⟩
  · rw [ho] at hoo
    obtain ⟨hno, hga⟩ := meanM_okI (show (meanM s xs gs).ok = true by rw [HL.out]; exact ho)
    have HLAW := hid (means_list hno hga)
    clear hno hga
    go_wp2_with fail
    refine (iCornersOf_any s _ _ _ xs _ (him.below (by (repeat (first | exact Below.refl _ _ | assumption | refine Below.alloc ?_ (by first | omega | (simp <;> omega)) _ | refine Below.setCell ?_ (by first | omega | (simp <;> omega)) _ | refine Below.drew ?_ | refine below_drewN ?_))))).mono ?_; rintro e w6 ⟨⟨vc, rfl, hmo⟩, hb⟩
    have fR0 := keep hb (a := ⟨w5.heap.size, 0, none⟩) (v := .int .i64 fH.num) (by simp)
    have fR1 := keep hb (a := ⟨w5.heap.size, 1, none⟩) (v := .int .i64 fH.den) (by simp)
    have hN5 : w5.heap.size < w6.heap.size := by have := World.block_lt_of_cell? w6 _ fR0; simpa using this
    have hd : Below w5.heap.size w5 w6 := Below.trans (by (repeat (first | exact Below.refl _ _ | assumption | refine Below.alloc ?_ (by first | omega | (simp <;> omega)) _ | refine Below.setCell ?_ (by first | omega | (simp <;> omega)) _ | refine Below.drew ?_ | refine below_drewN ?_))) (hb.mono (by simp <;> omega))
    replace mm0 := keep hd mm0
    replace mm1 := keep hd mm1
    replace fL0 := keep hd fL0
    replace fL1 := keep hd fL1
    replace fQ0 := keep hd fQ0
    replace fQ1 := keep hd fQ1
    replace fH0 := keep hd fH0
    replace fH1 := keep hd fH1
    replace him := him.below hd
    replace hig := hig.below hd
    replace hB := chain hB hd
    have hs6 := hd.size
    clear hb hd
    obtain ⟨ac, cc, he, hat⟩ := hmo.form
    subst he
    clear hmo
    obtain ⟨C, HC⟩ : ∃ C, Hid (cornersL s xs = C) := ⟨_, rfl⟩
    obtain ⟨Q, HQ⟩ : ∃ Q, Hid (C.length = Q) := ⟨_, rfl⟩
    rw [HC.out, HQ.out] at hat ⊢
    have hQ24 : Q ≤ 24 := by rw [← HQ.out, ← HC.out]; exact corners_len _ _
    rw [HC.out, HQ.out, HL.out, HH.out] at HLAW
    go_wp2
    go_loopw [14, 15, 16] (fun r1 r2 i wr => ∃ k : Nat, k ≤ Q ∧ i = .int .i64 k ∧ r1 = .bool (amongN (fun i => meanC s (nthL C i) gs) fL k) ∧ r2 = .bool (amongN (fun i => meanC s (nthL C i) gs) fH k) ∧ Below w6.heap.size w6 wr) (fun _ _ i _ => Q - (intOf i).toNat)
    case atStart => exact ⟨0, by omega, rfl, rfl, rfl, Below.refl _ _⟩
    case round =>
      obtain ⟨k, hk, rfl, rfl, rfl, hBr⟩ := hrel
      obtain ⟨w7, rfl⟩ : ∃ q : World, q = wr := ⟨_, rfl⟩
      replace mm0 := keep hBr mm0
      replace mm1 := keep hBr mm1
      replace fL0 := keep hBr fL0
      replace fL1 := keep hBr fL1
      replace fQ0 := keep hBr fQ0
      replace fQ1 := keep hBr fQ1
      replace fH0 := keep hBr fH0
      replace fH1 := keep hBr fH1
      replace fR0 := keep hBr fR0
      replace fR1 := keep hBr fR1
      replace him := him.below hBr
      replace hig := hig.below hBr
      replace hat := hat.below hBr
      have hB0 := hB
      have hsw := hB.size
      have hsr := hBr.size
      clear hB
      have hB := hBr
      clear hBr
      by_cases hlt : k < Q
      · have hk0 : (0 : Int) ≤ (k : Int) := by omega
        have hk1 : (k : Int) < (Q : Int) := by omega
        obtain ⟨b1, a1, n1, c1, e1, _, hbb, hc0, hc1, hi1⟩ := hat.at (Below.refl _ _) hlt
        subst e1
        obtain ⟨l1, l2, l3⟩ := HLAW.out.1 k hlt
        have HS1 := hid (among_succ (fun i => meanC s (nthL C i) gs) fL k)
        have HS2 := hid (among_succ (fun i => meanC s (nthL C i) gs) fH k)
        obtain ⟨fX, HX⟩ : ∃ r, Hid (meanC s (nthL C k) gs = r) := ⟨_, rfl⟩
        go_wp2_with fail
        refine (MeanOf_any s _ _ _ _ _ _ (nthL C k) gs _ hi1 hig).mono ?_; rw [HX.out]; rintro e w8 ⟨rfl, hb⟩
        have hd := hb
        replace mm0 := keep hd mm0
        replace mm1 := keep hd mm1
        replace fL0 := keep hd fL0
        replace fL1 := keep hd fL1
        replace fQ0 := keep hd fQ0
        replace fQ1 := keep hd fQ1
        replace fH0 := keep hd fH0
        replace fH1 := keep hd fH1
        replace fR0 := keep hd fR0
        replace fR1 := keep hd fR1
        replace hc0 := keep hd hc0
        replace hc1 := keep hd hc1
        replace him := him.below hd
        replace hig := hig.below hd
        replace hat := hat.below hd
        replace hi1 := hi1.below hd
        replace hB := chain hB hd
        have hs8 := hd.size
        clear hb hd
        rw [HX.out] at l1 l2 l3
        rw [HX.out] at HS1 HS2
        go_wp2_with fail
        refine (LessFraction_any fX.num fX.den fL.num fL.den _).mono ?_; rw [l2]; rintro e w9 ⟨rfl, hb⟩
        have fX0 := keep hb (a := ⟨w8.heap.size, 0, none⟩) (v := .int .i64 fX.num) (by simp)
        have fX1 := keep hb (a := ⟨w8.heap.size, 1, none⟩) (v := .int .i64 fX.den) (by simp)
        have hN6 : w8.heap.size < w9.heap.size := by have := World.block_lt_of_cell? w9 _ fX0; simpa using this
        have hd : Below w8.heap.size w8 w9 := Below.trans (by (repeat (first | exact Below.refl _ _ | assumption | refine Below.alloc ?_ (by first | omega | (simp <;> omega)) _ | refine Below.setCell ?_ (by first | omega | (simp <;> omega)) _ | refine Below.drew ?_ | refine below_drewN ?_))) (hb.mono (by simp <;> omega))
        replace mm0 := keep hd mm0
        replace mm1 := keep hd mm1
        replace fL0 := keep hd fL0
        replace fL1 := keep hd fL1
        replace fQ0 := keep hd fQ0
        replace fQ1 := keep hd fQ1
        replace fH0 := keep hd fH0
        replace fH1 := keep hd fH1
        replace fR0 := keep hd fR0
        replace fR1 := keep hd fR1
        replace hc0 := keep hd hc0
        replace hc1 := keep hd hc1
        replace him := him.below hd
        replace hig := hig.below hd
        replace hat := hat.below hd
        replace hi1 := hi1.below hd
        replace hB := chain hB hd
        have hs9 := hd.size
        clear hb hd
        go_wp2_with fail
        refine (LessFraction_any fH.num fH.den fX.num fX.den _).mono ?_; rw [l3]; rintro e w10 ⟨rfl, hb⟩
        have hd := hb
        replace mm0 := keep hd mm0
        replace mm1 := keep hd mm1
        replace fL0 := keep hd fL0
        replace fL1 := keep hd fL1
        replace fQ0 := keep hd fQ0
        replace fQ1 := keep hd fQ1
        replace fH0 := keep hd fH0
        replace fH1 := keep hd fH1
        replace fR0 := keep hd fR0
        replace fR1 := keep hd fR1
        replace hc0 := keep hd hc0
        replace hc1 := keep hd hc1
        replace fX0 := keep hd fX0
        replace fX1 := keep hd fX1
        replace him := him.below hd
        replace hig := hig.below hd
        replace hat := hat.below hd
        replace hi1 := hi1.below hd
        replace hB := chain hB hd
        have hs10 := hd.size
        clear hb hd
        clear l1 l2 l3
        cases hr1 : amongN (fun i => meanC s (nthL C i) gs) fL k
        · rw [hr1] at HS1
          cases eln : (fX.num == fL.num)
          · cases hr2 : amongN (fun i => meanC s (nthL C i) gs) fH k
            · rw [hr2] at HS2
              cases ehn : (fX.num == fH.num)
              · go_wp2
                go_roundw
                case rel => first | exact ⟨k + 1, by omega, by go_num, by rw [HS1.out]; simp [*], by rw [HS2.out]; simp [*], hB⟩ | exact ⟨_, ⟨k + 1, by omega, by go_num, by rw [HS1.out]; simp [*], by rw [HS2.out]; simp [*], hB⟩, rfl⟩ | exact ⟨_, _, ⟨k + 1, by omega, by go_num, by rw [HS1.out]; simp [*], by rw [HS2.out]; simp [*], hB⟩, rfl, rfl⟩ | exact ⟨_, _, _, ⟨k + 1, by omega, by go_num, by rw [HS1.out]; simp [*], by rw [HS2.out]; simp [*], hB⟩, rfl, rfl, rfl⟩ | exact ⟨_, _, _, _, ⟨k + 1, by omega, by go_num, by rw [HS1.out]; simp [*], by rw [HS2.out]; simp [*], hB⟩, rfl, rfl, rfl, rfl⟩ | exact ⟨_, _, _, _, _, ⟨k + 1, by omega, by go_num, by rw [HS1.out]; simp [*], by rw [HS2.out]; simp [*], hB⟩, rfl, rfl, rfl, rfl, rfl⟩
                case measure => simp [intOf]; omega
              · cases ehd : (fX.den == fH.den)
                · go_wp2
                  go_roundw
                  case rel => first | exact ⟨k + 1, by omega, by go_num, by rw [HS1.out]; simp [*], by rw [HS2.out]; simp [*], hB⟩ | exact ⟨_, ⟨k + 1, by omega, by go_num, by rw [HS1.out]; simp [*], by rw [HS2.out]; simp [*], hB⟩, rfl⟩ | exact ⟨_, _, ⟨k + 1, by omega, by go_num, by rw [HS1.out]; simp [*], by rw [HS2.out]; simp [*], hB⟩, rfl, rfl⟩ | exact ⟨_, _, _, ⟨k + 1, by omega, by go_num, by rw [HS1.out]; simp [*], by rw [HS2.out]; simp [*], hB⟩, rfl, rfl, rfl⟩ | exact ⟨_, _, _, _, ⟨k + 1, by omega, by go_num, by rw [HS1.out]; simp [*], by rw [HS2.out]; simp [*], hB⟩, rfl, rfl, rfl, rfl⟩ | exact ⟨_, _, _, _, _, ⟨k + 1, by omega, by go_num, by rw [HS1.out]; simp [*], by rw [HS2.out]; simp [*], hB⟩, rfl, rfl, rfl, rfl, rfl⟩
                  case measure => simp [intOf]; omega
                · go_wp2
                  go_roundw
                  case rel => first | exact ⟨k + 1, by omega, by go_num, by rw [HS1.out]; simp [*], by rw [HS2.out]; simp [*], hB⟩ | exact ⟨_, ⟨k + 1, by omega, by go_num, by rw [HS1.out]; simp [*], by rw [HS2.out]; simp [*], hB⟩, rfl⟩ | exact ⟨_, _, ⟨k + 1, by omega, by go_num, by rw [HS1.out]; simp [*], by rw [HS2.out]; simp [*], hB⟩, rfl, rfl⟩ | exact ⟨_, _, _, ⟨k + 1, by omega, by go_num, by rw [HS1.out]; simp [*], by rw [HS2.out]; simp [*], hB⟩, rfl, rfl, rfl⟩ | exact ⟨_, _, _, _, ⟨k + 1, by omega, by go_num, by rw [HS1.out]; simp [*], by rw [HS2.out]; simp [*], hB⟩, rfl, rfl, rfl, rfl⟩ | exact ⟨_, _, _, _, _, ⟨k + 1, by omega, by go_num, by rw [HS1.out]; simp [*], by rw [HS2.out]; simp [*], hB⟩, rfl, rfl, rfl, rfl, rfl⟩
                  case measure => simp [intOf]; omega
            · rw [hr2] at HS2
              go_wp2
              go_roundw
              case rel => first | exact ⟨k + 1, by omega, by go_num, by rw [HS1.out]; simp [*], by rw [HS2.out]; simp [*], hB⟩ | exact ⟨_, ⟨k + 1, by omega, by go_num, by rw [HS1.out]; simp [*], by rw [HS2.out]; simp [*], hB⟩, rfl⟩ | exact ⟨_, _, ⟨k + 1, by omega, by go_num, by rw [HS1.out]; simp [*], by rw [HS2.out]; simp [*], hB⟩, rfl, rfl⟩ | exact ⟨_, _, _, ⟨k + 1, by omega, by go_num, by rw [HS1.out]; simp [*], by rw [HS2.out]; simp [*], hB⟩, rfl, rfl, rfl⟩ | exact ⟨_, _, _, _, ⟨k + 1, by omega, by go_num, by rw [HS1.out]; simp [*], by rw [HS2.out]; simp [*], hB⟩, rfl, rfl, rfl, rfl⟩ | exact ⟨_, _, _, _, _, ⟨k + 1, by omega, by go_num, by rw [HS1.out]; simp [*], by rw [HS2.out]; simp [*], hB⟩, rfl, rfl, rfl, rfl, rfl⟩
              case measure => simp [intOf]; omega
          · cases eld : (fX.den == fL.den)
            · cases hr2 : amongN (fun i => meanC s (nthL C i) gs) fH k
              · rw [hr2] at HS2
                cases ehn : (fX.num == fH.num)
                · go_wp2
                  go_roundw
                  case rel => first | exact ⟨k + 1, by omega, by go_num, by rw [HS1.out]; simp [*], by rw [HS2.out]; simp [*], hB⟩ | exact ⟨_, ⟨k + 1, by omega, by go_num, by rw [HS1.out]; simp [*], by rw [HS2.out]; simp [*], hB⟩, rfl⟩ | exact ⟨_, _, ⟨k + 1, by omega, by go_num, by rw [HS1.out]; simp [*], by rw [HS2.out]; simp [*], hB⟩, rfl, rfl⟩ | exact ⟨_, _, _, ⟨k + 1, by omega, by go_num, by rw [HS1.out]; simp [*], by rw [HS2.out]; simp [*], hB⟩, rfl, rfl, rfl⟩ | exact ⟨_, _, _, _, ⟨k + 1, by omega, by go_num, by rw [HS1.out]; simp [*], by rw [HS2.out]; simp [*], hB⟩, rfl, rfl, rfl, rfl⟩ | exact ⟨_, _, _, _, _, ⟨k + 1, by omega, by go_num, by rw [HS1.out]; simp [*], by rw [HS2.out]; simp [*], hB⟩, rfl, rfl, rfl, rfl, rfl⟩
                  case measure => simp [intOf]; omega
                · cases ehd : (fX.den == fH.den)
                  · go_wp2
                    go_roundw
                    case rel => first | exact ⟨k + 1, by omega, by go_num, by rw [HS1.out]; simp [*], by rw [HS2.out]; simp [*], hB⟩ | exact ⟨_, ⟨k + 1, by omega, by go_num, by rw [HS1.out]; simp [*], by rw [HS2.out]; simp [*], hB⟩, rfl⟩ | exact ⟨_, _, ⟨k + 1, by omega, by go_num, by rw [HS1.out]; simp [*], by rw [HS2.out]; simp [*], hB⟩, rfl, rfl⟩ | exact ⟨_, _, _, ⟨k + 1, by omega, by go_num, by rw [HS1.out]; simp [*], by rw [HS2.out]; simp [*], hB⟩, rfl, rfl, rfl⟩ | exact ⟨_, _, _, _, ⟨k + 1, by omega, by go_num, by rw [HS1.out]; simp [*], by rw [HS2.out]; simp [*], hB⟩, rfl, rfl, rfl, rfl⟩ | exact ⟨_, _, _, _, _, ⟨k + 1, by omega, by go_num, by rw [HS1.out]; simp [*], by rw [HS2.out]; simp [*], hB⟩, rfl, rfl, rfl, rfl, rfl⟩
                    case measure => simp [intOf]; omega
                  · go_wp2
                    go_roundw
                    case rel => first | exact ⟨k + 1, by omega, by go_num, by rw [HS1.out]; simp [*], by rw [HS2.out]; simp [*], hB⟩ | exact ⟨_, ⟨k + 1, by omega, by go_num, by rw [HS1.out]; simp [*], by rw [HS2.out]; simp [*], hB⟩, rfl⟩ | exact ⟨_, _, ⟨k + 1, by omega, by go_num, by rw [HS1.out]; simp [*], by rw [HS2.out]; simp [*], hB⟩, rfl, rfl⟩ | exact ⟨_, _, _, ⟨k + 1, by omega, by go_num, by rw [HS1.out]; simp [*], by rw [HS2.out]; simp [*], hB⟩, rfl, rfl, rfl⟩ | exact ⟨_, _, _, _, ⟨k + 1, by omega, by go_num, by rw [HS1.out]; simp [*], by rw [HS2.out]; simp [*], hB⟩, rfl, rfl, rfl, rfl⟩ | exact ⟨_, _, _, _, _, ⟨k + 1, by omega, by go_num, by rw [HS1.out]; simp [*], by rw [HS2.out]; simp [*], hB⟩, rfl, rfl, rfl, rfl, rfl⟩
                    case measure => simp [intOf]; omega
              · rw [hr2] at HS2
                go_wp2
                go_roundw
                case rel => first | exact ⟨k + 1, by omega, by go_num, by rw [HS1.out]; simp [*], by rw [HS2.out]; simp [*], hB⟩ | exact ⟨_, ⟨k + 1, by omega, by go_num, by rw [HS1.out]; simp [*], by rw [HS2.out]; simp [*], hB⟩, rfl⟩ | exact ⟨_, _, ⟨k + 1, by omega, by go_num, by rw [HS1.out]; simp [*], by rw [HS2.out]; simp [*], hB⟩, rfl, rfl⟩ | exact ⟨_, _, _, ⟨k + 1, by omega, by go_num, by rw [HS1.out]; simp [*], by rw [HS2.out]; simp [*], hB⟩, rfl, rfl, rfl⟩ | exact ⟨_, _, _, _, ⟨k + 1, by omega, by go_num, by rw [HS1.out]; simp [*], by rw [HS2.out]; simp [*], hB⟩, rfl, rfl, rfl, rfl⟩ | exact ⟨_, _, _, _, _, ⟨k + 1, by omega, by go_num, by rw [HS1.out]; simp [*], by rw [HS2.out]; simp [*], hB⟩, rfl, rfl, rfl, rfl, rfl⟩
                case measure => simp [intOf]; omega
            · cases hr2 : amongN (fun i => meanC s (nthL C i) gs) fH k
              · rw [hr2] at HS2
                cases ehn : (fX.num == fH.num)
                · go_wp2
                  go_roundw
                  case rel => first | exact ⟨k + 1, by omega, by go_num, by rw [HS1.out]; simp [*], by rw [HS2.out]; simp [*], hB⟩ | exact ⟨_, ⟨k + 1, by omega, by go_num, by rw [HS1.out]; simp [*], by rw [HS2.out]; simp [*], hB⟩, rfl⟩ | exact ⟨_, _, ⟨k + 1, by omega, by go_num, by rw [HS1.out]; simp [*], by rw [HS2.out]; simp [*], hB⟩, rfl, rfl⟩ | exact ⟨_, _, _, ⟨k + 1, by omega, by go_num, by rw [HS1.out]; simp [*], by rw [HS2.out]; simp [*], hB⟩, rfl, rfl, rfl⟩ | exact ⟨_, _, _, _, ⟨k + 1, by omega, by go_num, by rw [HS1.out]; simp [*], by rw [HS2.out]; simp [*], hB⟩, rfl, rfl, rfl, rfl⟩ | exact ⟨_, _, _, _, _, ⟨k + 1, by omega, by go_num, by rw [HS1.out]; simp [*], by rw [HS2.out]; simp [*], hB⟩, rfl, rfl, rfl, rfl, rfl⟩
                  case measure => simp [intOf]; omega
                · cases ehd : (fX.den == fH.den)
                  · go_wp2
                    go_roundw
                    case rel => first | exact ⟨k + 1, by omega, by go_num, by rw [HS1.out]; simp [*], by rw [HS2.out]; simp [*], hB⟩ | exact ⟨_, ⟨k + 1, by omega, by go_num, by rw [HS1.out]; simp [*], by rw [HS2.out]; simp [*], hB⟩, rfl⟩ | exact ⟨_, _, ⟨k + 1, by omega, by go_num, by rw [HS1.out]; simp [*], by rw [HS2.out]; simp [*], hB⟩, rfl, rfl⟩ | exact ⟨_, _, _, ⟨k + 1, by omega, by go_num, by rw [HS1.out]; simp [*], by rw [HS2.out]; simp [*], hB⟩, rfl, rfl, rfl⟩ | exact ⟨_, _, _, _, ⟨k + 1, by omega, by go_num, by rw [HS1.out]; simp [*], by rw [HS2.out]; simp [*], hB⟩, rfl, rfl, rfl, rfl⟩ | exact ⟨_, _, _, _, _, ⟨k + 1, by omega, by go_num, by rw [HS1.out]; simp [*], by rw [HS2.out]; simp [*], hB⟩, rfl, rfl, rfl, rfl, rfl⟩
                    case measure => simp [intOf]; omega
                  · go_wp2
                    go_roundw
                    case rel => first | exact ⟨k + 1, by omega, by go_num, by rw [HS1.out]; simp [*], by rw [HS2.out]; simp [*], hB⟩ | exact ⟨_, ⟨k + 1, by omega, by go_num, by rw [HS1.out]; simp [*], by rw [HS2.out]; simp [*], hB⟩, rfl⟩ | exact ⟨_, _, ⟨k + 1, by omega, by go_num, by rw [HS1.out]; simp [*], by rw [HS2.out]; simp [*], hB⟩, rfl, rfl⟩ | exact ⟨_, _, _, ⟨k + 1, by omega, by go_num, by rw [HS1.out]; simp [*], by rw [HS2.out]; simp [*], hB⟩, rfl, rfl, rfl⟩ | exact ⟨_, _, _, _, ⟨k + 1, by omega, by go_num, by rw [HS1.out]; simp [*], by rw [HS2.out]; simp [*], hB⟩, rfl, rfl, rfl, rfl⟩ | exact ⟨_, _, _, _, _, ⟨k + 1, by omega, by go_num, by rw [HS1.out]; simp [*], by rw [HS2.out]; simp [*], hB⟩, rfl, rfl, rfl, rfl, rfl⟩
                    case measure => simp [intOf]; omega
              · rw [hr2] at HS2
                go_wp2
                go_roundw
                case rel => first | exact ⟨k + 1, by omega, by go_num, by rw [HS1.out]; simp [*], by rw [HS2.out]; simp [*], hB⟩ | exact ⟨_, ⟨k + 1, by omega, by go_num, by rw [HS1.out]; simp [*], by rw [HS2.out]; simp [*], hB⟩, rfl⟩ | exact ⟨_, _, ⟨k + 1, by omega, by go_num, by rw [HS1.out]; simp [*], by rw [HS2.out]; simp [*], hB⟩, rfl, rfl⟩ | exact ⟨_, _, _, ⟨k + 1, by omega, by go_num, by rw [HS1.out]; simp [*], by rw [HS2.out]; simp [*], hB⟩, rfl, rfl, rfl⟩ | exact ⟨_, _, _, _, ⟨k + 1, by omega, by go_num, by rw [HS1.out]; simp [*], by rw [HS2.out]; simp [*], hB⟩, rfl, rfl, rfl, rfl⟩ | exact ⟨_, _, _, _, _, ⟨k + 1, by omega, by go_num, by rw [HS1.out]; simp [*], by rw [HS2.out]; simp [*], hB⟩, rfl, rfl, rfl, rfl, rfl⟩
                case measure => simp [intOf]; omega
        · rw [hr1] at HS1
          cases hr2 : amongN (fun i => meanC s (nthL C i) gs) fH k
          · rw [hr2] at HS2
            cases ehn : (fX.num == fH.num)
            · go_wp2
              go_roundw
              case rel => first | exact ⟨k + 1, by omega, by go_num, by rw [HS1.out]; simp [*], by rw [HS2.out]; simp [*], hB⟩ | exact ⟨_, ⟨k + 1, by omega, by go_num, by rw [HS1.out]; simp [*], by rw [HS2.out]; simp [*], hB⟩, rfl⟩ | exact ⟨_, _, ⟨k + 1, by omega, by go_num, by rw [HS1.out]; simp [*], by rw [HS2.out]; simp [*], hB⟩, rfl, rfl⟩ | exact ⟨_, _, _, ⟨k + 1, by omega, by go_num, by rw [HS1.out]; simp [*], by rw [HS2.out]; simp [*], hB⟩, rfl, rfl, rfl⟩ | exact ⟨_, _, _, _, ⟨k + 1, by omega, by go_num, by rw [HS1.out]; simp [*], by rw [HS2.out]; simp [*], hB⟩, rfl, rfl, rfl, rfl⟩ | exact ⟨_, _, _, _, _, ⟨k + 1, by omega, by go_num, by rw [HS1.out]; simp [*], by rw [HS2.out]; simp [*], hB⟩, rfl, rfl, rfl, rfl, rfl⟩
              case measure => simp [intOf]; omega
            · cases ehd : (fX.den == fH.den)
              · go_wp2
                go_roundw
                case rel => first | exact ⟨k + 1, by omega, by go_num, by rw [HS1.out]; simp [*], by rw [HS2.out]; simp [*], hB⟩ | exact ⟨_, ⟨k + 1, by omega, by go_num, by rw [HS1.out]; simp [*], by rw [HS2.out]; simp [*], hB⟩, rfl⟩ | exact ⟨_, _, ⟨k + 1, by omega, by go_num, by rw [HS1.out]; simp [*], by rw [HS2.out]; simp [*], hB⟩, rfl, rfl⟩ | exact ⟨_, _, _, ⟨k + 1, by omega, by go_num, by rw [HS1.out]; simp [*], by rw [HS2.out]; simp [*], hB⟩, rfl, rfl, rfl⟩ | exact ⟨_, _, _, _, ⟨k + 1, by omega, by go_num, by rw [HS1.out]; simp [*], by rw [HS2.out]; simp [*], hB⟩, rfl, rfl, rfl, rfl⟩ | exact ⟨_, _, _, _, _, ⟨k + 1, by omega, by go_num, by rw [HS1.out]; simp [*], by rw [HS2.out]; simp [*], hB⟩, rfl, rfl, rfl, rfl, rfl⟩
                case measure => simp [intOf]; omega
              · go_wp2
                go_roundw
                case rel => first | exact ⟨k + 1, by omega, by go_num, by rw [HS1.out]; simp [*], by rw [HS2.out]; simp [*], hB⟩ | exact ⟨_, ⟨k + 1, by omega, by go_num, by rw [HS1.out]; simp [*], by rw [HS2.out]; simp [*], hB⟩, rfl⟩ | exact ⟨_, _, ⟨k + 1, by omega, by go_num, by rw [HS1.out]; simp [*], by rw [HS2.out]; simp [*], hB⟩, rfl, rfl⟩ | exact ⟨_, _, _, ⟨k + 1, by omega, by go_num, by rw [HS1.out]; simp [*], by rw [HS2.out]; simp [*], hB⟩, rfl, rfl, rfl⟩ | exact ⟨_, _, _, _, ⟨k + 1, by omega, by go_num, by rw [HS1.out]; simp [*], by rw [HS2.out]; simp [*], hB⟩, rfl, rfl, rfl, rfl⟩ | exact ⟨_, _, _, _, _, ⟨k + 1, by omega, by go_num, by rw [HS1.out]; simp [*], by rw [HS2.out]; simp [*], hB⟩, rfl, rfl, rfl, rfl, rfl⟩
                case measure => simp [intOf]; omega
          · rw [hr2] at HS2
            go_wp2
            go_roundw
            case rel => first | exact ⟨k + 1, by omega, by go_num, by rw [HS1.out]; simp [*], by rw [HS2.out]; simp [*], hB⟩ | exact ⟨_, ⟨k + 1, by omega, by go_num, by rw [HS1.out]; simp [*], by rw [HS2.out]; simp [*], hB⟩, rfl⟩ | exact ⟨_, _, ⟨k + 1, by omega, by go_num, by rw [HS1.out]; simp [*], by rw [HS2.out]; simp [*], hB⟩, rfl, rfl⟩ | exact ⟨_, _, _, ⟨k + 1, by omega, by go_num, by rw [HS1.out]; simp [*], by rw [HS2.out]; simp [*], hB⟩, rfl, rfl, rfl⟩ | exact ⟨_, _, _, _, ⟨k + 1, by omega, by go_num, by rw [HS1.out]; simp [*], by rw [HS2.out]; simp [*], hB⟩, rfl, rfl, rfl, rfl⟩ | exact ⟨_, _, _, _, _, ⟨k + 1, by omega, by go_num, by rw [HS1.out]; simp [*], by rw [HS2.out]; simp [*], hB⟩, rfl, rfl, rfl, rfl, rfl⟩
            case measure => simp [intOf]; omega
      · obtain rfl : k = Q := by omega
        have h1 : amongN (fun i => meanC s (nthL C i) gs) fL k = true := by obtain ⟨_, ⟨i, hi, e⟩, _⟩ := HLAW.out; exact among_of hi e
        have h2 : amongN (fun i => meanC s (nthL C i) gs) fH k = true := by obtain ⟨_, _, i, hi, e⟩ := HLAW.out; exact among_of hi e
        rw [h1, h2]
        go_wp2
        go_ret
        exact ⟨rfl, hB0.trans (hB.mono hsw)⟩
end Go.Proofs.Ytchjnjmlambpjaa
