/- The regret of an act: RegretOf both. -/
import Derived.Test.YtchjnjmlambpjaaW19
import Derived.Test.YtchjnjmlambpjaaW14
set_option linter.unusedSimpArgs false
set_option linter.unusedVariables false
namespace Go.Proofs.Ytchjnjmlambpjaa
open Go.RowKit
/-- what is lost by an act against another one at most -/
def lossS (xs f g : List Int) : Int := -(sumF 2000 xs (negTo (subTo f g f.length) f.length) xs.length)
def mostTo (xs : List Int) (acts : List (List Int)) (k j : Nat) : Int := iter (fun i t => max t (lossS xs (nthL acts i) (nthL acts k))) 0 j
def regretM (s : Int) (xs : List Int) (acts : List (List Int)) (k : Int) : FR := if actsOk s xs acts && inB 0 ((acts.length : Int) - 1) k then redF (mostTo xs acts k.toNat acts.length) (isum xs) else FR.no
theorem regretM_bad {s : Int} {xs : List Int} {acts : List (List Int)} {k : Int} (h : actsOk s xs acts = false ∨ inB 0 ((acts.length : Int) - 1) k = false) : regretM s xs acts k = FR.no := by
  rcases h with h | h <;> simp [regretM, h]
theorem MG2.loss {s : Int} {n m : Nat} {xs f g : List Int} (h : MG2 s n m xs f g) : lossS xs f g = -(sumF 2000 xs (negTo (subTo f g m) m) n) := by
  unfold lossS; rw [h.a.glen, h.a.xlen]
theorem MG2.high {s : Int} {n m : Nat} {xs f g : List Int} (h : MG2 s n m xs f g) : gainSum max xs (subTo f g m) = lossS xs f g := by
  rw [h.loss]
  show gainTo max xs (subTo f g m) xs.length = _
  rw [h.a.xlen]
  have := gain_maxF 2000 xs (subTo f g m) h.a.zero (fun k hk => (h.subb k (by rw [subTo_len] at hk; exact hk)).1) n (by rw [subTo_len, ← h.a.pow]; exact Nat.le_refl _) n (Nat.le_refl _)
  rw [subTo_len] at this
  exact this
theorem MG2.negb {s : Int} {n m : Nat} {xs f g : List Int} (h : MG2 s n m xs f g) : ∀ k, k < m → inG (nth (negTo (subTo f g m) m) k) := fun k hk => by
  rw [negTo_nth _ _ _ hk]; have := h.subb k hk; unfold inG at *; omega
theorem MG2.loss_bd {s : Int} {n m : Nat} {xs f g : List Int} (h : MG2 s n m xs f g) : -32000000000 ≤ lossS xs f g ∧ lossS xs f g ≤ 32000000000 := by
  rw [h.loss]
  have h1 := sumF_bd 2000 (by omega) xs (negTo (subTo f g m) m) n h.a.xb (fun k hk => h.negb k (by rw [negTo_len] at hk; exact hk)) n (Nat.le_refl _)
  have := h.a.n16; omega
theorem max_eq (x y : Int) : (if x < y then y else x) = max x y := by split <;> omega
set_option maxHeartbeats 2000000 in
theorem RegretOf_any (s kk : Int) (ao bo : Option Addr) (n c m d : Nat) (xs : List Int) (acts : List (List Int)) (w : World) (hx : IntsAt w ao n xs) (hy : RowsAt w bo m acts) :
    Calls Try.prog 47 #[.agg #[.int .i64 s, .slice ao n c], .slice bo m d, .int .i64 kk] w fun e w' => e = .returned (.tuple #[.agg #[.int .i64 (regretM s xs acts kk).num, .int .i64 (regretM s xs acts kk).den], .bool (regretM s xs acts kk).ok]) ∧ Below w.heap.size w w' := by
  have hB0 : Below w.heap.size w ((w.alloc (.cells #[.int .i64 s, .slice ao n c] 28)).alloc (.cells #[.int .i64 0, .int .i64 0] 49)) := (below_alloc w _).alloc (by simp) _
  cases hA : actsOk s xs acts
  · have HR : Hid (regretM s xs acts kk = FR.no) := regretM_bad (.inl hA)
    go_enter Try.func47, Try.ntmps47
    go_wp2_with fail
    refine (areActs_any _ _ _ _ _ _ _ xs acts _ (hx.below hB0) (hy.below hB0)).mono ?_; rw [hA]; rintro e w1 ⟨rfl, hb1⟩
    obtain ⟨h10, h11, f20, f21⟩ := boxG (w.heap.size + 1) hb1 (by simp)
    have hB1 : Below w.heap.size w w1 := Below.trans (by (repeat (first | exact Below.refl _ _ | assumption | refine Below.alloc ?_ (by simp <;> omega) _ | refine Below.setCell ?_ (by simp <;> omega) _ | refine Below.drew ?_ | refine below_drewN ?_))) (hb1.mono (by simp <;> omega))
    clear hb1
    go_wp2
    refine bodyPost_ret (v := .tuple #[.agg #[.int .i64 0, .int .i64 0], .bool false]) (by simp [results, Try.results47, go_sem, h10, h11]) rfl ⟨?_, ?_⟩
    · rw [HR.out]; rfl
    · (repeat (first | exact Below.refl _ _ | assumption | refine Below.alloc ?_ (by simp <;> omega) _ | refine Below.setCell ?_ (by simp <;> omega) _ | refine Below.drew ?_ | refine below_drewN ?_))
  · obtain ⟨hm, hz, ha1, ha8, hag⟩ := actsOk_facts hA
    have hyl := hid hy.len
    have hm8 : m ≤ 8 := by have := hyl.out; omega
    by_cases hin : 0 ≤ kk ∧ kk < (m : Int)
    · obtain ⟨hk0, hk1⟩ := hin
      obtain ⟨k, rfl⟩ : ∃ k : Nat, kk = (k : Int) := ⟨kk.toNat, by omega⟩
      have hkm : k < m := by omega
      have HR : Hid (regretM s xs acts (k : Int) = redF (mostTo xs acts k m) (isum xs)) := by
        rw [Hid]; unfold regretM; rw [hA, inB_iff.2 (by have := hyl.out; omega), hyl.out]; rfl
      have HAG := hid hag; clear hag
      have HZ := hid hz; clear hz
      have hxl := hid hx.len
      have hcap := hy.cap
      obtain ⟨_, _, _, hxb, hs1, hs2, _⟩ := massOk_facts' hm
      have HXB : Hid (∀ k, k < n → 0 ≤ nth xs k ∧ nth xs k ≤ 1000000000000000) := fun k hk => by have := hxb k (by rw [hxl.out]; exact hk); omega
      have hn16 : n ≤ 16 := by have := (massOk_facts' hm).2.2.1; have := hxl.out; omega
      clear hxb
      go_enter Try.func47, Try.ntmps47
      go_wp2_with fail
      refine (areActs_any _ _ _ _ _ _ _ xs acts _ (hx.below hB0) (hy.below hB0)).mono ?_; rw [hA]; rintro e w1 ⟨rfl, hb1⟩
      obtain ⟨h10, h11, f20, f21⟩ := boxG (w.heap.size + 1) hb1 (by simp)
      have hp0 := keep hb1 (a := ⟨w.heap.size, 0, none⟩) (v := .int .i64 s) (by simp)
      have hp1 := keep hb1 (a := ⟨w.heap.size, 1, none⟩) (v := .slice ao n c) (by simp)
      have hB1 : Below w.heap.size w w1 := Below.trans (by (repeat (first | exact Below.refl _ _ | assumption | refine Below.alloc ?_ (by simp <;> omega) _ | refine Below.setCell ?_ (by simp <;> omega) _ | refine Below.drew ?_ | refine below_drewN ?_))) (hb1.mono (by simp <;> omega))
      clear hb1
      go_wp2
      go_loopw [8, 10, 28] (fun t _ i wr => ∃ q : Nat, q ≤ m ∧ i = .int .i64 q ∧ t = .int .i64 (mostTo xs acts k q) ∧ 0 ≤ mostTo xs acts k q ∧ mostTo xs acts k q ≤ 32000000000 ∧ Below w1.heap.size w1 wr) (fun _ _ i _ => m - (intOf i).toNat)
      case atStart => exact ⟨0, by omega, rfl, rfl, by show (0 : Int) ≤ 0; omega, by show (0 : Int) ≤ 32000000000; omega, Below.refl _ _⟩
      case round =>
        obtain ⟨q, hq, rfl, rfl, hm0, hm1, hBr⟩ := hrel
        have hB := chain hB1 hBr
        have hq0 := keep hBr hp0
        have hq1 := keep hBr hp1
        have HN : Hid (mostTo xs acts k (q + 1) = max (mostTo xs acts k q) (lossS xs (nthL acts q) (nthL acts k))) := rfl
        obtain ⟨t, HT⟩ : ∃ t, Hid (mostTo xs acts k q = t) := ⟨_, rfl⟩
        rw [HT.out] at hm0 hm1
        rw [HT.out]
        by_cases hqt : q < m
        · obtain ⟨b, off, a', n', c', rfl, hbs, hbs', hck, hi⟩ := hy.at hB hqt
          obtain ⟨b2, off2, a2, n2, c2, e2, _, _, hck2, hi2⟩ := hy.at hB hkm
          injection e2 with e2
          injection e2 with e3 e4
          subst e3 e4
          obtain ⟨e5, hmg⟩ := mg2_of hm HZ.out (HAG.out q (by rw [hyl.out]; exact hqt)) (HAG.out k (by rw [hyl.out]; exact hkm)) hxl.out hi.len hi2.len
          subst e5
          have HG := hid hmg; clear hmg
          have hlb := HG.out.loss_bd
          obtain ⟨l, HLs⟩ : ∃ l, Hid (lossS xs (nthL acts q) (nthL acts k) = l) := ⟨_, rfl⟩
          rw [HLs.out] at hlb
          have hm29 : n2 ≤ 29 := by have := HG.out.a.m4; omega
          have hm100 : n2 ≤ 100 := by omega
          have hk0' : (0 : Int) ≤ (k : Int) := by omega
          have hq0' : (0 : Int) ≤ (q : Int) := by omega
          have hq1' : (q : Int) < (m : Int) := by omega
          go_wp2
          go_region_held3 (fun w' => w'.cell? ⟨w.heap.size, 0, none⟩ = some (.int .i64 s) ∧ w'.cell? ⟨w.heap.size, 1, none⟩ = some (.slice ao n c) ∧ w'.cell? ⟨b, off + k, none⟩ = some (.slice a2 n2 c2) ∧ Below wr.heap.size wr w') (first | (refine ⟨by assumption, by assumption, by assumption, by assumption⟩; done) | (refine ⟨by simp [*], by simp [*], by simp [*], ?_⟩; (repeat (first | exact Below.refl _ _ | assumption | refine Below.alloc ?_ (by simp <;> omega) _ | refine Below.setCell ?_ (by simp <;> omega) _ | refine Below.drew ?_ | refine below_drewN ?_)); done)) (first | (go_at_call 94; refine (lessAct_any _ _ _ _ _ (nthL acts q) (nthL acts k) _ (hi.below (drew_below _)) (hi2.below (drew_below _)) hm100 HG.out.a.gb1 HG.out.b.gb1).mono ?_; rintro e w2 ⟨v, rfl, hr2, hb2⟩; obtain ⟨av, nv, cv, rfl, hv⟩ := hr2.ints; have hnv : nv = n2 := (by rw [← hv.len]; exact subTo_len _ _ _); subst hnv; have hB2 := chain (drew_below wr) hb2; have k0 := keep hB2 hq0; have k1 := keep hB2 hq1; have k2 := keep hB2 hck2) | (go_at_call 89; refine (highestSum_any s _ _ _ _ _ _ xs (subTo (nthL acts q) (nthL acts k) _) _ ((hx.below hB).below hB2) hv HG.out.a.n16 hm29 HG.out.a.xb HG.out.subb).mono ?_; rw [HG.out.high, HLs.out]; rintro e w3 ⟨rfl, hb3⟩; have hB3 := chain hB2 hb3; have k0 := keep hB3 hq0; have k1 := keep hB3 hq1; have k2 := keep hB3 hck2))
          all_goals
            have HB3 := hid (chain hBr hB3)
            clear hB3 hB2 hb2
            by_cases hc : t < l
            all_goals
              go_wp2
              go_roundw
              case rel => first | exact ⟨q + 1, by omega, by go_num, by rw [HN.out, HLs.out, HT.out]; congr 1; omega, by rw [HN.out, HLs.out, HT.out]; omega, by rw [HN.out, HLs.out, HT.out]; omega, HB3.out⟩ | exact ⟨_, ⟨q + 1, by omega, by go_num, by rw [HN.out, HLs.out, HT.out]; congr 1; omega, by rw [HN.out, HLs.out, HT.out]; omega, by rw [HN.out, HLs.out, HT.out]; omega, HB3.out⟩, rfl⟩ | exact ⟨_, _, ⟨q + 1, by omega, by go_num, by rw [HN.out, HLs.out, HT.out]; congr 1; omega, by rw [HN.out, HLs.out, HT.out]; omega, by rw [HN.out, HLs.out, HT.out]; omega, HB3.out⟩, rfl, rfl⟩ | exact ⟨_, _, _, ⟨q + 1, by omega, by go_num, by rw [HN.out, HLs.out, HT.out]; congr 1; omega, by rw [HN.out, HLs.out, HT.out]; omega, by rw [HN.out, HLs.out, HT.out]; omega, HB3.out⟩, rfl, rfl, rfl⟩ | exact ⟨_, _, _, _, ⟨q + 1, by omega, by go_num, by rw [HN.out, HLs.out, HT.out]; congr 1; omega, by rw [HN.out, HLs.out, HT.out]; omega, by rw [HN.out, HLs.out, HT.out]; omega, HB3.out⟩, rfl, rfl, rfl, rfl⟩ | exact ⟨_, _, _, _, _, ⟨q + 1, by omega, by go_num, by rw [HN.out, HLs.out, HT.out]; congr 1; omega, by rw [HN.out, HLs.out, HT.out]; omega, by rw [HN.out, HLs.out, HT.out]; omega, HB3.out⟩, rfl, rfl, rfl, rfl, rfl⟩
              case measure => simp [intOf]; omega
        · have hqm : q = m := by omega
          have HQ := hid hqm
          clear hqm
          replace f20 := keepF hBr h10 f20
          replace f21 := keepF hBr h11 f21
          replace h10 := keep hBr h10
          replace h11 := keep hBr h11
          go_wp2_with fail
          refine (wholeOf_any s _ _ _ xs _ (hx.below hB) HXB.out hn16).mono ?_; rintro e w4 ⟨rfl, hb4⟩
          replace f20 := keepF hb4 h10 f20
          replace f21 := keepF hb4 h11 f21
          replace h10 := keep hb4 h10
          replace h11 := keep hb4 h11
          have hB4 := chain hB hb4
          clear hb4
          go_wp2_with fail
          refine (lowest_any _ _ _ (by omega) (by omega) (by omega) (by omega) (by omega)).mono ?_; rintro e w5 ⟨rfl, hb5⟩
          replace f20 := keepF hb5 h10 f20
          replace f21 := keepF hb5 h11 f21
          replace h10 := keep hb5 h10
          replace h11 := keep hb5 h11
          have hB5 := chain hB4 hb5
          clear hb5
          go_wp2
          refine bodyPost_ret (v := .tuple #[.agg #[.int .i64 (redF t (isum xs)).num, .int .i64 (redF t (isum xs)).den], .bool (redF t (isum xs)).ok]) (by simp [results, Try.results47, go_sem, h10, h11]) rfl ⟨?_, ?_⟩
          · rw [HR.out, ← HQ.out, HT.out]
          · (repeat (first | exact Below.refl _ _ | assumption | refine Below.alloc ?_ (by simp <;> omega) _ | refine Below.setCell ?_ (by simp <;> omega) _ | refine Below.drew ?_ | refine below_drewN ?_))
    · have HR : Hid (regretM s xs acts kk = FR.no) := regretM_bad (.inr (inB_false.2 (by have := hyl.out; omega)))
      have hor : kk < 0 ∨ (0 ≤ kk ∧ (m : Int) ≤ kk) := by omega
      clear hin
      rcases hor with h | ⟨h, h'⟩
      all_goals
        go_enter Try.func47, Try.ntmps47
        go_wp2_with fail
        refine (areActs_any _ _ _ _ _ _ _ xs acts _ (hx.below hB0) (hy.below hB0)).mono ?_; rw [hA]; rintro e w1 ⟨rfl, hb1⟩
        obtain ⟨h10, h11, f20, f21⟩ := boxG (w.heap.size + 1) hb1 (by simp)
        have hB1 : Below w.heap.size w w1 := Below.trans (by (repeat (first | exact Below.refl _ _ | assumption | refine Below.alloc ?_ (by simp <;> omega) _ | refine Below.setCell ?_ (by simp <;> omega) _ | refine Below.drew ?_ | refine below_drewN ?_))) (hb1.mono (by simp <;> omega))
        clear hb1
        go_wp2
        refine bodyPost_ret (v := .tuple #[.agg #[.int .i64 0, .int .i64 0], .bool false]) (by simp [results, Try.results47, go_sem, h10, h11]) rfl ⟨?_, ?_⟩
        · rw [HR.out]; rfl
        · (repeat (first | exact Below.refl _ _ | assumption | refine Below.alloc ?_ (by simp <;> omega) _ | refine Below.setCell ?_ (by simp <;> omega) _ | refine Below.drew ?_ | refine below_drewN ?_))
theorem mostTo_succ (xs : List Int) (acts : List (List Int)) (k q : Nat) : mostTo xs acts k (q + 1) = max (mostTo xs acts k q) (lossS xs (nthL acts q) (nthL acts k)) := rfl
set_option maxHeartbeats 4000000 in
theorem specRegretOf_any (s kk : Int) (ao bo : Option Addr) (n c m d : Nat) (xs : List Int) (acts : List (List Int)) (w : World) (hx : IntsAt w ao n xs) (hy : RowsAt w bo m acts) :
    Calls Try.prog 48 #[.agg #[.int .i64 s, .slice ao n c], .slice bo m d, .int .i64 kk] w fun e w' => e = .returned (.tuple #[.agg #[.int .i64 (regretM s xs acts kk).num, .int .i64 (regretM s xs acts kk).den], .bool (regretM s xs acts kk).ok]) ∧ Below w.heap.size w w' := by
  have hB0 : Below w.heap.size w ((w.alloc (.cells #[.int .i64 s, .slice ao n c] 28)).alloc (.cells #[.int .i64 0, .int .i64 0] 49)) := (below_alloc w _).alloc (by simp) _
  have hyl := hid hy.len
  cases hA : actsOk s xs acts
  · have HR : Hid (regretM s xs acts kk = FR.no) := regretM_bad (.inl hA)
    go_enter Try.func48, Try.ntmps48
    go_wp2_with fail
    refine (specActsValid_any _ _ _ _ _ _ _ xs acts _ (hx.below hB0) (hy.below hB0)).mono ?_; rw [hA]; rintro e w1 ⟨rfl, hb1⟩
    obtain ⟨h10, h11, f20, f21⟩ := boxG (w.heap.size + 1) hb1 (by simp)
    have hB1 : Below w.heap.size w w1 := Below.trans (by (repeat (first | exact Below.refl _ _ | assumption | refine Below.alloc ?_ (by simp <;> omega) _ | refine Below.setCell ?_ (by simp <;> omega) _ | refine Below.drew ?_ | refine below_drewN ?_))) (hb1.mono (by simp <;> omega))
    clear hb1
    go_wp2
    refine bodyPost_ret (v := .tuple #[.agg #[.int .i64 0, .int .i64 0], .bool false]) (by simp [results, Try.results48, go_sem, h10, h11]) rfl ⟨?_, ?_⟩
    · rw [HR.out]; rfl
    · (repeat (first | exact Below.refl _ _ | assumption | refine Below.alloc ?_ (by simp <;> omega) _ | refine Below.setCell ?_ (by simp <;> omega) _ | refine Below.drew ?_ | refine below_drewN ?_))
  · obtain ⟨hm, hz, ha1, ha8, hag⟩ := actsOk_facts hA
    have hm8 : m ≤ 8 := by have := hyl.out; omega
    cases hin : inB 0 ((acts.length : Int) - 1) kk
    · have HR : Hid (regretM s xs acts kk = FR.no) := regretM_bad (.inr hin)
      rw [hyl.out] at hin
      go_enter Try.func48, Try.ntmps48
      go_wp2_with fail
      refine (specActsValid_any _ _ _ _ _ _ _ xs acts _ (hx.below hB0) (hy.below hB0)).mono ?_; rw [hA]; rintro e w1 ⟨rfl, hb1⟩
      obtain ⟨h10, h11, f20, f21⟩ := boxG (w.heap.size + 1) hb1 (by simp)
      have hB1 : Below w.heap.size w w1 := Below.trans (by (repeat (first | exact Below.refl _ _ | assumption | refine Below.alloc ?_ (by simp <;> omega) _ | refine Below.setCell ?_ (by simp <;> omega) _ | refine Below.drew ?_ | refine below_drewN ?_))) (hb1.mono (by simp <;> omega))
      clear hb1
      go_wp2_with (go_at_call 99; refine (l1In_any _ _ _ _).mono ?_; rw [hin]; rintro e w' ⟨rfl, rfl⟩)
      refine bodyPost_ret (v := .tuple #[.agg #[.int .i64 0, .int .i64 0], .bool false]) (by simp [results, Try.results48, go_sem, h10, h11]) rfl ⟨?_, ?_⟩
      · rw [HR.out]; rfl
      · (repeat (first | exact Below.refl _ _ | assumption | refine Below.alloc ?_ (by simp <;> omega) _ | refine Below.setCell ?_ (by simp <;> omega) _ | refine Below.drew ?_ | refine below_drewN ?_))
    · have hin2 := inB_iff.1 hin
      obtain ⟨k, rfl⟩ : ∃ k : Nat, kk = (k : Int) := ⟨kk.toNat, by omega⟩
      have hkm : k < m := by have := hyl.out; omega
      have HR : Hid (regretM s xs acts (k : Int) = redF (mostTo xs acts k m) (isum xs)) := by
        rw [Hid]; unfold regretM; rw [hA, hin, hyl.out]; rfl
      rw [hyl.out] at hin
      have HIN := hid hin
      have HAG := hid hag; clear hag
      have HZ := hid hz; clear hz
      have hxl := hid hx.len
      have hcap := hy.cap
      have hcapx := hx.cap
      obtain ⟨_, _, _, hxb, hs1, hs2, _⟩ := massOk_facts' hm
      have HXB : Hid (∀ k, k < n → 0 ≤ nth xs k ∧ nth xs k ≤ 1000000) := fun k hk => hxb k (by rw [hxl.out]; exact hk)
      have hn16 : n ≤ 16 := by have := (massOk_facts' hm).2.2.1; have := hxl.out; omega
      clear hxb hin2 hin
      go_enter Try.func48, Try.ntmps48
      go_wp2_with fail
      refine (specActsValid_any _ _ _ _ _ _ _ xs acts _ (hx.below hB0) (hy.below hB0)).mono ?_; rw [hA]; rintro e w1 ⟨rfl, hb1⟩
      obtain ⟨h10, h11, f20, f21⟩ := boxG (w.heap.size + 1) hb1 (by simp)
      have hp0 := keep hb1 (a := ⟨w.heap.size, 0, none⟩) (v := .int .i64 s) (by simp)
      have hp1 := keep hb1 (a := ⟨w.heap.size, 1, none⟩) (v := .slice ao n c) (by simp)
      have hB1 : Below w.heap.size w w1 := Below.trans (by (repeat (first | exact Below.refl _ _ | assumption | refine Below.alloc ?_ (by simp <;> omega) _ | refine Below.setCell ?_ (by simp <;> omega) _ | refine Below.drew ?_ | refine below_drewN ?_))) (hb1.mono (by simp <;> omega))
      clear hb1
      go_wp2_with (go_at_call 99; refine (l1In_any _ _ _ _).mono ?_; rw [HIN.out]; rintro e w' ⟨rfl, rfl⟩)
      go_loopw [8, 9] (fun t i wr => ∃ q : Nat, q ≤ m ∧ i = .int .i64 q ∧ t = .int .i64 (mostTo xs acts k q) ∧ 0 ≤ mostTo xs acts k q ∧ mostTo xs acts k q ≤ 32000000000 ∧ Below w1.heap.size w1 wr) (fun _ i _ => m - (intOf i).toNat)
      case atStart => exact ⟨0, by omega, rfl, rfl, by show (0 : Int) ≤ 0; omega, by show (0 : Int) ≤ 32000000000; omega, Below.refl _ _⟩
      case round =>
        obtain ⟨q, hq, rfl, rfl, hm0, hm1, hBr⟩ := hrel
        have hB := chain hB1 hBr
        have hq0 := keep hBr hp0
        have hq1 := keep hBr hp1
        have HN := hid (mostTo_succ xs acts k q)
        obtain ⟨t, HT⟩ : ∃ t, Hid (mostTo xs acts k q = t) := ⟨_, rfl⟩
        rw [HT.out] at hm0 hm1
        rw [HT.out]
        by_cases hqt : q < m
        · obtain ⟨b, off, a', n', c', rfl, hbs, hbs', hck, hi⟩ := hy.at hB hqt
          obtain ⟨b2, off2, a2, n2, c2, e2, _, _, hck2, hi2⟩ := hy.at hB hkm
          injection e2 with e2
          injection e2 with e3 e4
          subst e3 e4
          obtain ⟨e5, hmg⟩ := mg2_of hm HZ.out (HAG.out q (by rw [hyl.out]; exact hqt)) (HAG.out k (by rw [hyl.out]; exact hkm)) hxl.out hi.len hi2.len
          subst e5
          have HG := hid hmg; clear hmg
          have hm29 : n2 ≤ 29 := by have := HG.out.a.m4; omega
          have hm100 : n2 ≤ 100 := by omega
          have hn1 := HG.out.a.n1
          have hk0' : (0 : Int) ≤ (k : Int) := by omega
          have hk1' : (k : Int) < (m : Int) := by omega
          have hq0' : (0 : Int) ≤ (q : Int) := by omega
          have hq1' : (q : Int) < (m : Int) := by omega
          go_wp2
          refine wp_region_ov_tail 8 (by kernel_rfl) (by kernel_rfl) (fun _ _ _ _ _ h => h) ?_
          simp only [List.take_succ_cons, List.take_zero, List.drop_succ_cons, List.drop_zero]
          repeat (first | go_big_quiet_step ((fail)) | quiet_step ((fail)))
          refine wpQuiet_nil ?_
          intro _ hw_ov
          obtain ⟨x_ov, hw_ov2⟩ := hw_ov
          subst hw_ov2
          obtain ⟨w3, hw_ov3, hb3⟩ := ov_gen _ x_ov
          rw [hw_ov3]
          clear hw_ov3 x_ov
          go_wp2_with fail
          refine (l12Over_any _ _ _ _ _ (nthL acts q) (nthL acts k) _ (hi.below hb3) (hi2.below hb3) hm100 HG.out.a.gb1 HG.out.b.gb1).mono ?_; rintro e w4 ⟨v, rfl, hr4, hb4⟩
          obtain ⟨av, nv, cv, rfl, hv⟩ := hr4.ints
          have hnv : nv = n2 := by rw [← hv.len]; exact subTo_len _ _ _
          subst hnv
          have hB4 := chain (chain hBr hb3) hb4
          have hp0' := keep hB4 hp0
          have hp1' := keep hB4 hp1
          have HBw := hid (chain hB1 hB4)
          have HB4 := hid hB4
          clear hr4 hb4 hb3 hB4 hck hck2 hq0 hq1 hi hi2 hB hBr
          obtain ⟨ov, HOV⟩ : ∃ ov, Hid (subTo (nthL acts q) (nthL acts k) nv = ov) := ⟨_, rfl⟩
          rw [HOV.out] at hv
          have HOB : Hid (∀ k, k < nv → inG (nth ov k)) := by rw [← HOV.out]; exact HG.out.subb
          have HNB : Hid (∀ k, k < nv → inG (nth (negTo ov nv) k)) := by rw [← HOV.out]; exact HG.out.negb
          have HLS := hid (sumF_bd 2000 (by omega) xs (negTo ov nv) n HXB.out (fun k hk => HNB.out k (by rw [negTo_len] at hk; exact hk)))
          have HLoss : Hid (lossS xs (nthL acts q) (nthL acts k) = -(sumF 2000 xs (negTo ov nv) n)) := by rw [← HOV.out]; exact HG.out.loss
          have HST : Hid (-(sumF 2000 xs (negTo ov nv) 1) = 0) := by
            show -((0 : Int) + nth xs 0 * lowF 2000 (negTo ov nv) 0 (negTo ov nv).length) = 0
            rw [HZ.out, Int.zero_mul]; rfl
          go_wp2
          go_loopw [11, 12] (fun x i wr => ∃ a : Nat, 1 ≤ a ∧ a ≤ n ∧ i = .int .i64 a ∧ x = .int .i64 (-(sumF 2000 xs (negTo ov nv) a)) ∧ Below w4.heap.size w4 wr) (fun _ i _ => n - (intOf i).toNat)
          case atStart => exact ⟨1, by omega, hn1, rfl, by rw [HST.out], Below.refl _ _⟩
          case round =>
            obtain ⟨a, ha1, ha, rfl, rfl, hBa⟩ := hrel
            have hBx := chain HBw.out hBa
            have hg0 := keep hBa hp0'
            have hg1 := keep hBa hp1'
            have hva := hv.below hBa
            by_cases hat : a < n
            · obtain ⟨b3, off3, rfl, hbs3, hbs3', hck3⟩ := hx.at hBx hat
              have hp := HXB.out a hat
              have hlb := lowF_bd 2000 (by omega) (negTo ov nv) a nv HNB.out nv (Nat.le_refl _)
              have hlb1 := hlb.1
              have hlb2 := hlb.2
              have hmul := mul_bd _ _ hp.1 hp.2 hlb1 hlb2
              have hs := HLS.out a ha
              have HN2 : Hid (-(sumF 2000 xs (negTo ov nv) (a + 1)) = -(sumF 2000 xs (negTo ov nv) a) - nth xs a * lowF 2000 (negTo ov nv) a nv) := by
                show -(sumF 2000 xs (negTo ov nv) a + nth xs a * lowF 2000 (negTo ov nv) a (negTo ov nv).length) = _; rw [negTo_len]; omega
              obtain ⟨l, HL⟩ : ∃ l, Hid (lowF 2000 (negTo ov nv) a nv = l) := ⟨_, rfl⟩
              rw [HL.out] at hmul
              obtain ⟨u, HU⟩ : ∃ u, Hid (-(sumF 2000 xs (negTo ov nv) a) = u) := ⟨_, rfl⟩
              have hu : -32000000000 ≤ u ∧ u ≤ 32000000000 := by rw [← HU.out]; omega
              rw [HU.out]
              have HLL : Hid (∀ w' ao c, IntsAt w' ao nv (negTo ov nv) → Calls Try.prog 101 #[.int .i64 (a : Int), .slice ao nv c] w' fun e' w'' => e' = .returned (.int .i64 l) ∧ w' = w'') := fun w' ao c h1 => by
                rw [← HL.out]; exact l12Low_any a _ _ _ _ _ (by omega) h1 hm29
              have hw1 : IntKind.i64.wrap (nth xs a * l) = nth xs a * l := IntWalk.i64_in _ (by omega)
              have hw2 : IntKind.i64.wrap (u - nth xs a * l) = u - nth xs a * l := IntWalk.i64_in _ (by omega)
              have ha0' : (0 : Int) ≤ (a : Int) := by omega
              have ha1' : (a : Int) < (n : Int) := by omega
              clear hlb hs
              go_wp2
              go_region_held3 (fun w' => w'.cell? ⟨w.heap.size, 0, none⟩ = some (.int .i64 s) ∧ w'.cell? ⟨w.heap.size, 1, none⟩ = some (.slice (some ⟨b3, off3, none⟩) n c) ∧ w'.cell? ⟨b3, off3 + a, none⟩ = some (.int .i64 (nth xs a)) ∧ Below wr.heap.size wr w') (first | (refine ⟨by assumption, by assumption, by assumption, by assumption⟩; done) | (refine ⟨by simp [*], by simp [*], by simp [*], ?_⟩; (repeat (first | exact Below.refl _ _ | assumption | refine Below.alloc ?_ (by simp <;> omega) _ | refine Below.setCell ?_ (by simp <;> omega) _ | refine Below.drew ?_ | refine below_drewN ?_)); done)) (first | (go_at_call 102; refine (l12Minus_any _ _ _ ov _ (hva.below (drew_below _)) hm100 HOB.out).mono ?_; rintro e w5 ⟨v, rfl, hr5, hb5⟩; obtain ⟨az, nz, cz, rfl, hvz⟩ := hr5.ints; have hnz : nz = nv := (by rw [← hvz.len]; exact negTo_len _ _); subst hnz; have hB5 := chain (drew_below wr) hb5; have k0 := keep hB5 hg0; have k1 := keep hB5 hg1; have k2 := keep hB5 hck3) | (go_at_call 101; refine (HLL.out _ _ _ hvz).mono ?_; rintro e w6 ⟨rfl, rfl⟩))
              all_goals
                have HB5 := hid (chain hBa hB5)
                clear hB5 hb5 hw1 hw2
                go_wp2
                go_roundw
                case rel => first | exact ⟨a + 1, by omega, by omega, by go_num, by rw [HN2.out, HU.out, HL.out], HB5.out⟩ | exact ⟨_, ⟨a + 1, by omega, by omega, by go_num, by rw [HN2.out, HU.out, HL.out], HB5.out⟩, rfl⟩ | exact ⟨_, _, ⟨a + 1, by omega, by omega, by go_num, by rw [HN2.out, HU.out, HL.out], HB5.out⟩, rfl, rfl⟩ | exact ⟨_, _, _, ⟨a + 1, by omega, by omega, by go_num, by rw [HN2.out, HU.out, HL.out], HB5.out⟩, rfl, rfl, rfl⟩ | exact ⟨_, _, _, _, ⟨a + 1, by omega, by omega, by go_num, by rw [HN2.out, HU.out, HL.out], HB5.out⟩, rfl, rfl, rfl, rfl⟩ | exact ⟨_, _, _, _, _, ⟨a + 1, by omega, by omega, by go_num, by rw [HN2.out, HU.out, HL.out], HB5.out⟩, rfl, rfl, rfl, rfl, rfl⟩
                case measure => simp [intOf]; omega
            · have han : a = n := by omega
              have HAN := hid han
              have hs := HLS.out a ha
              obtain ⟨l, HL⟩ : ∃ l, Hid (-(sumF 2000 xs (negTo ov nv) a) = l) := ⟨_, rfl⟩
              have hl : -32000000000 ≤ l ∧ l ≤ 32000000000 := by rw [← HL.out]; omega
              have HLoss2 : Hid (lossS xs (nthL acts q) (nthL acts k) = l) := by rw [Hid, HLoss.out, ← HL.out, HAN.out]
              rw [HL.out]
              have HB5 := hid (HB4.out.trans (hBa.mono HB4.out.size))
              clear han hs
              by_cases hc : t < l
              all_goals
                go_wp2
                go_roundw
                case rel => first | exact ⟨q + 1, by omega, by go_num, by rw [HN.out, HLoss2.out, HT.out]; congr 1; omega, by rw [HN.out, HLoss2.out, HT.out]; omega, by rw [HN.out, HLoss2.out, HT.out]; omega, HB5.out⟩ | exact ⟨_, ⟨q + 1, by omega, by go_num, by rw [HN.out, HLoss2.out, HT.out]; congr 1; omega, by rw [HN.out, HLoss2.out, HT.out]; omega, by rw [HN.out, HLoss2.out, HT.out]; omega, HB5.out⟩, rfl⟩ | exact ⟨_, _, ⟨q + 1, by omega, by go_num, by rw [HN.out, HLoss2.out, HT.out]; congr 1; omega, by rw [HN.out, HLoss2.out, HT.out]; omega, by rw [HN.out, HLoss2.out, HT.out]; omega, HB5.out⟩, rfl, rfl⟩ | exact ⟨_, _, _, ⟨q + 1, by omega, by go_num, by rw [HN.out, HLoss2.out, HT.out]; congr 1; omega, by rw [HN.out, HLoss2.out, HT.out]; omega, by rw [HN.out, HLoss2.out, HT.out]; omega, HB5.out⟩, rfl, rfl, rfl⟩ | exact ⟨_, _, _, _, ⟨q + 1, by omega, by go_num, by rw [HN.out, HLoss2.out, HT.out]; congr 1; omega, by rw [HN.out, HLoss2.out, HT.out]; omega, by rw [HN.out, HLoss2.out, HT.out]; omega, HB5.out⟩, rfl, rfl, rfl, rfl⟩ | exact ⟨_, _, _, _, _, ⟨q + 1, by omega, by go_num, by rw [HN.out, HLoss2.out, HT.out]; congr 1; omega, by rw [HN.out, HLoss2.out, HT.out]; omega, by rw [HN.out, HLoss2.out, HT.out]; omega, HB5.out⟩, rfl, rfl, rfl, rfl, rfl⟩
                case measure => simp [intOf]; omega
        · have hqm : q = m := by omega
          have HQ := hid hqm
          clear hqm
          replace f20 := keepF hBr h10 f20
          replace f21 := keepF hBr h11 f21
          replace h10 := keep hBr h10
          replace h11 := keep hBr h11
          go_wp2_with fail
          refine (l3Whole_any s _ _ _ xs _ (hx.below hB) hm).mono ?_; rintro e w4 ⟨rfl, hb4⟩
          replace f20 := keepF hb4 h10 f20
          replace f21 := keepF hb4 h11 f21
          replace h10 := keep hb4 h10
          replace h11 := keep hb4 h11
          have hB4 := chain hB hb4
          clear hb4
          go_wp2_with fail
          refine (l2Made_any _ _ _ (by omega) (by omega) (by omega) (by omega) (by omega)).mono ?_; rintro e w5 ⟨rfl, hb5⟩
          replace f20 := keepF hb5 h10 f20
          replace f21 := keepF hb5 h11 f21
          replace h10 := keep hb5 h10
          replace h11 := keep hb5 h11
          have hB5 := chain hB4 hb5
          clear hb5
          go_wp2
          refine bodyPost_ret (v := .tuple #[.agg #[.int .i64 (redF t (isum xs)).num, .int .i64 (redF t (isum xs)).den], .bool (redF t (isum xs)).ok]) (by simp [results, Try.results48, go_sem, h10, h11]) rfl ⟨?_, ?_⟩
          · rw [HR.out, ← HQ.out, HT.out]
          · (repeat (first | exact Below.refl _ _ | assumption | refine Below.alloc ?_ (by simp <;> omega) _ | refine Below.setCell ?_ (by simp <;> omega) _ | refine Below.drew ?_ | refine below_drewN ?_))
end Go.Proofs.Ytchjnjmlambpjaa
