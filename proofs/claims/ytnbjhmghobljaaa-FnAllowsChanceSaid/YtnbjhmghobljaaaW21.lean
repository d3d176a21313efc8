/- The act of the shared chance: l4Even, l12Shared, SharedAct both. The shared chance: SharedChance, both ways. -/
import Derived.Test.YtnbjhmghobljaaaW15
import Derived.Test.YtnbjhmghobljaaaW11
import Derived.Test.YtnbjhmghobljaaaD25
set_option linter.unusedSimpArgs false
set_option linter.unusedVariables false
namespace Go.Proofs.Ytnbjhmghobljaaa
open Go.RowKit
def shTo (xs gs : List Int) (k : Nat) : Int := iter (fun x t => t + nth gs x * evenTo xs (2 ^ x) xs.length) 0 k
theorem mul_bd2 (g e : Int) (h0 : -1000 ≤ g) (h1 : g ≤ 1000) (h2 : 0 ≤ e) (h3 : e ≤ 768000000) : -768000000000 ≤ g * e ∧ g * e ≤ 768000000000 := by
  have e1 : g * e ≤ 1000 * e := Int.mul_le_mul_of_nonneg_right h1 h2
  have e2 : (-1000) * e ≤ g * e := Int.mul_le_mul_of_nonneg_right h0 h2
  omega
theorem shTo_bd {s : Int} {n m : Nat} {xs gs : List Int} (h : MG s n m xs gs) (k : Nat) (hk : k ≤ m) : -768000000000 * (k : Int) ≤ shTo xs gs k ∧ shTo xs gs k ≤ 768000000000 * (k : Int) := by
  induction k with
  | zero => exact ⟨by simp [shTo, iter], by simp [shTo, iter]⟩
  | succ k ih =>
    have h1 := ih (by omega)
    have h2 := h.gb1 k (by omega)
    have h3 := evenTo_bd xs (2 ^ k) n h.n16 h.xb n (Nat.le_refl _)
    have hn := h.n16
    have h4 := mul_bd2 (nth gs k) (evenTo xs (2 ^ k) xs.length) h2.1 h2.2 (by rw [h.xlen]; omega) (by rw [h.xlen]; omega)
    show _ ≤ shTo xs gs k + nth gs k * evenTo xs (2 ^ k) xs.length ∧ shTo xs gs k + nth gs k * evenTo xs (2 ^ k) xs.length ≤ _
    push_cast
    omega
theorem pow_lt16 (k : Nat) (h : k < 4) : 2 ^ k < 16 := by
  match k, h with
  | 0, _ => decide
  | 1, _ => decide
  | 2, _ => decide
  | 3, _ => decide
theorem shcTo_bd (xs : List Int) (N : Nat) (hn : xs.length ≤ 16) (hxb : ∀ k, k < xs.length → 0 ≤ nth xs k ∧ nth xs k ≤ 1000000) (k j : Nat) : 0 ≤ nth (shcTo xs N k) j ∧ nth (shcTo xs N k) j ≤ 4000000000000000000 := by
  induction k with
  | zero => show 0 ≤ nth (List.replicate N 0) j ∧ nth (List.replicate N 0) j ≤ _; rw [nth_replicate]; omega
  | succ k ih =>
    rw [shcTo_succ, nth_set]
    have := evenTo_bd xs (2 ^ k) xs.length hn hxb xs.length (Nat.le_refl _)
    split
    · omega
    · exact ih
set_option maxHeartbeats 2000000 in
theorem SharedChance_any (s : Int) (ao : Option Addr) (n c : Nat) (xs : List Int) (w : World) (hx : IntsAt w ao n xs) :
    Calls Try.prog 19 #[.agg #[.int .i64 s, .slice ao n c]] w fun e w' => RetM (shareM s xs) w.heap.size e w' ∧ Below w.heap.size w w' := by
  cases hm : massOk s xs
  · have HR : Hid (shareM s xs = MR.no) := by show shareM s xs = _; simp [shareM, hm]
    rw [HR.out]
    go_enter Try.func19, Try.ntmps19
    go_wp2_with fail
    refine (isMass_any _ _ _ _ xs _ (hx.below (by (repeat (first | exact Below.refl _ _ | assumption | refine Below.alloc ?_ (by first | omega | (simp <;> omega)) _ | refine Below.setCell ?_ (by first | omega | (simp <;> omega)) _ | refine Below.drew ?_ | refine below_drewN ?_))))).mono ?_; rw [hm]; rintro e w1 ⟨rfl, hb1⟩
    obtain ⟨h10, h11, f20, f21⟩ := boxG (w.heap.size + 1) hb1 (by simp)
    have hB1 : Below w.heap.size w w1 := Below.trans (by (repeat (first | exact Below.refl _ _ | assumption | refine Below.alloc ?_ (by simp <;> omega) _ | refine Below.setCell ?_ (by simp <;> omega) _ | refine Below.drew ?_ | refine below_drewN ?_))) (hb1.mono (by simp <;> omega))
    clear hb1
    go_wp2
    refine bodyPost_ret (v := .tuple #[.agg #[.int .i64 0, .slice none 0 0], .bool false]) (by simp [results, Try.results19, go_sem, h10, h11]) rfl ⟨?_, ?_⟩
    · exact RetM.no _ _
    · (repeat (first | exact Below.refl _ _ | assumption | refine Below.alloc ?_ (by simp <;> omega) _ | refine Below.setCell ?_ (by simp <;> omega) _ | refine Below.drew ?_ | refine below_drewN ?_))
  · obtain ⟨hs, hl, h16, hxb, _⟩ := massOk_facts hm
    obtain ⟨h5, hnk⟩ := size_k hs
    have hN := nsets_le hs
    obtain rfl : n = xs.length := hx.len.symm
    have HL := hid hl
    have HR : Hid (shareM s xs = mkMass s (shcTo xs xs.length s.toNat)) := by show shareM s xs = _; unfold shareM; rw [if_pos hm]; rfl
    rw [HR.out]
    obtain ⟨q, hq⟩ : ∃ q : Nat, s.toNat = q := ⟨_, rfl⟩
    have hsq : s = (q : Int) := by rcases okSize_iff.1 hs with h | h | h | h <;> omega
    rw [hq] at hnk h5 ⊢
    have HP : Hid (∀ x, x < q → 2 ^ x < xs.length) := fun x hx => by rw [HL.out, hnk]; exact powF ⟨q, h5⟩ ⟨x, hx⟩
    have HBD := hid (fun k j => shcTo_bd xs xs.length h16 hxb k j)
    have HXB := hid hxb
    subst hsq
    obtain ⟨N, hNe⟩ : ∃ N, xs.length = N := ⟨_, rfl⟩
    rw [hNe] at hx h16 HP HBD ⊢
    have hN0 : 2 ≤ N := by rw [← hNe, HL.out]; exact hN.1
    have HNE := hid hNe
    have HC : Hid (∀ (a : Nat) w', a < N → IntsAt w' ao N xs → Calls Try.prog 58 #[.agg #[.int .i64 (q : Int), .slice ao N c], .int .i64 a] w' fun e w'' => e = .returned (.int .i64 (evenTo xs a N)) ∧ Below w'.heap.size w' w'') := fun a w' ha h1 => sharedPart_any _ _ _ _ a xs w' h1 h16 (by omega) (by rw [← HNE.out]; exact HXB.out)
    have HST : Hid (∀ k, shcTo xs N (k + 1) = (shcTo xs N k).set (2 ^ k) (evenTo xs (2 ^ k) N)) := fun k => by rw [shcTo_succ, HNE.out]
    clear hxb hnk hq hl hNe hN
    go_enter Try.func19, Try.ntmps19
    go_wp2_with fail
    refine (isMass_any _ _ _ _ xs _ (hx.below (by (repeat (first | exact Below.refl _ _ | assumption | refine Below.alloc ?_ (by first | omega | (simp <;> omega)) _ | refine Below.setCell ?_ (by first | omega | (simp <;> omega)) _ | refine Below.drew ?_ | refine below_drewN ?_))))).mono ?_; rw [hm]; rintro e w1 ⟨rfl, hb1⟩
    obtain ⟨h10, h11, f20, f21⟩ := boxG (w.heap.size + 1) hb1 (by simp)
    have p0 := keep hb1 (a := ⟨w.heap.size, 0, none⟩) (v := .int .i64 (q : Int)) (by simp)
    have p1 := keep hb1 (a := ⟨w.heap.size, 1, none⟩) (v := .slice ao N c) (by simp)
    have hz1 : w.heap.size + 1 < w1.heap.size := by have := hb1.size; simp at this; omega
    have hB1 : Below w.heap.size w w1 := Below.trans (by (repeat (first | exact Below.refl _ _ | assumption | refine Below.alloc ?_ (by simp <;> omega) _ | refine Below.setCell ?_ (by simp <;> omega) _ | refine Below.drew ?_ | refine below_drewN ?_))) (hb1.mono (by simp <;> omega))
    clear hb1 hm
    go_wp2_with (at_make; refine wpList_make_ints rfl _ _ rfl N _ _ rfl rfl rfl rfl (by omega) ?_; intro w2 hrow hb2 hz2; (have p0' := keep hb2 p0); (have p1' := keep hb2 p1); (have h10' := keep hb2 h10); (have h11' := keep hb2 h11); (have f20' := keepF hb2 h10 f20); (have f21' := keepF hb2 h11 f21))
    have hB2 : Below w.heap.size w w2 := chain hB1 hb2
    clear p0 p1 h10 h11 f20 f21 hb2
    obtain ⟨g, hg⟩ : ∃ g, w1.heap.size = g := ⟨_, rfl⟩
    rw [hg] at hrow hz2 hz1 ⊢
    clear hg
    have hr0 : Row w2 g (.slice (some ⟨g, 0, none⟩) N N) (shcTo xs N 0) := hrow
    go_loopw [5, 16] (fun _ i wr => ∃ k : Nat, k ≤ q ∧ i = .int .i64 k ∧ Row wr g (.slice (some ⟨g, 0, none⟩) N N) (shcTo xs N k) ∧ w2.grownBy wr (some g)) (fun _ i _ => q - (intOf i).toNat)
    case atStart => exact ⟨0, by omega, rfl, hr0, grownBy_refl _ _⟩
    case round =>
      obtain ⟨k, hk, rfl, hr, hg⟩ := hrel
      have hB : Below w.heap.size w wr := below_grownBy hB2 hB2.size hg (fun k e => by injection e with e; omega)
      have r0 := keepG hg p0' (by omega)
      have r1 := keepG hg p1' (by omega)
      by_cases hlt : k < q
      · have hTk := HP.out k hlt
        have hsl := shl_nat k (by omega)
        have HSK := hid (HST.out k)
        obtain ⟨a, ha⟩ : ∃ a : Nat, 2 ^ k = a := ⟨_, rfl⟩
        rw [ha] at hTk hsl HSK
        have hT0 : (0 : Int) ≤ (a : Int) := by omega
        have hT1 : (a : Int) < (N : Int) := by omega
        have hk0 : (0 : Int) ≤ (k : Int) := by omega
        have hk1 : (k : Int) < (q : Int) := by omega
        have HCA : Hid (∀ w', IntsAt w' ao N xs → Calls Try.prog 58 #[.agg #[.int .i64 (q : Int), .slice ao N c], .int .i64 a] w' fun e w'' => e = .returned (.int .i64 (evenTo xs a N)) ∧ Below w'.heap.size w' w'') := fun w' h1 => HC.out a w' hTk h1
        obtain ⟨hc3, hf3, _⟩ := hr.cellAt hTk
        clear ha
        go_wp2
        refine wp_region_ov_tail 8 (by kernel_rfl) (by kernel_rfl) (fun _ _ _ _ _ h => h) ?_
        simp only [List.take_succ_cons, List.take_zero, List.drop_succ_cons, List.drop_zero]
        repeat (first | go_big_quiet_step ((go_at_call 58; (with_reducible exact ov_call (HCA.out _ ((hx.below hB).below (ov_below _ _)))))) | quiet_step ((go_at_call 58; (with_reducible exact ov_call (HCA.out _ ((hx.below hB).below (ov_below _ _)))))))
        refine wpQuiet_nil ?_
        intro _ hw_ov
        obtain ⟨x_ov, hw_ov2⟩ := hw_ov
        subst hw_ov2
        obtain ⟨w3, hw_ov3, hb3⟩ := ov_gen _ x_ov
        rw [hw_ov3]
        clear hw_ov3 x_ov
        have hr3 := hr.below hb3
        replace hf3 := keepF hb3 hc3 hf3
        replace hc3 := keep hb3 hc3
        obtain ⟨w4, hw4, hr4, hg4⟩ := store_gen hr3 hTk (evenTo xs a N)
        have HG := hid (grownBy_trans (grownBy_trans hg (grownBy_below hb3 (some g))) hg4)
        have HW := hid hw4
        clear hw4 hg4 hr3 hr hb3 hg r0 r1
        go_wp2
        rw [HW.out]
        go_roundw
        case rel => first | exact ⟨k + 1, by omega, by go_num, by rw [HSK.out]; exact hr4, HG.out⟩ | exact ⟨_, ⟨k + 1, by omega, by go_num, by rw [HSK.out]; exact hr4, HG.out⟩, rfl⟩ | exact ⟨_, _, ⟨k + 1, by omega, by go_num, by rw [HSK.out]; exact hr4, HG.out⟩, rfl, rfl⟩ | exact ⟨_, _, _, ⟨k + 1, by omega, by go_num, by rw [HSK.out]; exact hr4, HG.out⟩, rfl, rfl, rfl⟩ | exact ⟨_, _, _, _, ⟨k + 1, by omega, by go_num, by rw [HSK.out]; exact hr4, HG.out⟩, rfl, rfl, rfl, rfl⟩ | exact ⟨_, _, _, _, _, ⟨k + 1, by omega, by go_num, by rw [HSK.out]; exact hr4, HG.out⟩, rfl, rfl, rfl, rfl, rfl⟩
        case measure => simp [intOf]; omega
      · obtain rfl : k = q := by omega
        have f20 := keepGF hg h10' (by omega) f20'
        have f21 := keepGF hg h11' (by omega) f21'
        have h10 := keepG hg h10' (by omega)
        have h11 := keepG hg h11' (by omega)
        have hzz := hg.size
        obtain ⟨ao', n', c', e', hi⟩ := hr.ints
        injection e' with e1 e2 e3
        subst e1 e2 e3
        clear hg p0' p1' h10' h11' f20' f21'
        go_wp2_with fail
        refine (makeMass_any _ _ _ _ (shcTo xs N k) _ hi h16 (fun j _ => HBD.out k j)).mono ?_; rintro e w5 ⟨⟨v, rfl, hr5⟩, hb5⟩
        obtain ⟨a5, n5, c5, rfl, hi5⟩ := hr5.ints
        replace f20 := keepF hb5 h10 f20
        replace f21 := keepF hb5 h11 f21
        replace h10 := keep hb5 h10
        replace h11 := keep hb5 h11
        have hB5 := chain hB hb5
        have hz5 := hb5.size
        clear hb5
        go_wp2
        refine bodyPost_ret (v := .tuple #[.agg #[.int .i64 (mkMass (k : Int) (shcTo xs N k)).size, .slice a5 n5 c5], .bool (mkMass (k : Int) (shcTo xs N k)).ok]) (by simp [results, Try.results19, go_sem, h10, h11, f20, f21]) rfl ⟨?_, ?_⟩
        · exact ⟨_, rfl, (((hr5.mono (base' := w.heap.size + 1 + 1) (by omega)).setBelow (by simp) _).setBelow (by simp) _).mono (by omega)⟩
        · (repeat (first | exact Below.refl _ _ | assumption | refine Below.alloc ?_ (by first | omega | (simp <;> omega)) _ | refine Below.setCell ?_ (by first | omega | (simp <;> omega)) _ | refine Below.drew ?_ | refine below_drewN ?_))
end Go.Proofs.Ytnbjhmghobljaaa
