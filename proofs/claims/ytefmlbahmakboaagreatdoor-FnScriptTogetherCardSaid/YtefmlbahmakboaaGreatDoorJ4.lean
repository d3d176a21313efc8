/- What two masses tell together: DisjoinMasses and DifferMasses, both sides (printed by joingen.py). What two masses tell together without contradictions: JoinMasses, both sides (printed by joingen.py). Lines of a script: and, or, xor, join, conflict, distance, specialized, less (printed by mkj4.py). -/
import Derived.Test.YtefmlbahmakboaaGreatDoorS9
import Derived.Test.YtefmlbahmakboaaGreatDoorS2
import Derived.Test.YtefmlbahmakboaaGreatDoorU8
import Derived.Test.YtefmlbahmakboaaGreatDoorD13
import Derived.Test.YtefmlbahmakboaaGreatDoorV2
import Derived.Test.YtefmlbahmakboaaGreatDoorJ3
import Derived.Test.YtefmlbahmakboaaGreatDoorF10
import Derived.Deep.RegionHeld3
set_option linter.unusedSimpArgs false
set_option linter.unusedVariables false
namespace Go.Proofs.YtefmlbahmakboaaGreatDoor
open Go.RowKit
theorem or_lt {n k j : Nat} (hn : n = 2 ∨ n = 4 ∨ n = 8 ∨ n = 16) (hk : k < n) (hj : j < n) : k ||| j < n := by
  rcases hn with rfl | rfl | rfl | rfl
  · exact Nat.or_lt_two_pow (n := 1) hk hj
  · exact Nat.or_lt_two_pow (n := 2) hk hj
  · exact Nat.or_lt_two_pow (n := 3) hk hj
  · exact Nat.or_lt_two_pow (n := 4) hk hj
theorem xor_lt {n k j : Nat} (hn : n = 2 ∨ n = 4 ∨ n = 8 ∨ n = 16) (hk : k < n) (hj : j < n) : k ^^^ j < n := by
  rcases hn with rfl | rfl | rfl | rfl
  · exact Nat.xor_lt_two_pow (n := 1) hk hj
  · exact Nat.xor_lt_two_pow (n := 2) hk hj
  · exact Nat.xor_lt_two_pow (n := 3) hk hj
  · exact Nat.xor_lt_two_pow (n := 4) hk hj
theorem or16 : ∀ a b : Fin 16, bits BinOp.or IntKind.i64 ((a.val : Nat) : Int) ((b.val : Nat) : Int) = ((a.val ||| b.val : Nat) : Int) := by decide +kernel
theorem xor16 : ∀ a b : Fin 16, bits BinOp.xor IntKind.i64 ((a.val : Nat) : Int) ((b.val : Nat) : Int) = ((a.val ^^^ b.val : Nat) : Int) := by decide +kernel
theorem or_at (a b : Nat) (ha : a < 16) (hb : b < 16) : bits BinOp.or IntKind.i64 (a : Int) (b : Int) = ((a ||| b : Nat) : Int) := or16 ⟨a, ha⟩ ⟨b, hb⟩
theorem xor_at (a b : Nat) (ha : a < 16) (hb : b < 16) : bits BinOp.xor IntKind.i64 (a : Int) (b : Int) = ((a ^^^ b : Nat) : Int) := xor16 ⟨a, ha⟩ ⟨b, hb⟩
theorem pow_of_mass {s : Int} {xs : List Int} (h : massOk s xs = true) : xs.length = 2 ∨ xs.length = 4 ∨ xs.length = 8 ∨ xs.length = 16 := by
  obtain ⟨hs, hl, _⟩ := massOk_facts' h
  rcases okSize_iff.1 hs with rfl | rfl | rfl | rfl <;> (rw [hl]; decide)
theorem disjClos_any (a b : Nat) (w : World) (ha : a < 16) (hb : b < 16) :
    Calls Tryz.prog 45 #[.int .i64 a, .int .i64 b] w fun e w' => e = .returned (.int .i64 ((fun a b => a ||| b) a b : Nat)) ∧ w = w' := by
  have h := or_at a b ha hb
  go_enter Tryz.func45, Tryz.ntmps45
  go_wp2
  go_ret
  exact ⟨ret_int (by simp [h]), rfl⟩
theorem disjClos_call (vs : Array Value) (w' : World) : Sem.run Tryz.prog (callFunc 45 vs) w' = .ok (.enter 45 vs) w' := by
  have h1 : (Tryz.f45.name == "runtime.NumGoroutine") = false := by kernel_rfl
  have h2 : Tryz.f45.body.isNone = false := by kernel_rfl
  have h1' : ¬ Tryz.f45.name = "runtime.NumGoroutine" := by simpa using h1
  have h2' : ¬ Tryz.f45.body = none := by intro e; rw [e] at h2; simp at h2
  simp only [callFunc, Sem.run_bind, run_program, Result.andThen_ok, Tryz.func45, beq_iff_eq, Option.isNone_iff_eq_none, if_neg h1', if_neg h2', Sem.run_pure]
theorem disjTog_any (s u : Int) (ao bo : Option Addr) (n c m d : Nat) (xs ys : List Int) (w : World) (hx : IntsAt w ao n xs) (hy : IntsAt w bo m ys) (hn : n ≤ 16) (hm : m ≤ n)
    (hxb : ∀ k, k < n → 0 ≤ nth xs k ∧ nth xs k ≤ 1000000) (hyb : ∀ k, k < m → 0 ≤ nth ys k ∧ nth ys k ≤ 1000000) (hp : n = 2 ∨ n = 4 ∨ n = 8 ∨ n = 16) :
    Calls Tryz.prog 44 #[.agg #[.int .i64 s, .slice ao n c], .agg #[.int .i64 u, .slice bo m d], .func (.func 45) #[] #[]] w fun e w' => (∃ v, e = .returned v ∧ Row w' w.heap.size v (togTo (fun a b => a ||| b) xs ys n m n)) ∧ Below w.heap.size w w' :=
  together_any s u _ _ _ _ _ _ xs ys 45 (fun a b => a ||| b) w hx hy hn (by omega) disjClos_call hxb hyb (fun a b ha hb => or_lt hp ha (by omega)) (fun a b w' ha hb => disjClos_any a b w' (by omega) (by omega))
set_option maxHeartbeats 2000000 in
theorem DisjoinMasses_any (s u : Int) (ao bo : Option Addr) (n c m d : Nat) (xs ys : List Int) (w : World) (hx : IntsAt w ao n xs) (hy : IntsAt w bo m ys) :
    Calls Tryz.prog 11 #[.agg #[.int .i64 s, .slice ao n c], .agg #[.int .i64 u, .slice bo m d]] w fun e w' => RetM (togM (fun a b => a ||| b) s xs u ys) w.heap.size e w' ∧ Below w.heap.size w w' := by
  have hB0 : Below w.heap.size w (((w.alloc (.cells #[.int .i64 s, .slice ao n c] 25)).alloc (.cells #[.int .i64 u, .slice bo m d] 25)).alloc (.cells #[.int .i64 0, .slice none 0 0] 25)) := ((below_alloc w _).alloc (by simp) _).alloc (by simp <;> omega) _
  cases hq : oneQ s xs u ys
  · have HR := hid (togM_bad (T := fun a b => a ||| b) hq)
    rw [HR.out]
    go_enter Tryz.func11, Tryz.ntmps11
    go_wp2_with fail
    refine (ofOneQuestion_any _ _ _ _ _ _ _ _ _ _ _ (hx.below hB0) (hy.below hB0)).mono ?_; rw [hq]; rintro e w1 ⟨rfl, hb1⟩
    obtain ⟨h10, h11, f20, f21⟩ := boxG (w.heap.size + 1 + 1) hb1 (by simp)
    have hB1 : Below w.heap.size w w1 := Below.trans (by (repeat (first | exact Below.refl _ _ | assumption | refine Below.alloc ?_ (by simp <;> omega) _ | refine Below.setCell ?_ (by simp <;> omega) _ | refine Below.drew ?_ | refine below_drewN ?_))) (hb1.mono (by simp <;> omega))
    clear hb1
    go_wp2
    refine bodyPost_ret (v := .tuple #[.agg #[.int .i64 0, .slice none 0 0], .bool false]) (by simp [results, Tryz.results11, go_sem, h10, h11]) rfl ⟨?_, ?_⟩
    · exact RetM.no _ _
    · (repeat (first | exact Below.refl _ _ | assumption | refine Below.alloc ?_ (by simp <;> omega) _ | refine Below.setCell ?_ (by simp <;> omega) _ | refine Below.drew ?_ | refine below_drewN ?_))
  · obtain ⟨hm1, hm2, hus, hll⟩ := oneQ_facts hq
    have HUS := hid hus; clear hus
    have hxl := hid hx.len
    have hyl := hid hy.len
    have hmn : m = n := by rw [← hxl.out, ← hyl.out]; exact hll
    subst hmn
    have hpw : m = 2 ∨ m = 4 ∨ m = 8 ∨ m = 16 := by have := pow_of_mass hm1; rw [hxl.out] at this; exact this
    have HPW := hid hpw
    clear hpw
    obtain ⟨_, _, h16, hxb, _, _, _⟩ := massOk_facts' hm1
    obtain ⟨_, _, _, hyb, _, _, _⟩ := massOk_facts' hm2
    have hsz := nsets_le (massOk_facts' hm1).1
    have hn1 : 1 ≤ m := by have := (massOk_facts' hm1).2.1; have := hxl.out; omega
    have hn16 : m ≤ 16 := by have := hxl.out; omega
    have HXB : Hid (∀ k, k < m → 0 ≤ nth xs k ∧ nth xs k ≤ 1000000) := fun k hk => hxb k (by rw [hxl.out]; exact hk)
    have HYB : Hid (∀ k, k < m → 0 ≤ nth ys k ∧ nth ys k ≤ 1000000) := fun k hk => hyb k (by rw [hyl.out]; exact hk)
    have HB2 : Hid (∀ k, k < m → 0 ≤ nth (togTo (fun a b => a ||| b) xs ys m m m) k ∧ nth (togTo (fun a b => a ||| b) xs ys m m m) k ≤ 4000000000000000000) := fun k _ => by
      have := togTo_bd (fun a b => a ||| b) xs ys m m m hn16 HXB.out HYB.out m (Nat.le_refl _) k; omega
    have HR : Hid (togM (fun a b => a ||| b) s xs u ys = mkMass s (togTo (fun a b => a ||| b) xs ys m m m)) := by rw [Hid]; unfold togM; rw [hq, hxl.out, hyl.out]; rfl
    rw [HR.out]
    clear hll hxb hyb h16
    go_enter Tryz.func11, Tryz.ntmps11
    go_wp2_with fail
    refine (ofOneQuestion_any _ _ _ _ _ _ _ _ _ _ _ (hx.below hB0) (hy.below hB0)).mono ?_; rw [hq]; rintro e w1 ⟨rfl, hb1⟩
    obtain ⟨h10, h11, f20, f21⟩ := boxG (w.heap.size + 1 + 1) hb1 (by simp)
    have hp0 := keep hb1 (a := ⟨w.heap.size, 0, none⟩) (v := .int .i64 s) (by simp)
    have hp1 := keep hb1 (a := ⟨w.heap.size, 1, none⟩) (v := .slice ao m c) (by simp)
    have hq0 := keep hb1 (a := ⟨w.heap.size + 1, 0, none⟩) (v := .int .i64 u) (by simp)
    have hq1 := keep hb1 (a := ⟨w.heap.size + 1, 1, none⟩) (v := .slice bo m d) (by simp)
    have hB1 : Below w.heap.size w w1 := Below.trans (by (repeat (first | exact Below.refl _ _ | assumption | refine Below.alloc ?_ (by simp <;> omega) _ | refine Below.setCell ?_ (by simp <;> omega) _ | refine Below.drew ?_ | refine below_drewN ?_))) (hb1.mono (by simp <;> omega))
    have hz1 : w.heap.size + 1 + 1 < w1.heap.size := by have := World.block_lt_of_cell? w1 _ h10; simpa using this
    clear hb1
    have hne1 : ¬ w.heap.size + 1 + 1 = w.heap.size := by omega
    have hne2 : ¬ w.heap.size = w.heap.size + 1 + 1 := by omega
    go_wp2
    go_region_held3 (fun w' => w'.cell? ⟨w.heap.size, 0, none⟩ = some (.int .i64 s) ∧ w'.cell? ⟨w.heap.size, 1, none⟩ = some (.slice ao m c) ∧ w'.cell? ⟨w.heap.size + 1, 0, none⟩ = some (.int .i64 u) ∧ w'.cell? ⟨w.heap.size + 1, 1, none⟩ = some (.slice bo m d)) (first | (refine ⟨by assumption, by assumption, by assumption, by assumption⟩; done) | (refine ⟨by simp [*], by simp [*], by simp [*], by simp [*]⟩; done) | go_keep) (first | (go_at_call 44; refine (disjTog_any s u _ _ _ _ _ _ xs ys _ ((hx.below hB1).below (drew_below _)) ((hy.below hB1).below (drew_below _)) hn16 (Nat.le_refl _) HXB.out HYB.out HPW.out).mono ?_; rintro e w2 ⟨⟨v, rfl, hr2⟩, hb2⟩; obtain ⟨av, nv, cv, rfl, hv⟩ := hr2.ints; have hnv : nv = m := (by rw [← hv.len]; exact togTo_len _ _ _ _ _ _); subst hnv; have hB2 := chain (drew_below w1) hb2; have k0 := keep hB2 hp0; have k1 := keep hB2 hp1; have k2 := keep hB2 hq0; have k3 := keep hB2 hq1; have f20 := keepF hB2 h10 f20; have f21 := keepF hB2 h11 f21; have h10 := keep hB2 h10; have h11 := keep hB2 h11) | (go_at_call 43; refine (makeMass_any s _ _ _ _ _ hv hn16 HB2.out).mono ?_; rintro e w3 ⟨⟨v, rfl, hr3⟩, hb3⟩; obtain ⟨ao7, n7, c7, rfl, hi7⟩ := hr3.ints; have hB3 := chain hB2 hb3; have k0 := keep hB3 hp0; have k1 := keep hB3 hp1; have k2 := keep hB3 hq0; have k3 := keep hB3 hq1; have f20 := keepF hb3 h10 f20; have f21 := keepF hb3 h11 f21; have h10 := keep hb3 h10; have h11 := keep hb3 h11))
    all_goals
      have hB7 := chain hB1 hB3
      have hz2 := hB2.size
      go_wp2
      refine bodyPost_ret (by simp [results, Tryz.results11, go_sem, h10, h11]) rfl ⟨⟨_, rfl, ((hr3.setBelow (by simp; omega) _).setBelow (by simp; omega) _).mono (by omega)⟩, ?_⟩
      (repeat (first | exact Below.refl _ _ | assumption | refine Below.alloc ?_ (by simp <;> omega) _ | refine Below.setCell ?_ (by simp <;> omega) _ | refine Below.drew ?_ | refine below_drewN ?_))
set_option maxHeartbeats 2000000 in
theorem l6PartsOr_any (s u : Int) (ao bo : Option Addr) (n c m d : Nat) (xs ys : List Int) (w : World) (hx : IntsAt w ao n xs) (hy : IntsAt w bo m ys) (hn : n ≤ 16) (hmn : m ≤ n)
    (hxb : ∀ k, k < n → 0 ≤ nth xs k ∧ nth xs k ≤ 1000000) (hyb : ∀ k, k < m → 0 ≤ nth ys k ∧ nth ys k ≤ 1000000) (hpw : n = 2 ∨ n = 4 ∨ n = 8 ∨ n = 16) :
    Calls Tryz.prog 40 #[.agg #[.int .i64 s, .slice ao n c], .agg #[.int .i64 u, .slice bo m d], .string ⟨#[111, 114]⟩] w fun e w' => (∃ v, e = .returned v ∧ Row w' w.heap.size v (togTo (fun a b => a ||| b) xs ys n m n)) ∧ Below w.heap.size w w' := by
  have hcap := hx.cap
  have hcapy := hy.cap
  have hm : m ≤ 16 := by omega
  have HPW := hid hpw
  clear hpw
  have HXB := hid hxb
  have HYB := hid hyb
  have HBD := hid (togTo_bd (fun a b => a ||| b) xs ys n n m hm hxb hyb)
  clear hxb hyb
  go_enter Tryz.func40, Tryz.ntmps40
  go_wp2_with (at_make; refine wpList_make_ints rfl _ _ rfl n _ _ rfl rfl rfl rfl (by omega) ?_; intro w2 hrow hb2 hz2; (have hp1 := keep hb2 (a := ⟨w.heap.size, 1, none⟩) (v := .slice ao n c) (by simp)); (have hq1 := keep hb2 (a := ⟨w.heap.size + 1, 1, none⟩) (v := .slice bo m d) (by simp)))
  have hB2 : Below w.heap.size w w2 := ((below_alloc w _).alloc (by simp) _).trans (hb2.mono (by simp <;> omega))
  have hrow' : Row w2 (w.heap.size + 1 + 1) (.slice (some ⟨w.heap.size + 1 + 1, 0, none⟩) n n) (List.replicate n 0) := by simpa using hrow
  have hz2' : w.heap.size + 1 + 1 < w2.heap.size := by simpa using hz2
  clear hrow hb2 hz2
  go_loopw [8] (fun i wr => ∃ k : Nat, k ≤ n ∧ i = .int .i64 k ∧ Row wr (w.heap.size + 1 + 1) (.slice (some ⟨w.heap.size + 1 + 1, 0, none⟩) n n) (togTo (fun a b => a ||| b) xs ys n m k) ∧ Below (w.heap.size + 1 + 1) w2 wr ∧ w.heap.size + 1 + 1 < wr.heap.size) (fun i _ => n - (intOf i).toNat)
  case atStart => exact ⟨0, by omega, rfl, hrow', Below.refl _ _, hz2'⟩
  case round =>
    obtain ⟨k, hk, rfl, hr, hBr, hzr⟩ := hrel
    have hB : Below w.heap.size w wr := hB2.trans (hBr.mono (by omega))
    have hp1' := keepB hBr (by omega) hp1
    have hq1' := keepB hBr (by omega) hq1
    by_cases hlt : k < n
    · have hpx := HXB.out k hlt
      have HBK := hid (HBD.out k hk)
      have HN : Hid (togTo (fun a b => a ||| b) xs ys n m (k + 1) = togIn (fun a b => a ||| b) xs ys k (togTo (fun a b => a ||| b) xs ys n m k) m) := rfl
      obtain ⟨l0, HL0⟩ : ∃ l0, Hid (togTo (fun a b => a ||| b) xs ys n m k = l0) := ⟨_, rfl⟩
      rw [HL0.out] at hr
      have hl0 : Hid (l0.length = n) := by rw [← HL0.out]; exact togTo_len _ _ _ _ _ _
      have HIB : Hid (∀ j, j ≤ m → ∀ p, 0 ≤ nth (togIn (fun a b => a ||| b) xs ys k l0 j) p ∧ nth (togIn (fun a b => a ||| b) xs ys k l0 j) p ≤ 16000000000000 * (k : Int) + 1000000000000 * (j : Int)) := fun j hj p => togIn_bd (fun a b => a ||| b) xs ys k l0 _ m hpx HYB.out (by rw [← HL0.out]; exact HBK.out) j hj p
      go_wp2
      obtain ⟨wo, rfl⟩ : ∃ wo : World, wo = wr := ⟨_, rfl⟩
      go_loopw [9] (fun i w1 => ∃ j : Nat, j ≤ m ∧ i = .int .i64 j ∧ Row w1 (w.heap.size + 1 + 1) (.slice (some ⟨w.heap.size + 1 + 1, 0, none⟩) n n) (togIn (fun a b => a ||| b) xs ys k l0 j) ∧ Below (w.heap.size + 1 + 1) w2 w1 ∧ w.heap.size + 1 + 1 < w1.heap.size) (fun i _ => m - (intOf i).toNat)
      case atStart => exact ⟨0, by omega, rfl, hr, hBr, hzr⟩
      case round =>
        obtain ⟨j, hj, rfl, hr1, hBr1, hzr1⟩ := hrel
        have hB1 : Below w.heap.size w wr := hB2.trans (hBr1.mono (by omega))
        have hp2 := keepB hBr1 (by omega) hp1
        have hq2 := keepB hBr1 (by omega) hq1
        by_cases hjt : j < m
        · obtain ⟨b, off, rfl, hbs, hbs', hck⟩ := hx.at hB1 hlt
          obtain ⟨b2, off2, rfl, hbs2, hbs2', hck2⟩ := hy.at hB1 hjt
          have hpy := HYB.out j hjt
          have hop := or_at k j (by omega) (by omega)
          have hop0 := and_nat k j (by omega) (by omega)
          obtain ⟨t0, HT0⟩ : ∃ t : Nat, Hid ((k &&& j : Nat) = t) := ⟨_, rfl⟩
          rw [HT0.out] at hop0
          have hTk : (fun a b => a ||| b) k j < n := or_lt HPW.out hlt (by omega)
          obtain ⟨t, HTt⟩ : ∃ t : Nat, Hid ((fun a b => a ||| b) k j = t) := ⟨_, rfl⟩
          rw [show (k ||| j : Nat) = t from HTt.out] at hop
          rw [HTt.out] at hTk
          have hmul := part_mul _ _ hpx.1 hpx.2 hpy.1 hpy.2
          have hbd := HIB.out j hj t
          have hk16 : (k : Int) ≤ 16 := by omega
          have hj16 : (j : Int) ≤ 16 := by omega
          have HN2 : Hid (togIn (fun a b => a ||| b) xs ys k l0 (j + 1) = (togIn (fun a b => a ||| b) xs ys k l0 j).set t (nth (togIn (fun a b => a ||| b) xs ys k l0 j) t + nth xs k * nth ys j)) := by rw [← HTt.out]; rfl
          obtain ⟨hc3, hf3, _⟩ := hr1.cellAt hTk
          have hT0 : (0 : Int) ≤ (t : Int) := by omega
          have hT1 : ((t : Nat) : Int) < (n : Int) := by omega
          have hk0' : (0 : Int) ≤ (k : Int) := by omega
          have hk1' : (k : Int) < (n : Int) := by omega
          have hj0' : (0 : Int) ≤ (j : Int) := by omega
          have hj1' : (j : Int) < (m : Int) := by omega
          go_wp2
          refine wp_region_ov_tail 19 (by kernel_rfl) (by kernel_rfl) (fun _ _ _ _ _ h => h) ?_
          simp only [List.take_succ_cons, List.take_zero, List.drop_succ_cons, List.drop_zero]
          repeat (first | go_big_quiet_step ((fail)) | quiet_step ((fail)))
          refine wpQuiet_nil ?_
          intro _ hw_ov
          obtain ⟨x_ov, hw_ov2⟩ := hw_ov
          subst hw_ov2
          obtain ⟨w3, hw_ov3, hb3⟩ := ov_gen _ x_ov
          rw [hw_ov3]
          clear hw_ov3 x_ov
          have hr3 := hr1.below hb3
          replace hf3 := keepF hb3 hc3 hf3
          replace hc3 := keep hb3 hc3
          obtain ⟨w4, hw4, hr4, hg4⟩ := store_gen hr3 hTk (nth (togIn (fun a b => a ||| b) xs ys k l0 j) t + nth xs k * nth ys j)
          have hz3 := hb3.size
          have hB4 := hid (belowG (hBr1.trans (hb3.mono (by omega))) (by omega) hg4 (Nat.le_refl _))
          have hz4 : w.heap.size + 1 + 1 < w4.heap.size := by have := hg4.size; omega
          have HW := hid hw4
          clear hw4 hg4 hr3 hb3
          go_wp2
          rw [HW.out]
          go_roundw
          case rel => first | exact ⟨j + 1, by omega, by go_num, by rw [HN2.out]; exact hr4, hB4.out, hz4⟩ | exact ⟨_, ⟨j + 1, by omega, by go_num, by rw [HN2.out]; exact hr4, hB4.out, hz4⟩, rfl⟩ | exact ⟨_, _, ⟨j + 1, by omega, by go_num, by rw [HN2.out]; exact hr4, hB4.out, hz4⟩, rfl, rfl⟩ | exact ⟨_, _, _, ⟨j + 1, by omega, by go_num, by rw [HN2.out]; exact hr4, hB4.out, hz4⟩, rfl, rfl, rfl⟩ | exact ⟨_, _, _, _, ⟨j + 1, by omega, by go_num, by rw [HN2.out]; exact hr4, hB4.out, hz4⟩, rfl, rfl, rfl, rfl⟩ | exact ⟨_, _, _, _, _, ⟨j + 1, by omega, by go_num, by rw [HN2.out]; exact hr4, hB4.out, hz4⟩, rfl, rfl, rfl, rfl, rfl⟩
          case measure => simp [intOf]; omega
        · have hjm : j = m := by omega
          subst hjm
          go_wp2
          go_roundw
          case rel => first | exact ⟨k + 1, by omega, by go_num, by rw [HN.out, HL0.out]; exact hr1, hBr1, hzr1⟩ | exact ⟨_, ⟨k + 1, by omega, by go_num, by rw [HN.out, HL0.out]; exact hr1, hBr1, hzr1⟩, rfl⟩ | exact ⟨_, _, ⟨k + 1, by omega, by go_num, by rw [HN.out, HL0.out]; exact hr1, hBr1, hzr1⟩, rfl, rfl⟩ | exact ⟨_, _, _, ⟨k + 1, by omega, by go_num, by rw [HN.out, HL0.out]; exact hr1, hBr1, hzr1⟩, rfl, rfl, rfl⟩ | exact ⟨_, _, _, _, ⟨k + 1, by omega, by go_num, by rw [HN.out, HL0.out]; exact hr1, hBr1, hzr1⟩, rfl, rfl, rfl, rfl⟩ | exact ⟨_, _, _, _, _, ⟨k + 1, by omega, by go_num, by rw [HN.out, HL0.out]; exact hr1, hBr1, hzr1⟩, rfl, rfl, rfl, rfl, rfl⟩
          case measure => simp [intOf]; omega
    · have hkn : k = n := by omega
      have HK := hid hkn
      clear hkn
      go_wp2
      go_ret
      exact ⟨⟨_, rfl, by rw [← HK.out]; rw [← HK.out] at hr; exact hr.mono (by omega)⟩, hB⟩
theorem diffClos_any (a b : Nat) (w : World) (ha : a < 16) (hb : b < 16) :
    Calls Tryz.prog 46 #[.int .i64 a, .int .i64 b] w fun e w' => e = .returned (.int .i64 ((fun a b => a ^^^ b) a b : Nat)) ∧ w = w' := by
  have h := xor_at a b ha hb
  go_enter Tryz.func46, Tryz.ntmps46
  go_wp2
  go_ret
  exact ⟨ret_int (by simp [h]), rfl⟩
theorem diffClos_call (vs : Array Value) (w' : World) : Sem.run Tryz.prog (callFunc 46 vs) w' = .ok (.enter 46 vs) w' := by
  have h1 : (Tryz.f46.name == "runtime.NumGoroutine") = false := by kernel_rfl
  have h2 : Tryz.f46.body.isNone = false := by kernel_rfl
  have h1' : ¬ Tryz.f46.name = "runtime.NumGoroutine" := by simpa using h1
  have h2' : ¬ Tryz.f46.body = none := by intro e; rw [e] at h2; simp at h2
  simp only [callFunc, Sem.run_bind, run_program, Result.andThen_ok, Tryz.func46, beq_iff_eq, Option.isNone_iff_eq_none, if_neg h1', if_neg h2', Sem.run_pure]
theorem diffTog_any (s u : Int) (ao bo : Option Addr) (n c m d : Nat) (xs ys : List Int) (w : World) (hx : IntsAt w ao n xs) (hy : IntsAt w bo m ys) (hn : n ≤ 16) (hm : m ≤ n)
    (hxb : ∀ k, k < n → 0 ≤ nth xs k ∧ nth xs k ≤ 1000000) (hyb : ∀ k, k < m → 0 ≤ nth ys k ∧ nth ys k ≤ 1000000) (hp : n = 2 ∨ n = 4 ∨ n = 8 ∨ n = 16) :
    Calls Tryz.prog 44 #[.agg #[.int .i64 s, .slice ao n c], .agg #[.int .i64 u, .slice bo m d], .func (.func 46) #[] #[]] w fun e w' => (∃ v, e = .returned v ∧ Row w' w.heap.size v (togTo (fun a b => a ^^^ b) xs ys n m n)) ∧ Below w.heap.size w w' :=
  together_any s u _ _ _ _ _ _ xs ys 46 (fun a b => a ^^^ b) w hx hy hn (by omega) diffClos_call hxb hyb (fun a b ha hb => xor_lt hp ha (by omega)) (fun a b w' ha hb => diffClos_any a b w' (by omega) (by omega))
set_option maxHeartbeats 2000000 in
theorem DifferMasses_any (s u : Int) (ao bo : Option Addr) (n c m d : Nat) (xs ys : List Int) (w : World) (hx : IntsAt w ao n xs) (hy : IntsAt w bo m ys) :
    Calls Tryz.prog 12 #[.agg #[.int .i64 s, .slice ao n c], .agg #[.int .i64 u, .slice bo m d]] w fun e w' => RetM (togM (fun a b => a ^^^ b) s xs u ys) w.heap.size e w' ∧ Below w.heap.size w w' := by
  have hB0 : Below w.heap.size w (((w.alloc (.cells #[.int .i64 s, .slice ao n c] 25)).alloc (.cells #[.int .i64 u, .slice bo m d] 25)).alloc (.cells #[.int .i64 0, .slice none 0 0] 25)) := ((below_alloc w _).alloc (by simp) _).alloc (by simp <;> omega) _
  cases hq : oneQ s xs u ys
  · have HR := hid (togM_bad (T := fun a b => a ^^^ b) hq)
    rw [HR.out]
    go_enter Tryz.func12, Tryz.ntmps12
    go_wp2_with fail
    refine (ofOneQuestion_any _ _ _ _ _ _ _ _ _ _ _ (hx.below hB0) (hy.below hB0)).mono ?_; rw [hq]; rintro e w1 ⟨rfl, hb1⟩
    obtain ⟨h10, h11, f20, f21⟩ := boxG (w.heap.size + 1 + 1) hb1 (by simp)
    have hB1 : Below w.heap.size w w1 := Below.trans (by (repeat (first | exact Below.refl _ _ | assumption | refine Below.alloc ?_ (by simp <;> omega) _ | refine Below.setCell ?_ (by simp <;> omega) _ | refine Below.drew ?_ | refine below_drewN ?_))) (hb1.mono (by simp <;> omega))
    clear hb1
    go_wp2
    refine bodyPost_ret (v := .tuple #[.agg #[.int .i64 0, .slice none 0 0], .bool false]) (by simp [results, Tryz.results12, go_sem, h10, h11]) rfl ⟨?_, ?_⟩
    · exact RetM.no _ _
    · (repeat (first | exact Below.refl _ _ | assumption | refine Below.alloc ?_ (by simp <;> omega) _ | refine Below.setCell ?_ (by simp <;> omega) _ | refine Below.drew ?_ | refine below_drewN ?_))
  · obtain ⟨hm1, hm2, hus, hll⟩ := oneQ_facts hq
    have HUS := hid hus; clear hus
    have hxl := hid hx.len
    have hyl := hid hy.len
    have hmn : m = n := by rw [← hxl.out, ← hyl.out]; exact hll
    subst hmn
    have hpw : m = 2 ∨ m = 4 ∨ m = 8 ∨ m = 16 := by have := pow_of_mass hm1; rw [hxl.out] at this; exact this
    have HPW := hid hpw
    clear hpw
    obtain ⟨_, _, h16, hxb, _, _, _⟩ := massOk_facts' hm1
    obtain ⟨_, _, _, hyb, _, _, _⟩ := massOk_facts' hm2
    have hsz := nsets_le (massOk_facts' hm1).1
    have hn1 : 1 ≤ m := by have := (massOk_facts' hm1).2.1; have := hxl.out; omega
    have hn16 : m ≤ 16 := by have := hxl.out; omega
    have HXB : Hid (∀ k, k < m → 0 ≤ nth xs k ∧ nth xs k ≤ 1000000) := fun k hk => hxb k (by rw [hxl.out]; exact hk)
    have HYB : Hid (∀ k, k < m → 0 ≤ nth ys k ∧ nth ys k ≤ 1000000) := fun k hk => hyb k (by rw [hyl.out]; exact hk)
    have HB2 : Hid (∀ k, k < m → 0 ≤ nth (togTo (fun a b => a ^^^ b) xs ys m m m) k ∧ nth (togTo (fun a b => a ^^^ b) xs ys m m m) k ≤ 4000000000000000000) := fun k _ => by
      have := togTo_bd (fun a b => a ^^^ b) xs ys m m m hn16 HXB.out HYB.out m (Nat.le_refl _) k; omega
    have HR : Hid (togM (fun a b => a ^^^ b) s xs u ys = mkMass s (togTo (fun a b => a ^^^ b) xs ys m m m)) := by rw [Hid]; unfold togM; rw [hq, hxl.out, hyl.out]; rfl
    rw [HR.out]
    clear hll hxb hyb h16
    go_enter Tryz.func12, Tryz.ntmps12
    go_wp2_with fail
    refine (ofOneQuestion_any _ _ _ _ _ _ _ _ _ _ _ (hx.below hB0) (hy.below hB0)).mono ?_; rw [hq]; rintro e w1 ⟨rfl, hb1⟩
    obtain ⟨h10, h11, f20, f21⟩ := boxG (w.heap.size + 1 + 1) hb1 (by simp)
    have hp0 := keep hb1 (a := ⟨w.heap.size, 0, none⟩) (v := .int .i64 s) (by simp)
    have hp1 := keep hb1 (a := ⟨w.heap.size, 1, none⟩) (v := .slice ao m c) (by simp)
    have hq0 := keep hb1 (a := ⟨w.heap.size + 1, 0, none⟩) (v := .int .i64 u) (by simp)
    have hq1 := keep hb1 (a := ⟨w.heap.size + 1, 1, none⟩) (v := .slice bo m d) (by simp)
    have hB1 : Below w.heap.size w w1 := Below.trans (by (repeat (first | exact Below.refl _ _ | assumption | refine Below.alloc ?_ (by simp <;> omega) _ | refine Below.setCell ?_ (by simp <;> omega) _ | refine Below.drew ?_ | refine below_drewN ?_))) (hb1.mono (by simp <;> omega))
    have hz1 : w.heap.size + 1 + 1 < w1.heap.size := by have := World.block_lt_of_cell? w1 _ h10; simpa using this
    clear hb1
    have hne1 : ¬ w.heap.size + 1 + 1 = w.heap.size := by omega
    have hne2 : ¬ w.heap.size = w.heap.size + 1 + 1 := by omega
    go_wp2
    go_region_held3 (fun w' => w'.cell? ⟨w.heap.size, 0, none⟩ = some (.int .i64 s) ∧ w'.cell? ⟨w.heap.size, 1, none⟩ = some (.slice ao m c) ∧ w'.cell? ⟨w.heap.size + 1, 0, none⟩ = some (.int .i64 u) ∧ w'.cell? ⟨w.heap.size + 1, 1, none⟩ = some (.slice bo m d)) (first | (refine ⟨by assumption, by assumption, by assumption, by assumption⟩; done) | (refine ⟨by simp [*], by simp [*], by simp [*], by simp [*]⟩; done) | go_keep) (first | (go_at_call 44; refine (diffTog_any s u _ _ _ _ _ _ xs ys _ ((hx.below hB1).below (drew_below _)) ((hy.below hB1).below (drew_below _)) hn16 (Nat.le_refl _) HXB.out HYB.out HPW.out).mono ?_; rintro e w2 ⟨⟨v, rfl, hr2⟩, hb2⟩; obtain ⟨av, nv, cv, rfl, hv⟩ := hr2.ints; have hnv : nv = m := (by rw [← hv.len]; exact togTo_len _ _ _ _ _ _); subst hnv; have hB2 := chain (drew_below w1) hb2; have k0 := keep hB2 hp0; have k1 := keep hB2 hp1; have k2 := keep hB2 hq0; have k3 := keep hB2 hq1; have f20 := keepF hB2 h10 f20; have f21 := keepF hB2 h11 f21; have h10 := keep hB2 h10; have h11 := keep hB2 h11) | (go_at_call 43; refine (makeMass_any s _ _ _ _ _ hv hn16 HB2.out).mono ?_; rintro e w3 ⟨⟨v, rfl, hr3⟩, hb3⟩; obtain ⟨ao7, n7, c7, rfl, hi7⟩ := hr3.ints; have hB3 := chain hB2 hb3; have k0 := keep hB3 hp0; have k1 := keep hB3 hp1; have k2 := keep hB3 hq0; have k3 := keep hB3 hq1; have f20 := keepF hb3 h10 f20; have f21 := keepF hb3 h11 f21; have h10 := keep hb3 h10; have h11 := keep hb3 h11))
    all_goals
      have hB7 := chain hB1 hB3
      have hz2 := hB2.size
      go_wp2
      refine bodyPost_ret (by simp [results, Tryz.results12, go_sem, h10, h11]) rfl ⟨⟨_, rfl, ((hr3.setBelow (by simp; omega) _).setBelow (by simp; omega) _).mono (by omega)⟩, ?_⟩
      (repeat (first | exact Below.refl _ _ | assumption | refine Below.alloc ?_ (by simp <;> omega) _ | refine Below.setCell ?_ (by simp <;> omega) _ | refine Below.drew ?_ | refine below_drewN ?_))
set_option maxHeartbeats 2000000 in
theorem l6PartsXor_any (s u : Int) (ao bo : Option Addr) (n c m d : Nat) (xs ys : List Int) (w : World) (hx : IntsAt w ao n xs) (hy : IntsAt w bo m ys) (hn : n ≤ 16) (hmn : m ≤ n)
    (hxb : ∀ k, k < n → 0 ≤ nth xs k ∧ nth xs k ≤ 1000000) (hyb : ∀ k, k < m → 0 ≤ nth ys k ∧ nth ys k ≤ 1000000) (hpw : n = 2 ∨ n = 4 ∨ n = 8 ∨ n = 16) :
    Calls Tryz.prog 40 #[.agg #[.int .i64 s, .slice ao n c], .agg #[.int .i64 u, .slice bo m d], .string ⟨#[120, 111, 114]⟩] w fun e w' => (∃ v, e = .returned v ∧ Row w' w.heap.size v (togTo (fun a b => a ^^^ b) xs ys n m n)) ∧ Below w.heap.size w w' := by
  have hcap := hx.cap
  have hcapy := hy.cap
  have hm : m ≤ 16 := by omega
  have HPW := hid hpw
  clear hpw
  have HXB := hid hxb
  have HYB := hid hyb
  have HBD := hid (togTo_bd (fun a b => a ^^^ b) xs ys n n m hm hxb hyb)
  clear hxb hyb
  go_enter Tryz.func40, Tryz.ntmps40
  go_wp2_with (at_make; refine wpList_make_ints rfl _ _ rfl n _ _ rfl rfl rfl rfl (by omega) ?_; intro w2 hrow hb2 hz2; (have hp1 := keep hb2 (a := ⟨w.heap.size, 1, none⟩) (v := .slice ao n c) (by simp)); (have hq1 := keep hb2 (a := ⟨w.heap.size + 1, 1, none⟩) (v := .slice bo m d) (by simp)))
  have hB2 : Below w.heap.size w w2 := ((below_alloc w _).alloc (by simp) _).trans (hb2.mono (by simp <;> omega))
  have hrow' : Row w2 (w.heap.size + 1 + 1) (.slice (some ⟨w.heap.size + 1 + 1, 0, none⟩) n n) (List.replicate n 0) := by simpa using hrow
  have hz2' : w.heap.size + 1 + 1 < w2.heap.size := by simpa using hz2
  clear hrow hb2 hz2
  go_loopw [8] (fun i wr => ∃ k : Nat, k ≤ n ∧ i = .int .i64 k ∧ Row wr (w.heap.size + 1 + 1) (.slice (some ⟨w.heap.size + 1 + 1, 0, none⟩) n n) (togTo (fun a b => a ^^^ b) xs ys n m k) ∧ Below (w.heap.size + 1 + 1) w2 wr ∧ w.heap.size + 1 + 1 < wr.heap.size) (fun i _ => n - (intOf i).toNat)
  case atStart => exact ⟨0, by omega, rfl, hrow', Below.refl _ _, hz2'⟩
  case round =>
    obtain ⟨k, hk, rfl, hr, hBr, hzr⟩ := hrel
    have hB : Below w.heap.size w wr := hB2.trans (hBr.mono (by omega))
    have hp1' := keepB hBr (by omega) hp1
    have hq1' := keepB hBr (by omega) hq1
    by_cases hlt : k < n
    · have hpx := HXB.out k hlt
      have HBK := hid (HBD.out k hk)
      have HN : Hid (togTo (fun a b => a ^^^ b) xs ys n m (k + 1) = togIn (fun a b => a ^^^ b) xs ys k (togTo (fun a b => a ^^^ b) xs ys n m k) m) := rfl
      obtain ⟨l0, HL0⟩ : ∃ l0, Hid (togTo (fun a b => a ^^^ b) xs ys n m k = l0) := ⟨_, rfl⟩
      rw [HL0.out] at hr
      have hl0 : Hid (l0.length = n) := by rw [← HL0.out]; exact togTo_len _ _ _ _ _ _
      have HIB : Hid (∀ j, j ≤ m → ∀ p, 0 ≤ nth (togIn (fun a b => a ^^^ b) xs ys k l0 j) p ∧ nth (togIn (fun a b => a ^^^ b) xs ys k l0 j) p ≤ 16000000000000 * (k : Int) + 1000000000000 * (j : Int)) := fun j hj p => togIn_bd (fun a b => a ^^^ b) xs ys k l0 _ m hpx HYB.out (by rw [← HL0.out]; exact HBK.out) j hj p
      go_wp2
      obtain ⟨wo, rfl⟩ : ∃ wo : World, wo = wr := ⟨_, rfl⟩
      go_loopw [9] (fun i w1 => ∃ j : Nat, j ≤ m ∧ i = .int .i64 j ∧ Row w1 (w.heap.size + 1 + 1) (.slice (some ⟨w.heap.size + 1 + 1, 0, none⟩) n n) (togIn (fun a b => a ^^^ b) xs ys k l0 j) ∧ Below (w.heap.size + 1 + 1) w2 w1 ∧ w.heap.size + 1 + 1 < w1.heap.size) (fun i _ => m - (intOf i).toNat)
      case atStart => exact ⟨0, by omega, rfl, hr, hBr, hzr⟩
      case round =>
        obtain ⟨j, hj, rfl, hr1, hBr1, hzr1⟩ := hrel
        have hB1 : Below w.heap.size w wr := hB2.trans (hBr1.mono (by omega))
        have hp2 := keepB hBr1 (by omega) hp1
        have hq2 := keepB hBr1 (by omega) hq1
        by_cases hjt : j < m
        · obtain ⟨b, off, rfl, hbs, hbs', hck⟩ := hx.at hB1 hlt
          obtain ⟨b2, off2, rfl, hbs2, hbs2', hck2⟩ := hy.at hB1 hjt
          have hpy := HYB.out j hjt
          have hop := xor_at k j (by omega) (by omega)
          have hop0 := and_nat k j (by omega) (by omega)
          obtain ⟨t0, HT0⟩ : ∃ t : Nat, Hid ((k &&& j : Nat) = t) := ⟨_, rfl⟩
          rw [HT0.out] at hop0
          have hTk : (fun a b => a ^^^ b) k j < n := xor_lt HPW.out hlt (by omega)
          obtain ⟨t, HTt⟩ : ∃ t : Nat, Hid ((fun a b => a ^^^ b) k j = t) := ⟨_, rfl⟩
          rw [show (k ^^^ j : Nat) = t from HTt.out] at hop
          rw [HTt.out] at hTk
          have hmul := part_mul _ _ hpx.1 hpx.2 hpy.1 hpy.2
          have hbd := HIB.out j hj t
          have hk16 : (k : Int) ≤ 16 := by omega
          have hj16 : (j : Int) ≤ 16 := by omega
          have HN2 : Hid (togIn (fun a b => a ^^^ b) xs ys k l0 (j + 1) = (togIn (fun a b => a ^^^ b) xs ys k l0 j).set t (nth (togIn (fun a b => a ^^^ b) xs ys k l0 j) t + nth xs k * nth ys j)) := by rw [← HTt.out]; rfl
          obtain ⟨hc3, hf3, _⟩ := hr1.cellAt hTk
          have hT0 : (0 : Int) ≤ (t : Int) := by omega
          have hT1 : ((t : Nat) : Int) < (n : Int) := by omega
          have hk0' : (0 : Int) ≤ (k : Int) := by omega
          have hk1' : (k : Int) < (n : Int) := by omega
          have hj0' : (0 : Int) ≤ (j : Int) := by omega
          have hj1' : (j : Int) < (m : Int) := by omega
          go_wp2
          refine wp_region_ov_tail 19 (by kernel_rfl) (by kernel_rfl) (fun _ _ _ _ _ h => h) ?_
          simp only [List.take_succ_cons, List.take_zero, List.drop_succ_cons, List.drop_zero]
          repeat (first | go_big_quiet_step ((fail)) | quiet_step ((fail)))
          refine wpQuiet_nil ?_
          intro _ hw_ov
          obtain ⟨x_ov, hw_ov2⟩ := hw_ov
          subst hw_ov2
          obtain ⟨w3, hw_ov3, hb3⟩ := ov_gen _ x_ov
          rw [hw_ov3]
          clear hw_ov3 x_ov
          have hr3 := hr1.below hb3
          replace hf3 := keepF hb3 hc3 hf3
          replace hc3 := keep hb3 hc3
          obtain ⟨w4, hw4, hr4, hg4⟩ := store_gen hr3 hTk (nth (togIn (fun a b => a ^^^ b) xs ys k l0 j) t + nth xs k * nth ys j)
          have hz3 := hb3.size
          have hB4 := hid (belowG (hBr1.trans (hb3.mono (by omega))) (by omega) hg4 (Nat.le_refl _))
          have hz4 : w.heap.size + 1 + 1 < w4.heap.size := by have := hg4.size; omega
          have HW := hid hw4
          clear hw4 hg4 hr3 hb3
          go_wp2
          rw [HW.out]
          go_roundw
          case rel => first | exact ⟨j + 1, by omega, by go_num, by rw [HN2.out]; exact hr4, hB4.out, hz4⟩ | exact ⟨_, ⟨j + 1, by omega, by go_num, by rw [HN2.out]; exact hr4, hB4.out, hz4⟩, rfl⟩ | exact ⟨_, _, ⟨j + 1, by omega, by go_num, by rw [HN2.out]; exact hr4, hB4.out, hz4⟩, rfl, rfl⟩ | exact ⟨_, _, _, ⟨j + 1, by omega, by go_num, by rw [HN2.out]; exact hr4, hB4.out, hz4⟩, rfl, rfl, rfl⟩ | exact ⟨_, _, _, _, ⟨j + 1, by omega, by go_num, by rw [HN2.out]; exact hr4, hB4.out, hz4⟩, rfl, rfl, rfl, rfl⟩ | exact ⟨_, _, _, _, _, ⟨j + 1, by omega, by go_num, by rw [HN2.out]; exact hr4, hB4.out, hz4⟩, rfl, rfl, rfl, rfl, rfl⟩
          case measure => simp [intOf]; omega
        · have hjm : j = m := by omega
          subst hjm
          go_wp2
          go_roundw
          case rel => first | exact ⟨k + 1, by omega, by go_num, by rw [HN.out, HL0.out]; exact hr1, hBr1, hzr1⟩ | exact ⟨_, ⟨k + 1, by omega, by go_num, by rw [HN.out, HL0.out]; exact hr1, hBr1, hzr1⟩, rfl⟩ | exact ⟨_, _, ⟨k + 1, by omega, by go_num, by rw [HN.out, HL0.out]; exact hr1, hBr1, hzr1⟩, rfl, rfl⟩ | exact ⟨_, _, _, ⟨k + 1, by omega, by go_num, by rw [HN.out, HL0.out]; exact hr1, hBr1, hzr1⟩, rfl, rfl, rfl⟩ | exact ⟨_, _, _, _, ⟨k + 1, by omega, by go_num, by rw [HN.out, HL0.out]; exact hr1, hBr1, hzr1⟩, rfl, rfl, rfl, rfl⟩ | exact ⟨_, _, _, _, _, ⟨k + 1, by omega, by go_num, by rw [HN.out, HL0.out]; exact hr1, hBr1, hzr1⟩, rfl, rfl, rfl, rfl, rfl⟩
          case measure => simp [intOf]; omega
    · have hkn : k = n := by omega
      have HK := hid hkn
      clear hkn
      go_wp2
      go_ret
      exact ⟨⟨_, rfl, by rw [← HK.out]; rw [← HK.out] at hr; exact hr.mono (by omega)⟩, hB⟩
/-- what two masses tell together without contradictions -/
def joinM (s : Int) (xs : List Int) (u : Int) (ys : List Int) : MR := if oneQ s xs u ys then mkMass s ((togTo (fun a b => a &&& b) xs ys xs.length ys.length xs.length).set 0 0) else MR.no
theorem joinM_bad {s : Int} {xs : List Int} {u : Int} {ys : List Int} (h : oneQ s xs u ys = false) : joinM s xs u ys = MR.no := by simp [joinM, h]
set_option maxHeartbeats 2000000 in
theorem JoinMasses_any (s u : Int) (ao bo : Option Addr) (n c m d : Nat) (xs ys : List Int) (w : World) (hx : IntsAt w ao n xs) (hy : IntsAt w bo m ys) :
    Calls Tryz.prog 6 #[.agg #[.int .i64 s, .slice ao n c], .agg #[.int .i64 u, .slice bo m d]] w fun e w' => RetM (joinM s xs u ys) w.heap.size e w' ∧ Below w.heap.size w w' := by
  have hB0 : Below w.heap.size w (((w.alloc (.cells #[.int .i64 s, .slice ao n c] 25)).alloc (.cells #[.int .i64 u, .slice bo m d] 25)).alloc (.cells #[.int .i64 0, .slice none 0 0] 25)) := ((below_alloc w _).alloc (by simp) _).alloc (by simp <;> omega) _
  cases hq : oneQ s xs u ys
  · have HR := hid (joinM_bad hq)
    rw [HR.out]
    go_enter Tryz.func6, Tryz.ntmps6
    go_wp2_with fail
    refine (ofOneQuestion_any _ _ _ _ _ _ _ _ _ _ _ (hx.below hB0) (hy.below hB0)).mono ?_; rw [hq]; rintro e w1 ⟨rfl, hb1⟩
    obtain ⟨h10, h11, f20, f21⟩ := boxG (w.heap.size + 1 + 1) hb1 (by simp)
    have hB1 : Below w.heap.size w w1 := Below.trans (by (repeat (first | exact Below.refl _ _ | assumption | refine Below.alloc ?_ (by simp <;> omega) _ | refine Below.setCell ?_ (by simp <;> omega) _ | refine Below.drew ?_ | refine below_drewN ?_))) (hb1.mono (by simp <;> omega))
    clear hb1
    go_wp2
    refine bodyPost_ret (v := .tuple #[.agg #[.int .i64 0, .slice none 0 0], .bool false]) (by simp [results, Tryz.results6, go_sem, h10, h11]) rfl ⟨?_, ?_⟩
    · exact RetM.no _ _
    · (repeat (first | exact Below.refl _ _ | assumption | refine Below.alloc ?_ (by simp <;> omega) _ | refine Below.setCell ?_ (by simp <;> omega) _ | refine Below.drew ?_ | refine below_drewN ?_))
  · obtain ⟨hm1, hm2, hus, hll⟩ := oneQ_facts hq
    have HUS := hid hus; clear hus
    have hxl := hid hx.len
    have hyl := hid hy.len
    have hmn : m = n := by rw [← hxl.out, ← hyl.out]; exact hll
    subst hmn
    obtain ⟨_, _, h16, hxb, _, _, _⟩ := massOk_facts' hm1
    obtain ⟨_, _, _, hyb, _, _, _⟩ := massOk_facts' hm2
    have hsz := nsets_le (massOk_facts' hm1).1
    have hn1 : 1 ≤ m := by have := (massOk_facts' hm1).2.1; have := hxl.out; omega
    have hn16 : m ≤ 16 := by have := hxl.out; omega
    have HXB : Hid (∀ k, k < m → 0 ≤ nth xs k ∧ nth xs k ≤ 1000000) := fun k hk => hxb k (by rw [hxl.out]; exact hk)
    have HYB : Hid (∀ k, k < m → 0 ≤ nth ys k ∧ nth ys k ≤ 1000000) := fun k hk => hyb k (by rw [hyl.out]; exact hk)
    have HB2 : Hid (∀ k, k < m → 0 ≤ nth (togTo (fun a b => a &&& b) xs ys m m m) k ∧ nth (togTo (fun a b => a &&& b) xs ys m m m) k ≤ 4000000000000000000) := fun k _ => by
      have := togTo_bd (fun a b => a &&& b) xs ys m m m hn16 HXB.out HYB.out m (Nat.le_refl _) k; omega
    have HR : Hid (joinM s xs u ys = mkMass s ((togTo (fun a b => a &&& b) xs ys m m m).set 0 0)) := by rw [Hid]; unfold joinM; rw [hq, hxl.out, hyl.out]; rfl
    rw [HR.out]
    have HTL : Hid ((togTo (fun a b => a &&& b) xs ys m m m).length = m) := togTo_len _ _ _ _ _ _
    have HTB : Hid (∀ k, k < (togTo (fun a b => a &&& b) xs ys m m m).length → 0 ≤ nth (togTo (fun a b => a &&& b) xs ys m m m) k ∧ nth (togTo (fun a b => a &&& b) xs ys m m m) k ≤ 4000000000000000000) := fun k hk => HB2.out k (by rw [HTL.out] at hk; exact hk)
    clear hll hxb hyb h16
    go_enter Tryz.func6, Tryz.ntmps6
    go_wp2_with fail
    refine (ofOneQuestion_any _ _ _ _ _ _ _ _ _ _ _ (hx.below hB0) (hy.below hB0)).mono ?_; rw [hq]; rintro e w1 ⟨rfl, hb1⟩
    obtain ⟨h10, h11, f20, f21⟩ := boxG (w.heap.size + 1 + 1) hb1 (by simp)
    have hp0 := keep hb1 (a := ⟨w.heap.size, 0, none⟩) (v := .int .i64 s) (by simp)
    have hp1 := keep hb1 (a := ⟨w.heap.size, 1, none⟩) (v := .slice ao m c) (by simp)
    have hq0 := keep hb1 (a := ⟨w.heap.size + 1, 0, none⟩) (v := .int .i64 u) (by simp)
    have hq1 := keep hb1 (a := ⟨w.heap.size + 1, 1, none⟩) (v := .slice bo m d) (by simp)
    have hB1 : Below w.heap.size w w1 := Below.trans (by (repeat (first | exact Below.refl _ _ | assumption | refine Below.alloc ?_ (by simp <;> omega) _ | refine Below.setCell ?_ (by simp <;> omega) _ | refine Below.drew ?_ | refine below_drewN ?_))) (hb1.mono (by simp <;> omega))
    have hz1 : w.heap.size + 1 + 1 < w1.heap.size := by have := World.block_lt_of_cell? w1 _ h10; simpa using this
    clear hb1
    have hne1 : ¬ w.heap.size + 1 + 1 = w.heap.size := by omega
    have hne2 : ¬ w.heap.size = w.heap.size + 1 + 1 := by omega
    go_wp2
    go_region_held3 (fun w' => w'.cell? ⟨w.heap.size, 0, none⟩ = some (.int .i64 s) ∧ w'.cell? ⟨w.heap.size, 1, none⟩ = some (.slice ao m c) ∧ w'.cell? ⟨w.heap.size + 1, 0, none⟩ = some (.int .i64 u) ∧ w'.cell? ⟨w.heap.size + 1, 1, none⟩ = some (.slice bo m d)) (first | (refine ⟨by assumption, by assumption, by assumption, by assumption⟩; done) | (refine ⟨by simp [*], by simp [*], by simp [*], by simp [*]⟩; done) | go_keep) (first | (go_at_call 37; refine (conjoined_any s u _ _ _ _ _ _ xs ys _ ((hx.below hB1).below (drew_below _)) ((hy.below hB1).below (drew_below _)) hn16 (Nat.le_refl _) HXB.out HYB.out).mono ?_; rintro e w2 ⟨⟨v, rfl, hr2⟩, hb2⟩; obtain ⟨av, nv, cv, rfl, hv⟩ := hr2.ints; have hnv : nv = m := (by rw [← hv.len]; exact togTo_len _ _ _ _ _ _); subst hnv; have hB2 := chain (drew_below w1) hb2; have k0 := keep hB2 hp0; have k1 := keep hB2 hp1; have k2 := keep hB2 hq0; have k3 := keep hB2 hq1; have f20 := keepF hB2 h10 f20; have f21 := keepF hB2 h11 f21; have h10 := keep hB2 h10; have h11 := keep hB2 h11) | (go_at_call 36; refine (withoutNone_any s _ _ _ _ _ (hr2.mono (Nat.zero_le _)) (by rw [HTL.out]; exact hn1) (by rw [HTL.out]; exact hn16) HTB.out).mono ?_; rintro e w3 ⟨⟨v, rfl, hr3⟩, hb3⟩; obtain ⟨ao7, n7, c7, rfl, hi7⟩ := hr3.ints; have hB3 := chain hB2 hb3; have k0 := keep hB3 hp0; have k1 := keep hB3 hp1; have k2 := keep hB3 hq0; have k3 := keep hB3 hq1; have f20 := keepF hb3 h10 f20; have f21 := keepF hb3 h11 f21; have h10 := keep hb3 h10; have h11 := keep hb3 h11))
    all_goals
      have hB7 := chain hB1 hB3
      have hz2 := hB2.size
      go_wp2
      refine bodyPost_ret (by simp [results, Tryz.results6, go_sem, h10, h11]) rfl ⟨⟨_, rfl, ((hr3.setBelow (by simp; omega) _).setBelow (by simp; omega) _).mono (by omega)⟩, ?_⟩
      (repeat (first | exact Below.refl _ _ | assumption | refine Below.alloc ?_ (by simp <;> omega) _ | refine Below.setCell ?_ (by simp <;> omega) _ | refine Below.drew ?_ | refine below_drewN ?_))
set_option maxHeartbeats 2000000 in
theorem specJoinMasses_any (s u : Int) (ao bo : Option Addr) (n c m d : Nat) (xs ys : List Int) (w : World) (hx : IntsAt w ao n xs) (hy : IntsAt w bo m ys) :
    Calls Tryz.prog 7 #[.agg #[.int .i64 s, .slice ao n c], .agg #[.int .i64 u, .slice bo m d]] w fun e w' => RetM (joinM s xs u ys) w.heap.size e w' ∧ Below w.heap.size w w' := by
  have hB0 : Below w.heap.size w (((w.alloc (.cells #[.int .i64 s, .slice ao n c] 25)).alloc (.cells #[.int .i64 u, .slice bo m d] 25)).alloc (.cells #[.int .i64 0, .slice none 0 0] 25)) := ((below_alloc w _).alloc (by simp) _).alloc (by simp <;> omega) _
  cases hq : oneQ s xs u ys
  · have HR := hid (joinM_bad hq)
    rw [HR.out]
    go_enter Tryz.func7, Tryz.ntmps7
    go_wp2_with fail
    refine (l3Both_any _ _ _ _ _ _ _ _ _ _ _ (hx.below hB0) (hy.below hB0)).mono ?_; rw [hq]; rintro e w1 ⟨rfl, hb1⟩
    obtain ⟨h10, h11, f20, f21⟩ := boxG (w.heap.size + 1 + 1) hb1 (by simp)
    have hB1 : Below w.heap.size w w1 := Below.trans (by (repeat (first | exact Below.refl _ _ | assumption | refine Below.alloc ?_ (by simp <;> omega) _ | refine Below.setCell ?_ (by simp <;> omega) _ | refine Below.drew ?_ | refine below_drewN ?_))) (hb1.mono (by simp <;> omega))
    clear hb1
    go_wp2
    refine bodyPost_ret (v := .tuple #[.agg #[.int .i64 0, .slice none 0 0], .bool false]) (by simp [results, Tryz.results7, go_sem, h10, h11]) rfl ⟨?_, ?_⟩
    · exact RetM.no _ _
    · (repeat (first | exact Below.refl _ _ | assumption | refine Below.alloc ?_ (by simp <;> omega) _ | refine Below.setCell ?_ (by simp <;> omega) _ | refine Below.drew ?_ | refine below_drewN ?_))
  · obtain ⟨hm1, hm2, hus, hll⟩ := oneQ_facts hq
    have HUS := hid hus; clear hus
    have hxl := hid hx.len
    have hyl := hid hy.len
    have hmn : m = n := by rw [← hxl.out, ← hyl.out]; exact hll
    subst hmn
    obtain ⟨_, _, h16, hxb, _, _, _⟩ := massOk_facts' hm1
    obtain ⟨_, _, _, hyb, _, _, _⟩ := massOk_facts' hm2
    have hsz := nsets_le (massOk_facts' hm1).1
    have hn1 : 1 ≤ m := by have := (massOk_facts' hm1).2.1; have := hxl.out; omega
    have hn16 : m ≤ 16 := by have := hxl.out; omega
    have HXB : Hid (∀ k, k < m → 0 ≤ nth xs k ∧ nth xs k ≤ 1000000) := fun k hk => hxb k (by rw [hxl.out]; exact hk)
    have HYB : Hid (∀ k, k < m → 0 ≤ nth ys k ∧ nth ys k ≤ 1000000) := fun k hk => hyb k (by rw [hyl.out]; exact hk)
    have HB2 : Hid (∀ k, k < m → 0 ≤ nth (togTo (fun a b => a &&& b) xs ys m m m) k ∧ nth (togTo (fun a b => a &&& b) xs ys m m m) k ≤ 4000000000000000000) := fun k _ => by
      have := togTo_bd (fun a b => a &&& b) xs ys m m m hn16 HXB.out HYB.out m (Nat.le_refl _) k; omega
    have HR : Hid (joinM s xs u ys = mkMass s ((togTo (fun a b => a &&& b) xs ys m m m).set 0 0)) := by rw [Hid]; unfold joinM; rw [hq, hxl.out, hyl.out]; rfl
    rw [HR.out]
    have HTL : Hid ((togTo (fun a b => a &&& b) xs ys m m m).length = m) := togTo_len _ _ _ _ _ _
    have HTB : Hid (∀ k, k < (togTo (fun a b => a &&& b) xs ys m m m).length → 0 ≤ nth (togTo (fun a b => a &&& b) xs ys m m m) k ∧ nth (togTo (fun a b => a &&& b) xs ys m m m) k ≤ 4000000000000000000) := fun k hk => HB2.out k (by rw [HTL.out] at hk; exact hk)
    clear hll hxb hyb h16
    go_enter Tryz.func7, Tryz.ntmps7
    go_wp2_with fail
    refine (l3Both_any _ _ _ _ _ _ _ _ _ _ _ (hx.below hB0) (hy.below hB0)).mono ?_; rw [hq]; rintro e w1 ⟨rfl, hb1⟩
    obtain ⟨h10, h11, f20, f21⟩ := boxG (w.heap.size + 1 + 1) hb1 (by simp)
    have hp0 := keep hb1 (a := ⟨w.heap.size, 0, none⟩) (v := .int .i64 s) (by simp)
    have hp1 := keep hb1 (a := ⟨w.heap.size, 1, none⟩) (v := .slice ao m c) (by simp)
    have hq0 := keep hb1 (a := ⟨w.heap.size + 1, 0, none⟩) (v := .int .i64 u) (by simp)
    have hq1 := keep hb1 (a := ⟨w.heap.size + 1, 1, none⟩) (v := .slice bo m d) (by simp)
    have hB1 : Below w.heap.size w w1 := Below.trans (by (repeat (first | exact Below.refl _ _ | assumption | refine Below.alloc ?_ (by simp <;> omega) _ | refine Below.setCell ?_ (by simp <;> omega) _ | refine Below.drew ?_ | refine below_drewN ?_))) (hb1.mono (by simp <;> omega))
    have hz1 : w.heap.size + 1 + 1 < w1.heap.size := by have := World.block_lt_of_cell? w1 _ h10; simpa using this
    clear hb1
    have hne1 : ¬ w.heap.size + 1 + 1 = w.heap.size := by omega
    have hne2 : ¬ w.heap.size = w.heap.size + 1 + 1 := by omega
    go_wp2
    go_region_held3 (fun w' => w'.cell? ⟨w.heap.size, 0, none⟩ = some (.int .i64 s) ∧ w'.cell? ⟨w.heap.size, 1, none⟩ = some (.slice ao m c) ∧ w'.cell? ⟨w.heap.size + 1, 0, none⟩ = some (.int .i64 u) ∧ w'.cell? ⟨w.heap.size + 1, 1, none⟩ = some (.slice bo m d)) (first | (refine ⟨by assumption, by assumption, by assumption, by assumption⟩; done) | (refine ⟨by simp [*], by simp [*], by simp [*], by simp [*]⟩; done) | go_keep) (first | (go_at_call 40; refine (l6PartsAnd_any s u _ _ _ _ _ _ xs ys _ ((hx.below hB1).below (drew_below _)) ((hy.below hB1).below (drew_below _)) hn16 (Nat.le_refl _) HXB.out HYB.out).mono ?_; rintro e w2 ⟨⟨v, rfl, hr2⟩, hb2⟩; obtain ⟨gt, ct, het, _, _, hit⟩ := hr2.form (by rw [HTL.out]; omega); rw [HTL.out] at het hit; subst het; have hB2 := chain (drew_below w1) hb2; have k0 := keep hB2 hp0; have k1 := keep hB2 hp1; have k2 := keep hB2 hq0; have k3 := keep hB2 hq1; have f20 := keepF hB2 h10 f20; have f21 := keepF hB2 h11 f21; have h10 := keep hB2 h10; have h11 := keep hB2 h11) | (go_at_call 39; refine (l6Normal_any s _ _ _ (togTo (fun a b => a &&& b) xs ys m m m) _ hit hn1 hn16 HB2.out).mono ?_; rintro e w3 ⟨⟨v, rfl, hr3⟩, hb3⟩; obtain ⟨ao7, n7, c7, rfl, hi7⟩ := hr3.ints; have hB3 := chain hB2 hb3; have k0 := keep hB3 hp0; have k1 := keep hB3 hp1; have k2 := keep hB3 hq0; have k3 := keep hB3 hq1; have f20 := keepF hb3 h10 f20; have f21 := keepF hb3 h11 f21; have h10 := keep hb3 h10; have h11 := keep hb3 h11))
    all_goals
      have hB7 := chain hB1 hB3
      have hz2 := hB2.size
      go_wp2
      refine bodyPost_ret (by simp [results, Tryz.results7, go_sem, h10, h11]) rfl ⟨⟨_, rfl, ((hr3.setBelow (by simp; omega) _).setBelow (by simp; omega) _).mono (by omega)⟩, ?_⟩
      (repeat (first | exact Below.refl _ _ | assumption | refine Below.alloc ?_ (by simp <;> omega) _ | refine Below.setCell ?_ (by simp <;> omega) _ | refine Below.drew ?_ | refine below_drewN ?_))
set_option maxRecDepth 100000 in
set_option maxHeartbeats 2000000 in
theorem pl_and (d : DS) : Pl [97, 110, 100] d (tellM (togM (fun a b => a &&& b) d.s d.xs d.t d.ys)) (leftM d (togM (fun a b => a &&& b) d.s d.xs d.t d.ys)) := by
  intro w0 w D hv hD hb hd
  rw [show bs [97, 110, 100] = ByteArray.mk #[97, 110, 100] from rfl]
  obtain ⟨r, hr⟩ : ∃ r, togM (fun a b => a &&& b) d.s d.xs d.t d.ys = r := ⟨_, rfl⟩
  rw [hr]
  have HR := hid hr
  obtain ⟨am, nm, cm, h1, hrm, hnm⟩ := hd.m
  obtain ⟨an, nn, cn, h3, hrn, hnn⟩ := hd.n
  have h0 := hd.c0
  have h2 := hd.c2
  have hlt := hd.lt
  have hz0 := hb.size
  clear hr
  go_enter Tryz.func99, Tryz.ntmps99
  go_wp2_with fail
  have HP : Hid (∀ w', Below w.heap.size w w' → Calls Tryz.prog 10 #[.agg #[.int .i64 d.s, .slice am nm cm], .agg #[.int .i64 d.t, .slice an nn cn]] w' fun e w'' => RetM r w'.heap.size e w'' ∧ Below w'.heap.size w' w'') := fun w' h => by rw [← HR.out]; exact ConjoinMasses_any d.s d.t _ _ _ _ _ _ d.xs d.ys w' (hrm.view.below h) (hrn.view.below h)
  go_region_with (first | (go_at_call 10; refine (HP.out _ (by (repeat (first | exact Below.refl _ _ | assumption | refine Below.alloc ?_ (by first | omega | (simp <;> omega)) _ | refine Below.setCell ?_ (by first | omega | (simp <;> omega)) _ | refine Below.drew ?_ | refine below_drewN ?_)))).mono ?_; rintro e w1 ⟨⟨v, rfl, hr1⟩, hb1⟩; obtain ⟨a, n, c, rfl, hi⟩ := hr1.ints; have hbb : Below w.heap.size w w1 := Below.trans (by (repeat (first | exact Below.refl _ _ | assumption | refine Below.alloc ?_ (by first | omega | (simp <;> omega)) _ | refine Below.setCell ?_ (by first | omega | (simp <;> omega)) _ | refine Below.drew ?_ | refine below_drewN ?_))) (hb1.mono (Nat.le_refl _)); have k0 := keep hbb h0; have k1 := keep hbb h1; have k2 := keep hbb h2; have k3 := keep hbb h3; have hne : (Value.slice a n c).ownBlock ≠ some D := fun e => by have h9 := (hr1.block _ e).1; have h8 : w.heap.size ≤ D := h9; omega) | (go_at_call 146; refine (become_any w0 w1 D d r a n c hv hD (hb.trans (hbb.mono hz0)) (hd.below hbb) (hr1.mono (Nat.zero_le _)) hne).mono ?_; rintro e w2 ⟨rfl, hd2, hs2⟩))
  all_goals
    have hs3 := (Span.of_below (lo := D) (hi := D + 1) hbb).trans hs2
    clear hs2 hb1
    go_wp2
    go_ret
    exact ⟨rfl, hd2, hs3⟩
set_option maxRecDepth 100000 in
set_option maxHeartbeats 2000000 in
theorem pl_or (d : DS) : Pl [111, 114] d (tellM (togM (fun a b => a ||| b) d.s d.xs d.t d.ys)) (leftM d (togM (fun a b => a ||| b) d.s d.xs d.t d.ys)) := by
  intro w0 w D hv hD hb hd
  rw [show bs [111, 114] = ByteArray.mk #[111, 114] from rfl]
  obtain ⟨r, hr⟩ : ∃ r, togM (fun a b => a ||| b) d.s d.xs d.t d.ys = r := ⟨_, rfl⟩
  rw [hr]
  have HR := hid hr
  obtain ⟨am, nm, cm, h1, hrm, hnm⟩ := hd.m
  obtain ⟨an, nn, cn, h3, hrn, hnn⟩ := hd.n
  have h0 := hd.c0
  have h2 := hd.c2
  have hlt := hd.lt
  have hz0 := hb.size
  clear hr
  go_enter Tryz.func99, Tryz.ntmps99
  go_wp2_with fail
  have HP : Hid (∀ w', Below w.heap.size w w' → Calls Tryz.prog 11 #[.agg #[.int .i64 d.s, .slice am nm cm], .agg #[.int .i64 d.t, .slice an nn cn]] w' fun e w'' => RetM r w'.heap.size e w'' ∧ Below w'.heap.size w' w'') := fun w' h => by rw [← HR.out]; exact DisjoinMasses_any d.s d.t _ _ _ _ _ _ d.xs d.ys w' (hrm.view.below h) (hrn.view.below h)
  go_region_with (first | (go_at_call 11; refine (HP.out _ (by (repeat (first | exact Below.refl _ _ | assumption | refine Below.alloc ?_ (by first | omega | (simp <;> omega)) _ | refine Below.setCell ?_ (by first | omega | (simp <;> omega)) _ | refine Below.drew ?_ | refine below_drewN ?_)))).mono ?_; rintro e w1 ⟨⟨v, rfl, hr1⟩, hb1⟩; obtain ⟨a, n, c, rfl, hi⟩ := hr1.ints; have hbb : Below w.heap.size w w1 := Below.trans (by (repeat (first | exact Below.refl _ _ | assumption | refine Below.alloc ?_ (by first | omega | (simp <;> omega)) _ | refine Below.setCell ?_ (by first | omega | (simp <;> omega)) _ | refine Below.drew ?_ | refine below_drewN ?_))) (hb1.mono (Nat.le_refl _)); have k0 := keep hbb h0; have k1 := keep hbb h1; have k2 := keep hbb h2; have k3 := keep hbb h3; have hne : (Value.slice a n c).ownBlock ≠ some D := fun e => by have h9 := (hr1.block _ e).1; have h8 : w.heap.size ≤ D := h9; omega) | (go_at_call 146; refine (become_any w0 w1 D d r a n c hv hD (hb.trans (hbb.mono hz0)) (hd.below hbb) (hr1.mono (Nat.zero_le _)) hne).mono ?_; rintro e w2 ⟨rfl, hd2, hs2⟩))
  all_goals
    have hs3 := (Span.of_below (lo := D) (hi := D + 1) hbb).trans hs2
    clear hs2 hb1
    go_wp2
    go_ret
    exact ⟨rfl, hd2, hs3⟩
set_option maxRecDepth 100000 in
set_option maxHeartbeats 2000000 in
theorem pl_xor (d : DS) : Pl [120, 111, 114] d (tellM (togM (fun a b => a ^^^ b) d.s d.xs d.t d.ys)) (leftM d (togM (fun a b => a ^^^ b) d.s d.xs d.t d.ys)) := by
  intro w0 w D hv hD hb hd
  rw [show bs [120, 111, 114] = ByteArray.mk #[120, 111, 114] from rfl]
  obtain ⟨r, hr⟩ : ∃ r, togM (fun a b => a ^^^ b) d.s d.xs d.t d.ys = r := ⟨_, rfl⟩
  rw [hr]
  have HR := hid hr
  obtain ⟨am, nm, cm, h1, hrm, hnm⟩ := hd.m
  obtain ⟨an, nn, cn, h3, hrn, hnn⟩ := hd.n
  have h0 := hd.c0
  have h2 := hd.c2
  have hlt := hd.lt
  have hz0 := hb.size
  clear hr
  go_enter Tryz.func99, Tryz.ntmps99
  go_wp2_with fail
  have HP : Hid (∀ w', Below w.heap.size w w' → Calls Tryz.prog 12 #[.agg #[.int .i64 d.s, .slice am nm cm], .agg #[.int .i64 d.t, .slice an nn cn]] w' fun e w'' => RetM r w'.heap.size e w'' ∧ Below w'.heap.size w' w'') := fun w' h => by rw [← HR.out]; exact DifferMasses_any d.s d.t _ _ _ _ _ _ d.xs d.ys w' (hrm.view.below h) (hrn.view.below h)
  go_region_with (first | (go_at_call 12; refine (HP.out _ (by (repeat (first | exact Below.refl _ _ | assumption | refine Below.alloc ?_ (by first | omega | (simp <;> omega)) _ | refine Below.setCell ?_ (by first | omega | (simp <;> omega)) _ | refine Below.drew ?_ | refine below_drewN ?_)))).mono ?_; rintro e w1 ⟨⟨v, rfl, hr1⟩, hb1⟩; obtain ⟨a, n, c, rfl, hi⟩ := hr1.ints; have hbb : Below w.heap.size w w1 := Below.trans (by (repeat (first | exact Below.refl _ _ | assumption | refine Below.alloc ?_ (by first | omega | (simp <;> omega)) _ | refine Below.setCell ?_ (by first | omega | (simp <;> omega)) _ | refine Below.drew ?_ | refine below_drewN ?_))) (hb1.mono (Nat.le_refl _)); have k0 := keep hbb h0; have k1 := keep hbb h1; have k2 := keep hbb h2; have k3 := keep hbb h3; have hne : (Value.slice a n c).ownBlock ≠ some D := fun e => by have h9 := (hr1.block _ e).1; have h8 : w.heap.size ≤ D := h9; omega) | (go_at_call 146; refine (become_any w0 w1 D d r a n c hv hD (hb.trans (hbb.mono hz0)) (hd.below hbb) (hr1.mono (Nat.zero_le _)) hne).mono ?_; rintro e w2 ⟨rfl, hd2, hs2⟩))
  all_goals
    have hs3 := (Span.of_below (lo := D) (hi := D + 1) hbb).trans hs2
    clear hs2 hb1
    go_wp2
    go_ret
    exact ⟨rfl, hd2, hs3⟩
set_option maxRecDepth 100000 in
set_option maxHeartbeats 2000000 in
theorem pl_join (d : DS) : Pl [106, 111, 105, 110] d (tellM (joinM d.s d.xs d.t d.ys)) (leftM d (joinM d.s d.xs d.t d.ys)) := by
  intro w0 w D hv hD hb hd
  rw [show bs [106, 111, 105, 110] = ByteArray.mk #[106, 111, 105, 110] from rfl]
  obtain ⟨r, hr⟩ : ∃ r, joinM d.s d.xs d.t d.ys = r := ⟨_, rfl⟩
  rw [hr]
  have HR := hid hr
  obtain ⟨am, nm, cm, h1, hrm, hnm⟩ := hd.m
  obtain ⟨an, nn, cn, h3, hrn, hnn⟩ := hd.n
  have h0 := hd.c0
  have h2 := hd.c2
  have hlt := hd.lt
  have hz0 := hb.size
  clear hr
  go_enter Tryz.func99, Tryz.ntmps99
  go_wp2_with fail
  have HP : Hid (∀ w', Below w.heap.size w w' → Calls Tryz.prog 6 #[.agg #[.int .i64 d.s, .slice am nm cm], .agg #[.int .i64 d.t, .slice an nn cn]] w' fun e w'' => RetM r w'.heap.size e w'' ∧ Below w'.heap.size w' w'') := fun w' h => by rw [← HR.out]; exact JoinMasses_any d.s d.t _ _ _ _ _ _ d.xs d.ys w' (hrm.view.below h) (hrn.view.below h)
  go_region_with (first | (go_at_call 6; refine (HP.out _ (by (repeat (first | exact Below.refl _ _ | assumption | refine Below.alloc ?_ (by first | omega | (simp <;> omega)) _ | refine Below.setCell ?_ (by first | omega | (simp <;> omega)) _ | refine Below.drew ?_ | refine below_drewN ?_)))).mono ?_; rintro e w1 ⟨⟨v, rfl, hr1⟩, hb1⟩; obtain ⟨a, n, c, rfl, hi⟩ := hr1.ints; have hbb : Below w.heap.size w w1 := Below.trans (by (repeat (first | exact Below.refl _ _ | assumption | refine Below.alloc ?_ (by first | omega | (simp <;> omega)) _ | refine Below.setCell ?_ (by first | omega | (simp <;> omega)) _ | refine Below.drew ?_ | refine below_drewN ?_))) (hb1.mono (Nat.le_refl _)); have k0 := keep hbb h0; have k1 := keep hbb h1; have k2 := keep hbb h2; have k3 := keep hbb h3; have hne : (Value.slice a n c).ownBlock ≠ some D := fun e => by have h9 := (hr1.block _ e).1; have h8 : w.heap.size ≤ D := h9; omega) | (go_at_call 146; refine (become_any w0 w1 D d r a n c hv hD (hb.trans (hbb.mono hz0)) (hd.below hbb) (hr1.mono (Nat.zero_le _)) hne).mono ?_; rintro e w2 ⟨rfl, hd2, hs2⟩))
  all_goals
    have hs3 := (Span.of_below (lo := D) (hi := D + 1) hbb).trans hs2
    clear hs2 hb1
    go_wp2
    go_ret
    exact ⟨rfl, hd2, hs3⟩
/-- the word of a truth -/
def truthT (b : Bool) : List UInt8 := if b then [116, 114, 117, 101] else [102, 97, 108, 115, 101]
theorem FormatBool_of (b : Bool) (w : World) : Calls Tryz.prog 210 #[.bool b] w fun e w' => e = .returned (.string (bs (truthT b))) ∧ Below w.heap.size w w' := by
  cases b
  · go_enter Tryz.func210, Tryz.ntmps210
    go_wp2
    go_ret
    exact ⟨rfl, Below.refl _ _⟩
  · go_enter Tryz.func210, Tryz.ntmps210
    go_wp2
    go_ret
    exact ⟨rfl, Below.refl _ _⟩
set_option maxRecDepth 100000 in
set_option maxHeartbeats 2000000 in
theorem pl_conflict (d : DS) : Pl [99, 111, 110, 102, 108, 105, 99, 116] d (tellF (confF d.s d.xs d.t d.ys)) d := by
  intro w0 w D hv hD hb hd
  rw [show bs [99, 111, 110, 102, 108, 105, 99, 116] = ByteArray.mk #[99, 111, 110, 102, 108, 105, 99, 116] from rfl]
  obtain ⟨f, hf⟩ : ∃ f, confF d.s d.xs d.t d.ys = f := ⟨_, rfl⟩
  rw [hf]
  obtain ⟨am, nm, cm, h1, hrm, hnm⟩ := hd.m
  obtain ⟨an, nn, cn, h3, hrn, hnn⟩ := hd.n
  have h0 := hd.c0
  have h2 := hd.c2
  have hlt := hd.lt
  have hlv := hv.below hb
  have him := hrm.view
  have hin := hrn.view
  have HB : Hid (∀ w', IntsAt w' am nm d.xs → IntsAt w' an nn d.ys → Calls Tryz.prog 13 #[.agg #[.int .i64 d.s, .slice am nm cm], .agg #[.int .i64 d.t, .slice an nn cn]] w' fun e w'' => e = .returned (.tuple #[.agg #[.int .i64 f.num, .int .i64 f.den], .bool f.ok]) ∧ Below w'.heap.size w' w'') := fun w' h h' => by rw [← hf]; exact ConflictOf_any d.s d.t _ _ _ _ _ _ d.xs d.ys w' h h'
  have HF : Hid (∀ w', LibV w' → Calls Tryz.prog 105 #[.agg #[.int .i64 f.num, .int .i64 f.den], .bool f.ok] w' fun e w'' => e = .returned (.string (bs (tellF f))) ∧ Below w'.heap.size w' w'') := fun w' h => fractionOr_any f w' h.pow
  have HT : Hid (Calls Tryz.prog 158 #[.pointer (some ⟨D, 0, none⟩), .string (ByteArray.mk #[99, 111, 110, 102, 108, 105, 99, 116])] w fun e w' => e = .returned (.string (bs (tellF f))) ∧ Below w.heap.size w w') := by
    show Calls Tryz.prog 158 #[.pointer (some ⟨D, 0, none⟩), .string (ByteArray.mk #[99, 111, 110, 102, 108, 105, 99, 116])] w fun e w' => e = .returned (.string (bs (tellF f))) ∧ Below w.heap.size w w'
    clear hf hd hv hb hD hrm hnm hrn hnn
    go_enter Tryz.func158, Tryz.ntmps158
    go_wp2_with fail
    refine wp_region_ov (by kernel_rfl) (by kernel_rfl) ?_
    repeat (first | go_big_quiet_step ((first | (go_at_call 13; (with_reducible exact ov_call (HB.out _ (him.below (ov_below _ _)) (hin.below (ov_below _ _))))) | (go_at_call 105; (with_reducible exact ov_call (HF.out _ (hlv.below (ov_below _ _))))))) | quiet_step ((first | (go_at_call 13; (with_reducible exact ov_call (HB.out _ (him.below (ov_below _ _)) (hin.below (ov_below _ _))))) | (go_at_call 105; (with_reducible exact ov_call (HF.out _ (hlv.below (ov_below _ _))))))))
    refine wpQuiet_nil ?_
    intro _ hw_ov
    obtain ⟨x_ov, hw_ov2⟩ := hw_ov
    subst hw_ov2
    obtain ⟨wz, hw_ov3, hbz⟩ := ov_gen _ x_ov
    rw [hw_ov3]
    clear hw_ov3 x_ov
    go_wp2
    go_ret
    exact ⟨rfl, hbz⟩
  clear hf
  go_enter Tryz.func99, Tryz.ntmps99
  go_wp2_with fail
  refine HT.out.mono ?_; rintro e w1 ⟨rfl, hb1⟩
  go_wp2
  go_ret
  exact ⟨rfl, hd.below hb1, Span.of_below hb1⟩
set_option maxRecDepth 100000 in
set_option maxHeartbeats 2000000 in
theorem pl_distance (d : DS) : Pl [100, 105, 115, 116, 97, 110, 99, 101] d (tellF (distF d.s d.xs d.t d.ys)) d := by
  intro w0 w D hv hD hb hd
  rw [show bs [100, 105, 115, 116, 97, 110, 99, 101] = ByteArray.mk #[100, 105, 115, 116, 97, 110, 99, 101] from rfl]
  obtain ⟨f, hf⟩ : ∃ f, distF d.s d.xs d.t d.ys = f := ⟨_, rfl⟩
  rw [hf]
  obtain ⟨am, nm, cm, h1, hrm, hnm⟩ := hd.m
  obtain ⟨an, nn, cn, h3, hrn, hnn⟩ := hd.n
  have h0 := hd.c0
  have h2 := hd.c2
  have hlt := hd.lt
  have hlv := hv.below hb
  have him := hrm.view
  have hin := hrn.view
  have HB : Hid (∀ w', IntsAt w' am nm d.xs → IntsAt w' an nn d.ys → Calls Tryz.prog 14 #[.agg #[.int .i64 d.s, .slice am nm cm], .agg #[.int .i64 d.t, .slice an nn cn]] w' fun e w'' => e = .returned (.tuple #[.agg #[.int .i64 f.num, .int .i64 f.den], .bool f.ok]) ∧ Below w'.heap.size w' w'') := fun w' h h' => by rw [← hf]; exact DistanceOf_any d.s d.t _ _ _ _ _ _ d.xs d.ys w' h h'
  have HF : Hid (∀ w', LibV w' → Calls Tryz.prog 105 #[.agg #[.int .i64 f.num, .int .i64 f.den], .bool f.ok] w' fun e w'' => e = .returned (.string (bs (tellF f))) ∧ Below w'.heap.size w' w'') := fun w' h => fractionOr_any f w' h.pow
  have HT : Hid (Calls Tryz.prog 158 #[.pointer (some ⟨D, 0, none⟩), .string (ByteArray.mk #[100, 105, 115, 116, 97, 110, 99, 101])] w fun e w' => e = .returned (.string (bs (tellF f))) ∧ Below w.heap.size w w') := by
    show Calls Tryz.prog 158 #[.pointer (some ⟨D, 0, none⟩), .string (ByteArray.mk #[100, 105, 115, 116, 97, 110, 99, 101])] w fun e w' => e = .returned (.string (bs (tellF f))) ∧ Below w.heap.size w w'
    clear hf hd hv hb hD hrm hnm hrn hnn
    go_enter Tryz.func158, Tryz.ntmps158
    go_wp2_with fail
    refine wp_region_ov (by kernel_rfl) (by kernel_rfl) ?_
    repeat (first | go_big_quiet_step ((first | (go_at_call 14; (with_reducible exact ov_call (HB.out _ (him.below (ov_below _ _)) (hin.below (ov_below _ _))))) | (go_at_call 105; (with_reducible exact ov_call (HF.out _ (hlv.below (ov_below _ _))))))) | quiet_step ((first | (go_at_call 14; (with_reducible exact ov_call (HB.out _ (him.below (ov_below _ _)) (hin.below (ov_below _ _))))) | (go_at_call 105; (with_reducible exact ov_call (HF.out _ (hlv.below (ov_below _ _))))))))
    refine wpQuiet_nil ?_
    intro _ hw_ov
    obtain ⟨x_ov, hw_ov2⟩ := hw_ov
    subst hw_ov2
    obtain ⟨wz, hw_ov3, hbz⟩ := ov_gen _ x_ov
    rw [hw_ov3]
    clear hw_ov3 x_ov
    go_wp2
    go_ret
    exact ⟨rfl, hbz⟩
  clear hf
  go_enter Tryz.func99, Tryz.ntmps99
  go_wp2_with fail
  refine HT.out.mono ?_; rintro e w1 ⟨rfl, hb1⟩
  go_wp2
  go_ret
  exact ⟨rfl, hd.below hb1, Span.of_below hb1⟩
set_option maxRecDepth 100000 in
set_option maxHeartbeats 2000000 in
theorem pl_less (d : DS) : Pl [108, 101, 115, 115] d (truthT (moreB d.s d.xs d.t d.ys)) d := by
  intro w0 w D hv hD hb hd
  rw [show bs [108, 101, 115, 115] = ByteArray.mk #[108, 101, 115, 115] from rfl]
  obtain ⟨f, hf⟩ : ∃ f, moreB d.s d.xs d.t d.ys = f := ⟨_, rfl⟩
  rw [hf]
  obtain ⟨am, nm, cm, h1, hrm, hnm⟩ := hd.m
  obtain ⟨an, nn, cn, h3, hrn, hnn⟩ := hd.n
  have h0 := hd.c0
  have h2 := hd.c2
  have hlt := hd.lt
  have hlv := hv.below hb
  have him := hrm.view
  have hin := hrn.view
  have HB : Hid (∀ w', IntsAt w' am nm d.xs → IntsAt w' an nn d.ys → Calls Tryz.prog 19 #[.agg #[.int .i64 d.s, .slice am nm cm], .agg #[.int .i64 d.t, .slice an nn cn]] w' fun e w'' => e = .returned (.bool f) ∧ Below w'.heap.size w' w'') := fun w' h h' => by rw [← hf]; exact MorePossible_any d.s d.t _ _ _ _ _ _ d.xs d.ys w' h h'
  have HF : Hid (∀ w', Calls Tryz.prog 210 #[.bool f] w' fun e w'' => e = .returned (.string (bs (truthT f))) ∧ Below w'.heap.size w' w'') := fun w' => FormatBool_of f w'
  have HT : Hid (Calls Tryz.prog 158 #[.pointer (some ⟨D, 0, none⟩), .string (ByteArray.mk #[108, 101, 115, 115])] w fun e w' => e = .returned (.string (bs (truthT f))) ∧ Below w.heap.size w w') := by
    show Calls Tryz.prog 158 #[.pointer (some ⟨D, 0, none⟩), .string (ByteArray.mk #[108, 101, 115, 115])] w fun e w' => e = .returned (.string (bs (truthT f))) ∧ Below w.heap.size w w'
    clear hf hd hv hb hD hrm hnm hrn hnn
    go_enter Tryz.func158, Tryz.ntmps158
    go_wp2_with fail
    refine wp_region_ov (by kernel_rfl) (by kernel_rfl) ?_
    repeat (first | go_big_quiet_step ((first | (go_at_call 19; (with_reducible exact ov_call (HB.out _ (him.below (ov_below _ _)) (hin.below (ov_below _ _))))) | (go_at_call 210; (with_reducible exact ov_call (HF.out _))))) | quiet_step ((first | (go_at_call 19; (with_reducible exact ov_call (HB.out _ (him.below (ov_below _ _)) (hin.below (ov_below _ _))))) | (go_at_call 210; (with_reducible exact ov_call (HF.out _))))))
    refine wpQuiet_nil ?_
    intro _ hw_ov
    obtain ⟨x_ov, hw_ov2⟩ := hw_ov
    subst hw_ov2
    obtain ⟨wz, hw_ov3, hbz⟩ := ov_gen _ x_ov
    rw [hw_ov3]
    clear hw_ov3 x_ov
    go_wp2
    go_ret
    exact ⟨rfl, hbz⟩
  clear hf
  go_enter Tryz.func99, Tryz.ntmps99
  go_wp2_with fail
  refine HT.out.mono ?_; rintro e w1 ⟨rfl, hb1⟩
  go_wp2
  go_ret
  exact ⟨rfl, hd.below hb1, Span.of_below hb1⟩
set_option maxRecDepth 100000 in
set_option maxHeartbeats 2000000 in
theorem pl_specialized (d : DS) (b : Bool) (hsp : b = true ↔ oneQ d.s d.xs d.t d.ys = true ∧ HallD subN d.xs.length d.xs d.ys (isum d.xs) (isum d.ys)) : Pl [115, 112, 101, 99, 105, 97, 108, 105, 122, 101, 100] d (truthT (b)) d := by
  intro w0 w D hv hD hb hd
  rw [show bs [115, 112, 101, 99, 105, 97, 108, 105, 122, 101, 100] = ByteArray.mk #[115, 112, 101, 99, 105, 97, 108, 105, 122, 101, 100] from rfl]
  obtain ⟨f, hf⟩ : ∃ f, b = f := ⟨_, rfl⟩
  rw [hf]
  obtain ⟨am, nm, cm, h1, hrm, hnm⟩ := hd.m
  obtain ⟨an, nn, cn, h3, hrn, hnn⟩ := hd.n
  have h0 := hd.c0
  have h2 := hd.c2
  have hlt := hd.lt
  have hlv := hv.below hb
  have him := hrm.view
  have hin := hrn.view
  have HB : Hid (∀ w', IntsAt w' am nm d.xs → IntsAt w' an nn d.ys → Calls Tryz.prog 18 #[.agg #[.int .i64 d.s, .slice am nm cm], .agg #[.int .i64 d.t, .slice an nn cn]] w' fun e w'' => e = .returned (.bool f) ∧ Below w'.heap.size w' w'') := fun w' h h' => by rw [← hf]; exact IsSpecialized_is d.s d.t _ _ _ _ _ _ d.xs d.ys b w' h h' (by rw [← h.len]; exact hsp)
  have HF : Hid (∀ w', Calls Tryz.prog 210 #[.bool f] w' fun e w'' => e = .returned (.string (bs (truthT f))) ∧ Below w'.heap.size w' w'') := fun w' => FormatBool_of f w'
  have HT : Hid (Calls Tryz.prog 158 #[.pointer (some ⟨D, 0, none⟩), .string (ByteArray.mk #[115, 112, 101, 99, 105, 97, 108, 105, 122, 101, 100])] w fun e w' => e = .returned (.string (bs (truthT f))) ∧ Below w.heap.size w w') := by
    show Calls Tryz.prog 158 #[.pointer (some ⟨D, 0, none⟩), .string (ByteArray.mk #[115, 112, 101, 99, 105, 97, 108, 105, 122, 101, 100])] w fun e w' => e = .returned (.string (bs (truthT f))) ∧ Below w.heap.size w w'
    clear hsp hf hd hv hb hD hrm hnm hrn hnn
    go_enter Tryz.func158, Tryz.ntmps158
    go_wp2_with fail
    refine wp_region_ov (by kernel_rfl) (by kernel_rfl) ?_
    repeat (first | go_big_quiet_step ((first | (go_at_call 18; (with_reducible exact ov_call (HB.out _ (him.below (ov_below _ _)) (hin.below (ov_below _ _))))) | (go_at_call 210; (with_reducible exact ov_call (HF.out _))))) | quiet_step ((first | (go_at_call 18; (with_reducible exact ov_call (HB.out _ (him.below (ov_below _ _)) (hin.below (ov_below _ _))))) | (go_at_call 210; (with_reducible exact ov_call (HF.out _))))))
    refine wpQuiet_nil ?_
    intro _ hw_ov
    obtain ⟨x_ov, hw_ov2⟩ := hw_ov
    subst hw_ov2
    obtain ⟨wz, hw_ov3, hbz⟩ := ov_gen _ x_ov
    rw [hw_ov3]
    clear hw_ov3 x_ov
    go_wp2
    go_ret
    exact ⟨rfl, hbz⟩
  clear hf hsp
  go_enter Tryz.func99, Tryz.ntmps99
  go_wp2_with fail
  refine HT.out.mono ?_; rintro e w1 ⟨rfl, hb1⟩
  go_wp2
  go_ret
  exact ⟨rfl, hd.below hb1, Span.of_below hb1⟩
end Go.Proofs.YtefmlbahmakboaaGreatDoor
