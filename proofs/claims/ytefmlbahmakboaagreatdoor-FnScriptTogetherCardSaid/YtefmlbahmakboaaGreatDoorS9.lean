/- What two masses tell together: ConjoinMasses both. -/
import Derived.Test.YtefmlbahmakboaaGreatDoorW15
import Derived.Test.YtefmlbahmakboaaGreatDoorS2
set_option linter.unusedSimpArgs false
set_option linter.unusedVariables false
namespace Go.Proofs.YtefmlbahmakboaaGreatDoor
open Go.RowKit
/-- set a of one mass with the first j sets of another one: the products of their parts, each put where T says -/
def togIn (T : Nat → Nat → Nat) (xs ys : List Int) (a : Nat) (l : List Int) (j : Nat) : List Int := iter (fun b l => l.set (T a b) (nth l (T a b) + nth xs a * nth ys b)) l j
def togTo (T : Nat → Nat → Nat) (xs ys : List Int) (N m k : Nat) : List Int := iter (fun a l => togIn T xs ys a l m) (List.replicate N 0) k
theorem togIn_len (T : Nat → Nat → Nat) (xs ys : List Int) (a : Nat) (l : List Int) (j : Nat) : (togIn T xs ys a l j).length = l.length := by
  induction j with
  | zero => rfl
  | succ j ih => show ((togIn T xs ys a l j).set _ _).length = _; rw [List.length_set]; exact ih
theorem togTo_len (T : Nat → Nat → Nat) (xs ys : List Int) (N m k : Nat) : (togTo T xs ys N m k).length = N := by
  induction k with
  | zero => simp [togTo, iter]
  | succ k ih => show (togIn T xs ys k (togTo T xs ys N m k) m).length = N; rw [togIn_len]; exact ih
theorem part_mul (x y : Int) (h0 : 0 ≤ x) (h1 : x ≤ 1000000) (h2 : 0 ≤ y) (h3 : y ≤ 1000000) : 0 ≤ x * y ∧ x * y ≤ 1000000000000 := by
  refine ⟨Int.mul_nonneg h0 h2, ?_⟩
  have := Int.mul_le_mul h1 h3 h2 (by omega)
  omega
theorem togIn_bd (T : Nat → Nat → Nat) (xs ys : List Int) (a : Nat) (l : List Int) (M : Int) (m : Nat) (hx : 0 ≤ nth xs a ∧ nth xs a ≤ 1000000) (hy : ∀ b, b < m → 0 ≤ nth ys b ∧ nth ys b ≤ 1000000) (hl : ∀ p, 0 ≤ nth l p ∧ nth l p ≤ M) (j : Nat) (hj : j ≤ m) (p : Nat) :
    0 ≤ nth (togIn T xs ys a l j) p ∧ nth (togIn T xs ys a l j) p ≤ M + 1000000000000 * (j : Int) := by
  induction j generalizing p with
  | zero => have := hl p; show 0 ≤ nth l p ∧ nth l p ≤ _; omega
  | succ j ih =>
    have h1 := ih (by omega) p
    have h2 := ih (by omega) (T a j)
    have h3 := hy j (by omega)
    have h4 := part_mul _ _ hx.1 hx.2 h3.1 h3.2
    show 0 ≤ nth ((togIn T xs ys a l j).set (T a j) (nth (togIn T xs ys a l j) (T a j) + nth xs a * nth ys j)) p ∧ nth ((togIn T xs ys a l j).set (T a j) (nth (togIn T xs ys a l j) (T a j) + nth xs a * nth ys j)) p ≤ _
    rw [nth_set]
    push_cast
    split <;> omega
theorem togTo_bd (T : Nat → Nat → Nat) (xs ys : List Int) (N n m : Nat) (hm : m ≤ 16) (hx : ∀ a, a < n → 0 ≤ nth xs a ∧ nth xs a ≤ 1000000) (hy : ∀ b, b < m → 0 ≤ nth ys b ∧ nth ys b ≤ 1000000) (k : Nat) (hk : k ≤ n) (p : Nat) :
    0 ≤ nth (togTo T xs ys N m k) p ∧ nth (togTo T xs ys N m k) p ≤ 16000000000000 * (k : Int) := by
  induction k generalizing p with
  | zero => show 0 ≤ nth (List.replicate N 0) p ∧ nth (List.replicate N 0) p ≤ _; rw [nth_replicate]; omega
  | succ k ih =>
    have h1 := togIn_bd T xs ys k (togTo T xs ys N m k) (16000000000000 * (k : Int)) m (hx k (by omega)) hy (fun p => ih (by omega) p) m (Nat.le_refl _) p
    show 0 ≤ nth (togIn T xs ys k (togTo T xs ys N m k) m) p ∧ nth (togIn T xs ys k (togTo T xs ys N m k) m) p ≤ _
    push_cast
    omega
def oneQ (s : Int) (xs : List Int) (u : Int) (ys : List Int) : Bool := massOk s xs && (massOk u ys && (s == u))
/-- what two masses tell together, put where T says -/
def togM (T : Nat → Nat → Nat) (s : Int) (xs : List Int) (u : Int) (ys : List Int) : MR := if oneQ s xs u ys then mkMass s (togTo T xs ys xs.length ys.length xs.length) else MR.no
theorem togM_bad {T : Nat → Nat → Nat} {s : Int} {xs : List Int} {u : Int} {ys : List Int} (h : oneQ s xs u ys = false) : togM T s xs u ys = MR.no := by simp [togM, h]
theorem togM_len (T : Nat → Nat → Nat) (s : Int) (xs : List Int) (u : Int) (ys : List Int) : (togM T s xs u ys).parts.length ≤ 16 := by
  unfold togM; split
  · rename_i h
    simp only [oneQ, Bool.and_eq_true] at h
    have h1 : (mkMass s (togTo T xs ys xs.length ys.length xs.length)).parts.length ≤ (togTo T xs ys xs.length ys.length xs.length).length := by
      unfold mkMass; split
      · simp [MR.no]
      · split <;> simp [MR.no]
    rw [togTo_len] at h1
    have := (massOk_facts' h.1).2.2.1
    omega
  · simp [MR.no]
theorem oneQ_facts {s : Int} {xs : List Int} {u : Int} {ys : List Int} (h : oneQ s xs u ys = true) : massOk s xs = true ∧ massOk u ys = true ∧ u = s ∧ ys.length = xs.length := by
  simp only [oneQ, Bool.and_eq_true, beq_iff_eq] at h
  obtain ⟨h1, h2, h3⟩ := h
  refine ⟨h1, h2, h3.symm, ?_⟩
  rw [(massOk_facts' h1).2.1, (massOk_facts' h2).2.1, h3]
set_option maxHeartbeats 400000 in
theorem ofOneQuestion_any (s u : Int) (ao bo : Option Addr) (n c m d : Nat) (xs ys : List Int) (w : World) (hx : IntsAt w ao n xs) (hy : IntsAt w bo m ys) :
    Calls Tryz.prog 35 #[.agg #[.int .i64 s, .slice ao n c], .agg #[.int .i64 u, .slice bo m d]] w fun e w' => e = .returned (.bool (oneQ s xs u ys)) ∧ Below w.heap.size w w' := by
  have hB0 : Below w.heap.size w ((w.alloc (.cells #[.int .i64 s, .slice ao n c] 25)).alloc (.cells #[.int .i64 u, .slice bo m d] 25)) := (below_alloc w _).alloc (by simp) _
  cases h1 : massOk s xs
  · go_enter Tryz.func35, Tryz.ntmps35
    go_wp2_with fail
    refine (isMass_any _ _ _ _ _ _ (hx.below hB0)).mono ?_; rw [h1]; rintro e w1 ⟨rfl, hb1⟩
    have hB1 : Below w.heap.size w w1 := Below.trans (by (repeat (first | exact Below.refl _ _ | assumption | refine Below.alloc ?_ (by simp <;> omega) _ | refine Below.setCell ?_ (by simp <;> omega) _ | refine Below.drew ?_ | refine below_drewN ?_))) (hb1.mono (by simp <;> omega))
    go_wp2
    go_ret
    exact ⟨ret_bool (by simp [oneQ, h1]), hB1⟩
  · cases h2 : massOk u ys
    all_goals
      go_enter Tryz.func35, Tryz.ntmps35
      go_wp2_with fail
      refine (isMass_any _ _ _ _ _ _ (hx.below hB0)).mono ?_; rw [h1]; rintro e w1 ⟨rfl, hb1⟩
      have hp0 := keep hb1 (a := ⟨w.heap.size, 0, none⟩) (v := .int .i64 s) (by simp)
      have hp1 := keep hb1 (a := ⟨w.heap.size, 1, none⟩) (v := .slice ao n c) (by simp)
      have hq0 := keep hb1 (a := ⟨w.heap.size + 1, 0, none⟩) (v := .int .i64 u) (by simp)
      have hq1 := keep hb1 (a := ⟨w.heap.size + 1, 1, none⟩) (v := .slice bo m d) (by simp)
      have hB1 : Below w.heap.size w w1 := Below.trans (by (repeat (first | exact Below.refl _ _ | assumption | refine Below.alloc ?_ (by simp <;> omega) _ | refine Below.setCell ?_ (by simp <;> omega) _ | refine Below.drew ?_ | refine below_drewN ?_))) (hb1.mono (by simp <;> omega))
      clear hb1
      go_wp2_with fail
      refine (isMass_any _ _ _ _ _ _ (hy.below hB1)).mono ?_; rw [h2]; rintro e w2 ⟨rfl, hb2⟩
      replace hp0 := keep hb2 hp0
      replace hp1 := keep hb2 hp1
      replace hq0 := keep hb2 hq0
      replace hq1 := keep hb2 hq1
      have hB2 := chain hB1 hb2
      clear hb2
    · go_wp2
      go_ret
      exact ⟨ret_bool (by simp [oneQ, h2]), hB2⟩
    · go_wp2
      go_ret
      exact ⟨ret_bool (by simp [oneQ, h1, h2]), hB2⟩
set_option maxHeartbeats 400000 in
theorem l3Both_any (s u : Int) (ao bo : Option Addr) (n c m d : Nat) (xs ys : List Int) (w : World) (hx : IntsAt w ao n xs) (hy : IntsAt w bo m ys) :
    Calls Tryz.prog 38 #[.agg #[.int .i64 s, .slice ao n c], .agg #[.int .i64 u, .slice bo m d]] w fun e w' => e = .returned (.bool (oneQ s xs u ys)) ∧ Below w.heap.size w w' := by
  have hB0 : Below w.heap.size w ((w.alloc (.cells #[.int .i64 s, .slice ao n c] 25)).alloc (.cells #[.int .i64 u, .slice bo m d] 25)) := (below_alloc w _).alloc (by simp) _
  cases h1 : massOk s xs
  · go_enter Tryz.func38, Tryz.ntmps38
    go_wp2_with fail
    refine (MassValid_any _ _ _ _ _ _ (hx.below hB0)).mono ?_; rw [h1]; rintro e w1 ⟨rfl, hb1⟩
    have hB1 : Below w.heap.size w w1 := Below.trans (by (repeat (first | exact Below.refl _ _ | assumption | refine Below.alloc ?_ (by simp <;> omega) _ | refine Below.setCell ?_ (by simp <;> omega) _ | refine Below.drew ?_ | refine below_drewN ?_))) (hb1.mono (by simp <;> omega))
    go_wp2
    go_ret
    exact ⟨ret_bool (by simp [oneQ, h1]), hB1⟩
  · cases h2 : massOk u ys
    all_goals
      go_enter Tryz.func38, Tryz.ntmps38
      go_wp2_with fail
      refine (MassValid_any _ _ _ _ _ _ (hx.below hB0)).mono ?_; rw [h1]; rintro e w1 ⟨rfl, hb1⟩
      have hp0 := keep hb1 (a := ⟨w.heap.size, 0, none⟩) (v := .int .i64 s) (by simp)
      have hp1 := keep hb1 (a := ⟨w.heap.size, 1, none⟩) (v := .slice ao n c) (by simp)
      have hq0 := keep hb1 (a := ⟨w.heap.size + 1, 0, none⟩) (v := .int .i64 u) (by simp)
      have hq1 := keep hb1 (a := ⟨w.heap.size + 1, 1, none⟩) (v := .slice bo m d) (by simp)
      have hB1 : Below w.heap.size w w1 := Below.trans (by (repeat (first | exact Below.refl _ _ | assumption | refine Below.alloc ?_ (by simp <;> omega) _ | refine Below.setCell ?_ (by simp <;> omega) _ | refine Below.drew ?_ | refine below_drewN ?_))) (hb1.mono (by simp <;> omega))
      clear hb1
      go_wp2_with fail
      refine (MassValid_any _ _ _ _ _ _ (hy.below hB1)).mono ?_; rw [h2]; rintro e w2 ⟨rfl, hb2⟩
      replace hp0 := keep hb2 hp0
      replace hp1 := keep hb2 hp1
      replace hq0 := keep hb2 hq0
      replace hq1 := keep hb2 hq1
      have hB2 := chain hB1 hb2
      clear hb2
    · go_wp2
      go_ret
      exact ⟨ret_bool (by simp [oneQ, h2]), hB2⟩
    · go_wp2
      go_ret
      exact ⟨ret_bool (by simp [oneQ, h1, h2]), hB2⟩
set_option maxHeartbeats 2000000 in
theorem together_any (s u : Int) (ao bo : Option Addr) (n c m d : Nat) (xs ys : List Int) (fid : FuncId) (T : Nat → Nat → Nat) (w : World) (hx : IntsAt w ao n xs) (hy : IntsAt w bo m ys) (hn : n ≤ 16) (hm : m ≤ 16)
    (hcf : ∀ (vs : Array Value) (w' : World), Sem.run Tryz.prog (callFunc fid vs) w' = .ok (.enter fid vs) w')
    (hxb : ∀ k, k < n → 0 ≤ nth xs k ∧ nth xs k ≤ 1000000) (hyb : ∀ k, k < m → 0 ≤ nth ys k ∧ nth ys k ≤ 1000000) (hT : ∀ a b, a < n → b < m → T a b < n)
    (hto : ∀ (a b : Nat) (w' : World), a < n → b < m → Calls Tryz.prog fid #[.int .i64 a, .int .i64 b] w' fun e w'' => e = .returned (.int .i64 (T a b)) ∧ w' = w'') :
    Calls Tryz.prog 44 #[.agg #[.int .i64 s, .slice ao n c], .agg #[.int .i64 u, .slice bo m d], .func (.func fid) #[] #[]] w fun e w' => (∃ v, e = .returned v ∧ Row w' w.heap.size v (togTo T xs ys n m n)) ∧ Below w.heap.size w w' := by
  have hcap := hx.cap
  have HTO := hid hto; clear hto
  have HT := hid hT; clear hT
  have HXB := hid hxb
  have HYB := hid hyb
  have HBD := hid (togTo_bd T xs ys n n m hm hxb hyb)
  clear hxb hyb
  go_enter Tryz.func44, Tryz.ntmps44
  go_wp2_with (at_make; refine wpList_make_ints rfl _ _ rfl n _ _ rfl rfl rfl rfl (by omega) ?_; intro w2 hrow hb2 hz2; (have hp1 := keep hb2 (a := ⟨w.heap.size, 1, none⟩) (v := .slice ao n c) (by simp)); (have hq1 := keep hb2 (a := ⟨w.heap.size + 1, 1, none⟩) (v := .slice bo m d) (by simp)))
  have hB2 : Below w.heap.size w w2 := ((below_alloc w _).alloc (by simp) _).trans (hb2.mono (by simp <;> omega))
  have hrow' : Row w2 (w.heap.size + 1 + 1) (.slice (some ⟨w.heap.size + 1 + 1, 0, none⟩) n n) (List.replicate n 0) := by simpa using hrow
  have hz2' : w.heap.size + 1 + 1 < w2.heap.size := by simpa using hz2
  clear hrow hb2 hz2
  go_loopw [8, 9, 19] (fun _ _ i wr => ∃ k : Nat, k ≤ n ∧ i = .int .i64 k ∧ Row wr (w.heap.size + 1 + 1) (.slice (some ⟨w.heap.size + 1 + 1, 0, none⟩) n n) (togTo T xs ys n m k) ∧ Below (w.heap.size + 1 + 1) w2 wr ∧ w.heap.size + 1 + 1 < wr.heap.size) (fun _ _ i _ => n - (intOf i).toNat)
  case atStart => exact ⟨0, by omega, rfl, hrow', Below.refl _ _, hz2'⟩
  case round =>
    obtain ⟨k, hk, rfl, hr, hBr, hzr⟩ := hrel
    have hB : Below w.heap.size w wr := hB2.trans (hBr.mono (by omega))
    have hp1' := keepB hBr (by omega) hp1
    have hq1' := keepB hBr (by omega) hq1
    by_cases hlt : k < n
    · obtain ⟨b, off, rfl, hbs, hbs', hck⟩ := hx.at hB hlt
      have hpx := HXB.out k hlt
      have HBK := hid (HBD.out k hk)
      have HN : Hid (togTo T xs ys n m (k + 1) = togIn T xs ys k (togTo T xs ys n m k) m) := rfl
      obtain ⟨l0, HL0⟩ : ∃ l0, Hid (togTo T xs ys n m k = l0) := ⟨_, rfl⟩
      rw [HL0.out] at hr
      have hl0 : Hid (l0.length = n) := by rw [← HL0.out]; exact togTo_len _ _ _ _ _ _
      have HIB : Hid (∀ j, j ≤ m → ∀ p, 0 ≤ nth (togIn T xs ys k l0 j) p ∧ nth (togIn T xs ys k l0 j) p ≤ 16000000000000 * (k : Int) + 1000000000000 * (j : Int)) := fun j hj p => togIn_bd T xs ys k l0 _ m hpx HYB.out (by rw [← HL0.out]; exact HBK.out) j hj p
      go_wp2
      obtain ⟨wo, rfl⟩ : ∃ wo : World, wo = wr := ⟨_, rfl⟩
      go_loopw [10, 11, 27] (fun _ _ i w1 => ∃ j : Nat, j ≤ m ∧ i = .int .i64 j ∧ Row w1 (w.heap.size + 1 + 1) (.slice (some ⟨w.heap.size + 1 + 1, 0, none⟩) n n) (togIn T xs ys k l0 j) ∧ Below (w.heap.size + 1 + 1) w2 w1 ∧ w.heap.size + 1 + 1 < w1.heap.size) (fun _ _ i _ => m - (intOf i).toNat)
      case atStart => exact ⟨0, by omega, rfl, hr, hBr, hzr⟩
      case round =>
        obtain ⟨j, hj, rfl, hr1, hBr1, hzr1⟩ := hrel
        have hB1 : Below w.heap.size w wr := hB2.trans (hBr1.mono (by omega))
        by_cases hjt : j < m
        · obtain ⟨b2, off2, rfl, hbs2, hbs2', hck2⟩ := hy.at hB1 hjt
          have hpy := HYB.out j hjt
          have hTk := HT.out k j hlt hjt
          have hmul := part_mul _ _ hpx.1 hpx.2 hpy.1 hpy.2
          have hbd := HIB.out j hj (T k j)
          have hk16 : (k : Int) ≤ 16 := by omega
          have hj16 : (j : Int) ≤ 16 := by omega
          have HN2 : Hid (togIn T xs ys k l0 (j + 1) = (togIn T xs ys k l0 j).set (T k j) (nth (togIn T xs ys k l0 j) (T k j) + nth xs k * nth ys j)) := rfl
          obtain ⟨hc3, hf3, _⟩ := hr1.cellAt hTk
          obtain ⟨w4, hw4, hr4, hg4⟩ := store_gen hr1 hTk (nth (togIn T xs ys k l0 j) (T k j) + nth xs k * nth ys j)
          have hB4 := hid (belowG hBr1 (by omega) hg4 (Nat.le_refl _))
          have hz4 : w.heap.size + 1 + 1 < w4.heap.size := by have := hg4.size; omega
          have HW := hid hw4
          have hT0 : (0 : Int) ≤ (T k j : Int) := by omega
          have hT1 : ((T k j : Nat) : Int) < (n : Int) := by omega
          clear hw4 hg4
          go_wp2_with fail
          refine (HTO.out k j _ hlt hjt).mono ?_; rintro e w3 ⟨rfl, rfl⟩
          go_wp2
          rw [HW.out]
          go_roundw
          case rel => first | exact ⟨j + 1, by omega, by go_num, by rw [HN2.out]; exact hr4, hB4.out, hz4⟩ | exact ⟨_, ⟨j + 1, by omega, by go_num, by rw [HN2.out]; exact hr4, hB4.out, hz4⟩, rfl⟩ | exact ⟨_, _, ⟨j + 1, by omega, by go_num, by rw [HN2.out]; exact hr4, hB4.out, hz4⟩, rfl, rfl⟩ | exact ⟨_, _, _, ⟨j + 1, by omega, by go_num, by rw [HN2.out]; exact hr4, hB4.out, hz4⟩, rfl, rfl, rfl⟩ | exact ⟨_, _, _, _, ⟨j + 1, by omega, by go_num, by rw [HN2.out]; exact hr4, hB4.out, hz4⟩, rfl, rfl, rfl, rfl⟩ | exact ⟨_, _, _, _, _, ⟨j + 1, by omega, by go_num, by rw [HN2.out]; exact hr4, hB4.out, hz4⟩, rfl, rfl, rfl, rfl, rfl⟩
          case measure => simp [intOf]; omega
        · have hjm : j = m := by omega
          subst hjm
          go_wp2
          go_roundw
          case rel => first | exact ⟨k + 1, by omega, by go_num, by rw [HN.out, HL0.out]; exact hr1, hBr1, hzr1⟩ | exact ⟨_, ⟨k + 1, by omega, by go_num, by rw [HN.out, HL0.out]; exact hr1, hBr1, hzr1⟩, rfl⟩ | exact ⟨_, _, ⟨k + 1, by omega, by go_num, by rw [HN.out, HL0.out]; exact hr1, hBr1, hzr1⟩, rfl, rfl⟩ | exact ⟨_, _, _, ⟨k + 1, by omega, by go_num, by rw [HN.out, HL0.out]; exact hr1, hBr1, hzr1⟩, rfl, rfl, rfl⟩ | exact ⟨_, _, _, _, ⟨k + 1, by omega, by go_num, by rw [HN.out, HL0.out]; exact hr1, hBr1, hzr1⟩, rfl, rfl, rfl, rfl⟩ | exact ⟨_, _, _, _, _, ⟨k + 1, by omega, by go_num, by rw [HN.out, HL0.out]; exact hr1, hBr1, hzr1⟩, rfl, rfl, rfl, rfl, rfl⟩
          case measure => simp [intOf]; omega
    · have hkn : k = n := by omega
      have HK := hid hkn
      clear hkn
      go_wp2
      go_ret
      exact ⟨⟨_, rfl, by rw [← HK.out]; rw [← HK.out] at hr; exact hr.mono (by omega)⟩, hB⟩
theorem conjClos_any (a b : Nat) (w : World) (ha : a < 16) (hb : b < 16) :
    Calls Tryz.prog 86 #[.int .i64 a, .int .i64 b] w fun e w' => e = .returned (.int .i64 ((fun a b => a &&& b) a b : Nat)) ∧ w = w' := by
  have h := and_nat a b (by omega) (by omega)
  go_enter Tryz.func86, Tryz.ntmps86
  go_wp2
  go_ret
  exact ⟨ret_int (by simp [h]), rfl⟩
theorem conjClos_call (vs : Array Value) (w' : World) : Sem.run Tryz.prog (callFunc 86 vs) w' = .ok (.enter 86 vs) w' := by
  have h1 : (Tryz.f86.name == "runtime.NumGoroutine") = false := by kernel_rfl
  have h2 : Tryz.f86.body.isNone = false := by kernel_rfl
  have h1' : ¬ Tryz.f86.name = "runtime.NumGoroutine" := by simpa using h1
  have h2' : ¬ Tryz.f86.body = none := by intro e; rw [e] at h2; simp at h2
  simp only [callFunc, Sem.run_bind, run_program, Result.andThen_ok, Tryz.func86, beq_iff_eq, Option.isNone_iff_eq_none, if_neg h1', if_neg h2', Sem.run_pure]
theorem conjoined_any (s u : Int) (ao bo : Option Addr) (n c m d : Nat) (xs ys : List Int) (w : World) (hx : IntsAt w ao n xs) (hy : IntsAt w bo m ys) (hn : n ≤ 16) (hm : m ≤ n)
    (hxb : ∀ k, k < n → 0 ≤ nth xs k ∧ nth xs k ≤ 1000000) (hyb : ∀ k, k < m → 0 ≤ nth ys k ∧ nth ys k ≤ 1000000) :
    Calls Tryz.prog 37 #[.agg #[.int .i64 s, .slice ao n c], .agg #[.int .i64 u, .slice bo m d]] w fun e w' => (∃ v, e = .returned v ∧ Row w' w.heap.size v (togTo (fun a b => a &&& b) xs ys n m n)) ∧ Below w.heap.size w w' := by
  have hB0 : Below w.heap.size w ((w.alloc (.cells #[.int .i64 s, .slice ao n c] 25)).alloc (.cells #[.int .i64 u, .slice bo m d] 25)) := (below_alloc w _).alloc (by simp) _
  have HXB := hid hxb
  have HYB := hid hyb
  clear hxb hyb
  go_enter Tryz.func37, Tryz.ntmps37
  go_wp2_with fail
  refine (together_any s u _ _ _ _ _ _ xs ys 86 (fun a b => a &&& b) _ (hx.below hB0) (hy.below hB0) hn (by omega) conjClos_call HXB.out HYB.out (fun a b ha hb => Nat.lt_of_le_of_lt Nat.and_le_left ha) (fun a b w' ha hb => conjClos_any a b w' (by omega) (by omega))).mono ?_
  rintro e w1 ⟨⟨v, rfl, hr1⟩, hb1⟩
  have hB1 : Below w.heap.size w w1 := Below.trans (by (repeat (first | exact Below.refl _ _ | assumption | refine Below.alloc ?_ (by simp <;> omega) _ | refine Below.setCell ?_ (by simp <;> omega) _ | refine Below.drew ?_ | refine below_drewN ?_))) (hb1.mono (by simp <;> omega))
  obtain ⟨av, nv, cv, rfl, hv⟩ := hr1.ints
  replace hr1 := hr1.mono (base' := w.heap.size) (by simp <;> omega)
  clear hb1
  go_wp2
  go_ret
  exact ⟨⟨_, rfl, hr1⟩, hB1⟩
set_option maxHeartbeats 2000000 in
theorem ConjoinMasses_any (s u : Int) (ao bo : Option Addr) (n c m d : Nat) (xs ys : List Int) (w : World) (hx : IntsAt w ao n xs) (hy : IntsAt w bo m ys) :
    Calls Tryz.prog 10 #[.agg #[.int .i64 s, .slice ao n c], .agg #[.int .i64 u, .slice bo m d]] w fun e w' => RetM (togM (fun a b => a &&& b) s xs u ys) w.heap.size e w' ∧ Below w.heap.size w w' := by
  have hB0 : Below w.heap.size w (((w.alloc (.cells #[.int .i64 s, .slice ao n c] 25)).alloc (.cells #[.int .i64 u, .slice bo m d] 25)).alloc (.cells #[.int .i64 0, .slice none 0 0] 25)) := ((below_alloc w _).alloc (by simp) _).alloc (by simp <;> omega) _
  cases hq : oneQ s xs u ys
  · have HR := hid (togM_bad (T := fun a b => a &&& b) hq)
    rw [HR.out]
    go_enter Tryz.func10, Tryz.ntmps10
    go_wp2_with fail
    refine (ofOneQuestion_any _ _ _ _ _ _ _ _ _ _ _ (hx.below hB0) (hy.below hB0)).mono ?_; rw [hq]; rintro e w1 ⟨rfl, hb1⟩
    obtain ⟨h10, h11, f20, f21⟩ := boxG (w.heap.size + 1 + 1) hb1 (by simp)
    have hB1 : Below w.heap.size w w1 := Below.trans (by (repeat (first | exact Below.refl _ _ | assumption | refine Below.alloc ?_ (by simp <;> omega) _ | refine Below.setCell ?_ (by simp <;> omega) _ | refine Below.drew ?_ | refine below_drewN ?_))) (hb1.mono (by simp <;> omega))
    clear hb1
    go_wp2
    refine bodyPost_ret (v := .tuple #[.agg #[.int .i64 0, .slice none 0 0], .bool false]) (by simp [results, Tryz.results10, go_sem, h10, h11]) rfl ⟨?_, ?_⟩
    · exact RetM.no _ _
    · (repeat (first | exact Below.refl _ _ | assumption | refine Below.alloc ?_ (by simp <;> omega) _ | refine Below.setCell ?_ (by simp <;> omega) _ | refine Below.drew ?_ | refine below_drewN ?_))
  · obtain ⟨hm1, hm2, hus, hll⟩ := oneQ_facts hq
    have HUS := hid hus; clear hus
    have hxl := hid hx.len
    have hyl := hid hy.len
    have hmn : m = n := by rw [← hxl.out, ← hyl.out]; exact hll
    subst hmn
    obtain ⟨_, _, h16, hxb, _, _, _⟩ := massOk_facts' hm1
    obtain ⟨_, _, _, hyb, _, _, _⟩ := massOk_facts' hm2
    have hsz := nsets_le (massOk_facts' hm1).1
    have hn1 : 1 ≤ m := by have := (massOk_facts' hm1).2.1; have := hxl.out; omega
    have hn16 : m ≤ 16 := by have := hxl.out; omega
    have HXB : Hid (∀ k, k < m → 0 ≤ nth xs k ∧ nth xs k ≤ 1000000) := fun k hk => hxb k (by rw [hxl.out]; exact hk)
    have HYB : Hid (∀ k, k < m → 0 ≤ nth ys k ∧ nth ys k ≤ 1000000) := fun k hk => hyb k (by rw [hyl.out]; exact hk)
    have HB2 : Hid (∀ k, k < m → 0 ≤ nth (togTo (fun a b => a &&& b) xs ys m m m) k ∧ nth (togTo (fun a b => a &&& b) xs ys m m m) k ≤ 4000000000000000000) := fun k _ => by
      have := togTo_bd (fun a b => a &&& b) xs ys m m m hn16 HXB.out HYB.out m (Nat.le_refl _) k; omega
    have HR : Hid (togM (fun a b => a &&& b) s xs u ys = mkMass s (togTo (fun a b => a &&& b) xs ys m m m)) := by rw [Hid]; unfold togM; rw [hq, hxl.out, hyl.out]; rfl
    rw [HR.out]
    clear hll hxb hyb h16
    go_enter Tryz.func10, Tryz.ntmps10
    go_wp2_with fail
    refine (ofOneQuestion_any _ _ _ _ _ _ _ _ _ _ _ (hx.below hB0) (hy.below hB0)).mono ?_; rw [hq]; rintro e w1 ⟨rfl, hb1⟩
    obtain ⟨h10, h11, f20, f21⟩ := boxG (w.heap.size + 1 + 1) hb1 (by simp)
    have hp0 := keep hb1 (a := ⟨w.heap.size, 0, none⟩) (v := .int .i64 s) (by simp)
    have hp1 := keep hb1 (a := ⟨w.heap.size, 1, none⟩) (v := .slice ao m c) (by simp)
    have hq0 := keep hb1 (a := ⟨w.heap.size + 1, 0, none⟩) (v := .int .i64 u) (by simp)
    have hq1 := keep hb1 (a := ⟨w.heap.size + 1, 1, none⟩) (v := .slice bo m d) (by simp)
    have hB1 : Below w.heap.size w w1 := Below.trans (by (repeat (first | exact Below.refl _ _ | assumption | refine Below.alloc ?_ (by simp <;> omega) _ | refine Below.setCell ?_ (by simp <;> omega) _ | refine Below.drew ?_ | refine below_drewN ?_))) (hb1.mono (by simp <;> omega))
    have hz1 : w.heap.size + 1 + 1 < w1.heap.size := by have := World.block_lt_of_cell? w1 _ h10; simpa using this
    clear hb1
    have hne1 : ¬ w.heap.size + 1 + 1 = w.heap.size := by omega
    have hne2 : ¬ w.heap.size = w.heap.size + 1 + 1 := by omega
    go_wp2
    go_region_held3 (fun w' => w'.cell? ⟨w.heap.size, 0, none⟩ = some (.int .i64 s) ∧ w'.cell? ⟨w.heap.size, 1, none⟩ = some (.slice ao m c) ∧ w'.cell? ⟨w.heap.size + 1, 0, none⟩ = some (.int .i64 u) ∧ w'.cell? ⟨w.heap.size + 1, 1, none⟩ = some (.slice bo m d)) (first | (refine ⟨by assumption, by assumption, by assumption, by assumption⟩; done) | (refine ⟨by simp [*], by simp [*], by simp [*], by simp [*]⟩; done) | go_keep) (first | (go_at_call 37; refine (conjoined_any s u _ _ _ _ _ _ xs ys _ ((hx.below hB1).below (drew_below _)) ((hy.below hB1).below (drew_below _)) hn16 (Nat.le_refl _) HXB.out HYB.out).mono ?_; rintro e w2 ⟨⟨v, rfl, hr2⟩, hb2⟩; obtain ⟨av, nv, cv, rfl, hv⟩ := hr2.ints; have hnv : nv = m := (by rw [← hv.len]; exact togTo_len _ _ _ _ _ _); subst hnv; have hB2 := chain (drew_below w1) hb2; have k0 := keep hB2 hp0; have k1 := keep hB2 hp1; have k2 := keep hB2 hq0; have k3 := keep hB2 hq1; have f20 := keepF hB2 h10 f20; have f21 := keepF hB2 h11 f21; have h10 := keep hB2 h10; have h11 := keep hB2 h11) | (go_at_call 43; refine (makeMass_any s _ _ _ _ _ hv hn16 HB2.out).mono ?_; rintro e w3 ⟨⟨v, rfl, hr3⟩, hb3⟩; obtain ⟨ao7, n7, c7, rfl, hi7⟩ := hr3.ints; have hB3 := chain hB2 hb3; have k0 := keep hB3 hp0; have k1 := keep hB3 hp1; have k2 := keep hB3 hq0; have k3 := keep hB3 hq1; have f20 := keepF hb3 h10 f20; have f21 := keepF hb3 h11 f21; have h10 := keep hb3 h10; have h11 := keep hb3 h11))
    all_goals
      have hB7 := chain hB1 hB3
      have hz2 := hB2.size
      go_wp2
      refine bodyPost_ret (by simp [results, Tryz.results10, go_sem, h10, h11]) rfl ⟨⟨_, rfl, ((hr3.setBelow (by simp; omega) _).setBelow (by simp; omega) _).mono (by omega)⟩, ?_⟩
      (repeat (first | exact Below.refl _ _ | assumption | refine Below.alloc ?_ (by simp <;> omega) _ | refine Below.setCell ?_ (by simp <;> omega) _ | refine Below.drew ?_ | refine below_drewN ?_))
set_option maxHeartbeats 2000000 in
theorem l6PartsAnd_any (s u : Int) (ao bo : Option Addr) (n c m d : Nat) (xs ys : List Int) (w : World) (hx : IntsAt w ao n xs) (hy : IntsAt w bo m ys) (hn : n ≤ 16) (hmn : m ≤ n)
    (hxb : ∀ k, k < n → 0 ≤ nth xs k ∧ nth xs k ≤ 1000000) (hyb : ∀ k, k < m → 0 ≤ nth ys k ∧ nth ys k ≤ 1000000) :
    Calls Tryz.prog 40 #[.agg #[.int .i64 s, .slice ao n c], .agg #[.int .i64 u, .slice bo m d], .string ⟨#[97, 110, 100]⟩] w fun e w' => (∃ v, e = .returned v ∧ Row w' w.heap.size v (togTo (fun a b => a &&& b) xs ys n m n)) ∧ Below w.heap.size w w' := by
  have hcap := hx.cap
  have hcapy := hy.cap
  have hm : m ≤ 16 := by omega
  have HXB := hid hxb
  have HYB := hid hyb
  have HBD := hid (togTo_bd (fun a b => a &&& b) xs ys n n m hm hxb hyb)
  clear hxb hyb
  go_enter Tryz.func40, Tryz.ntmps40
  go_wp2_with (at_make; refine wpList_make_ints rfl _ _ rfl n _ _ rfl rfl rfl rfl (by omega) ?_; intro w2 hrow hb2 hz2; (have hp1 := keep hb2 (a := ⟨w.heap.size, 1, none⟩) (v := .slice ao n c) (by simp)); (have hq1 := keep hb2 (a := ⟨w.heap.size + 1, 1, none⟩) (v := .slice bo m d) (by simp)))
  have hB2 : Below w.heap.size w w2 := ((below_alloc w _).alloc (by simp) _).trans (hb2.mono (by simp <;> omega))
  have hrow' : Row w2 (w.heap.size + 1 + 1) (.slice (some ⟨w.heap.size + 1 + 1, 0, none⟩) n n) (List.replicate n 0) := by simpa using hrow
  have hz2' : w.heap.size + 1 + 1 < w2.heap.size := by simpa using hz2
  clear hrow hb2 hz2
  go_loopw [8] (fun i wr => ∃ k : Nat, k ≤ n ∧ i = .int .i64 k ∧ Row wr (w.heap.size + 1 + 1) (.slice (some ⟨w.heap.size + 1 + 1, 0, none⟩) n n) (togTo (fun a b => a &&& b) xs ys n m k) ∧ Below (w.heap.size + 1 + 1) w2 wr ∧ w.heap.size + 1 + 1 < wr.heap.size) (fun i _ => n - (intOf i).toNat)
  case atStart => exact ⟨0, by omega, rfl, hrow', Below.refl _ _, hz2'⟩
  case round =>
    obtain ⟨k, hk, rfl, hr, hBr, hzr⟩ := hrel
    have hB : Below w.heap.size w wr := hB2.trans (hBr.mono (by omega))
    have hp1' := keepB hBr (by omega) hp1
    have hq1' := keepB hBr (by omega) hq1
    by_cases hlt : k < n
    · have hpx := HXB.out k hlt
      have HBK := hid (HBD.out k hk)
      have HN : Hid (togTo (fun a b => a &&& b) xs ys n m (k + 1) = togIn (fun a b => a &&& b) xs ys k (togTo (fun a b => a &&& b) xs ys n m k) m) := rfl
      obtain ⟨l0, HL0⟩ : ∃ l0, Hid (togTo (fun a b => a &&& b) xs ys n m k = l0) := ⟨_, rfl⟩
      rw [HL0.out] at hr
      have hl0 : Hid (l0.length = n) := by rw [← HL0.out]; exact togTo_len _ _ _ _ _ _
      have HIB : Hid (∀ j, j ≤ m → ∀ p, 0 ≤ nth (togIn (fun a b => a &&& b) xs ys k l0 j) p ∧ nth (togIn (fun a b => a &&& b) xs ys k l0 j) p ≤ 16000000000000 * (k : Int) + 1000000000000 * (j : Int)) := fun j hj p => togIn_bd (fun a b => a &&& b) xs ys k l0 _ m hpx HYB.out (by rw [← HL0.out]; exact HBK.out) j hj p
      go_wp2
      obtain ⟨wo, rfl⟩ : ∃ wo : World, wo = wr := ⟨_, rfl⟩
      go_loopw [9] (fun i w1 => ∃ j : Nat, j ≤ m ∧ i = .int .i64 j ∧ Row w1 (w.heap.size + 1 + 1) (.slice (some ⟨w.heap.size + 1 + 1, 0, none⟩) n n) (togIn (fun a b => a &&& b) xs ys k l0 j) ∧ Below (w.heap.size + 1 + 1) w2 w1 ∧ w.heap.size + 1 + 1 < w1.heap.size) (fun i _ => m - (intOf i).toNat)
      case atStart => exact ⟨0, by omega, rfl, hr, hBr, hzr⟩
      case round =>
        obtain ⟨j, hj, rfl, hr1, hBr1, hzr1⟩ := hrel
        have hB1 : Below w.heap.size w wr := hB2.trans (hBr1.mono (by omega))
        have hp2 := keepB hBr1 (by omega) hp1
        have hq2 := keepB hBr1 (by omega) hq1
        by_cases hjt : j < m
        · obtain ⟨b, off, rfl, hbs, hbs', hck⟩ := hx.at hB1 hlt
          obtain ⟨b2, off2, rfl, hbs2, hbs2', hck2⟩ := hy.at hB1 hjt
          have hpy := HYB.out j hjt
          have hop := and_nat k j (by omega) (by omega)
          have hTk : (fun a b => a &&& b) k j < n := Nat.lt_of_le_of_lt Nat.and_le_left hlt
          obtain ⟨t, HTt⟩ : ∃ t : Nat, Hid ((fun a b => a &&& b) k j = t) := ⟨_, rfl⟩
          rw [show (k &&& j : Nat) = t from HTt.out] at hop
          rw [HTt.out] at hTk
          have hmul := part_mul _ _ hpx.1 hpx.2 hpy.1 hpy.2
          have hbd := HIB.out j hj t
          have hk16 : (k : Int) ≤ 16 := by omega
          have hj16 : (j : Int) ≤ 16 := by omega
          have HN2 : Hid (togIn (fun a b => a &&& b) xs ys k l0 (j + 1) = (togIn (fun a b => a &&& b) xs ys k l0 j).set t (nth (togIn (fun a b => a &&& b) xs ys k l0 j) t + nth xs k * nth ys j)) := by rw [← HTt.out]; rfl
          obtain ⟨hc3, hf3, _⟩ := hr1.cellAt hTk
          have hT0 : (0 : Int) ≤ (t : Int) := by omega
          have hT1 : ((t : Nat) : Int) < (n : Int) := by omega
          have hk0' : (0 : Int) ≤ (k : Int) := by omega
          have hk1' : (k : Int) < (n : Int) := by omega
          have hj0' : (0 : Int) ≤ (j : Int) := by omega
          have hj1' : (j : Int) < (m : Int) := by omega
          go_wp2
          refine wp_region_ov_tail 19 (by kernel_rfl) (by kernel_rfl) (fun _ _ _ _ _ h => h) ?_
          simp only [List.take_succ_cons, List.take_zero, List.drop_succ_cons, List.drop_zero]
          repeat (first | go_big_quiet_step ((fail)) | quiet_step ((fail)))
          refine wpQuiet_nil ?_
          intro _ hw_ov
          obtain ⟨x_ov, hw_ov2⟩ := hw_ov
          subst hw_ov2
          obtain ⟨w3, hw_ov3, hb3⟩ := ov_gen _ x_ov
          rw [hw_ov3]
          clear hw_ov3 x_ov
          have hr3 := hr1.below hb3
          replace hf3 := keepF hb3 hc3 hf3
          replace hc3 := keep hb3 hc3
          obtain ⟨w4, hw4, hr4, hg4⟩ := store_gen hr3 hTk (nth (togIn (fun a b => a &&& b) xs ys k l0 j) t + nth xs k * nth ys j)
          have hz3 := hb3.size
          have hB4 := hid (belowG (hBr1.trans (hb3.mono (by omega))) (by omega) hg4 (Nat.le_refl _))
          have hz4 : w.heap.size + 1 + 1 < w4.heap.size := by have := hg4.size; omega
          have HW := hid hw4
          clear hw4 hg4 hr3 hb3
          go_wp2
          rw [HW.out]
          go_roundw
          case rel => first | exact ⟨j + 1, by omega, by go_num, by rw [HN2.out]; exact hr4, hB4.out, hz4⟩ | exact ⟨_, ⟨j + 1, by omega, by go_num, by rw [HN2.out]; exact hr4, hB4.out, hz4⟩, rfl⟩ | exact ⟨_, _, ⟨j + 1, by omega, by go_num, by rw [HN2.out]; exact hr4, hB4.out, hz4⟩, rfl, rfl⟩ | exact ⟨_, _, _, ⟨j + 1, by omega, by go_num, by rw [HN2.out]; exact hr4, hB4.out, hz4⟩, rfl, rfl, rfl⟩ | exact ⟨_, _, _, _, ⟨j + 1, by omega, by go_num, by rw [HN2.out]; exact hr4, hB4.out, hz4⟩, rfl, rfl, rfl, rfl⟩ | exact ⟨_, _, _, _, _, ⟨j + 1, by omega, by go_num, by rw [HN2.out]; exact hr4, hB4.out, hz4⟩, rfl, rfl, rfl, rfl, rfl⟩
          case measure => simp [intOf]; omega
        · have hjm : j = m := by omega
          subst hjm
          go_wp2
          go_roundw
          case rel => first | exact ⟨k + 1, by omega, by go_num, by rw [HN.out, HL0.out]; exact hr1, hBr1, hzr1⟩ | exact ⟨_, ⟨k + 1, by omega, by go_num, by rw [HN.out, HL0.out]; exact hr1, hBr1, hzr1⟩, rfl⟩ | exact ⟨_, _, ⟨k + 1, by omega, by go_num, by rw [HN.out, HL0.out]; exact hr1, hBr1, hzr1⟩, rfl, rfl⟩ | exact ⟨_, _, _, ⟨k + 1, by omega, by go_num, by rw [HN.out, HL0.out]; exact hr1, hBr1, hzr1⟩, rfl, rfl, rfl⟩ | exact ⟨_, _, _, _, ⟨k + 1, by omega, by go_num, by rw [HN.out, HL0.out]; exact hr1, hBr1, hzr1⟩, rfl, rfl, rfl, rfl⟩ | exact ⟨_, _, _, _, _, ⟨k + 1, by omega, by go_num, by rw [HN.out, HL0.out]; exact hr1, hBr1, hzr1⟩, rfl, rfl, rfl, rfl, rfl⟩
          case measure => simp [intOf]; omega
    · have hkn : k = n := by omega
      have HK := hid hkn
      clear hkn
      go_wp2
      go_ret
      exact ⟨⟨_, rfl, by rw [← HK.out]; rw [← HK.out] at hr; exact hr.mono (by omega)⟩, hB⟩
end Go.Proofs.YtefmlbahmakboaaGreatDoor
