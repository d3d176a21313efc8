/- Fractions in lowest terms: lowest, l2Made. -/
import Derived.Test.YtlelnnglpimgjaaGreatDoorL1
set_option linter.unusedSimpArgs false
set_option linter.unusedVariables false
namespace Go.Proofs.YtlelnnglpimgjaaGreatDoor
open Go.RowKit
/-- a fraction and whether there is one -/
structure FR where
  num : Int
  den : Int
  ok : Bool
def FR.no : FR := ⟨0, 0, false⟩
/-- the divisor by which a quotient is brought to lowest terms -/
def redD (num den : Int) : Int := if den < 0 then -(Int.gcd num den : Int) else (Int.gcd num den : Int)
/-- a quotient in lowest terms, if it is valid -/
def redF (num den : Int) : FR := if fracOk (num.tdiv (redD num den)) (den.tdiv (redD num den)) then ⟨num.tdiv (redD num den), den.tdiv (redD num den), true⟩ else FR.no
theorem tdiv_wrap (x d : Int) (h0 : -4000000000000000000 ≤ x) (h1 : x ≤ 4000000000000000000) : IntKind.i64.wrap (x.tdiv d) = x.tdiv d := by
  have h2 : (x.tdiv d).natAbs = x.natAbs / d.natAbs := Int.natAbs_tdiv x d
  have h3 : x.natAbs / d.natAbs ≤ x.natAbs := Nat.div_le_self _ _
  exact IntWalk.i64_in _ (by omega)
theorem gcd_pos_right (a b : Int) (h : b ≠ 0) : 1 ≤ Int.gcd a b := Nat.pos_of_ne_zero fun e => h (Int.gcd_eq_zero_iff.1 e).2
theorem redD_ne (num den : Int) (h : den ≠ 0) : redD num den ≠ 0 := by
  have := gcd_pos_right num den h
  unfold redD; split <;> omega
theorem gcd_bd (a b : Int) (h : b ≠ 0) (h1 : -4000000000000000000 ≤ b) (h2 : b ≤ 4000000000000000000) : (Int.gcd a b : Int) ≤ 4000000000000000000 := by
  have : Int.gcd a b ≤ b.natAbs := Nat.le_of_dvd (by omega) (Nat.gcd_dvd_right _ _)
  omega
set_option maxHeartbeats 1000000 in
theorem lowest_any (num den : Int) (w : World) (hd : den ≠ 0) (hn1 : -4000000000000000000 ≤ num) (hn2 : num ≤ 4000000000000000000) (hd1 : -4000000000000000000 ≤ den) (hd2 : den ≤ 4000000000000000000) :
    Calls Tryz.prog 61 #[.int .i64 num, .int .i64 den] w fun e w' => e = .returned (.tuple #[.agg #[.int .i64 (redF num den).num, .int .i64 (redF num den).den], .bool (redF num den).ok]) ∧ Below w.heap.size w w' := by
  have hg := gcd_pos_right num den hd
  have hg2 := gcd_bd num den hd hd1 hd2
  have hdn := redD_ne num den hd
  have hw1 := tdiv_wrap num (redD num den) hn1 hn2
  have hw2 := tdiv_wrap den (redD num den) hd1 hd2
  obtain ⟨g, HG⟩ : ∃ g : Nat, Hid (Int.gcd num den = g) := ⟨_, rfl⟩
  obtain ⟨q, HQ⟩ : ∃ q : Int, Hid (redD num den = q) := ⟨_, rfl⟩
  rw [HQ.out] at hw1 hw2 hdn
  rw [HG.out] at hg hg2
  obtain ⟨a, HA⟩ : ∃ a : Int, Hid (num.tdiv q = a) := ⟨_, rfl⟩
  obtain ⟨b, HB⟩ : ∃ b : Int, Hid (den.tdiv q = b) := ⟨_, rfl⟩
  have HR : Hid (redF num den = if fracOk a b then ⟨a, b, true⟩ else FR.no) := by show redF num den = _; unfold redF; rw [HQ.out, HA.out, HB.out]
  rw [HA.out] at hw1
  rw [HB.out] at hw2
  have HW1 : Hid (IntKind.i64.wrap (num.tdiv q) = a) := by rw [Hid, HA.out]; exact hw1
  have HW2 : Hid (IntKind.i64.wrap (den.tdiv q) = b) := by rw [Hid, HB.out]; exact hw2
  clear hw1 hw2
  have HDB : Hid (∀ k, k < 2 → -4000000000000000000 ≤ nth [num, den] k ∧ nth [num, den] k ≤ 4000000000000000000) := fun k hk => by
    match k, hk with
    | 0, _ => exact ⟨hn1, hn2⟩
    | 1, _ => exact ⟨hd1, hd2⟩
  by_cases hneg : den < 0
  all_goals
    first
      | (have HQQ : Hid (IntKind.i64.wrap (-(g : Int)) = q) := by rw [Hid, ← HQ.out, ← HG.out]; unfold redD; rw [if_pos hneg]; exact IntWalk.i64_in _ (by rw [HG.out]; omega))
      | (have HQQ : Hid ((g : Int) = q) := by rw [Hid, ← HQ.out, ← HG.out]; unfold redD; rw [if_neg hneg])
    have hqq := HQQ.out
    go_enter Tryz.func61, Tryz.ntmps61
    go_wp2_with fail
    refine (divisorOf_any _ _ _ [num, den] _ (ints_lit _ _ _ _ _ _ (by simp) rfl rfl (by simp)) HDB.out).mono ?_
    rw [gcdL_two, HG.out]; rintro e w1 ⟨rfl, hb1⟩
    have h10 := keep hb1 (a := ⟨w.heap.size, 0, none⟩) (v := .int .i64 0) (by simp)
    have h11 := keep hb1 (a := ⟨w.heap.size, 1, none⟩) (v := .int .i64 0) (by simp)
    have f20 := keepF hb1 (a := ⟨w.heap.size, 0, none⟩) (v := .int .i64 0) (by simp) (by simp)
    have f21 := keepF hb1 (a := ⟨w.heap.size, 1, none⟩) (v := .int .i64 0) (by simp) (by simp)
    have hB1 : Below w.heap.size w w1 := Below.trans (by (repeat (first | exact Below.refl _ _ | assumption | refine Below.alloc ?_ (by simp <;> omega) _ | refine Below.setCell ?_ (by simp <;> omega) _ | refine Below.drew ?_ | refine below_drewN ?_))) (hb1.mono (by simp <;> omega))
    clear hb1
    go_wp2
    have hz1 : w.heap.size < w1.heap.size := by have := World.block_lt_of_cell? w1 _ h10; simpa using this
    clear hqq
    first | rw [HQQ.out] | skip
    have hqa := HW1.out
    have hqb := HW2.out
    go_region_held3 (fun w' => True) (trivial) (fail)
    all_goals
      clear hqa hqb
      go_wp2_with fail
      refine (isFraction_any _ _ _).mono ?_; rintro e w2 ⟨rfl, hb2⟩
      have hp0 := keep hb2 (a := ⟨w1.heap.size, 0, none⟩) (v := .int .i64 a) (by simp)
      have hp1 := keep hb2 (a := ⟨w1.heap.size, 1, none⟩) (v := .int .i64 b) (by simp)
      have hd1 : Below w1.heap.size w1 w2 := Below.trans (by (repeat (first | exact Below.refl _ _ | assumption | refine Below.alloc ?_ (by simp <;> omega) _ | refine Below.setCell ?_ (by simp <;> omega) _ | refine Below.drew ?_ | refine below_drewN ?_))) (hb2.mono (by simp <;> omega))
      replace f20 := keepF hd1 h10 f20
      replace f21 := keepF hd1 h11 f21
      replace h10 := keep hd1 h10
      replace h11 := keep hd1 h11
      have hB2 := chain hB1 hd1
      clear hb2 hd1
      cases hf : fracOk a b
      · go_wp2
        refine bodyPost_ret (v := .tuple #[.agg #[.int .i64 0, .int .i64 0], .bool false]) (by simp [results, Tryz.results61, go_sem, h10, h11]) rfl ⟨by rw [HR.out, hf]; rfl, ?_⟩
        (repeat (first | exact Below.refl _ _ | assumption | refine Below.alloc ?_ (by simp <;> omega) _ | refine Below.setCell ?_ (by simp <;> omega) _ | refine Below.drew ?_ | refine below_drewN ?_))
      · go_wp2
        refine bodyPost_ret (v := .tuple #[.agg #[.int .i64 a, .int .i64 b], .bool true]) (by simp [results, Tryz.results61, go_sem, h10, h11]) rfl ⟨by rw [HR.out, hf]; rfl, ?_⟩
        (repeat (first | exact Below.refl _ _ | assumption | refine Below.alloc ?_ (by simp <;> omega) _ | refine Below.setCell ?_ (by simp <;> omega) _ | refine Below.drew ?_ | refine below_drewN ?_))
set_option maxHeartbeats 1000000 in
theorem l2Made_any (num den : Int) (w : World) (hd : den ≠ 0) (hn1 : -4000000000000000000 ≤ num) (hn2 : num ≤ 4000000000000000000) (hd1 : -4000000000000000000 ≤ den) (hd2 : den ≤ 4000000000000000000) :
    Calls Tryz.prog 124 #[.int .i64 num, .int .i64 den] w fun e w' => e = .returned (.tuple #[.agg #[.int .i64 (redF num den).num, .int .i64 (redF num den).den], .bool (redF num den).ok]) ∧ Below w.heap.size w w' := by
  have hg := gcd_pos_right num den hd
  have hg2 := gcd_bd num den hd hd1 hd2
  have hdn := redD_ne num den hd
  have hw1 := tdiv_wrap num (redD num den) hn1 hn2
  have hw2 := tdiv_wrap den (redD num den) hd1 hd2
  obtain ⟨g, HG⟩ : ∃ g : Nat, Hid (Int.gcd num den = g) := ⟨_, rfl⟩
  obtain ⟨q, HQ⟩ : ∃ q : Int, Hid (redD num den = q) := ⟨_, rfl⟩
  rw [HQ.out] at hw1 hw2 hdn
  rw [HG.out] at hg hg2
  obtain ⟨a, HA⟩ : ∃ a : Int, Hid (num.tdiv q = a) := ⟨_, rfl⟩
  obtain ⟨b, HB⟩ : ∃ b : Int, Hid (den.tdiv q = b) := ⟨_, rfl⟩
  have HR : Hid (redF num den = if fracOk a b then ⟨a, b, true⟩ else FR.no) := by show redF num den = _; unfold redF; rw [HQ.out, HA.out, HB.out]
  rw [HA.out] at hw1
  rw [HB.out] at hw2
  have HW1 : Hid (IntKind.i64.wrap (num.tdiv q) = a) := by rw [Hid, HA.out]; exact hw1
  have HW2 : Hid (IntKind.i64.wrap (den.tdiv q) = b) := by rw [Hid, HB.out]; exact hw2
  clear hw1 hw2
  have HDB : Hid (∀ k, k < 2 → -4000000000000000000 ≤ nth [num, den] k ∧ nth [num, den] k ≤ 4000000000000000000) := fun k hk => by
    match k, hk with
    | 0, _ => exact ⟨hn1, hn2⟩
    | 1, _ => exact ⟨hd1, hd2⟩
  by_cases hneg : den < 0
  all_goals
    first
      | (have HQQ : Hid (IntKind.i64.wrap (-(g : Int)) = q) := by rw [Hid, ← HQ.out, ← HG.out]; unfold redD; rw [if_pos hneg]; exact IntWalk.i64_in _ (by rw [HG.out]; omega))
      | (have HQQ : Hid ((g : Int) = q) := by rw [Hid, ← HQ.out, ← HG.out]; unfold redD; rw [if_neg hneg])
    have hqq := HQQ.out
    go_enter Tryz.func124, Tryz.ntmps124
    go_wp2_with (go_at_call 189; refine (l2Divisor_any _ _ _ ⟨hn1, hn2⟩ ⟨hd1, hd2⟩).mono ?_; rw [HG.out]; rintro e w1 ⟨rfl, rfl⟩)
    have hB1 : Below w.heap.size w (w.alloc (.cells #[.int .i64 0, .int .i64 0] 40)) := below_alloc _ _
    have h10 : (w.alloc (.cells #[.int .i64 0, .int .i64 0] 40)).cell? ⟨w.heap.size, 0, none⟩ = some (.int .i64 0) := by simp
    have h11 : (w.alloc (.cells #[.int .i64 0, .int .i64 0] 40)).cell? ⟨w.heap.size, 1, none⟩ = some (.int .i64 0) := by simp
    have f20 : (w.alloc (.cells #[.int .i64 0, .int .i64 0] 40)).frozen? ⟨w.heap.size, 0, none⟩ = false := by simp
    have f21 : (w.alloc (.cells #[.int .i64 0, .int .i64 0] 40)).frozen? ⟨w.heap.size, 1, none⟩ = false := by simp
    obtain ⟨w1, HW⟩ : ∃ w1, Hid (w.alloc (.cells #[.int .i64 0, .int .i64 0] 40) = w1) := ⟨_, rfl⟩
    rw [HW.out] at hB1 h10 h11 f20 f21
    rw [HW.out]
    have hz1 : w.heap.size < w1.heap.size := by have := World.block_lt_of_cell? w1 _ h10; simpa using this
    clear hqq
    first | rw [HQQ.out] | skip
    have hqa := HW1.out
    have hqb := HW2.out
    go_region_held3 (fun w' => True) (trivial) (fail)
    all_goals
      clear hqa hqb
      go_wp2_with fail
      refine (FractionValid_any _ _ _).mono ?_; rintro e w2 ⟨rfl, hb2⟩
      have hp0 := keep hb2 (a := ⟨w1.heap.size, 0, none⟩) (v := .int .i64 a) (by simp)
      have hp1 := keep hb2 (a := ⟨w1.heap.size, 1, none⟩) (v := .int .i64 b) (by simp)
      have hd1 : Below w1.heap.size w1 w2 := Below.trans (by (repeat (first | exact Below.refl _ _ | assumption | refine Below.alloc ?_ (by simp <;> omega) _ | refine Below.setCell ?_ (by simp <;> omega) _ | refine Below.drew ?_ | refine below_drewN ?_))) (hb2.mono (by simp <;> omega))
      replace f20 := keepF hd1 h10 f20
      replace f21 := keepF hd1 h11 f21
      replace h10 := keep hd1 h10
      replace h11 := keep hd1 h11
      have hB2 := chain hB1 hd1
      clear hb2 hd1
      cases hf : fracOk a b
      · go_wp2
        refine bodyPost_ret (v := .tuple #[.agg #[.int .i64 0, .int .i64 0], .bool false]) (by simp [results, Tryz.results124, go_sem, h10, h11]) rfl ⟨by rw [HR.out, hf]; rfl, ?_⟩
        (repeat (first | exact Below.refl _ _ | assumption | refine Below.alloc ?_ (by simp <;> omega) _ | refine Below.setCell ?_ (by simp <;> omega) _ | refine Below.drew ?_ | refine below_drewN ?_))
      · go_wp2
        refine bodyPost_ret (v := .tuple #[.agg #[.int .i64 a, .int .i64 b], .bool true]) (by simp [results, Tryz.results124, go_sem, h10, h11]) rfl ⟨by rw [HR.out, hf]; rfl, ?_⟩
        (repeat (first | exact Below.refl _ _ | assumption | refine Below.alloc ?_ (by simp <;> omega) _ | refine Below.setCell ?_ (by simp <;> omega) _ | refine Below.drew ?_ | refine below_drewN ?_))
end Go.Proofs.YtlelnnglpimgjaaGreatDoor
