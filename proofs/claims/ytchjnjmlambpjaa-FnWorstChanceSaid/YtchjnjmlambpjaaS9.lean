/- What two masses tell together: ConjoinMasses both. -/
import Derived.Test.YtchjnjmlambpjaaW15
import Derived.Test.YtchjnjmlambpjaaS2
set_option linter.unusedSimpArgs false
set_option linter.unusedVariables false
namespace Go.Proofs.Ytchjnjmlambpjaa
open Go.RowKit
/-- set a of one mass with the first j sets of another one: the products of their parts, each put where T says -/
def togIn (T : Nat → Nat → Nat) (xs ys : List Int) (a : Nat) (l : List Int) (j : Nat) : List Int := iter (fun b l => l.set (T a b) (nth l (T a b) + nth xs a * nth ys b)) l j
def togTo (T : Nat → Nat → Nat) (xs ys : List Int) (N m k : Nat) : List Int := iter (fun a l => togIn T xs ys a l m) (List.replicate N 0) k
theorem togIn_len (T : Nat → Nat → Nat) (xs ys : List Int) (a : Nat) (l : List Int) (j : Nat) : (togIn T xs ys a l j).length = l.length := by
  induction j with
  | zero => rfl
  | succ j ih => show ((togIn T xs ys a l j).set _ _).length = _; rw [List.length_set]; exact ih
theorem togTo_len (T : Nat → Nat → Nat) (xs ys : List Int) (N m k : Nat) : (togTo T xs ys N m k).length = N := by
  induction k with
  | zero => simp [togTo, iter]
  | succ k ih => show (togIn T xs ys k (togTo T xs ys N m k) m).length = N; rw [togIn_len]; exact ih
theorem part_mul (x y : Int) (h0 : 0 ≤ x) (h1 : x ≤ 1000000) (h2 : 0 ≤ y) (h3 : y ≤ 1000000) : 0 ≤ x * y ∧ x * y ≤ 1000000000000 := by
  refine ⟨Int.mul_nonneg h0 h2, ?_⟩
  have := Int.mul_le_mul h1 h3 h2 (by omega)
  omega
theorem togIn_bd (T : Nat → Nat → Nat) (xs ys : List Int) (a : Nat) (l : List Int) (M : Int) (m : Nat) (hx : 0 ≤ nth xs a ∧ nth xs a ≤ 1000000) (hy : ∀ b, b < m → 0 ≤ nth ys b ∧ nth ys b ≤ 1000000) (hl : ∀ p, 0 ≤ nth l p ∧ nth l p ≤ M) (j : Nat) (hj : j ≤ m) (p : Nat) :
    0 ≤ nth (togIn T xs ys a l j) p ∧ nth (togIn T xs ys a l j) p ≤ M + 1000000000000 * (j : Int) := by
  induction j generalizing p with
  | zero => have := hl p; show 0 ≤ nth l p ∧ nth l p ≤ _; omega
  | succ j ih =>
    have h1 := ih (by omega) p
    have h2 := ih (by omega) (T a j)
    have h3 := hy j (by omega)
    have h4 := part_mul _ _ hx.1 hx.2 h3.1 h3.2
    show 0 ≤ nth ((togIn T xs ys a l j).set (T a j) (nth (togIn T xs ys a l j) (T a j) + nth xs a * nth ys j)) p ∧ nth ((togIn T xs ys a l j).set (T a j) (nth (togIn T xs ys a l j) (T a j) + nth xs a * nth ys j)) p ≤ _
    rw [nth_set]
    push_cast
    split <;> omega
theorem togTo_bd (T : Nat → Nat → Nat) (xs ys : List Int) (N n m : Nat) (hm : m ≤ 16) (hx : ∀ a, a < n → 0 ≤ nth xs a ∧ nth xs a ≤ 1000000) (hy : ∀ b, b < m → 0 ≤ nth ys b ∧ nth ys b ≤ 1000000) (k : Nat) (hk : k ≤ n) (p : Nat) :
    0 ≤ nth (togTo T xs ys N m k) p ∧ nth (togTo T xs ys N m k) p ≤ 16000000000000 * (k : Int) := by
  induction k generalizing p with
  | zero => show 0 ≤ nth (List.replicate N 0) p ∧ nth (List.replicate N 0) p ≤ _; rw [nth_replicate]; omega
  | succ k ih =>
    have h1 := togIn_bd T xs ys k (togTo T xs ys N m k) (16000000000000 * (k : Int)) m (hx k (by omega)) hy (fun p => ih (by omega) p) m (Nat.le_refl _) p
    show 0 ≤ nth (togIn T xs ys k (togTo T xs ys N m k) m) p ∧ nth (togIn T xs ys k (togTo T xs ys N m k) m) p ≤ _
    push_cast
    omega
def oneQ (s : Int) (xs : List Int) (u : Int) (ys : List Int) : Bool := massOk s xs && (massOk u ys && (s == u))
/-- what two masses tell together, put where T says -/
def togM (T : Nat → Nat → Nat) (s : Int) (xs : List Int) (u : Int) (ys : List Int) : MR := if oneQ s xs u ys then mkMass s (togTo T xs ys xs.length ys.length xs.length) else MR.no
theorem togM_bad {T : Nat → Nat → Nat} {s : Int} {xs : List Int} {u : Int} {ys : List Int} (h : oneQ s xs u ys = false) : togM T s xs u ys = MR.no := by simp [togM, h]
theorem togM_len (T : Nat → Nat → Nat) (s : Int) (xs : List Int) (u : Int) (ys : List Int) : (togM T s xs u ys).parts.length ≤ 16 := by
  unfold togM; split
  · rename_i h
    simp only [oneQ, Bool.and_eq_true] at h
    have h1 : (mkMass s (togTo T xs ys xs.length ys.length xs.length)).parts.length ≤ (togTo T xs ys xs.length ys.length xs.length).length := by
      unfold mkMass; split
      · simp [MR.no]
      · split <;> simp [MR.no]
    rw [togTo_len] at h1
    have := (massOk_facts' h.1).2.2.1
    omega
  · simp [MR.no]
theorem oneQ_facts {s : Int} {xs : List Int} {u : Int} {ys : List Int} (h : oneQ s xs u ys = true) : massOk s xs = true ∧ massOk u ys = true ∧ u = s ∧ ys.length = xs.length := by
  simp only [oneQ, Bool.and_eq_true, beq_iff_eq] at h
  obtain ⟨h1, h2, h3⟩ := h
  refine ⟨h1, h2, h3.symm, ?_⟩
  rw [(massOk_facts' h1).2.1, (massOk_facts' h2).2.1, h3]
set_option maxHeartbeats 400000 in
theorem ofOneQuestion_any (s u : Int) (ao bo : Option Addr) (n c m d : Nat) (xs ys : List Int) (w : World) (hx : IntsAt w ao n xs) (hy : IntsAt w bo m ys) :
    Calls Try.prog 82 #[.agg #[.int .i64 s, .slice ao n c], .agg #[.int .i64 u, .slice bo m d]] w fun e w' => e = .returned (.bool (oneQ s xs u ys)) ∧ Below w.heap.size w w' := by
  have hB0 : Below w.heap.size w ((w.alloc (.cells #[.int .i64 s, .slice ao n c] 28)).alloc (.cells #[.int .i64 u, .slice bo m d] 28)) := (below_alloc w _).alloc (by simp) _
  cases h1 : massOk s xs
  · go_enter Try.func82, Try.ntmps82
    go_wp2_with fail
    refine (isMass_any _ _ _ _ _ _ (hx.below hB0)).mono ?_; rw [h1]; rintro e w1 ⟨rfl, hb1⟩
    have hB1 : Below w.heap.size w w1 := Below.trans (by (repeat (first | exact Below.refl _ _ | assumption | refine Below.alloc ?_ (by simp <;> omega) _ | refine Below.setCell ?_ (by simp <;> omega) _ | refine Below.drew ?_ | refine below_drewN ?_))) (hb1.mono (by simp <;> omega))
    go_wp2
    go_ret
    exact ⟨ret_bool (by simp [oneQ, h1]), hB1⟩
  · cases h2 : massOk u ys
    all_goals
      go_enter Try.func82, Try.ntmps82
      go_wp2_with fail
      refine (isMass_any _ _ _ _ _ _ (hx.below hB0)).mono ?_; rw [h1]; rintro e w1 ⟨rfl, hb1⟩
      have hp0 := keep hb1 (a := ⟨w.heap.size, 0, none⟩) (v := .int .i64 s) (by simp)
      have hp1 := keep hb1 (a := ⟨w.heap.size, 1, none⟩) (v := .slice ao n c) (by simp)
      have hq0 := keep hb1 (a := ⟨w.heap.size + 1, 0, none⟩) (v := .int .i64 u) (by simp)
      have hq1 := keep hb1 (a := ⟨w.heap.size + 1, 1, none⟩) (v := .slice bo m d) (by simp)
      have hB1 : Below w.heap.size w w1 := Below.trans (by (repeat (first | exact Below.refl _ _ | assumption | refine Below.alloc ?_ (by simp <;> omega) _ | refine Below.setCell ?_ (by simp <;> omega) _ | refine Below.drew ?_ | refine below_drewN ?_))) (hb1.mono (by simp <;> omega))
      clear hb1
      go_wp2_with fail
      refine (isMass_any _ _ _ _ _ _ (hy.below hB1)).mono ?_; rw [h2]; rintro e w2 ⟨rfl, hb2⟩
      replace hp0 := keep hb2 hp0
      replace hp1 := keep hb2 hp1
      replace hq0 := keep hb2 hq0
      replace hq1 := keep hb2 hq1
      have hB2 := chain hB1 hb2
      clear hb2
    · go_wp2
      go_ret
      exact ⟨ret_bool (by simp [oneQ, h2]), hB2⟩
    · go_wp2
      go_ret
      exact ⟨ret_bool (by simp [oneQ, h1, h2]), hB2⟩
end Go.Proofs.Ytchjnjmlambpjaa
