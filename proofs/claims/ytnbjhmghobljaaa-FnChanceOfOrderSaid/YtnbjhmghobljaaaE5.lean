/- Contracts that the laws by draws call: sums over sets (sumOver, impliedPart, ImpliedPart), IsNormal. -/
import Derived.Test.YtnbjhmghobljaaaW3
import Derived.Test.YtnbjhmghobljaaaS2
import Derived.Test.YtnbjhmghobljaaaM1
import Derived.Test.YtnbjhmghobljaaaW6
set_option linter.unusedSimpArgs false
set_option linter.unusedVariables false
namespace Go.Proofs.Ytnbjhmghobljaaa
open Go.RowKit
def predI (p : Nat → Bool) (b : Nat) : Int := if p b then 1 else 0
theorem predI_bd (p : Nat → Bool) (xs : List Int) (n : Nat) (h : ∀ k, k < n → 0 ≤ nth xs k ∧ nth xs k ≤ 1000000) (k : Nat) (hk : k ≤ n) : 0 ≤ dot (predI p) xs k ∧ dot (predI p) xs k ≤ 1000000 * (k : Int) := by
  induction k with
  | zero => exact ⟨Int.le_refl _, by simp [dot, iter]⟩
  | succ k ih =>
    have h1 := ih (by omega)
    have h2 := h k (by omega)
    rw [dot_succ]
    unfold predI
    unfold predI at h1
    push_cast
    split
    · rw [Int.one_mul]; omega
    · rw [Int.zero_mul]; omega
set_option maxHeartbeats 1000000 in
theorem sumOver_any (s : Int) (ao : Option Addr) (n c : Nat) (xs : List Int) (fid : FuncId) (caps : Array Value) (p : Nat → Bool) (w : World) (hx : IntsAt w ao n xs)
    (hcf : ∀ (vs : Array Value) (w' : World), Sem.run Try.prog (callFunc fid vs) w' = .ok (.enter fid vs) w')
    (hto : ∀ (b : Nat) (w' : World), Below w.heap.size w w' → b < n → Calls Try.prog fid (#[.int .i64 b] ++ caps) w' fun e w'' => e = .returned (.bool (p b)) ∧ w' = w'')
    (hn : n ≤ 16) (hxb : ∀ k, k < n → 0 ≤ nth xs k ∧ nth xs k ≤ 1000000) :
    Calls Try.prog 87 #[.agg #[.int .i64 s, .slice ao n c], .func (.func fid) #[] caps] w fun e w' => e = .returned (.int .i64 (dot (predI p) xs n)) ∧ Below w.heap.size w w' := by
  have HTO := hid hto; clear hto
  have HXB := hid hxb
  have HBD := hid (predI_bd p xs n hxb)
  clear hxb
  have hBa := below_alloc w (.cells #[.int .i64 s, .slice ao n c] 25)
  go_enter Try.func87, Try.ntmps87
  go_wp2
  go_loop [5, 6, 7, 11] (fun t _ _ i => ∃ k : Nat, k ≤ n ∧ i = .int .i64 k ∧ t = .int .i64 (dot (predI p) xs k)) (fun _ _ _ i => n - (intOf i).toNat)
  case atStart => exact ⟨0, by omega, rfl, rfl⟩
  case round =>
    obtain ⟨k, hk, rfl, rfl⟩ := hrel
    by_cases hlt : k < n
    · obtain ⟨b, off, rfl, hbs, hbs', hck⟩ := hx.at hBa hlt
      have hp := HXB.out k hlt
      have hs := HBD.out k hk
      have hk16 : (k : Int) ≤ 16 := by omega
      have HN : Hid (dot (predI p) xs (k + 1) = dot (predI p) xs k + (if p k then 1 else 0) * nth xs k) := rfl
      go_wp2_with fail
      refine (HTO.out k _ hBa hlt).mono ?_; rintro e w3 ⟨rfl, rfl⟩
      cases hpk : p k
      · go_wp2
        go_round
        case rel => first | exact ⟨k + 1, by omega, by go_num, by rw [HN.out, hpk]; simp⟩ | exact ⟨_, ⟨k + 1, by omega, by go_num, by rw [HN.out, hpk]; simp⟩, rfl⟩ | exact ⟨_, _, ⟨k + 1, by omega, by go_num, by rw [HN.out, hpk]; simp⟩, rfl, rfl⟩ | exact ⟨_, _, _, ⟨k + 1, by omega, by go_num, by rw [HN.out, hpk]; simp⟩, rfl, rfl, rfl⟩ | exact ⟨_, _, _, _, ⟨k + 1, by omega, by go_num, by rw [HN.out, hpk]; simp⟩, rfl, rfl, rfl, rfl⟩ | exact ⟨_, _, _, _, _, ⟨k + 1, by omega, by go_num, by rw [HN.out, hpk]; simp⟩, rfl, rfl, rfl, rfl, rfl⟩
        case measure => simp [intOf]; omega
      · go_wp2
        go_round
        case rel => first | exact ⟨k + 1, by omega, by go_num, by rw [HN.out, hpk]; simp⟩ | exact ⟨_, ⟨k + 1, by omega, by go_num, by rw [HN.out, hpk]; simp⟩, rfl⟩ | exact ⟨_, _, ⟨k + 1, by omega, by go_num, by rw [HN.out, hpk]; simp⟩, rfl, rfl⟩ | exact ⟨_, _, _, ⟨k + 1, by omega, by go_num, by rw [HN.out, hpk]; simp⟩, rfl, rfl, rfl⟩ | exact ⟨_, _, _, _, ⟨k + 1, by omega, by go_num, by rw [HN.out, hpk]; simp⟩, rfl, rfl, rfl, rfl⟩ | exact ⟨_, _, _, _, _, ⟨k + 1, by omega, by go_num, by rw [HN.out, hpk]; simp⟩, rfl, rfl, rfl, rfl, rfl⟩
        case measure => simp [intOf]; omega
    · have hkn : k = n := by omega
      subst hkn
      go_wp2
      go_ret
      exact ⟨rfl, hBa⟩
theorem andNot_sub : ∀ a b : Fin 16, (bits BinOp.andNot IntKind.i64 ((b.val : Nat) : Int) ((a.val : Nat) : Int) == 0) = decide (b.val &&& a.val = b.val) := by decide +kernel
/-- is set b in set a? -/
def subB (a : Nat) (b : Nat) : Bool := decide (b &&& a = b)
theorem impClos_any (a b B : Nat) (w : World) (ha : a < 16) (hb : b < 16) (hB : w.cell? ⟨B, 0, none⟩ = some (.int .i64 a)) :
    Calls Try.prog 88 #[.int .i64 b, .pointer (some ⟨B, 0, none⟩)] w fun e w' => e = .returned (.bool (subB a b)) ∧ w = w' := by
  have h := andNot_sub ⟨a, ha⟩ ⟨b, hb⟩
  go_enter Try.func88, Try.ntmps88
  go_wp2
  go_ret
  exact ⟨ret_bool (by simp [subB, h]), rfl⟩
theorem impClos_call (vs : Array Value) (w' : World) : Sem.run Try.prog (callFunc 88 vs) w' = .ok (.enter 88 vs) w' := by
  have h1 : (Try.f88.name == "runtime.NumGoroutine") = false := by kernel_rfl
  have h2 : Try.f88.body.isNone = false := by kernel_rfl
  have h1' : ¬ Try.f88.name = "runtime.NumGoroutine" := by simpa using h1
  have h2' : ¬ Try.f88.body = none := by intro e; rw [e] at h2; simp at h2
  simp only [callFunc, Sem.run_bind, run_program, Result.andThen_ok, Try.func88, beq_iff_eq, Option.isNone_iff_eq_none, if_neg h1', if_neg h2', Sem.run_pure]
theorem impliedPart_any (s : Int) (a : Nat) (ao : Option Addr) (n c : Nat) (xs : List Int) (w : World) (hx : IntsAt w ao n xs) (ha : a < 16) (hn : n ≤ 16) (hxb : ∀ k, k < n → 0 ≤ nth xs k ∧ nth xs k ≤ 1000000) :
    Calls Try.prog 43 #[.agg #[.int .i64 s, .slice ao n c], .int .i64 a] w fun e w' => e = .returned (.int .i64 (dot (predI (subB a)) xs n)) ∧ Below w.heap.size w w' := by
  have HXB := hid hxb
  clear hxb
  go_enter Try.func43, Try.ntmps43
  go_wp2_with fail
  refine (sumOver_any s ao n c xs 88 _ (subB a) _ (hx.below (by (repeat (first | exact Below.refl _ _ | assumption | refine Below.alloc ?_ (by first | omega | (simp <;> omega)) _ | refine Below.setCell ?_ (by first | omega | (simp <;> omega)) _ | refine Below.drew ?_ | refine below_drewN ?_)))) impClos_call ?_ hn HXB.out).mono ?_
  · intro b w' hb hlt
    exact impClos_any a b (w.heap.size + 1) w' ha (by omega) (keep hb (a := ⟨w.heap.size + 1, 0, none⟩) (v := .int .i64 a) (by simp))
  rintro e w1 ⟨rfl, hb⟩
  go_wp2
  go_ret
  exact ⟨rfl, Below.trans (by (repeat (first | exact Below.refl _ _ | assumption | refine Below.alloc ?_ (by first | omega | (simp <;> omega)) _ | refine Below.setCell ?_ (by first | omega | (simp <;> omega)) _ | refine Below.drew ?_ | refine below_drewN ?_))) (hb.mono (by simp <;> omega))⟩
theorem ImpliedPart_any (s : Int) (a : Nat) (ao : Option Addr) (n c : Nat) (xs : List Int) (w : World) (hx : IntsAt w ao n xs) (hm : massOk s xs = true) (ha : a < nsets s) :
    Calls Try.prog 10 #[.agg #[.int .i64 s, .slice ao n c], .int .i64 a] w fun e w' => e = .returned (.int .i64 (dot (predI (subB a)) xs n)) ∧ Below w.heap.size w w' := by
  obtain ⟨hs, hl, h16, hb, _⟩ := massOk_facts hm
  have hxl := hx.len
  have hin : inB 0 ((nsets s : Int) - 1) a = true := inB_iff.2 (by omega)
  have HXB : Hid (∀ k, k < n → 0 ≤ nth xs k ∧ nth xs k ≤ 1000000) := fun k hk => hb k (by omega)
  have hn : n ≤ 16 := by omega
  have ha16 : a < 16 := by omega
  clear hb hl h16
  go_enter Try.func10, Try.ntmps10
  go_wp2_with fail
  refine (isMass_any _ _ _ _ xs _ (hx.below (by (repeat (first | exact Below.refl _ _ | assumption | refine Below.alloc ?_ (by first | omega | (simp <;> omega)) _ | refine Below.setCell ?_ (by first | omega | (simp <;> omega)) _ | refine Below.drew ?_ | refine below_drewN ?_))))).mono ?_; rw [hm]; rintro e w1 ⟨rfl, hb⟩
  obtain ⟨h10, h11, hB1⟩ := box2 hb
  clear hb
  go_wp2_with fail
  refine (isSetOf_any s a _ hs).mono ?_; rw [hin]; rintro e w' ⟨rfl, rfl⟩
  go_wp2_with fail
  refine (impliedPart_any s a _ _ _ xs _ (hx.below hB1) ha16 hn HXB.out).mono ?_; rintro e w2 ⟨rfl, hb⟩
  go_wp2
  go_ret
  exact ⟨rfl, chain hB1 hb⟩
theorem iIsNormal_any (s : Int) (ao : Option Addr) (n c : Nat) (xs : List Int) (w : World) (hx : IntsAt w ao n xs) :
    Calls Try.prog 17 #[.agg #[.int .i64 s, .slice ao n c]] w fun e w' => e = .returned (.bool (normalOk s xs)) ∧ Below w.heap.size w w' := by
  go_enter Try.func17, Try.ntmps17
  go_wp2_with fail
  refine (isNormal_any _ _ _ _ xs _ (hx.below (by (repeat (first | exact Below.refl _ _ | assumption | refine Below.alloc ?_ (by first | omega | (simp <;> omega)) _ | refine Below.setCell ?_ (by first | omega | (simp <;> omega)) _ | refine Below.drew ?_ | refine below_drewN ?_))))).mono ?_; rintro e w1 ⟨rfl, hb⟩
  go_wp2
  go_ret
  exact ⟨rfl, Below.trans (by (repeat (first | exact Below.refl _ _ | assumption | refine Below.alloc ?_ (by first | omega | (simp <;> omega)) _ | refine Below.setCell ?_ (by first | omega | (simp <;> omega)) _ | refine Below.drew ?_ | refine below_drewN ?_))) (hb.mono (by simp <;> omega))⟩
end Go.Proofs.Ytnbjhmghobljaaa
