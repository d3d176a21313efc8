/- Contracts that the laws by draws call: sums over sets (sumOver, impliedPart, ImpliedPart), IsNormal. Plain: least means of sums. No program in sight. Plain: what corners are: sums by a corner. No program in sight. Plain: beliefs by corners; one corner. No program in sight. -/
import Derived.Test.YtefmlbahmakboaaGreatDoorW3
import Derived.Test.YtefmlbahmakboaaGreatDoorS2
import Derived.Test.YtefmlbahmakboaaGreatDoorM1
import Derived.Test.YtefmlbahmakboaaGreatDoorW6
import Derived.Test.YtefmlbahmakboaaGreatDoorW22
import Derived.Test.YtefmlbahmakboaaGreatDoorM2
set_option linter.unusedSimpArgs false
set_option linter.unusedVariables false
namespace Go.Proofs.YtefmlbahmakboaaGreatDoor
open Go.RowKit
def predI (p : Nat → Bool) (b : Nat) : Int := if p b then 1 else 0
theorem predI_bd (p : Nat → Bool) (xs : List Int) (n : Nat) (h : ∀ k, k < n → 0 ≤ nth xs k ∧ nth xs k ≤ 1000000) (k : Nat) (hk : k ≤ n) : 0 ≤ dot (predI p) xs k ∧ dot (predI p) xs k ≤ 1000000 * (k : Int) := by
  induction k with
  | zero => exact ⟨Int.le_refl _, by simp [dot, iter]⟩
  | succ k ih =>
    have h1 := ih (by omega)
    have h2 := h k (by omega)
    rw [dot_succ]
    unfold predI
    unfold predI at h1
    push_cast
    split
    · rw [Int.one_mul]; omega
    · rw [Int.zero_mul]; omega
set_option maxHeartbeats 1000000 in
theorem sumOver_any (s : Int) (ao : Option Addr) (n c : Nat) (xs : List Int) (fid : FuncId) (caps : Array Value) (p : Nat → Bool) (w : World) (hx : IntsAt w ao n xs)
    (hcf : ∀ (vs : Array Value) (w' : World), Sem.run Tryz.prog (callFunc fid vs) w' = .ok (.enter fid vs) w')
    (hto : ∀ (b : Nat) (w' : World), Below w.heap.size w w' → b < n → Calls Tryz.prog fid (#[.int .i64 b] ++ caps) w' fun e w'' => e = .returned (.bool (p b)) ∧ w' = w'')
    (hn : n ≤ 16) (hxb : ∀ k, k < n → 0 ≤ nth xs k ∧ nth xs k ≤ 1000000) :
    Calls Tryz.prog 140 #[.agg #[.int .i64 s, .slice ao n c], .func (.func fid) #[] caps] w fun e w' => e = .returned (.int .i64 (dot (predI p) xs n)) ∧ Below w.heap.size w w' := by
  have HTO := hid hto; clear hto
  have HXB := hid hxb
  have HBD := hid (predI_bd p xs n hxb)
  clear hxb
  have hBa := below_alloc w (.cells #[.int .i64 s, .slice ao n c] 25)
  go_enter Tryz.func140, Tryz.ntmps140
  go_wp2
  go_loop [5, 6, 7, 11] (fun t _ _ i => ∃ k : Nat, k ≤ n ∧ i = .int .i64 k ∧ t = .int .i64 (dot (predI p) xs k)) (fun _ _ _ i => n - (intOf i).toNat)
  case atStart => exact ⟨0, by omega, rfl, rfl⟩
  case round =>
    obtain ⟨k, hk, rfl, rfl⟩ := hrel
    by_cases hlt : k < n
    · obtain ⟨b, off, rfl, hbs, hbs', hck⟩ := hx.at hBa hlt
      have hp := HXB.out k hlt
      have hs := HBD.out k hk
      have hk16 : (k : Int) ≤ 16 := by omega
      have HN : Hid (dot (predI p) xs (k + 1) = dot (predI p) xs k + (if p k then 1 else 0) * nth xs k) := rfl
      go_wp2_with fail
      refine (HTO.out k _ hBa hlt).mono ?_; rintro e w3 ⟨rfl, rfl⟩
      cases hpk : p k
      · go_wp2
        go_round
        case rel => first | exact ⟨k + 1, by omega, by go_num, by rw [HN.out, hpk]; simp⟩ | exact ⟨_, ⟨k + 1, by omega, by go_num, by rw [HN.out, hpk]; simp⟩, rfl⟩ | exact ⟨_, _, ⟨k + 1, by omega, by go_num, by rw [HN.out, hpk]; simp⟩, rfl, rfl⟩ | exact ⟨_, _, _, ⟨k + 1, by omega, by go_num, by rw [HN.out, hpk]; simp⟩, rfl, rfl, rfl⟩ | exact ⟨_, _, _, _, ⟨k + 1, by omega, by go_num, by rw [HN.out, hpk]; simp⟩, rfl, rfl, rfl, rfl⟩ | exact ⟨_, _, _, _, _, ⟨k + 1, by omega, by go_num, by rw [HN.out, hpk]; simp⟩, rfl, rfl, rfl, rfl, rfl⟩
        case measure => simp [intOf]; omega
      · go_wp2
        go_round
        case rel => first | exact ⟨k + 1, by omega, by go_num, by rw [HN.out, hpk]; simp⟩ | exact ⟨_, ⟨k + 1, by omega, by go_num, by rw [HN.out, hpk]; simp⟩, rfl⟩ | exact ⟨_, _, ⟨k + 1, by omega, by go_num, by rw [HN.out, hpk]; simp⟩, rfl, rfl⟩ | exact ⟨_, _, _, ⟨k + 1, by omega, by go_num, by rw [HN.out, hpk]; simp⟩, rfl, rfl, rfl⟩ | exact ⟨_, _, _, _, ⟨k + 1, by omega, by go_num, by rw [HN.out, hpk]; simp⟩, rfl, rfl, rfl, rfl⟩ | exact ⟨_, _, _, _, _, ⟨k + 1, by omega, by go_num, by rw [HN.out, hpk]; simp⟩, rfl, rfl, rfl, rfl, rfl⟩
        case measure => simp [intOf]; omega
    · have hkn : k = n := by omega
      subst hkn
      go_wp2
      go_ret
      exact ⟨rfl, hBa⟩
theorem andNot_sub : ∀ a b : Fin 16, (bits BinOp.andNot IntKind.i64 ((b.val : Nat) : Int) ((a.val : Nat) : Int) == 0) = decide (b.val &&& a.val = b.val) := by decide +kernel
/-- is set b in set a? -/
def subB (a : Nat) (b : Nat) : Bool := decide (b &&& a = b)
theorem impClos_any (a b B : Nat) (w : World) (ha : a < 16) (hb : b < 16) (hB : w.cell? ⟨B, 0, none⟩ = some (.int .i64 a)) :
    Calls Tryz.prog 250 #[.int .i64 b, .pointer (some ⟨B, 0, none⟩)] w fun e w' => e = .returned (.bool (subB a b)) ∧ w = w' := by
  have h := andNot_sub ⟨a, ha⟩ ⟨b, hb⟩
  go_enter Tryz.func250, Tryz.ntmps250
  go_wp2
  go_ret
  exact ⟨ret_bool (by simp [subB, h]), rfl⟩
theorem impClos_call (vs : Array Value) (w' : World) : Sem.run Tryz.prog (callFunc 250 vs) w' = .ok (.enter 250 vs) w' := by
  have h1 : (Tryz.f250.name == "runtime.NumGoroutine") = false := by kernel_rfl
  have h2 : Tryz.f250.body.isNone = false := by kernel_rfl
  have h1' : ¬ Tryz.f250.name = "runtime.NumGoroutine" := by simpa using h1
  have h2' : ¬ Tryz.f250.body = none := by intro e; rw [e] at h2; simp at h2
  simp only [callFunc, Sem.run_bind, run_program, Result.andThen_ok, Tryz.func250, beq_iff_eq, Option.isNone_iff_eq_none, if_neg h1', if_neg h2', Sem.run_pure]
theorem impliedPart_any (s : Int) (a : Nat) (ao : Option Addr) (n c : Nat) (xs : List Int) (w : World) (hx : IntsAt w ao n xs) (ha : a < 16) (hn : n ≤ 16) (hxb : ∀ k, k < n → 0 ≤ nth xs k ∧ nth xs k ≤ 1000000) :
    Calls Tryz.prog 213 #[.agg #[.int .i64 s, .slice ao n c], .int .i64 a] w fun e w' => e = .returned (.int .i64 (dot (predI (subB a)) xs n)) ∧ Below w.heap.size w w' := by
  have HXB := hid hxb
  clear hxb
  go_enter Tryz.func213, Tryz.ntmps213
  go_wp2_with fail
  refine (sumOver_any s ao n c xs 250 _ (subB a) _ (hx.below (by (repeat (first | exact Below.refl _ _ | assumption | refine Below.alloc ?_ (by first | omega | (simp <;> omega)) _ | refine Below.setCell ?_ (by first | omega | (simp <;> omega)) _ | refine Below.drew ?_ | refine below_drewN ?_)))) impClos_call ?_ hn HXB.out).mono ?_
  · intro b w' hb hlt
    exact impClos_any a b (w.heap.size + 1) w' ha (by omega) (keep hb (a := ⟨w.heap.size + 1, 0, none⟩) (v := .int .i64 a) (by simp))
  rintro e w1 ⟨rfl, hb⟩
  go_wp2
  go_ret
  exact ⟨rfl, Below.trans (by (repeat (first | exact Below.refl _ _ | assumption | refine Below.alloc ?_ (by first | omega | (simp <;> omega)) _ | refine Below.setCell ?_ (by first | omega | (simp <;> omega)) _ | refine Below.drew ?_ | refine below_drewN ?_))) (hb.mono (by simp <;> omega))⟩
theorem ImpliedPart_any (s : Int) (a : Nat) (ao : Option Addr) (n c : Nat) (xs : List Int) (w : World) (hx : IntsAt w ao n xs) (hm : massOk s xs = true) (ha : a < nsets s) :
    Calls Tryz.prog 160 #[.agg #[.int .i64 s, .slice ao n c], .int .i64 a] w fun e w' => e = .returned (.int .i64 (dot (predI (subB a)) xs n)) ∧ Below w.heap.size w w' := by
  obtain ⟨hs, hl, h16, hb, _⟩ := massOk_facts hm
  have hxl := hx.len
  have hin : inB 0 ((nsets s : Int) - 1) a = true := inB_iff.2 (by omega)
  have HXB : Hid (∀ k, k < n → 0 ≤ nth xs k ∧ nth xs k ≤ 1000000) := fun k hk => hb k (by omega)
  have hn : n ≤ 16 := by omega
  have ha16 : a < 16 := by omega
  clear hb hl h16
  go_enter Tryz.func160, Tryz.ntmps160
  go_wp2_with fail
  refine (isMass_any _ _ _ _ xs _ (hx.below (by (repeat (first | exact Below.refl _ _ | assumption | refine Below.alloc ?_ (by first | omega | (simp <;> omega)) _ | refine Below.setCell ?_ (by first | omega | (simp <;> omega)) _ | refine Below.drew ?_ | refine below_drewN ?_))))).mono ?_; rw [hm]; rintro e w1 ⟨rfl, hb⟩
  obtain ⟨h10, h11, hB1⟩ := box2 hb
  clear hb
  go_wp2_with fail
  refine (isSetOf_any s a _ hs).mono ?_; rw [hin]; rintro e w' ⟨rfl, rfl⟩
  go_wp2_with fail
  refine (impliedPart_any s a _ _ _ xs _ (hx.below hB1) ha16 hn HXB.out).mono ?_; rintro e w2 ⟨rfl, hb⟩
  go_wp2
  go_ret
  exact ⟨rfl, chain hB1 hb⟩
theorem isum_ofl {xs : List Int} {N : Nat} (hl : xs.length = N) : isum xs = dot (fun _ => 1) xs N := by rw [isum_dot, hl]
/-- a list whose first k places are filled -/
def fillTo (f : Nat → Int) (N k : Nat) : List Int := iter (fun x l => l.set x (f x)) (List.replicate N 0) k
theorem fillTo_succ (f : Nat → Int) (N k : Nat) : fillTo f N (k + 1) = (fillTo f N k).set k (f k) := rfl
theorem fillTo_len (f : Nat → Int) (N k : Nat) : (fillTo f N k).length = N := by
  induction k with
  | zero => simp [fillTo, iter]
  | succ k ih => rw [fillTo_succ, List.length_set, ih]
theorem fillTo_nth (f : Nat → Int) (N k : Nat) (hk : k ≤ N) (x : Nat) (hx : x < k) : nth (fillTo f N k) x = f x := by
  induction k with
  | zero => omega
  | succ k ih =>
    rw [fillTo_succ, nth_set, fillTo_len]
    by_cases e : k = x
    · subst e; rw [if_pos ⟨rfl, by omega⟩]
    · rw [if_neg (fun h => e h.1)]; exact ih (by omega) (by omega)
theorem lowF_succ (M : Int) (gs : List Int) (a k : Nat) : lowF M gs a (k + 1) = if hasB a k then min (lowF M gs a k) (nth gs k) else lowF M gs a k := rfl
theorem lowF_le (M : Int) (gs : List Int) (a k x : Nat) (hx : x < k) (h : hasB a x = true) : lowF M gs a k ≤ nth gs x := by
  induction k with
  | zero => omega
  | succ k ih =>
    rw [lowF_succ]
    by_cases e : x = k
    · subst e; rw [if_pos h]; omega
    · have := ih (by omega)
      split <;> omega
theorem lowF_cap (M : Int) (gs : List Int) (a k : Nat) : lowF M gs a k ≤ M := by
  induction k with
  | zero => exact Int.le_refl _
  | succ k ih => rw [lowF_succ]; split <;> omega
theorem lowF_at (M : Int) (gs : List Int) (a k : Nat) (hM : ∀ x, x < k → nth gs x ≤ M) (h : ∃ x, x < k ∧ hasB a x = true) : ∃ x, x < k ∧ hasB a x = true ∧ lowF M gs a k = nth gs x := by
  induction k with
  | zero => obtain ⟨x, hx, _⟩ := h; omega
  | succ k ih =>
    rw [lowF_succ]
    by_cases hk : hasB a k = true
    · rw [if_pos hk]
      by_cases hp : ∃ x, x < k ∧ hasB a x = true
      · obtain ⟨x, hx, hx2, e⟩ := ih (fun x hx => hM x (by omega)) hp
        rw [e]
        by_cases hle : nth gs x ≤ nth gs k
        · exact ⟨x, by omega, hx2, by omega⟩
        · exact ⟨k, by omega, hk, by omega⟩
      · have e : lowF M gs a k = M := by
          have : ∀ j, j ≤ k → lowF M gs a j = M := by
            intro j
            induction j with
            | zero => intro _; rfl
            | succ j ihj =>
              intro hj
              rw [lowF_succ, ihj (by omega), if_neg]
              intro hb; exact hp ⟨j, by omega, hb⟩
          exact this k (Nat.le_refl _)
        rw [e]
        exact ⟨k, by omega, hk, by have := hM k (by omega); omega⟩
    · rw [if_neg hk]
      obtain ⟨x, hx, hx2⟩ := h
      have hxk : x ≠ k := by rintro rfl; exact hk hx2
      obtain ⟨y, hy, hy2, e⟩ := ih (fun x hx => hM x (by omega)) ⟨x, by omega, hx2⟩
      exact ⟨y, by omega, hy2, e⟩
theorem sumF_dot (M : Int) (xs gs : List Int) (k : Nat) : sumF M xs gs k = dot (fun a => lowF M gs a gs.length) xs k := by
  induction k with
  | zero => rfl
  | succ k ih =>
    rw [dot_succ, ← ih]
    show sumF M xs gs k + nth xs k * lowF M gs k gs.length = _
    rw [Int.mul_comm]
theorem hasB_some : ∀ m : Fin 5, ∀ a : Fin (2 ^ m.val), a.val ≠ 0 → ∃ x : Fin m.val, hasB a.val x.val = true := by decide
/-- the sums of least gains: between bounds, more for more gains, and of sums at least the sums -/
theorem mg_some {s : Int} {n m : Nat} {xs gs : List Int} (h : MG s n m xs gs) {a : Nat} (ha : a < n) (h0 : a ≠ 0) : ∃ x, x < m ∧ hasB a x = true := by
  have := h.m4
  obtain ⟨x, hx⟩ := hasB_some ⟨m, by omega⟩ ⟨a, by have h2 := h.pow; rw [h2] at ha; exact ha⟩ h0
  exact ⟨x.val, x.isLt, hx⟩
theorem sum_bd {s : Int} {n m : Nat} {xs gs : List Int} (h : MG s n m xs gs) : -1000 * isum xs ≤ sumF 1000 xs gs n ∧ sumF 1000 xs gs n ≤ 1000 * isum xs := by
  have hl := h.glen
  rw [sumF_dot, isum_ofl h.xlen, ← dot_lin, ← dot_lin]
  constructor
  · refine dot_mono xs n (fun j hj => (h.xb j hj).1) fun j hj hne => ?_
    have hj0 : j ≠ 0 := by rintro rfl; exact hne h.zero
    obtain ⟨x, hx, hx2, e⟩ := lowF_at 1000 gs j m (fun x hx => (h.gb1 x hx).2) (mg_some h hj hj0)
    rw [hl, e]; have := (h.gb1 x hx).1; omega
  · refine dot_mono xs n (fun j hj => (h.xb j hj).1) fun j hj hne => ?_
    have := lowF_cap 1000 gs j gs.length; omega
theorem sum_super {s : Int} {n m : Nat} {xs gs ps us : List Int} (h : MG s n m xs gs) (k : MG s n m xs ps) (u : MG s n m xs us) (e : ∀ x, x < m → nth us x = nth gs x + nth ps x) : sumF 1000 xs gs n + sumF 1000 xs ps n ≤ sumF 1000 xs us n := by
  rw [sumF_dot, sumF_dot, sumF_dot, ← dot_add]
  refine dot_mono xs n (fun j hj => (h.xb j hj).1) fun j hj hne => ?_
  have hj0 : j ≠ 0 := by rintro rfl; exact hne h.zero
  obtain ⟨x, hx, hx2, e2⟩ := lowF_at 1000 us j m (fun x hx => (u.gb1 x hx).2) (mg_some h hj hj0)
  rw [u.glen, e2, e x hx, h.glen, k.glen]
  have h1 := lowF_le 1000 gs j m x hx hx2
  have h2 := lowF_le 1000 ps j m x hx hx2
  omega
theorem sum_more {s : Int} {n m : Nat} {xs gs us : List Int} (h : MG s n m xs gs) (u : MG s n m xs us) (e : ∀ x, x < m → nth gs x ≤ nth us x) : sumF 1000 xs gs n ≤ sumF 1000 xs us n := by
  rw [sumF_dot, sumF_dot]
  refine dot_mono xs n (fun j hj => (h.xb j hj).1) fun j hj hne => ?_
  have hj0 : j ≠ 0 := by rintro rfl; exact hne h.zero
  obtain ⟨x, hx, hx2, e2⟩ := lowF_at 1000 us j m (fun x hx => (u.gb1 x hx).2) (mg_some h hj hj0)
  rw [u.glen, e2, h.glen]
  have h1 := lowF_le 1000 gs j m x hx hx2
  have h2 := e x hx
  omega
/-- a least mean: there is one -/
theorem mean_ok {s : Int} {xs gs : List Int} (hn : normalOk s xs = true) (hg : gainsOk s gs = true) : meanM s xs gs = redF (sumF 1000 xs gs xs.length) (isum xs) ∧ (redF (sumF 1000 xs gs xs.length) (isum xs)).ok = true ∧ 1 ≤ isum xs ∧ isum xs ≤ 1000000 ∧ MG s xs.length gs.length xs gs := by
  obtain ⟨hm, h0⟩ := norm_facts hn
  have hG := mg_of hm h0 hg rfl rfl
  obtain ⟨_, _, _, _, s1, s2, _⟩ := massOk_facts hm
  have hb := sum_bd hG
  refine ⟨by unfold meanM; rw [hn, hg]; rfl, redF_ok (by omega) (by omega) (by omega) (by omega), s1, s2, hG⟩
theorem meanH_ok {s : Int} {xs gs : List Int} (h : (meanH s xs gs).ok = true) : normalOk s xs = true ∧ gainsOk s gs = true := by
  unfold meanH at h
  split at h
  · rename_i h1; rw [Bool.and_eq_true] at h1; exact h1
  · cases h
theorem redF_sum {n w a : Int} (hw : 1 ≤ w) (h1 : (redF n w).ok = true) (h2 : (redF a w).ok = true) : redF ((redF n w).num * (redF a w).den + (redF a w).num * (redF n w).den) ((redF n w).den * (redF a w).den) = redF (n + a) w := by
  obtain ⟨c1, d1, _⟩ := redF_cross (by omega) h1
  obtain ⟨c2, d2, _⟩ := redF_cross (by omega) h2
  generalize (redF n w).num = p at *
  generalize (redF n w).den = q at *
  generalize (redF a w).num = r at *
  generalize (redF a w).den = t at *
  refine redF_eq (Int.mul_pos d1 d2) (by omega) ?_
  have e1 : p * t * w = n * (q * t) := by rw [Int.mul_right_comm, c1, Int.mul_assoc]
  have e2 : r * q * w = a * (q * t) := by rw [Int.mul_right_comm, c2, Int.mul_assoc, Int.mul_comm t q]
  rw [Int.add_mul, Int.add_mul, e1, e2]
/-- the law: of sums at least the sum, and no less with more -/
theorem together_law {s : Int} {xs gs ps us : List Int} (hn : normalOk s xs = true) (hg : gainsOk s gs = true) (hp : gainsOk s ps = true) (hu : gainsOk s us = true) (e : ∀ x, x < gs.length → nth us x = nth gs x + nth ps x) (h0 : ∀ x, x < gs.length → 0 ≤ nth ps x) :
    ((addF (meanM s xs gs).num (meanM s xs gs).den (meanM s xs ps).num (meanM s xs ps).den).ok = true → lessF (meanM s xs us).num (meanM s xs us).den (addF (meanM s xs gs).num (meanM s xs gs).den (meanM s xs ps).num (meanM s xs ps).den).num (addF (meanM s xs gs).num (meanM s xs gs).den (meanM s xs ps).num (meanM s xs ps).den).den = false) ∧
    lessF (meanM s xs us).num (meanM s xs us).den (meanM s xs gs).num (meanM s xs gs).den = false := by
  obtain ⟨g1, g2, s1, s2, G⟩ := mean_ok hn hg
  obtain ⟨p1, p2, _, _, K⟩ := mean_ok hn hp
  obtain ⟨u1, u2, _, _, U⟩ := mean_ok hn hu
  have hlp : ps.length = gs.length := by have h1 := (gainsOk_facts hp).1; have h2 := (gainsOk_facts hg).1; omega
  have hlu : us.length = gs.length := by have h1 := (gainsOk_facts hu).1; have h2 := (gainsOk_facts hg).1; omega
  rw [hlp] at K
  rw [hlu] at U
  have hS := sum_super G K U e
  have hM := sum_more G U (fun x hx => by rw [e x hx]; have := h0 x hx; omega)
  rw [g1, p1, u1]
  have hv1 := (redF_cross (by omega) g2).2.2
  have hv2 := (redF_cross (by omega) p2).2.2
  have ha : addF (redF (sumF 1000 xs gs xs.length) (isum xs)).num (redF (sumF 1000 xs gs xs.length) (isum xs)).den (redF (sumF 1000 xs ps xs.length) (isum xs)).num (redF (sumF 1000 xs ps xs.length) (isum xs)).den = redF (sumF 1000 xs gs xs.length + sumF 1000 xs ps xs.length) (isum xs) := by
    unfold addF
    rw [hv1, hv2]
    exact redF_sum s1 g2 p2
  rw [ha]
  constructor
  · intro ho
    rw [lessF_red (by omega) (by omega) u2 ho]
    rw [decide_eq_false_iff_not]
    intro hlt
    have := Int.lt_of_mul_lt_mul_right hlt (by omega)
    omega
  · rw [lessF_red (by omega) (by omega) u2 g2]
    rw [decide_eq_false_iff_not]
    intro hlt
    have := Int.lt_of_mul_lt_mul_right hlt (by omega)
    omega
theorem argTo_succ (f : Nat → Int) (n : Nat) : argTo f (n + 1) = if f (argTo f n) < f n then n else argTo f n := rfl
theorem argTo_max (f : Nat → Int) (n k : Nat) (hk : k < n) : f k ≤ f (argTo f n) := by
  induction n with
  | zero => omega
  | succ n ih =>
    rw [argTo_succ]
    by_cases e : k = n
    · subst e; split
      · exact Int.le_refl _
      · omega
    · have h1 := ih (by omega)
      split
      · omega
      · exact h1
theorem argTo_first (f : Nat → Int) (n k : Nat) (hk : k < argTo f n) : f k < f (argTo f n) := by
  induction n with
  | zero => exact absurd hk (by show ¬ k < 0; omega)
  | succ n ih =>
    rw [argTo_succ] at hk ⊢
    split
    · rename_i h
      rw [if_pos h] at hk
      have := argTo_max f n k hk
      omega
    · rename_i h
      rw [if_neg h] at hk
      exact ih hk
theorem argTo_scale (f : Nat → Int) (c : Int) (hc : 0 < c) (n : Nat) : argTo (fun k => c * f k) n = argTo f n := by
  induction n with
  | zero => rfl
  | succ n ih =>
    rw [argTo_succ, argTo_succ, ih]
    by_cases h : f (argTo f n) < f n
    · rw [if_pos h, if_pos (Int.mul_lt_mul_of_pos_left h hc)]
    · rw [if_neg h, if_neg (fun h2 => h (Int.lt_of_mul_lt_mul_left h2 (by omega)))]
theorem MG.turned {s : Int} {n m : Nat} {xs gs : List Int} (h : MG s n m xs gs) : MG s n m xs (negTo gs m) :=
  ⟨h.n16, h.n1, h.m4, h.m1, h.pow, h.xlen, negTo_len _ _, h.zero, h.xb, fun k hk => by rw [negTo_nth _ _ _ hk]; have := h.gb1 k hk; unfold inG; omega, fun k hk => by rw [negTo_nth _ _ _ hk]; have := h.gb1 k hk; omega⟩
theorem sum_over {s : Int} {n m : Nat} {xs gs us ds : List Int} (h : MG s n m xs gs) (u : MG s n m xs us) (hd : ds.length = m) (e : ∀ x, x < m → nth us x = nth gs x + nth ds x) : lowSumTo xs ds n + sumF 1000 xs gs n ≤ sumF 1000 xs us n := by
  have hl : lowSumTo xs ds n = sumF 2000 xs ds n := rfl
  rw [hl, sumF_dot, sumF_dot, sumF_dot, ← dot_add]
  refine dot_mono xs n (fun j hj => (h.xb j hj).1) fun j hj hne => ?_
  have hj0 : j ≠ 0 := by rintro rfl; exact hne h.zero
  obtain ⟨x, hx, hx2, e2⟩ := lowF_at 1000 us j m (fun x hx => (u.gb1 x hx).2) (mg_some h hj hj0)
  rw [u.glen, e2, e x hx, h.glen, hd]
  have h1 := lowF_le 1000 gs j m x hx hx2
  have h2 := lowF_le 2000 ds j m x hx hx2
  omega
/-- the least and the greatest sums of an act -/
def loS (xs gs : List Int) : Int := sumF 1000 xs gs xs.length
def hiS (xs gs : List Int) : Int := -(sumF 1000 xs (negTo gs gs.length) xs.length)
theorem beats_more {s : Int} {xs f g : List Int} (h : beatsM s xs f g = true) : loS xs g < loS xs f ∧ hiS xs g < hiS xs f := by
  unfold beatsM at h
  rw [Bool.and_eq_true, Bool.and_eq_true, Bool.and_eq_true, decide_eq_true_eq] at h
  obtain ⟨hn, hf, hg, hlt⟩ := h
  obtain ⟨hm, h0⟩ := norm_facts hn
  have F := mg_of hm h0 hf rfl rfl
  have hl : g.length = f.length := by have h1 := (gainsOk_facts hf).1; have h2 := (gainsOk_facts hg).1; omega
  have G := mg_of hm h0 hg rfl hl
  have hd := subTo_len f g f.length
  have h1 := sum_over G F hd (fun x hx => by rw [subTo_nth _ _ _ _ hx]; omega)
  have h2 := sum_over F.turned G.turned hd (fun x hx => by rw [subTo_nth _ _ _ _ hx, negTo_nth _ _ _ hx, negTo_nth _ _ _ hx]; omega)
  unfold loS hiS
  rw [hl]
  constructor <;> omega
theorem betS_eq (num den : Int) (xs gs : List Int) : betS num den xs gs = num * loS xs gs + (den - num) * hiS xs gs := rfl
theorem beats_between {s num den : Int} {xs f g : List Int} (h : beatsM s xs f g = true) (h0 : 0 ≤ num) (h1 : num ≤ den) (h2 : 1 ≤ den) : betS num den xs g < betS num den xs f := by
  obtain ⟨hlo, hhi⟩ := beats_more h
  rw [betS_eq, betS_eq]
  have e1 : num * (loS xs g + 1) ≤ num * loS xs f := Int.mul_le_mul_of_nonneg_left (by omega) h0
  have e2 : (den - num) * (hiS xs g + 1) ≤ (den - num) * hiS xs f := Int.mul_le_mul_of_nonneg_left (by omega) (by omega)
  rw [Int.mul_add, Int.mul_one] at e1 e2
  omega
theorem share_facts2 {num den : Int} (h : shareOk num den = true) : 0 ≤ num ∧ num ≤ den ∧ 1 ≤ den := by
  simp only [shareOk, fracOk, Bool.and_eq_true, inB_iff] at h; omega
/-- no act beats the best one by such sums -/
theorem between_unbeaten {s num den : Int} {xs : List Int} {acts : List (List Int)} {m i : Nat} (h : betOk s xs acts num den = true) (hi : i < m) : beatsM s xs (nthL acts i) (nthL acts (argTo (fun k => betS num den xs (nthL acts k)) m)) = false := by
  unfold betOk at h
  rw [Bool.and_eq_true, Bool.and_eq_true] at h
  obtain ⟨h0, h1, h2⟩ := share_facts2 h.2.1
  cases hb : beatsM s xs (nthL acts i) (nthL acts (argTo (fun k => betS num den xs (nthL acts k)) m))
  · rfl
  · have h3 := beats_between hb h0 h1 h2
    have h4 := argTo_max (fun k => betS num den xs (nthL acts k)) m i hi

    omega
theorem safest_unbeaten {s : Int} {xs : List Int} {acts : List (List Int)} {m i : Nat} (hi : i < m) : beatsM s xs (nthL acts i) (nthL acts (argTo (fun k => sumF 1000 xs (nthL acts k) xs.length) m)) = false := by
  cases hb : beatsM s xs (nthL acts i) (nthL acts (argTo (fun k => sumF 1000 xs (nthL acts k) xs.length) m))
  · rfl
  · have h3 := (beats_more hb).1
    have h4 := argTo_max (fun k => sumF 1000 xs (nthL acts k) xs.length) m i hi

    unfold loS at h3
    omega
theorem boldest_unbeaten {s : Int} {xs : List Int} {acts : List (List Int)} {m i : Nat} (hi : i < m) : beatsM s xs (nthL acts i) (nthL acts (argTo (fun k => -(sumF 1000 xs (negTo (nthL acts k) (nthL acts k).length) xs.length)) m)) = false := by
  cases hb : beatsM s xs (nthL acts i) (nthL acts (argTo (fun k => -(sumF 1000 xs (negTo (nthL acts k) (nthL acts k).length) xs.length)) m))
  · rfl
  · have h3 := (beats_more hb).2
    have h4 := argTo_max (fun k => -(sumF 1000 xs (negTo (nthL acts k) (nthL acts k).length) xs.length)) m i hi

    unfold hiS at h3
    omega
theorem between_one (s : Int) (xs : List Int) (acts : List (List Int)) (m : Nat) : bestM (betOk s xs acts 1 1) (fun k => betS 1 1 xs (nthL acts k)) m = bestM (actsOk s xs acts) (fun k => sumF 1000 xs (nthL acts k) xs.length) m := by
  have e1 : betOk s xs acts 1 1 = actsOk s xs acts := by
    unfold betOk
    have : (shareOk 1 1 && decide ((1 : Int) ≤ 1000)) = true := by decide
    rw [this, Bool.and_true]
  have e2 : (fun k => betS 1 1 xs (nthL acts k)) = fun k => sumF 1000 xs (nthL acts k) xs.length := by
    funext k; unfold betS; rw [Int.one_mul, Int.sub_self, Int.zero_mul, Int.add_zero]
  rw [e1, e2]
theorem between_none (s : Int) (xs : List Int) (acts : List (List Int)) (m : Nat) : bestM (betOk s xs acts 0 1) (fun k => betS 0 1 xs (nthL acts k)) m = bestM (actsOk s xs acts) (fun k => -(sumF 1000 xs (negTo (nthL acts k) (nthL acts k).length) xs.length)) m := by
  have e1 : betOk s xs acts 0 1 = actsOk s xs acts := by
    unfold betOk
    have : (shareOk 0 1 && decide ((1 : Int) ≤ 1000)) = true := by decide
    rw [this, Bool.and_true]
  have e2 : (fun k => betS 0 1 xs (nthL acts k)) = fun k => -(sumF 1000 xs (negTo (nthL acts k) (nthL acts k).length) xs.length) := by
    funext k; unfold betS; rw [Int.zero_mul, Int.sub_zero, Int.one_mul, Int.zero_add]
  rw [e1, e2]
theorem single_one : ∀ j : Fin 16, single j.val = true → ∀ x y : Fin 4, hasB j.val x.val = true → hasB j.val y.val = true → x = y := by decide
theorem chance_same {s : Int} {xs gs : List Int} (hc : chanceOk s xs = true) (hg : gainsOk s gs = true) : hiS xs gs = loS xs gs := by
  obtain ⟨hm, h0⟩ := chance_normal hc
  have G := mg_of hm h0 hg rfl rfl
  have H := G.turned
  have hall : ∀ j, j < xs.length → nth xs j ≠ 0 → single j = true := fun j hj hne => by
    unfold chanceOk at hc
    rw [Bool.and_eq_true, allN_iff] at hc
    have := hc.2 j hj
    rw [Bool.or_eq_true, beq_iff_eq] at this
    exact this.resolve_left hne
  unfold hiS loS
  rw [sumF_dot, sumF_dot, ← Int.neg_one_mul, ← dot_lin]
  refine dot_congr _ _ fun j hj => ?_
  by_cases hne : nth xs j = 0
  · rw [hne, Int.mul_zero, Int.mul_zero]
  · have hj0 : j ≠ 0 := by rintro rfl; exact hne h0
    obtain ⟨x, hx, hx2, e⟩ := lowF_at 1000 gs j gs.length (fun x hx => (G.gb1 x hx).2) (mg_some G hj hj0)
    obtain ⟨y, hy, hy2, e2⟩ := lowF_at 1000 (negTo gs gs.length) j gs.length (fun x hx => (H.gb1 x hx).2) (mg_some G hj hj0)
    have hm4 := G.m4
    have h16 := G.n16
    have hxy := single_one ⟨j, by omega⟩ (hall j hj hne) ⟨x, by omega⟩ ⟨y, by omega⟩ hx2 hy2
    have hxy2 : x = y := by injection hxy
    subst hxy2
    rw [negTo_len, e, e2, negTo_nth _ _ _ hx]
    have : (-1 : Int) * -(nth gs x) = nth gs x := by omega
    rw [this]
theorem acts_gains {s : Int} {xs : List Int} {acts : List (List Int)} (h : actsOk s xs acts = true) : normalOk s xs = true ∧ 1 ≤ acts.length ∧ acts.length ≤ 8 ∧ ∀ k, k < acts.length → gainsOk s (nthL acts k) = true := by
  unfold actsOk at h
  rw [Bool.and_eq_true, Bool.and_eq_true, allN_iff] at h
  have := inB_iff.1 h.2.1
  exact ⟨h.1, by omega, by omega, h.2.2⟩
theorem between_chance {s num den : Int} {xs : List Int} {acts : List (List Int)} (h : betOk s xs acts num den = true) (hc : chanceOk s xs = true) : bestM (betOk s xs acts num den) (fun k => betS num den xs (nthL acts k)) acts.length = bestM (betOk s xs acts 1 1) (fun k => betS 1 1 xs (nthL acts k)) acts.length := by
  have h' := h
  unfold betOk at h'
  rw [Bool.and_eq_true, Bool.and_eq_true] at h'
  obtain ⟨h0, h1, h2⟩ := share_facts2 h'.2.1
  have hg := (acts_gains h'.1).2.2.2
  rw [between_one, h, h'.1]
  unfold bestM
  simp only [if_true]
  have e : argTo (fun k => betS num den xs (nthL acts k)) acts.length = argTo (fun k => den * sumF 1000 xs (nthL acts k) xs.length) acts.length := argTo_congr _ _ _ fun k hk => by
    show betS num den xs (nthL acts k) = den * loS xs (nthL acts k)
    rw [betS_eq, chance_same hc (hg k hk), ← Int.add_mul]
    congr 1; omega
  rw [e, argTo_scale _ den (by omega)]
theorem fr_ext {a b : FR} (h1 : a.num = b.num) (h2 : a.den = b.den) (h3 : a.ok = b.ok) : a = b := by
  cases a; cases b; simp only at h1 h2 h3; subst h1; subst h2; subst h3; rfl
theorem best_fraction {f : Nat → Int} {M W i : Nat} {w : Int} (hw : 1 ≤ w) (hok : ∀ k, k < M → (redF (f k) w).ok = true) (hi : i < M) :
    lessF (redF (f (argTo f M)) w).num (redF (f (argTo f M)) w).den (redF (f i) w).num (redF (f i) w).den = false ∧
    (i < argTo f M → ¬ ((redF (f i) w).num = (redF (f (argTo f M)) w).num ∧ (redF (f i) w).den = (redF (f (argTo f M)) w).den)) := by
  have hk := argTo_lt f M (by omega)
  have h1 := hok _ hk
  have h2 := hok _ hi
  have h3 := argTo_max f M i hi
  constructor
  · rw [lessF_red (by omega) (by omega) h1 h2, decide_eq_false_iff_not]
    intro hlt
    have := Int.lt_of_mul_lt_mul_right hlt (by omega)
    omega
  · rintro hlt ⟨e1, e2⟩
    have h4 := argTo_first f M i hlt
    have e3 := redF_inj (by omega) (by omega) h2 (fr_ext e1 e2 (by rw [h1, h2]))
    have := Int.eq_of_mul_eq_mul_right (by omega) e3
    omega
theorem high_ok {s : Int} {xs gs : List Int} (hn : normalOk s xs = true) (hg : gainsOk s gs = true) : meanH s xs gs = redF (hiS xs gs) (isum xs) ∧ (redF (hiS xs gs) (isum xs)).ok = true := by
  obtain ⟨_, _, s1, s2, G⟩ := mean_ok hn hg
  have hb := sum_bd G.turned
  refine ⟨by unfold meanH; rw [hn, hg]; rfl, redF_ok (by omega) ?_ ?_ (by omega)⟩ <;> unfold hiS <;> omega
theorem safest_law {s : Int} {xs : List Int} {acts : List (List Int)} (h : actsOk s xs acts = true) {i : Nat} (hi : i < acts.length) {k b : Nat} (hk : argTo (fun k => sumF 1000 xs (nthL acts k) xs.length) acts.length = k) (hb : argTo (fun k => -(sumF 1000 xs (negTo (nthL acts k) (nthL acts k).length) xs.length)) acts.length = b) :
    (lessF (meanM s xs (nthL acts k)).num (meanM s xs (nthL acts k)).den (meanM s xs (nthL acts i)).num (meanM s xs (nthL acts i)).den = false ∧ (i < k → ¬ ((meanM s xs (nthL acts i)).num = (meanM s xs (nthL acts k)).num ∧ (meanM s xs (nthL acts i)).den = (meanM s xs (nthL acts k)).den))) ∧
    (lessF (meanH s xs (nthL acts b)).num (meanH s xs (nthL acts b)).den (meanH s xs (nthL acts i)).num (meanH s xs (nthL acts i)).den = false ∧ (i < b → ¬ ((meanH s xs (nthL acts i)).num = (meanH s xs (nthL acts b)).num ∧ (meanH s xs (nthL acts i)).den = (meanH s xs (nthL acts b)).den))) := by
  obtain ⟨hn, h1, h8, hg⟩ := acts_gains h
  have hkl : k < acts.length := by rw [← hk]; exact argTo_lt _ _ (by omega)
  have hbl : b < acts.length := by rw [← hb]; exact argTo_lt _ _ (by omega)
  have s1 := (mean_ok hn (hg i hi)).2.2.1
  have A := best_fraction (W := 0) (f := fun k => sumF 1000 xs (nthL acts k) xs.length) s1 (fun j hj => (mean_ok hn (hg j hj)).2.1) hi
  have B := best_fraction (W := 0) (f := fun k => -(sumF 1000 xs (negTo (nthL acts k) (nthL acts k).length) xs.length)) s1 (fun j hj => (high_ok hn (hg j hj)).2) hi
  rw [hk] at A
  rw [hb] at B
  rw [(mean_ok hn (hg i hi)).1, (mean_ok hn (hg k hkl)).1, (high_ok hn (hg i hi)).1, (high_ok hn (hg b hbl)).1]
  exact ⟨A, B⟩
theorem size_pow {s : Int} (h : okSize s = true) : 1 ≤ s.toNat ∧ s.toNat ≤ 4 ∧ nsets s = 2 ^ s.toNat := by
  rcases okSize_iff.1 h with rfl | rfl | rfl | rfl <;> exact ⟨by decide, by decide, rfl⟩
theorem norm_size {s : Int} {xs : List Int} (h : normalOk s xs = true) : 1 ≤ s.toNat ∧ s.toNat ≤ 4 ∧ xs.length = 2 ^ s.toNat ∧ nth xs 0 = 0 ∧ massOk s xs = true ∧ (s.toNat : Int) = s := by
  obtain ⟨hm, h0⟩ := norm_facts h
  obtain ⟨hk, hl, _⟩ := massOk_facts hm
  obtain ⟨a, b, c⟩ := size_pow hk
  exact ⟨a, b, by rw [hl, c], h0, hm, by omega⟩
theorem fb_some {n : Nat} {o : List Int} (hn : n ≤ 4) (ho : OrdOk n o) {a : Nat} (ha : a < 2 ^ n) (h0 : a ≠ 0) : ∃ x, x < n ∧ hasB a x = true ∧ firstBit o a = 2 ^ x := by
  obtain ⟨y, hy⟩ := hasB_some ⟨n, by omega⟩ ⟨a, ha⟩ h0
  obtain ⟨x, hx, hb, e⟩ := firstBit_some o a ⟨(y.val : Int), ho.2 y.val y.isLt, hy⟩
  have := ho.1 x hx
  exact ⟨x.toNat, by omega, hb, e⟩
theorem hasB_powC : ∀ x y : Fin 4, hasB (2 ^ x.val) y.val = true → y = x := by decide
theorem hasB_selfC : ∀ x : Fin 4, hasB (2 ^ x.val) x.val = true := by decide
theorem single_pow : ∀ x : Fin 4, single (2 ^ x.val) = true := by decide
/-- a corner: sums by it are sums of first answers -/
theorem corner_facts {s : Int} {xs o : List Int} (hn : normalOk s xs = true) (ho : OrdOk s.toNat o) : ∃ e : Int, 1 ≤ e ∧ (chanceM s xs o).ok = true ∧ (chanceM s xs o).size = s ∧ (chanceM s xs o).parts.length = xs.length ∧
    massOk s (chanceM s xs o).parts = true ∧ (∀ g, e * dot g (chanceM s xs o).parts xs.length = dot (fun a => g (firstBit o a)) xs xs.length) ∧ e * isum (chanceM s xs o).parts = isum xs := by
  obtain ⟨p1, p4, hl, h0, hm, _⟩ := norm_size hn
  obtain ⟨hk, hl2, h16, hbd, s1, s2, _⟩ := massOk_facts hm
  have hbd2 : ∀ a, a < xs.length → 0 ≤ nth xs a ∧ nth xs a ≤ 1000000 := fun a ha => hbd a ha
  have hT : ∀ a, a < xs.length → firstBit o a < xs.length := fun a _ => by rw [hl]; exact firstBit_lt o s.toNat a ho.1
  have hD : ∀ g, dot g (chP o xs xs.length) xs.length = dot (fun a => g (firstBit o a)) xs xs.length := fun g => dot_mapTo g _ xs xs.length xs.length hT
  have hlen : (chP o xs xs.length).length = xs.length := mapTo_len _ _ _ _
  have hs : isum (chP o xs xs.length) = isum xs := by rw [isum_ofl hlen, hD, isum_ofl rfl]
  have hv := mkMass_valid (xs := chP o xs xs.length) hk (by rw [hlen, hl2]) (fun j _ => (mapTo_bd _ xs xs.length xs.length 1000000 (by decide) hbd2 xs.length (Nat.le_refl _) j).1) (by omega) (by omega)
  have hok : (mkMass s (chP o xs xs.length)).ok = true := hv.1
  obtain ⟨g1, g2, g3, g4, g5⟩ := mkMass_parts hok
  rw [hlen] at g3 g5
  refine ⟨_, g1, hok, g2, g3, g4, fun g => by rw [← hD]; exact g5 g, ?_⟩
  have := g5 fun _ => 1
  rw [← isum_ofl hlen, hs] at this
  rw [isum_ofl (show (chanceM s xs o).parts.length = xs.length from g3)]
  exact this
theorem corner_nth {s : Int} {xs o : List Int} (hn : normalOk s xs = true) (ho : OrdOk s.toNat o) {j : Nat} (hj : j < xs.length) (hs : single j = false) : nth (chanceM s xs o).parts j = 0 := by
  obtain ⟨p1, p4, hl, h0, hm, _⟩ := norm_size hn
  obtain ⟨e, he, _, _, _, _, hd, _⟩ := corner_facts hn ho
  have h1 := hd (at1 j)
  have h2 : dot (fun a => at1 j (firstBit o a)) xs xs.length = 0 := by
    rw [← dot_zero (fun _ => 0) xs.length xs.length]
    have : dot (fun a => at1 j (firstBit o a)) xs xs.length = dot (fun _ => 0) xs xs.length := dot_congr _ _ fun a ha => by
      by_cases ha0 : a = 0
      · subst ha0; rw [h0]; simp
      · obtain ⟨x, hx, _, e⟩ := fb_some p4 ho (by omega) ha0
        have : firstBit o a ≠ j := by
          rw [e]; rintro rfl
          have := single_pow ⟨x, by omega⟩
          simp only at this
          rw [this] at hs; cases hs
        unfold at1
        rw [if_neg this]
    rw [this]
    have : ∀ n, dot (fun _ => 0) xs n = 0 := fun n => by
      induction n with
      | zero => rfl
      | succ n ih => rw [dot_succ, ih]; simp
    rw [this, dot_zero]
  rw [dot_at1, if_pos hj, h2] at h1
  rcases Int.mul_eq_zero.1 h1 with h3 | h3
  · omega
  · exact h3
theorem corner_chance {s : Int} {xs o : List Int} (hn : normalOk s xs = true) (ho : OrdOk s.toNat o) : chanceOk s (chanceM s xs o).parts = true ∧ normalOk s (chanceM s xs o).parts = true := by
  obtain ⟨p1, p4, hl, h0, hm, _⟩ := norm_size hn
  obtain ⟨e, he, _, _, e2, e3, _⟩ := corner_facts hn ho
  have hp : 0 < xs.length := by rw [hl]; exact Nat.two_pow_pos _
  constructor
  · unfold chanceOk
    rw [e3, Bool.true_and, allN_iff]
    intro k hk
    cases hs : single k
    · rw [corner_nth hn ho (by omega) hs]; rfl
    · rw [Bool.or_true]
  · unfold normalOk
    rw [e3, corner_nth hn ho (j := 0) hp (by decide)]; rfl
/-- sums of least gains by a corner are at least those of the mass, and the same in an order that ascends -/
theorem lowF_first {n m : Nat} {M : Int} {d o : List Int} (hn : n ≤ 4) (ho : OrdOk n o) (hd : d.length = n) (hM : ∀ x, x < n → nth d x ≤ M) {a : Nat} (ha : a < 2 ^ n) (h0 : a ≠ 0) :
    ∃ x, x < n ∧ hasB a x = true ∧ firstBit o a = 2 ^ x ∧ lowF M d (firstBit o a) n = nth d x := by
  obtain ⟨x, hx, hb, e⟩ := fb_some hn ho ha h0
  refine ⟨x, hx, hb, e, ?_⟩
  obtain ⟨y, hy, hy2, e2⟩ := lowF_at M d (firstBit o a) n hM ⟨x, hx, by rw [e]; exact hasB_selfC ⟨x, by omega⟩⟩
  rw [e] at hy2
  have : y = x := by
    have := hasB_powC ⟨x, by omega⟩ ⟨y, by omega⟩ hy2
    exact Fin.mk.inj_iff.1 this
  rw [e2, this]
def Asc (d o : List Int) : Prop := o.Pairwise fun x y => nth d x.toNat ≤ nth d y.toNat
theorem fb_min {d o : List Int} (h : Asc d o) {a : Nat} (hs : ∃ x, x ∈ o ∧ hasB a x.toNat = true) : ∃ x, x ∈ o ∧ firstBit o a = 2 ^ x.toNat ∧ hasB a x.toNat = true ∧ ∀ z, z ∈ o → hasB a z.toNat = true → nth d x.toNat ≤ nth d z.toNat := by
  induction o with
  | nil => obtain ⟨x, hx, _⟩ := hs; cases hx
  | cons y t ih =>
    obtain ⟨h1, h2⟩ := List.pairwise_cons.1 h
    cases hy : hasB a y.toNat
    · have hs2 : ∃ x, x ∈ t ∧ hasB a x.toNat = true := by
        obtain ⟨x, hx, hb⟩ := hs
        rcases List.mem_cons.1 hx with e | e
        · subst e; rw [hb] at hy; cases hy
        · exact ⟨x, e, hb⟩
      obtain ⟨x, q1, q2, q3, q4⟩ := ih h2 hs2
      refine ⟨x, List.mem_cons_of_mem _ q1, ?_, q3, fun z hz hb => ?_⟩
      · show (if hasB a y.toNat then _ else _) = _
        rw [hy]; exact q2
      · rcases List.mem_cons.1 hz with e | e
        · subst e; rw [hb] at hy; cases hy
        · exact q4 z e hb
    · refine ⟨y, List.mem_cons_self, ?_, hy, fun z hz hb => ?_⟩
      · show (if hasB a y.toNat then _ else _) = _
        rw [hy]; rfl
      · rcases List.mem_cons.1 hz with e | e
        · subst e; exact Int.le_refl _
        · exact h1 z e
theorem corner_sum {s : Int} {xs o d : List Int} {M : Int} (hn : normalOk s xs = true) (ho : OrdOk s.toNat o) (hd : d.length = s.toNat) (hM : ∀ x, x < d.length → nth d x ≤ M) {e : Int}
    (he : ∀ g, e * dot g (chanceM s xs o).parts xs.length = dot (fun a => g (firstBit o a)) xs xs.length) :
    sumF M xs d xs.length ≤ e * sumF M (chanceM s xs o).parts d xs.length ∧ (Asc d o → e * sumF M (chanceM s xs o).parts d xs.length = sumF M xs d xs.length) := by
  obtain ⟨p1, p4, hl, h0, hm, _⟩ := norm_size hn
  have hx0 := (massOk_facts hm).2.2.2.1
  rw [sumF_dot, sumF_dot, he]
  rw [hd] at hM ⊢
  constructor
  · refine dot_mono xs _ (fun j hj => (hx0 j hj).1) fun j hj hne => ?_
    have hj0 : j ≠ 0 := by rintro rfl; exact hne h0
    obtain ⟨x, hx, hb, e1, e2⟩ := lowF_first (m := 0) p4 ho hd hM (by omega) hj0
    rw [e2]
    exact lowF_le M d j _ x hx hb
  · intro hA
    refine dot_congr _ _ fun j hj => ?_
    by_cases hj0 : j = 0
    · subst hj0; rw [h0]; simp
    · obtain ⟨x, hx, hb, e1, e2⟩ := lowF_first (m := 0) p4 ho hd hM (by omega) hj0
      obtain ⟨z, q1, q2, q3, q4⟩ := fb_min hA (a := j) ⟨(x : Int), ho.2 x hx, hb⟩
      have hz := ho.1 z q1
      have hzx : z.toNat = x := by
        have h3 : hasB (2 ^ x) z.toNat = true := by rw [← e1, q2]; exact hasB_selfC ⟨z.toNat, by omega⟩
        exact Fin.mk.inj_iff.1 (hasB_powC ⟨x, by omega⟩ ⟨z.toNat, by omega⟩ h3)
      obtain ⟨y, hy, hy2, e3⟩ := lowF_at M d j s.toNat hM ⟨x, hx, hb⟩
      have h5 := q4 (y : Int) (ho.2 y hy) hy2
      have h6 := lowF_le M d j _ x hx hb
      rw [hzx] at h5
      have h7 : nth d (y : Int).toNat = nth d y := rfl
      rw [h7] at h5
      have : lowF M d j s.toNat = nth d x := by omega
      rw [e2, this]
/-- an order that ascends -/
theorem orderInF : ∀ a b c d : Fin 4, okB 4 [(a.val : Int), b.val, c.val, d.val] = true → (orders 4).contains [(a.val : Int), b.val, c.val, d.val] = true := by decide +kernel
theorem orderInF3 : ∀ a b c : Fin 3, okB 3 [(a.val : Int), b.val, c.val] = true → (orders 3).contains [(a.val : Int), b.val, c.val] = true := by decide +kernel
theorem orderInF2 : ∀ a b : Fin 2, okB 2 [(a.val : Int), b.val] = true → (orders 2).contains [(a.val : Int), b.val] = true := by decide +kernel
theorem order_in {n : Nat} {o : List Int} (h1 : 1 ≤ n) (hn : n ≤ 4) (hl : o.length = n) (ho : OrdOk n o) : o ∈ orders n := by
  have hb := okB_iff.2 ho
  have e : ∀ x, x ∈ o → ∃ a : Nat, a < n ∧ x = (a : Int) := fun x hx => ⟨x.toNat, by have := ho.1 x hx; omega, by have := ho.1 x hx; omega⟩
  rcases (show n = 1 ∨ n = 2 ∨ n = 3 ∨ n = 4 by omega) with rfl | rfl | rfl | rfl
  · match o, hl with
    | [x], _ =>
      obtain ⟨a, ha, rfl⟩ := e x (by simp)
      obtain rfl : a = 0 := by omega
      decide
  · match o, hl with
    | [x, y], _ =>
      obtain ⟨a, ha, rfl⟩ := e x (by simp)
      obtain ⟨b, hb2, rfl⟩ := e y (by simp)
      have := orderInF2 ⟨a, ha⟩ ⟨b, hb2⟩ hb
      simpa using this
  · match o, hl with
    | [x, y, z], _ =>
      obtain ⟨a, ha, rfl⟩ := e x (by simp)
      obtain ⟨b, hb2, rfl⟩ := e y (by simp)
      obtain ⟨c, hc, rfl⟩ := e z (by simp)
      have := orderInF3 ⟨a, ha⟩ ⟨b, hb2⟩ ⟨c, hc⟩ hb
      simpa using this
  · match o, hl with
    | [x, y, z, t], _ =>
      obtain ⟨a, ha, rfl⟩ := e x (by simp)
      obtain ⟨b, hb2, rfl⟩ := e y (by simp)
      obtain ⟨c, hc, rfl⟩ := e z (by simp)
      obtain ⟨d, hd, rfl⟩ := e t (by simp)
      have := orderInF ⟨a, ha⟩ ⟨b, hb2⟩ ⟨c, hc⟩ ⟨d, hd⟩ hb
      simpa using this
theorem asc_some (n : Nat) (h1 : 1 ≤ n) (hn : n ≤ 4) (d : List Int) : ∃ o, o ∈ orders n ∧ Asc d o := by
  let le : Int → Int → Bool := fun x y => decide (nth d x.toNat ≤ nth d y.toNat)
  let l : List Int := (List.range n).map fun k => ((k : Nat) : Int)
  have hp : (l.mergeSort le).Perm l := List.mergeSort_perm l le
  have hs : (l.mergeSort le).Pairwise fun x y => le x y = true := List.pairwise_mergeSort (fun a b c h1 h2 => by simp [le] at *; omega) (fun a b => by simp [le]; omega) l
  refine ⟨l.mergeSort le, order_in h1 hn (by rw [hp.length_eq]; simp [l]) ⟨fun x hx => ?_, fun y hy => ?_⟩, hs.imp fun h => by simpa [le] using h⟩
  · have := hp.mem_iff.1 hx
    simp [l] at this
    obtain ⟨a, ha, rfl⟩ := this
    omega
  · exact hp.mem_iff.2 (by simp [l]; exact ⟨y, hy, rfl⟩)
theorem corners_mem {s : Int} {xs p : List Int} (hn : normalOk s xs = true) : p ∈ cornersL s xs ↔ ∃ o, o ∈ orders s.toNat ∧ (chanceM s xs o).parts = p := by
  unfold cornersL
  rw [if_pos hn, cornTo_mem]
  constructor
  · rintro ⟨i, hi, e⟩; exact ⟨_, nthL_mem hi, e⟩
  · rintro ⟨o, ho, e⟩
    obtain ⟨i, hi, e2⟩ := mem_nthL ho
    exact ⟨i, hi, by rw [e2]; exact e⟩
theorem corners_nth {s : Int} {xs : List Int} {i : Nat} (hi : i < (cornersL s xs).length) : normalOk s xs = true ∧ ∃ o, o ∈ orders s.toNat ∧ OrdOk s.toNat o ∧ nthL (cornersL s xs) i = (chanceM s xs o).parts := by
  have hn : normalOk s xs = true := by
    cases h : normalOk s xs
    · unfold cornersL at hi; rw [h] at hi; simp at hi
    · rfl
  obtain ⟨o, ho, e⟩ := (corners_mem hn).1 (nthL_mem hi)
  exact ⟨hn, o, ho, orders_ok (norm_size hn).2.1 ho, e.symm⟩
theorem corners_apart {s : Int} {xs : List Int} {i j : Nat} (hij : i < j) (hj : j < (cornersL s xs).length) : nthL (cornersL s xs) i ≠ nthL (cornersL s xs) j := by
  have hn := (corners_nth hj).1
  unfold cornersL at hj ⊢
  rw [if_pos hn] at hj ⊢
  exact cornTo_nodup _ _ _ _ i j hij hj
theorem corners_some {s : Int} {xs : List Int} (hn : normalOk s xs = true) : 1 ≤ (cornersL s xs).length := by
  obtain ⟨p1, p4, _⟩ := norm_size hn
  obtain ⟨o, ho, _⟩ := asc_some s.toNat p1 p4 []
  have := (corners_mem hn).2 ⟨o, ho, rfl⟩
  obtain ⟨k, hk, _⟩ := mem_nthL this
  omega
/-- the gains of a bet on a set -/
def indL (a n : Nat) : List Int := (List.range n).map fun x => if hasB a x then 1 else 0
theorem indL_len (a n : Nat) : (indL a n).length = n := by simp [indL]
theorem indL_le (a n x : Nat) : nth (indL a n) x ≤ 1 := by
  unfold nth indL
  rw [List.getD_eq_getElem?_getD, List.getElem?_map]
  cases (List.range n)[x]? with
  | none => show (0 : Int) ≤ 1; decide
  | some y => show (if hasB a y then (1 : Int) else 0) ≤ 1; split <;> decide
/-- the part of what lies in a set -/
def impP (a : Nat) (xs : List Int) : Int := dot (predI (subB a)) xs xs.length
theorem low_indF : ∀ n : Fin 5, ∀ a b : Fin 16, b.val ≠ 0 → b.val < 2 ^ n.val → lowF 1 (indL a.val n.val) b.val n.val = predI (subB a.val) b.val := by decide +kernel
theorem imp_sum {s : Int} {ys : List Int} (hn : normalOk s ys = true) {a : Nat} (ha : a < ys.length) : sumF 1 ys (indL a s.toNat) ys.length = impP a ys := by
  obtain ⟨p1, p4, hl, h0, _⟩ := norm_size hn
  have h16 : 2 ^ s.toNat ≤ 2 ^ 4 := Nat.pow_le_pow_right (by decide) p4
  rw [sumF_dot, indL_len]
  refine dot_congr _ _ fun j hj => ?_
  by_cases hj0 : j = 0
  · subst hj0; rw [h0]; simp
  · have := low_indF ⟨s.toNat, by omega⟩ ⟨a, by omega⟩ ⟨j, by omega⟩ hj0 (by show j < 2 ^ s.toNat; omega)
    simp only at this
    rw [this]
theorem corner_imp {s : Int} {xs o : List Int} (hn : normalOk s xs = true) (ho : OrdOk s.toNat o) {a : Nat} (ha : a < xs.length) :
    impP a xs * isum (chanceM s xs o).parts ≤ impP a (chanceM s xs o).parts * isum xs ∧ (Asc (indL a s.toNat) o → impP a (chanceM s xs o).parts * isum xs = impP a xs * isum (chanceM s xs o).parts) := by
  obtain ⟨e, he, _, _, hl, _, hd, hw⟩ := corner_facts hn ho
  obtain ⟨_, c2⟩ := corner_chance hn ho
  obtain ⟨_, _, _, _, s1, s2, _⟩ := massOk_facts (norm_size c2).2.2.2.2.1
  obtain ⟨A1, A2⟩ := corner_sum hn ho (M := 1) (d := indL a s.toNat) (indL_len _ _) (fun x _ => indL_le _ _ _) hd
  have e1 := imp_sum hn ha
  have e2 := imp_sum c2 (a := a) (by rw [hl]; exact ha)
  rw [hl] at e2
  rw [e1, e2] at A1 A2
  have key : impP a (chanceM s xs o).parts * isum xs = (e * impP a (chanceM s xs o).parts) * isum (chanceM s xs o).parts := by rw [← hw]; ac_rfl
  rw [key]
  exact ⟨Int.mul_le_mul_of_nonneg_right A1 (by omega), fun h => by rw [A2 h]⟩
/-- beliefs are the least chances of corners -/
theorem corners_imp {s : Int} {xs : List Int} (hn : normalOk s xs = true) {a : Nat} (ha : a < xs.length) :
    (∀ i, i < (cornersL s xs).length → impP a xs * isum (nthL (cornersL s xs) i) ≤ impP a (nthL (cornersL s xs) i) * isum xs) ∧
    ∃ i, i < (cornersL s xs).length ∧ impP a (nthL (cornersL s xs) i) * isum xs = impP a xs * isum (nthL (cornersL s xs) i) := by
  obtain ⟨p1, p4, _⟩ := norm_size hn
  refine ⟨fun i hi => ?_, ?_⟩
  · obtain ⟨_, o, ho, ho2, e⟩ := corners_nth hi
    rw [e]; exact (corner_imp hn ho2 ha).1
  · obtain ⟨o, ho, hA⟩ := asc_some s.toNat p1 p4 (indL a s.toNat)
    obtain ⟨i, hi, e⟩ := mem_nthL ((corners_mem hn).2 ⟨o, ho, rfl⟩)
    exact ⟨i, hi, by rw [e]; exact (corner_imp hn (orders_ok p4 ho) ha).2 hA⟩
theorem corners_good {s : Int} {xs : List Int} {i : Nat} (hi : i < (cornersL s xs).length) : chanceOk s (nthL (cornersL s xs) i) = true ∧ normalOk s (nthL (cornersL s xs) i) = true ∧ (nthL (cornersL s xs) i).length = xs.length := by
  obtain ⟨hn, o, ho, ho2, e⟩ := corners_nth hi
  obtain ⟨_, _, _, _, hl, _⟩ := corner_facts hn ho2
  rw [e]
  exact ⟨(corner_chance hn ho2).1, (corner_chance hn ho2).2, hl⟩
theorem fb_singleF : ∀ n : Fin 5, ∀ x : Fin 4, x.val < n.val → 2 ^ x.val < 2 ^ n.val := by decide
theorem single_isF : ∀ a : Fin 16, single a.val = true → a.val = 1 ∨ a.val = 2 ∨ a.val = 4 ∨ a.val = 8 := by decide
theorem corner_of_chance {s : Int} {xs o : List Int} (hc : chanceOk s xs = true) (hn : normalOk s xs = true) (ho : OrdOk s.toNat o) : chanceM s xs o = mkMass s xs := by
  obtain ⟨p1, p4, hl, h0, hm, _⟩ := norm_size hn
  have h16 : 2 ^ s.toNat ≤ 2 ^ 4 := Nat.pow_le_pow_right (by decide) p4
  have hT : ∀ a, a < xs.length → firstBit o a < xs.length := fun a _ => by rw [hl]; exact firstBit_lt o s.toNat a ho.1
  have hlen : (chP o xs xs.length).length = xs.length := mapTo_len _ _ _ _
  have hz := hc
  simp only [chanceOk, Bool.and_eq_true, allN_iff, Bool.or_eq_true, beq_iff_eq] at hz
  have e : chP o xs xs.length = xs := by
    refine ext_nth _ _ hlen fun j hj => ?_
    rw [hlen] at hj
    have h1 := dot_mapTo (at1 j) (fun a => firstBit o a) xs xs.length xs.length hT
    have h2 : dot (at1 j) (mapTo (fun a => firstBit o a) xs xs.length xs.length) xs.length = nth (chP o xs xs.length) j := by rw [dot_at1, if_pos hj]; rfl
    have h3 : dot (at1 j) xs xs.length = nth xs j := by rw [dot_at1, if_pos hj]
    rw [← h2, h1, ← h3]
    refine dot_congr _ _ fun a ha => ?_
    rcases hz.2 a ha with h | h
    · rw [h]; simp
    · have ha0 : a ≠ 0 := by rintro rfl; cases h
      obtain ⟨x, hx, hb, e1⟩ := fb_some p4 ho (by omega) ha0
      have : (2 : Nat) ^ x = a := by
        have hx4 : x < 4 := by omega
        rcases single_isF ⟨a, by omega⟩ h with e | e | e | e <;> simp only at e <;> subst e <;> (match x, hx4, hb with | 0, _, hb => revert hb; decide | 1, _, hb => revert hb; decide | 2, _, hb => revert hb; decide | 3, _, hb => revert hb; decide)
      show at1 j (firstBit o a) * _ = _
      rw [e1, this]
  unfold chanceM
  rw [e]
theorem one_of_chance {s : Int} {xs : List Int} (hc : chanceOk s xs = true) (hn : normalOk s xs = true) : (cornersL s xs).length = 1 := by
  have h1 := corners_some hn
  refine Nat.le_antisymm (Nat.le_of_not_lt fun h => ?_) h1
  refine corners_apart (s := s) (xs := xs) (i := 0) (j := 1) (by omega) (by omega) ?_
  obtain ⟨_, o, _, ho, e⟩ := corners_nth (s := s) (xs := xs) (i := 0) (by omega)
  obtain ⟨_, o2, _, ho2, e2⟩ := corners_nth (s := s) (xs := xs) (i := 1) (by omega)
  rw [e, e2, corner_of_chance hc hn ho, corner_of_chance hc hn ho2]
def twoB (n b j x : Nat) : Bool := (b == 0) || !decide (b < 2 ^ n) || single j || !hasB j x || !decide (x < n) || decide (predI (subB (2 ^ x)) b + predI (subB (2 ^ n - 1 - 2 ^ x)) b + at1 j b ≤ 1)
theorem twoF0 : ∀ n : Fin 5, ∀ b j : Fin 16, ∀ x : Fin 4, twoB n.val b.val j.val x.val = true := by decide +kernel
theorem twoF {n b j x : Nat} (hn : n ≤ 4) (hb16 : b < 16) (hj : j < 16) (hb0 : b ≠ 0) (hb : b < 2 ^ n) (hs : single j = false) (hx : hasB j x = true) (hxn : x < n) : predI (subB (2 ^ x)) b + predI (subB (2 ^ n - 1 - 2 ^ x)) b + at1 j b ≤ 1 := by
  have h := twoF0 ⟨n, by omega⟩ ⟨b, hb16⟩ ⟨j, hj⟩ ⟨x, by omega⟩
  simp only [twoB, hs, hx, hb, hxn, decide_true, Bool.not_true, Bool.or_false, Bool.or_eq_true, beq_iff_eq, decide_eq_true_eq] at h
  rcases h with h | h
  · exact absurd h hb0
  · exact h
theorem oneF : ∀ n : Fin 5, ∀ b : Fin 16, ∀ x : Fin 4, single b.val = true → b.val < 2 ^ n.val → x.val < n.val → predI (subB (2 ^ x.val)) b.val + predI (subB (2 ^ n.val - 1 - 2 ^ x.val)) b.val = 1 := by decide +kernel
theorem chance_of_one {s : Int} {xs : List Int} (hn : normalOk s xs = true) (h1 : (cornersL s xs).length = 1) : chanceOk s xs = true := by
  obtain ⟨p1, p4, hl, h0, hm, _⟩ := norm_size hn
  have h16 : 2 ^ s.toNat ≤ 2 ^ 4 := Nat.pow_le_pow_right (by decide) p4
  obtain ⟨c1, c2, c3⟩ := corners_good (s := s) (xs := xs) (i := 0) (by omega)
  obtain ⟨_, _, _, hb, s1, s2, _⟩ := massOk_facts hm
  have hx0 : ∀ j, j < xs.length → 0 ≤ nth xs j := fun j hj => (hb j hj).1
  obtain ⟨C, hC⟩ : ∃ C, nthL (cornersL s xs) 0 = C := ⟨_, rfl⟩
  rw [hC] at c1 c2 c3
  obtain ⟨_, _, _, _, t1, t2, _⟩ := massOk_facts (norm_size c2).2.2.2.2.1
  have hi : ∀ a, a < xs.length → impP a C * isum xs = impP a xs * isum C := fun a ha => by
    obtain ⟨i, hi, e⟩ := (corners_imp hn ha).2
    obtain rfl : i = 0 := by omega
    rw [hC] at e; exact e
  simp only [chanceOk, Bool.and_eq_true, allN_iff, Bool.or_eq_true, beq_iff_eq] at c1 ⊢
  refine ⟨hm, fun j hj => ?_⟩
  cases hs : single j
  · left
    by_cases hj0 : j = 0
    · subst hj0; exact h0
    · obtain ⟨x, hx⟩ := hasB_some ⟨s.toNat, by omega⟩ ⟨j, by show j < 2 ^ s.toNat; omega⟩ hj0
      have hxn : x.val < s.toNat := x.isLt
      have ha1 : (2 : Nat) ^ x.val < xs.length := by rw [hl]; exact Nat.pow_lt_pow_right (by decide) hxn
      have hpx := Nat.two_pow_pos x.val
      have ha2 : 2 ^ s.toNat - 1 - 2 ^ x.val < xs.length := by omega
      have E1 := hi _ ha1
      have E2 := hi _ ha2
      have hsum : impP (2 ^ x.val) C + impP (2 ^ s.toNat - 1 - 2 ^ x.val) C = isum C := by
        unfold impP
        rw [← dot_add, isum_ofl rfl]
        refine dot_congr _ _ fun b hb => ?_
        rcases c1.2 b hb with e | e
        · rw [e]; simp
        · rw [c3] at hb
          have := oneF ⟨s.toNat, by omega⟩ ⟨b, by omega⟩ ⟨x.val, by omega⟩ e (by show b < 2 ^ s.toNat; omega) hxn
          simp only at this
          rw [this]
      have hle : impP (2 ^ x.val) xs + impP (2 ^ s.toNat - 1 - 2 ^ x.val) xs + nth xs j ≤ isum xs := by
        have hd : dot (at1 j) xs xs.length = nth xs j := by rw [dot_at1, if_pos hj]
        unfold impP
        rw [← hd, ← dot_add, ← dot_add, isum_ofl rfl]
        refine dot_mono xs _ hx0 fun b hb hne => ?_
        have hb0 : b ≠ 0 := by rintro rfl; exact hne h0
        exact twoF p4 (by omega) (by omega) hb0 (by omega) hs hx hxn
      have hk : isum C * isum xs = (impP (2 ^ x.val) xs + impP (2 ^ s.toNat - 1 - 2 ^ x.val) xs) * isum C := by
        have e := congrArg (· * isum xs) hsum
        simp only [Int.add_mul] at e
        rw [E1, E2] at e
        rw [← e, Int.add_mul]
      have hk2 : (impP (2 ^ x.val) xs + impP (2 ^ s.toNat - 1 - 2 ^ x.val) xs + nth xs j) * isum C ≤ isum xs * isum C := Int.mul_le_mul_of_nonneg_right hle (by omega)
      rw [Int.add_mul, ← hk, Int.mul_comm (isum C)] at hk2
      have hk3 : nth xs j * isum C ≤ 0 := by omega
      have hj1 := hx0 j hj
      rcases Int.lt_or_eq_of_le hj1 with h | h
      · have := Int.mul_pos h (show 0 < isum C by omega); omega
      · exact h.symm
  · right; rfl
theorem corners_one {s : Int} {xs : List Int} (hn : normalOk s xs = true) : chanceOk s xs = decide ((cornersL s xs).length = 1) := by
  cases h : chanceOk s xs
  · have : (cornersL s xs).length ≠ 1 := fun e => by rw [chance_of_one hn e] at h; cases h
    simp [this]
  · simp [one_of_chance h hn]
end Go.Proofs.YtefmlbahmakboaaGreatDoor
