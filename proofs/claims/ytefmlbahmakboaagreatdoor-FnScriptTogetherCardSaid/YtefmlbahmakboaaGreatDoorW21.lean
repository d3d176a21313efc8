/- The act of the shared chance: l4Even, l12Shared, SharedAct both. The shared chance: SharedChance, both ways. -/
import Derived.Test.YtefmlbahmakboaaGreatDoorW15
import Derived.Test.YtefmlbahmakboaaGreatDoorW11
import Derived.Test.YtefmlbahmakboaaGreatDoorM2
import Derived.Test.YtefmlbahmakboaaGreatDoorN12
set_option linter.unusedSimpArgs false
set_option linter.unusedVariables false
namespace Go.Proofs.YtefmlbahmakboaaGreatDoor
open Go.RowKit
theorem isum_ofl2 {xs : List Int} {N : Nat} (hl : xs.length = N) : isum xs = dot (fun _ => 1) xs N := by rw [isum_dot, hl]
/-- the parts of the chance in which each set shares its part among its answers, each twelve times -/
def shcTo (xs : List Int) (N k : Nat) : List Int := iter (fun x l => l.set (2 ^ x) (evenTo xs (2 ^ x) xs.length)) (List.replicate N 0) k
def shcP (s : Int) (xs : List Int) : List Int := shcTo xs xs.length s.toNat
def shareM (s : Int) (xs : List Int) : MR := if massOk s xs then mkMass s (shcP s xs) else MR.no
theorem shcTo_succ (xs : List Int) (N k : Nat) : shcTo xs N (k + 1) = (shcTo xs N k).set (2 ^ k) (evenTo xs (2 ^ k) xs.length) := rfl
theorem shcTo_len (xs : List Int) (N k : Nat) : (shcTo xs N k).length = N := by
  induction k with
  | zero => simp [shcTo, iter]
  | succ k ih => rw [shcTo_succ, List.length_set, ih]
theorem pow_ne {x y : Nat} (h : x ≠ y) : 2 ^ x ≠ 2 ^ y := by
  rcases Nat.lt_or_gt_of_ne h with h1 | h1
  · exact Nat.ne_of_lt (Nat.pow_lt_pow_right (by decide) h1)
  · exact Nat.ne_of_gt (Nat.pow_lt_pow_right (by decide) h1)
theorem shcTo_nth (xs : List Int) (N k j : Nat) (h : ∀ x, x < k → j ≠ 2 ^ x) : nth (shcTo xs N k) j = 0 := by
  induction k with
  | zero => show nth (List.replicate N 0) j = 0; rw [nth_replicate]
  | succ k ih =>
    rw [shcTo_succ, nth_set, if_neg (fun e => h k (by omega) e.1.symm)]
    exact ih fun x hx => h x (by omega)
/-- a sum over answers -/
def sumX (f : Nat → Int) (k : Nat) : Int := iter (fun x t => t + f x) 0 k
theorem sumX_succ (f : Nat → Int) (k : Nat) : sumX f (k + 1) = sumX f k + f k := rfl
theorem sumX_congr {f g : Nat → Int} (k : Nat) (h : ∀ x, x < k → f x = g x) : sumX f k = sumX g k := by
  induction k with
  | zero => rfl
  | succ k ih => rw [sumX_succ, sumX_succ, ih (fun x hx => h x (by omega)), h k (by omega)]
theorem sumX_lin (c : Int) (f : Nat → Int) (k : Nat) : sumX (fun x => c * f x) k = c * sumX f k := by
  induction k with
  | zero => show (0 : Int) = c * 0; omega
  | succ k ih => rw [sumX_succ, sumX_succ, ih, Int.mul_add]
theorem dot_shcTo (g : Nat → Int) (xs : List Int) (N k : Nat) (h : ∀ x, x < k → 2 ^ x < N) : dot g (shcTo xs N k) N = sumX (fun x => g (2 ^ x) * evenTo xs (2 ^ x) xs.length) k := by
  induction k with
  | zero => exact dot_zero g N N
  | succ k ih =>
    rw [shcTo_succ, dot_set _ _ _ _ _ (h k (by omega)) (by rw [shcTo_len]; exact Nat.le_refl _), ih (fun x hx => h x (by omega)), shcTo_nth xs N k (2 ^ k) (fun x hx => pow_ne (by omega)), sumX_succ]
    rw [Int.sub_zero]
/-- how often a set has of another one's part, twelve times -/
def gA (a b : Nat) : Int := if b = 0 then 0 else ((12 * cnt (b &&& a) / cnt b : Nat) : Int)
theorem evenTo_dot (xs : List Int) (a k : Nat) : evenTo xs a k = dot (gA a) xs k := by
  induction k with
  | zero => rfl
  | succ k ih =>
    rw [dot_succ, ← ih]
    show evenTo xs a k + (if k = 0 then 0 else evenP (nth xs k) a k) = _
    congr 1
    unfold gA evenP
    split
    · rw [Int.zero_mul]
    · rw [Int.mul_comm]
theorem dot_sumX (f : Nat → Nat → Int) (xs : List Int) (n k : Nat) : sumX (fun x => dot (f x) xs n) k = dot (fun b => sumX (fun x => f x b) k) xs n := by
  induction k with
  | zero =>
    show (0 : Int) = dot (fun _ => 0) xs n
    induction n with
    | zero => rfl
    | succ n ih => rw [dot_succ, ← ih, Int.zero_mul]; omega
  | succ k ih =>
    rw [sumX_succ, ih, ← dot_add]
    exact dot_congr _ _ fun b _ => rfl
def pI4 (a b : Nat) : Int := predI (subB a) b
theorem shareF : ∀ s : Fin 5, ∀ a b : Fin (2 ^ s.val), sumX (fun x => pI4 a.val (2 ^ x) * gA (2 ^ x) b.val) s.val = gA a.val b.val := by decide +kernel
theorem fullF : ∀ s : Fin 5, ∀ b : Fin (2 ^ s.val), gA (2 ^ s.val - 1) b.val = if b.val = 0 then 0 else 12 := by decide +kernel
theorem gaF : ∀ x y : Fin 4, gA (2 ^ x.val) (2 ^ y.val) = if x.val = y.val then 12 else 0 := by decide +kernel
theorem pfullF : ∀ s : Fin 5, ∀ x : Fin s.val, pI4 (2 ^ s.val - 1) (2 ^ x.val) = 1 := by decide +kernel
theorem powF : ∀ s : Fin 5, ∀ x : Fin s.val, 2 ^ x.val < 2 ^ s.val := by decide
theorem singleF : ∀ j : Fin 16, single j.val = false → ∀ x : Fin 4, j.val ≠ 2 ^ x.val := by decide
theorem sub_bdS (p : Nat → Bool) {s : Int} {xs : List Int} (h : massOk s xs = true) : 0 ≤ dot (predI p) xs xs.length ∧ dot (predI p) xs xs.length ≤ 1000000 := by
  obtain ⟨_, hl, _, hb, _, h2, _⟩ := massOk_facts h
  have h0 := (predI_bd p xs xs.length (fun k hk => hb k (by omega)) xs.length (Nat.le_refl _)).1
  have h1 : dot (predI p) xs xs.length ≤ dot (fun _ => 1) xs xs.length := dot_mono xs xs.length (fun j hj => (hb j (by omega)).1) (fun j hj _ => by unfold predI; split <;> omega)
  rw [← isum_ofl2 (xs := xs) rfl] at h1
  omega
theorem size_k {s : Int} (h : okSize s = true) : s.toNat < 5 ∧ nsets s = 2 ^ s.toNat := by
  rcases okSize_iff.1 h with rfl | rfl | rfl | rfl <;> exact ⟨by decide, rfl⟩
theorem share_dot {s : Int} {xs : List Int} (h : massOk s xs = true) (g : Nat → Int) : dot g (shcP s xs) xs.length = sumX (fun x => g (2 ^ x) * evenTo xs (2 ^ x) xs.length) s.toNat := by
  obtain ⟨hs, hl, _⟩ := massOk_facts h
  obtain ⟨h5, hn⟩ := size_k hs
  exact dot_shcTo g xs _ _ fun x hx => by rw [hl, hn]; exact powF ⟨s.toNat, h5⟩ ⟨x, hx⟩
theorem share_sub {s : Int} {xs : List Int} (h : massOk s xs = true) {a : Nat} (ha : a < xs.length) : dot (predI (subB a)) (shcP s xs) xs.length = evenTo xs a xs.length := by
  obtain ⟨hs, hl, _⟩ := massOk_facts h
  obtain ⟨h5, hn⟩ := size_k hs
  rw [share_dot h, evenTo_dot]
  have e : sumX (fun x => predI (subB a) (2 ^ x) * evenTo xs (2 ^ x) xs.length) s.toNat = sumX (fun x => dot (fun b => pI4 a (2 ^ x) * gA (2 ^ x) b) xs xs.length) s.toNat := sumX_congr _ fun x _ => by rw [dot_lin, evenTo_dot]; rfl
  rw [e, dot_sumX]
  refine dot_congr _ _ fun b hb => ?_
  have := shareF ⟨s.toNat, h5⟩ ⟨a, by rw [hl, hn] at ha; exact ha⟩ ⟨b, by rw [hl, hn] at hb; exact hb⟩
  simp only at this
  rw [this]
theorem dot_twelve (xs : List Int) (n : Nat) : dot (fun b => if b = 0 then 0 else 12) xs (n + 1) = 12 * (dot (fun _ => 1) xs (n + 1) - nth xs 0) := by
  induction n with
  | zero => rw [dot_succ, dot_succ]; show (0 : Int) + 0 * _ = 12 * (0 + 1 * nth xs 0 - nth xs 0); omega
  | succ n ih => rw [dot_succ, ih, dot_succ (fun _ => 1) xs (n + 1), if_neg (by omega)]; omega
theorem share_whole {s : Int} {xs : List Int} (h : massOk s xs = true) : isum (shcP s xs) = 12 * (isum xs - nth xs 0) := by
  obtain ⟨hs, hl, _⟩ := massOk_facts h
  obtain ⟨h5, hn⟩ := size_k hs
  have hN := nsets_le hs
  have e1 : (shcP s xs).length = xs.length := shcTo_len _ _ _
  rw [isum_ofl2 e1, share_dot h]
  have e2 : sumX (fun x => (1 : Int) * evenTo xs (2 ^ x) xs.length) s.toNat = sumX (fun x => predI (subB (xs.length - 1)) (2 ^ x) * evenTo xs (2 ^ x) xs.length) s.toNat := sumX_congr _ fun x hx => by
    have := pfullF ⟨s.toNat, h5⟩ ⟨x, hx⟩
    simp only at this
    rw [← hn, ← hl] at this
    show (1 : Int) * _ = pI4 _ _ * _
    rw [this]
  rw [e2, ← share_dot h, share_sub h (by omega), evenTo_dot]
  have e3 : dot (gA (xs.length - 1)) xs xs.length = dot (fun b => if b = 0 then 0 else 12) xs xs.length := dot_congr _ _ fun b hb => by
    have := fullF ⟨s.toNat, h5⟩ ⟨b, by rw [hl, hn] at hb; exact hb⟩
    simp only at this
    rw [hl, hn, this]
  obtain ⟨m, hm⟩ : ∃ m, xs.length = m + 1 := ⟨xs.length - 1, by omega⟩
  rw [e3, isum_ofl2 hm, hm, dot_twelve]
theorem share_ok {s : Int} {xs : List Int} (ho : (shareM s xs).ok = true) : massOk s xs = true ∧ shareM s xs = mkMass s (shcP s xs) ∧ (mkMass s (shcP s xs)).ok = true := by
  unfold shareM at ho ⊢
  split at ho
  · rename_i h; rw [if_pos h]; exact ⟨h, rfl, ho⟩
  · cases ho
/-- what is known of a shared chance -/
theorem share_facts {s : Int} {xs : List Int} (ho : (shareM s xs).ok = true) : ∃ e : Int, 1 ≤ e ∧ (shareM s xs).size = s ∧ (shareM s xs).parts.length = xs.length ∧ massOk s (shareM s xs).parts = true ∧
    (∀ g, e * dot g (shareM s xs).parts xs.length = dot g (shcP s xs) xs.length) ∧ 1 ≤ isum xs - nth xs 0 ∧ e * isum (shareM s xs).parts = 12 * (isum xs - nth xs 0) := by
  obtain ⟨h, e1, h2⟩ := share_ok ho
  obtain ⟨g1, g2, g3, g4, g5⟩ := mkMass_parts h2
  have e2 : (shcP s xs).length = xs.length := shcTo_len _ _ _
  rw [e2] at g3 g5
  rw [e1]
  have h3 := g5 (fun _ => 1)
  rw [← isum_ofl2 g3, ← isum_ofl2 e2, share_whole h] at h3
  have h4 := (massOk_facts g4).2.2.2.2.1
  have h5 : 1 * 1 ≤ gcdL (shcP s xs) * isum (mkMass s (shcP s xs)).parts := Int.mul_le_mul g1 h4 (by decide) (by omega)
  exact ⟨_, g1, g2, g3, g4, g5, by omega, h3⟩
theorem share_nth {s : Int} {xs : List Int} (ho : (shareM s xs).ok = true) {j : Nat} (hj : j < xs.length) (hs : single j = false) : nth (shareM s xs).parts j = 0 := by
  obtain ⟨e, he, _, _, _, hd, _⟩ := share_facts ho
  obtain ⟨h, _, _⟩ := share_ok ho
  obtain ⟨hk, hl, h16, _⟩ := massOk_facts h
  obtain ⟨h5, hn⟩ := size_k hk
  have h1 := hd (at1 j)
  rw [dot_at1, dot_at1, if_pos hj, if_pos hj] at h1
  have h2 : nth (shcP s xs) j = 0 := shcTo_nth _ _ _ _ fun x hx => singleF ⟨j, by omega⟩ hs ⟨x, by omega⟩
  rw [h2] at h1
  rcases Int.mul_eq_zero.1 h1 with h3 | h3
  · omega
  · exact h3
theorem share_chance {s : Int} {xs : List Int} (ho : (shareM s xs).ok = true) : chanceOk (shareM s xs).size (shareM s xs).parts = true := by
  obtain ⟨e, he, e1, e2, e3, _⟩ := share_facts ho
  unfold chanceOk
  rw [e1, e3, Bool.true_and, allN_iff]
  intro k hk
  cases hs : single k
  · rw [share_nth ho (by omega) hs]; rfl
  · rw [Bool.or_true]
theorem share_belief {s : Int} {xs : List Int} (ho : (shareM s xs).ok = true) {a : Nat} (ha : a < xs.length) :
    redF (dot (predI (subB a)) (shareM s xs).parts xs.length - nth (shareM s xs).parts 0) (isum (shareM s xs).parts) = redF (evenTo xs a xs.length) (12 * (isum xs - nth xs 0)) ∧
    (redF (evenTo xs a xs.length) (12 * (isum xs - nth xs 0))).ok = true := by
  obtain ⟨e, he, e1, e2, e3, e4, e5, e6⟩ := share_facts ho
  obtain ⟨h, _, _⟩ := share_ok ho
  have hN := nsets_le (massOk_facts h).1
  have hl := (massOk_facts h).2.1
  have h0 : nth (shareM s xs).parts 0 = 0 := share_nth ho (by omega) (by decide)
  obtain ⟨_, hl2, _, _, s1, s2, _⟩ := massOk_facts e3
  have hb := sub_bdS (subB a) e3
  rw [e2] at hb
  have h1 := e4 (predI (subB a))
  rw [share_sub h ha] at h1
  have hq : redF (dot (predI (subB a)) (shareM s xs).parts xs.length - nth (shareM s xs).parts 0) (isum (shareM s xs).parts) = redF (evenTo xs a xs.length) (12 * (isum xs - nth xs 0)) := by
    rw [h0, Int.sub_zero]
    refine redF_eq (by omega) (by omega) ?_
    rw [← h1, ← e6, ← Int.mul_assoc, Int.mul_comm _ e]
  refine ⟨hq, ?_⟩
  rw [← hq, h0, Int.sub_zero]
  exact redF_ok (by omega) (by omega) (by omega) (by omega)
theorem share_again {s : Int} {xs : List Int} (ho : (shareM s xs).ok = true) : shareM s (shareM s xs).parts = shareM s xs := by
  obtain ⟨e, he, e1, e2, e3, e4, _⟩ := share_facts ho
  obtain ⟨h, _, _⟩ := share_ok ho
  obtain ⟨hk, hl, h16, _⟩ := massOk_facts h
  obtain ⟨h5, hn⟩ := size_k hk
  have hself : shareM s xs = mkMass s (shareM s xs).parts := by
    rw [mkMass_self e3]
    cases hh : shareM s xs with
    | mk a b c => rw [hh] at ho e1; simp only at ho e1; rw [ho, e1]
  generalize (shareM s xs).parts = ps at *
  rw [hself]
  unfold shareM
  rw [if_pos e3]
  refine mkMass_dot s _ _ xs.length 1 12 (by decide) (by decide) (by rw [← e2]; exact shcTo_len _ _ _) e2 fun g => ?_
  have h1 := share_dot e3 g
  rw [e2] at h1
  rw [h1, Int.one_mul]
  have key : ∀ x, x < s.toNat → e * evenTo ps (2 ^ x) xs.length = 12 * evenTo xs (2 ^ x) xs.length := fun x hx => by
    rw [evenTo_dot ps, e4, share_dot h]
    have e7 : sumX (fun y => gA (2 ^ x) (2 ^ y) * evenTo xs (2 ^ y) xs.length) s.toNat = sumX (fun y => if x = y then 12 * evenTo xs (2 ^ x) xs.length else 0) s.toNat := sumX_congr _ fun y hy => by
      have := gaF ⟨x, by omega⟩ ⟨y, by omega⟩
      simp only at this
      rw [this]
      by_cases hxy : x = y
      · subst hxy; rw [if_pos rfl, if_pos rfl]
      · rw [if_neg hxy, if_neg hxy, Int.zero_mul]
    rw [e7]
    have e8 : ∀ k, sumX (fun y => if x = y then 12 * evenTo xs (2 ^ x) xs.length else 0) k = if x < k then 12 * evenTo xs (2 ^ x) xs.length else 0 := by
      intro k
      induction k with
      | zero => rfl
      | succ k ih =>
        rw [sumX_succ, ih]
        by_cases hxk : x = k
        · subst hxk; rw [if_neg (by omega), if_pos rfl, if_pos (by omega)]; omega
        · rw [if_neg hxk]
          by_cases h2 : x < k
          · rw [if_pos h2, if_pos (by omega)]; omega
          · rw [if_neg h2, if_neg (by omega)]; omega
    rw [e8, if_pos hx]
  have h2 : e * sumX (fun x => g (2 ^ x) * evenTo ps (2 ^ x) xs.length) s.toNat = e * (12 * dot g ps xs.length) := by
    rw [← sumX_lin, Int.mul_left_comm, e4, share_dot h, ← sumX_lin]
    refine sumX_congr _ fun x hx => ?_
    rw [Int.mul_left_comm, key x hx, Int.mul_left_comm]
  exact Int.eq_of_mul_eq_mul_left (by omega) h2
def shTo (xs gs : List Int) (k : Nat) : Int := iter (fun x t => t + nth gs x * evenTo xs (2 ^ x) xs.length) 0 k
theorem mul_bd2 (g e : Int) (h0 : -1000 ≤ g) (h1 : g ≤ 1000) (h2 : 0 ≤ e) (h3 : e ≤ 768000000) : -768000000000 ≤ g * e ∧ g * e ≤ 768000000000 := by
  have e1 : g * e ≤ 1000 * e := Int.mul_le_mul_of_nonneg_right h1 h2
  have e2 : (-1000) * e ≤ g * e := Int.mul_le_mul_of_nonneg_right h0 h2
  omega
theorem shTo_bd {s : Int} {n m : Nat} {xs gs : List Int} (h : MG s n m xs gs) (k : Nat) (hk : k ≤ m) : -768000000000 * (k : Int) ≤ shTo xs gs k ∧ shTo xs gs k ≤ 768000000000 * (k : Int) := by
  induction k with
  | zero => exact ⟨by simp [shTo, iter], by simp [shTo, iter]⟩
  | succ k ih =>
    have h1 := ih (by omega)
    have h2 := h.gb1 k (by omega)
    have h3 := evenTo_bd xs (2 ^ k) n h.n16 h.xb n (Nat.le_refl _)
    have hn := h.n16
    have h4 := mul_bd2 (nth gs k) (evenTo xs (2 ^ k) xs.length) h2.1 h2.2 (by rw [h.xlen]; omega) (by rw [h.xlen]; omega)
    show _ ≤ shTo xs gs k + nth gs k * evenTo xs (2 ^ k) xs.length ∧ shTo xs gs k + nth gs k * evenTo xs (2 ^ k) xs.length ≤ _
    push_cast
    omega
theorem pow_lt16 (k : Nat) (h : k < 4) : 2 ^ k < 16 := by
  match k, h with
  | 0, _ => decide
  | 1, _ => decide
  | 2, _ => decide
  | 3, _ => decide
theorem shcTo_bd (xs : List Int) (N : Nat) (hn : xs.length ≤ 16) (hxb : ∀ k, k < xs.length → 0 ≤ nth xs k ∧ nth xs k ≤ 1000000) (k j : Nat) : 0 ≤ nth (shcTo xs N k) j ∧ nth (shcTo xs N k) j ≤ 4000000000000000000 := by
  induction k with
  | zero => show 0 ≤ nth (List.replicate N 0) j ∧ nth (List.replicate N 0) j ≤ _; rw [nth_replicate]; omega
  | succ k ih =>
    rw [shcTo_succ, nth_set]
    have := evenTo_bd xs (2 ^ k) xs.length hn hxb xs.length (Nat.le_refl _)
    split
    · omega
    · exact ih
set_option maxHeartbeats 2000000 in
theorem SharedChance_any (s : Int) (ao : Option Addr) (n c : Nat) (xs : List Int) (w : World) (hx : IntsAt w ao n xs) :
    Calls Tryz.prog 150 #[.agg #[.int .i64 s, .slice ao n c]] w fun e w' => RetM (shareM s xs) w.heap.size e w' ∧ Below w.heap.size w w' := by
  cases hm : massOk s xs
  · have HR : Hid (shareM s xs = MR.no) := by show shareM s xs = _; simp [shareM, hm]
    rw [HR.out]
    go_enter Tryz.func150, Tryz.ntmps150
    go_wp2_with fail
    refine (isMass_any _ _ _ _ xs _ (hx.below (by (repeat (first | exact Below.refl _ _ | assumption | refine Below.alloc ?_ (by first | omega | (simp <;> omega)) _ | refine Below.setCell ?_ (by first | omega | (simp <;> omega)) _ | refine Below.drew ?_ | refine below_drewN ?_))))).mono ?_; rw [hm]; rintro e w1 ⟨rfl, hb1⟩
    obtain ⟨h10, h11, f20, f21⟩ := boxG (w.heap.size + 1) hb1 (by simp)
    have hB1 : Below w.heap.size w w1 := Below.trans (by (repeat (first | exact Below.refl _ _ | assumption | refine Below.alloc ?_ (by simp <;> omega) _ | refine Below.setCell ?_ (by simp <;> omega) _ | refine Below.drew ?_ | refine below_drewN ?_))) (hb1.mono (by simp <;> omega))
    clear hb1
    go_wp2
    refine bodyPost_ret (v := .tuple #[.agg #[.int .i64 0, .slice none 0 0], .bool false]) (by simp [results, Tryz.results150, go_sem, h10, h11]) rfl ⟨?_, ?_⟩
    · exact RetM.no _ _
    · (repeat (first | exact Below.refl _ _ | assumption | refine Below.alloc ?_ (by simp <;> omega) _ | refine Below.setCell ?_ (by simp <;> omega) _ | refine Below.drew ?_ | refine below_drewN ?_))
  · obtain ⟨hs, hl, h16, hxb, _⟩ := massOk_facts hm
    obtain ⟨h5, hnk⟩ := size_k hs
    have hN := nsets_le hs
    obtain rfl : n = xs.length := hx.len.symm
    have HL := hid hl
    have HR : Hid (shareM s xs = mkMass s (shcTo xs xs.length s.toNat)) := by show shareM s xs = _; unfold shareM; rw [if_pos hm]; rfl
    rw [HR.out]
    obtain ⟨q, hq⟩ : ∃ q : Nat, s.toNat = q := ⟨_, rfl⟩
    have hsq : s = (q : Int) := by rcases okSize_iff.1 hs with h | h | h | h <;> omega
    rw [hq] at hnk h5 ⊢
    have HP : Hid (∀ x, x < q → 2 ^ x < xs.length) := fun x hx => by rw [HL.out, hnk]; exact powF ⟨q, h5⟩ ⟨x, hx⟩
    have HBD := hid (fun k j => shcTo_bd xs xs.length h16 hxb k j)
    have HXB := hid hxb
    subst hsq
    obtain ⟨N, hNe⟩ : ∃ N, xs.length = N := ⟨_, rfl⟩
    rw [hNe] at hx h16 HP HBD ⊢
    have hN0 : 2 ≤ N := by rw [← hNe, HL.out]; exact hN.1
    have HNE := hid hNe
    have HC : Hid (∀ (a : Nat) w', a < N → IntsAt w' ao N xs → Calls Tryz.prog 74 #[.agg #[.int .i64 (q : Int), .slice ao N c], .int .i64 a] w' fun e w'' => e = .returned (.int .i64 (evenTo xs a N)) ∧ Below w'.heap.size w' w'') := fun a w' ha h1 => sharedPart_any _ _ _ _ a xs w' h1 h16 (by omega) (by rw [← HNE.out]; exact HXB.out)
    have HST : Hid (∀ k, shcTo xs N (k + 1) = (shcTo xs N k).set (2 ^ k) (evenTo xs (2 ^ k) N)) := fun k => by rw [shcTo_succ, HNE.out]
    clear hxb hnk hq hl hNe hN
    go_enter Tryz.func150, Tryz.ntmps150
    go_wp2_with fail
    refine (isMass_any _ _ _ _ xs _ (hx.below (by (repeat (first | exact Below.refl _ _ | assumption | refine Below.alloc ?_ (by first | omega | (simp <;> omega)) _ | refine Below.setCell ?_ (by first | omega | (simp <;> omega)) _ | refine Below.drew ?_ | refine below_drewN ?_))))).mono ?_; rw [hm]; rintro e w1 ⟨rfl, hb1⟩
    obtain ⟨h10, h11, f20, f21⟩ := boxG (w.heap.size + 1) hb1 (by simp)
    have p0 := keep hb1 (a := ⟨w.heap.size, 0, none⟩) (v := .int .i64 (q : Int)) (by simp)
    have p1 := keep hb1 (a := ⟨w.heap.size, 1, none⟩) (v := .slice ao N c) (by simp)
    have hz1 : w.heap.size + 1 < w1.heap.size := by have := hb1.size; simp at this; omega
    have hB1 : Below w.heap.size w w1 := Below.trans (by (repeat (first | exact Below.refl _ _ | assumption | refine Below.alloc ?_ (by simp <;> omega) _ | refine Below.setCell ?_ (by simp <;> omega) _ | refine Below.drew ?_ | refine below_drewN ?_))) (hb1.mono (by simp <;> omega))
    clear hb1 hm
    go_wp2_with (at_make; refine wpList_make_ints rfl _ _ rfl N _ _ rfl rfl rfl rfl (by omega) ?_; intro w2 hrow hb2 hz2; (have p0' := keep hb2 p0); (have p1' := keep hb2 p1); (have h10' := keep hb2 h10); (have h11' := keep hb2 h11); (have f20' := keepF hb2 h10 f20); (have f21' := keepF hb2 h11 f21))
    have hB2 : Below w.heap.size w w2 := chain hB1 hb2
    clear p0 p1 h10 h11 f20 f21 hb2
    obtain ⟨g, hg⟩ : ∃ g, w1.heap.size = g := ⟨_, rfl⟩
    rw [hg] at hrow hz2 hz1 ⊢
    clear hg
    have hr0 : Row w2 g (.slice (some ⟨g, 0, none⟩) N N) (shcTo xs N 0) := hrow
    go_loopw [5, 16] (fun _ i wr => ∃ k : Nat, k ≤ q ∧ i = .int .i64 k ∧ Row wr g (.slice (some ⟨g, 0, none⟩) N N) (shcTo xs N k) ∧ w2.grownBy wr (some g)) (fun _ i _ => q - (intOf i).toNat)
    case atStart => exact ⟨0, by omega, rfl, hr0, grownBy_refl _ _⟩
    case round =>
      obtain ⟨k, hk, rfl, hr, hg⟩ := hrel
      have hB : Below w.heap.size w wr := below_grownBy hB2 hB2.size hg (fun k e => by injection e with e; omega)
      have r0 := keepG hg p0' (by omega)
      have r1 := keepG hg p1' (by omega)
      by_cases hlt : k < q
      · have hTk := HP.out k hlt
        have hsl := shl_nat k (by omega)
        have HSK := hid (HST.out k)
        obtain ⟨a, ha⟩ : ∃ a : Nat, 2 ^ k = a := ⟨_, rfl⟩
        rw [ha] at hTk hsl HSK
        have hT0 : (0 : Int) ≤ (a : Int) := by omega
        have hT1 : (a : Int) < (N : Int) := by omega
        have hk0 : (0 : Int) ≤ (k : Int) := by omega
        have hk1 : (k : Int) < (q : Int) := by omega
        have HCA : Hid (∀ w', IntsAt w' ao N xs → Calls Tryz.prog 74 #[.agg #[.int .i64 (q : Int), .slice ao N c], .int .i64 a] w' fun e w'' => e = .returned (.int .i64 (evenTo xs a N)) ∧ Below w'.heap.size w' w'') := fun w' h1 => HC.out a w' hTk h1
        obtain ⟨hc3, hf3, _⟩ := hr.cellAt hTk
        clear ha
        go_wp2
        refine wp_region_ov_tail 8 (by kernel_rfl) (by kernel_rfl) (fun _ _ _ _ _ h => h) ?_
        simp only [List.take_succ_cons, List.take_zero, List.drop_succ_cons, List.drop_zero]
        repeat (first | go_big_quiet_step ((go_at_call 74; (with_reducible exact ov_call (HCA.out _ ((hx.below hB).below (ov_below _ _)))))) | quiet_step ((go_at_call 74; (with_reducible exact ov_call (HCA.out _ ((hx.below hB).below (ov_below _ _)))))))
        refine wpQuiet_nil ?_
        intro _ hw_ov
        obtain ⟨x_ov, hw_ov2⟩ := hw_ov
        subst hw_ov2
        obtain ⟨w3, hw_ov3, hb3⟩ := ov_gen _ x_ov
        rw [hw_ov3]
        clear hw_ov3 x_ov
        have hr3 := hr.below hb3
        replace hf3 := keepF hb3 hc3 hf3
        replace hc3 := keep hb3 hc3
        obtain ⟨w4, hw4, hr4, hg4⟩ := store_gen hr3 hTk (evenTo xs a N)
        have HG := hid (grownBy_trans (grownBy_trans hg (grownBy_below hb3 (some g))) hg4)
        have HW := hid hw4
        clear hw4 hg4 hr3 hr hb3 hg r0 r1
        go_wp2
        rw [HW.out]
        go_roundw
        case rel => first | exact ⟨k + 1, by omega, by go_num, by rw [HSK.out]; exact hr4, HG.out⟩ | exact ⟨_, ⟨k + 1, by omega, by go_num, by rw [HSK.out]; exact hr4, HG.out⟩, rfl⟩ | exact ⟨_, _, ⟨k + 1, by omega, by go_num, by rw [HSK.out]; exact hr4, HG.out⟩, rfl, rfl⟩ | exact ⟨_, _, _, ⟨k + 1, by omega, by go_num, by rw [HSK.out]; exact hr4, HG.out⟩, rfl, rfl, rfl⟩ | exact ⟨_, _, _, _, ⟨k + 1, by omega, by go_num, by rw [HSK.out]; exact hr4, HG.out⟩, rfl, rfl, rfl, rfl⟩ | exact ⟨_, _, _, _, _, ⟨k + 1, by omega, by go_num, by rw [HSK.out]; exact hr4, HG.out⟩, rfl, rfl, rfl, rfl, rfl⟩
        case measure => simp [intOf]; omega
      · obtain rfl : k = q := by omega
        have f20 := keepGF hg h10' (by omega) f20'
        have f21 := keepGF hg h11' (by omega) f21'
        have h10 := keepG hg h10' (by omega)
        have h11 := keepG hg h11' (by omega)
        have hzz := hg.size
        obtain ⟨ao', n', c', e', hi⟩ := hr.ints
        injection e' with e1 e2 e3
        subst e1 e2 e3
        clear hg p0' p1' h10' h11' f20' f21'
        go_wp2_with fail
        refine (makeMass_any _ _ _ _ (shcTo xs N k) _ hi h16 (fun j _ => HBD.out k j)).mono ?_; rintro e w5 ⟨⟨v, rfl, hr5⟩, hb5⟩
        obtain ⟨a5, n5, c5, rfl, hi5⟩ := hr5.ints
        replace f20 := keepF hb5 h10 f20
        replace f21 := keepF hb5 h11 f21
        replace h10 := keep hb5 h10
        replace h11 := keep hb5 h11
        have hB5 := chain hB hb5
        have hz5 := hb5.size
        clear hb5
        go_wp2
        refine bodyPost_ret (v := .tuple #[.agg #[.int .i64 (mkMass (k : Int) (shcTo xs N k)).size, .slice a5 n5 c5], .bool (mkMass (k : Int) (shcTo xs N k)).ok]) (by simp [results, Tryz.results150, go_sem, h10, h11, f20, f21]) rfl ⟨?_, ?_⟩
        · exact ⟨_, rfl, (((hr5.mono (base' := w.heap.size + 1 + 1) (by omega)).setBelow (by simp) _).setBelow (by simp) _).mono (by omega)⟩
        · (repeat (first | exact Below.refl _ _ | assumption | refine Below.alloc ?_ (by first | omega | (simp <;> omega)) _ | refine Below.setCell ?_ (by first | omega | (simp <;> omega)) _ | refine Below.drew ?_ | refine below_drewN ?_))
end Go.Proofs.YtefmlbahmakboaaGreatDoor
