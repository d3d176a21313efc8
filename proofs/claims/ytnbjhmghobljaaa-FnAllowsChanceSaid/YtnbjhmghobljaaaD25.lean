/- Plain: the shared chance. No program in sight. Plain: the last answers of an order have just what is believed of them together; corners are specializations. The mean of two masses: MixMasses, both ways. Plain: allowed chances are specializations; the shared chance is allowed, and so is a mean. What the reference draws for FnAllowsChance (printed by mkd25.py). -/
import Derived.Test.YtnbjhmghobljaaaM2
import Derived.Test.YtnbjhmghobljaaaW15
import Derived.Test.YtnbjhmghobljaaaN12
import Derived.Test.YtnbjhmghobljaaaF2
import Derived.Test.YtnbjhmghobljaaaW30
import Derived.Test.YtnbjhmghobljaaaS9
import Derived.Test.YtnbjhmghobljaaaS4
import Derived.Test.YtnbjhmghobljaaaW22
import Derived.Test.YtnbjhmghobljaaaW11
import Derived.Test.YtnbjhmghobljaaaW4
import Derived.Test.YtnbjhmghobljaaaE11
import Derived.Test.YtnbjhmghobljaaaD13
import Derived.Test.YtnbjhmghobljaaaD8
import Derived.Test.YtnbjhmghobljaaaC6
set_option linter.unusedSimpArgs false
set_option linter.unusedVariables false
namespace Go.Proofs.Ytnbjhmghobljaaa
open Go.RowKit
theorem isum_ofl2 {xs : List Int} {N : Nat} (hl : xs.length = N) : isum xs = dot (fun _ => 1) xs N := by rw [isum_dot, hl]
/-- the parts of the chance in which each set shares its part among its answers, each twelve times -/
def shcTo (xs : List Int) (N k : Nat) : List Int := iter (fun x l => l.set (2 ^ x) (evenTo xs (2 ^ x) xs.length)) (List.replicate N 0) k
def shcP (s : Int) (xs : List Int) : List Int := shcTo xs xs.length s.toNat
def shareM (s : Int) (xs : List Int) : MR := if massOk s xs then mkMass s (shcP s xs) else MR.no
theorem shcTo_succ (xs : List Int) (N k : Nat) : shcTo xs N (k + 1) = (shcTo xs N k).set (2 ^ k) (evenTo xs (2 ^ k) xs.length) := rfl
theorem shcTo_len (xs : List Int) (N k : Nat) : (shcTo xs N k).length = N := by
  induction k with
  | zero => simp [shcTo, iter]
  | succ k ih => rw [shcTo_succ, List.length_set, ih]
theorem pow_ne {x y : Nat} (h : x ≠ y) : 2 ^ x ≠ 2 ^ y := by
  rcases Nat.lt_or_gt_of_ne h with h1 | h1
  · exact Nat.ne_of_lt (Nat.pow_lt_pow_right (by decide) h1)
  · exact Nat.ne_of_gt (Nat.pow_lt_pow_right (by decide) h1)
theorem shcTo_nth (xs : List Int) (N k j : Nat) (h : ∀ x, x < k → j ≠ 2 ^ x) : nth (shcTo xs N k) j = 0 := by
  induction k with
  | zero => show nth (List.replicate N 0) j = 0; rw [nth_replicate]
  | succ k ih =>
    rw [shcTo_succ, nth_set, if_neg (fun e => h k (by omega) e.1.symm)]
    exact ih fun x hx => h x (by omega)
/-- a sum over answers -/
def sumX (f : Nat → Int) (k : Nat) : Int := iter (fun x t => t + f x) 0 k
theorem sumX_succ (f : Nat → Int) (k : Nat) : sumX f (k + 1) = sumX f k + f k := rfl
theorem sumX_congr {f g : Nat → Int} (k : Nat) (h : ∀ x, x < k → f x = g x) : sumX f k = sumX g k := by
  induction k with
  | zero => rfl
  | succ k ih => rw [sumX_succ, sumX_succ, ih (fun x hx => h x (by omega)), h k (by omega)]
theorem sumX_lin (c : Int) (f : Nat → Int) (k : Nat) : sumX (fun x => c * f x) k = c * sumX f k := by
  induction k with
  | zero => show (0 : Int) = c * 0; omega
  | succ k ih => rw [sumX_succ, sumX_succ, ih, Int.mul_add]
theorem dot_shcTo (g : Nat → Int) (xs : List Int) (N k : Nat) (h : ∀ x, x < k → 2 ^ x < N) : dot g (shcTo xs N k) N = sumX (fun x => g (2 ^ x) * evenTo xs (2 ^ x) xs.length) k := by
  induction k with
  | zero => exact dot_zero g N N
  | succ k ih =>
    rw [shcTo_succ, dot_set _ _ _ _ _ (h k (by omega)) (by rw [shcTo_len]; exact Nat.le_refl _), ih (fun x hx => h x (by omega)), shcTo_nth xs N k (2 ^ k) (fun x hx => pow_ne (by omega)), sumX_succ]
    rw [Int.sub_zero]
/-- how often a set has of another one's part, twelve times -/
def gA (a b : Nat) : Int := if b = 0 then 0 else ((12 * cnt (b &&& a) / cnt b : Nat) : Int)
theorem evenTo_dot (xs : List Int) (a k : Nat) : evenTo xs a k = dot (gA a) xs k := by
  induction k with
  | zero => rfl
  | succ k ih =>
    rw [dot_succ, ← ih]
    show evenTo xs a k + (if k = 0 then 0 else evenP (nth xs k) a k) = _
    congr 1
    unfold gA evenP
    split
    · rw [Int.zero_mul]
    · rw [Int.mul_comm]
theorem dot_sumX (f : Nat → Nat → Int) (xs : List Int) (n k : Nat) : sumX (fun x => dot (f x) xs n) k = dot (fun b => sumX (fun x => f x b) k) xs n := by
  induction k with
  | zero =>
    show (0 : Int) = dot (fun _ => 0) xs n
    induction n with
    | zero => rfl
    | succ n ih => rw [dot_succ, ← ih, Int.zero_mul]; omega
  | succ k ih =>
    rw [sumX_succ, ih, ← dot_add]
    exact dot_congr _ _ fun b _ => rfl
def pI4 (a b : Nat) : Int := predI (subB a) b
theorem shareF : ∀ s : Fin 5, ∀ a b : Fin (2 ^ s.val), sumX (fun x => pI4 a.val (2 ^ x) * gA (2 ^ x) b.val) s.val = gA a.val b.val := by decide +kernel
theorem fullF : ∀ s : Fin 5, ∀ b : Fin (2 ^ s.val), gA (2 ^ s.val - 1) b.val = if b.val = 0 then 0 else 12 := by decide +kernel
theorem gaF : ∀ x y : Fin 4, gA (2 ^ x.val) (2 ^ y.val) = if x.val = y.val then 12 else 0 := by decide +kernel
theorem pfullF : ∀ s : Fin 5, ∀ x : Fin s.val, pI4 (2 ^ s.val - 1) (2 ^ x.val) = 1 := by decide +kernel
theorem powF : ∀ s : Fin 5, ∀ x : Fin s.val, 2 ^ x.val < 2 ^ s.val := by decide
theorem singleF : ∀ j : Fin 16, single j.val = false → ∀ x : Fin 4, j.val ≠ 2 ^ x.val := by decide
theorem sub_bdS (p : Nat → Bool) {s : Int} {xs : List Int} (h : massOk s xs = true) : 0 ≤ dot (predI p) xs xs.length ∧ dot (predI p) xs xs.length ≤ 1000000 := by
  obtain ⟨_, hl, _, hb, _, h2, _⟩ := massOk_facts h
  have h0 := (predI_bd p xs xs.length (fun k hk => hb k (by omega)) xs.length (Nat.le_refl _)).1
  have h1 : dot (predI p) xs xs.length ≤ dot (fun _ => 1) xs xs.length := dot_mono xs xs.length (fun j hj => (hb j (by omega)).1) (fun j hj _ => by unfold predI; split <;> omega)
  rw [← isum_ofl2 (xs := xs) rfl] at h1
  omega
theorem size_k {s : Int} (h : okSize s = true) : s.toNat < 5 ∧ nsets s = 2 ^ s.toNat := by
  rcases okSize_iff.1 h with rfl | rfl | rfl | rfl <;> exact ⟨by decide, rfl⟩
theorem share_dot {s : Int} {xs : List Int} (h : massOk s xs = true) (g : Nat → Int) : dot g (shcP s xs) xs.length = sumX (fun x => g (2 ^ x) * evenTo xs (2 ^ x) xs.length) s.toNat := by
  obtain ⟨hs, hl, _⟩ := massOk_facts h
  obtain ⟨h5, hn⟩ := size_k hs
  exact dot_shcTo g xs _ _ fun x hx => by rw [hl, hn]; exact powF ⟨s.toNat, h5⟩ ⟨x, hx⟩
theorem share_sub {s : Int} {xs : List Int} (h : massOk s xs = true) {a : Nat} (ha : a < xs.length) : dot (predI (subB a)) (shcP s xs) xs.length = evenTo xs a xs.length := by
  obtain ⟨hs, hl, _⟩ := massOk_facts h
  obtain ⟨h5, hn⟩ := size_k hs
  rw [share_dot h, evenTo_dot]
  have e : sumX (fun x => predI (subB a) (2 ^ x) * evenTo xs (2 ^ x) xs.length) s.toNat = sumX (fun x => dot (fun b => pI4 a (2 ^ x) * gA (2 ^ x) b) xs xs.length) s.toNat := sumX_congr _ fun x _ => by rw [dot_lin, evenTo_dot]; rfl
  rw [e, dot_sumX]
  refine dot_congr _ _ fun b hb => ?_
  have := shareF ⟨s.toNat, h5⟩ ⟨a, by rw [hl, hn] at ha; exact ha⟩ ⟨b, by rw [hl, hn] at hb; exact hb⟩
  simp only at this
  rw [this]
theorem dot_twelve (xs : List Int) (n : Nat) : dot (fun b => if b = 0 then 0 else 12) xs (n + 1) = 12 * (dot (fun _ => 1) xs (n + 1) - nth xs 0) := by
  induction n with
  | zero => rw [dot_succ, dot_succ]; show (0 : Int) + 0 * _ = 12 * (0 + 1 * nth xs 0 - nth xs 0); omega
  | succ n ih => rw [dot_succ, ih, dot_succ (fun _ => 1) xs (n + 1), if_neg (by omega)]; omega
theorem share_whole {s : Int} {xs : List Int} (h : massOk s xs = true) : isum (shcP s xs) = 12 * (isum xs - nth xs 0) := by
  obtain ⟨hs, hl, _⟩ := massOk_facts h
  obtain ⟨h5, hn⟩ := size_k hs
  have hN := nsets_le hs
  have e1 : (shcP s xs).length = xs.length := shcTo_len _ _ _
  rw [isum_ofl2 e1, share_dot h]
  have e2 : sumX (fun x => (1 : Int) * evenTo xs (2 ^ x) xs.length) s.toNat = sumX (fun x => predI (subB (xs.length - 1)) (2 ^ x) * evenTo xs (2 ^ x) xs.length) s.toNat := sumX_congr _ fun x hx => by
    have := pfullF ⟨s.toNat, h5⟩ ⟨x, hx⟩
    simp only at this
    rw [← hn, ← hl] at this
    show (1 : Int) * _ = pI4 _ _ * _
    rw [this]
  rw [e2, ← share_dot h, share_sub h (by omega), evenTo_dot]
  have e3 : dot (gA (xs.length - 1)) xs xs.length = dot (fun b => if b = 0 then 0 else 12) xs xs.length := dot_congr _ _ fun b hb => by
    have := fullF ⟨s.toNat, h5⟩ ⟨b, by rw [hl, hn] at hb; exact hb⟩
    simp only at this
    rw [hl, hn, this]
  obtain ⟨m, hm⟩ : ∃ m, xs.length = m + 1 := ⟨xs.length - 1, by omega⟩
  rw [e3, isum_ofl2 hm, hm, dot_twelve]
theorem share_ok {s : Int} {xs : List Int} (ho : (shareM s xs).ok = true) : massOk s xs = true ∧ shareM s xs = mkMass s (shcP s xs) ∧ (mkMass s (shcP s xs)).ok = true := by
  unfold shareM at ho ⊢
  split at ho
  · rename_i h; rw [if_pos h]; exact ⟨h, rfl, ho⟩
  · cases ho
/-- what is known of a shared chance -/
theorem share_facts {s : Int} {xs : List Int} (ho : (shareM s xs).ok = true) : ∃ e : Int, 1 ≤ e ∧ (shareM s xs).size = s ∧ (shareM s xs).parts.length = xs.length ∧ massOk s (shareM s xs).parts = true ∧
    (∀ g, e * dot g (shareM s xs).parts xs.length = dot g (shcP s xs) xs.length) ∧ 1 ≤ isum xs - nth xs 0 ∧ e * isum (shareM s xs).parts = 12 * (isum xs - nth xs 0) := by
  obtain ⟨h, e1, h2⟩ := share_ok ho
  obtain ⟨g1, g2, g3, g4, g5⟩ := mkMass_parts h2
  have e2 : (shcP s xs).length = xs.length := shcTo_len _ _ _
  rw [e2] at g3 g5
  rw [e1]
  have h3 := g5 (fun _ => 1)
  rw [← isum_ofl2 g3, ← isum_ofl2 e2, share_whole h] at h3
  have h4 := (massOk_facts g4).2.2.2.2.1
  have h5 : 1 * 1 ≤ gcdL (shcP s xs) * isum (mkMass s (shcP s xs)).parts := Int.mul_le_mul g1 h4 (by decide) (by omega)
  exact ⟨_, g1, g2, g3, g4, g5, by omega, h3⟩
theorem share_nth {s : Int} {xs : List Int} (ho : (shareM s xs).ok = true) {j : Nat} (hj : j < xs.length) (hs : single j = false) : nth (shareM s xs).parts j = 0 := by
  obtain ⟨e, he, _, _, _, hd, _⟩ := share_facts ho
  obtain ⟨h, _, _⟩ := share_ok ho
  obtain ⟨hk, hl, h16, _⟩ := massOk_facts h
  obtain ⟨h5, hn⟩ := size_k hk
  have h1 := hd (at1 j)
  rw [dot_at1, dot_at1, if_pos hj, if_pos hj] at h1
  have h2 : nth (shcP s xs) j = 0 := shcTo_nth _ _ _ _ fun x hx => singleF ⟨j, by omega⟩ hs ⟨x, by omega⟩
  rw [h2] at h1
  rcases Int.mul_eq_zero.1 h1 with h3 | h3
  · omega
  · exact h3
theorem share_chance {s : Int} {xs : List Int} (ho : (shareM s xs).ok = true) : chanceOk (shareM s xs).size (shareM s xs).parts = true := by
  obtain ⟨e, he, e1, e2, e3, _⟩ := share_facts ho
  unfold chanceOk
  rw [e1, e3, Bool.true_and, allN_iff]
  intro k hk
  cases hs : single k
  · rw [share_nth ho (by omega) hs]; rfl
  · rw [Bool.or_true]
theorem share_belief {s : Int} {xs : List Int} (ho : (shareM s xs).ok = true) {a : Nat} (ha : a < xs.length) :
    redF (dot (predI (subB a)) (shareM s xs).parts xs.length - nth (shareM s xs).parts 0) (isum (shareM s xs).parts) = redF (evenTo xs a xs.length) (12 * (isum xs - nth xs 0)) ∧
    (redF (evenTo xs a xs.length) (12 * (isum xs - nth xs 0))).ok = true := by
  obtain ⟨e, he, e1, e2, e3, e4, e5, e6⟩ := share_facts ho
  obtain ⟨h, _, _⟩ := share_ok ho
  have hN := nsets_le (massOk_facts h).1
  have hl := (massOk_facts h).2.1
  have h0 : nth (shareM s xs).parts 0 = 0 := share_nth ho (by omega) (by decide)
  obtain ⟨_, hl2, _, _, s1, s2, _⟩ := massOk_facts e3
  have hb := sub_bdS (subB a) e3
  rw [e2] at hb
  have h1 := e4 (predI (subB a))
  rw [share_sub h ha] at h1
  have hq : redF (dot (predI (subB a)) (shareM s xs).parts xs.length - nth (shareM s xs).parts 0) (isum (shareM s xs).parts) = redF (evenTo xs a xs.length) (12 * (isum xs - nth xs 0)) := by
    rw [h0, Int.sub_zero]
    refine redF_eq (by omega) (by omega) ?_
    rw [← h1, ← e6, ← Int.mul_assoc, Int.mul_comm _ e]
  refine ⟨hq, ?_⟩
  rw [← hq, h0, Int.sub_zero]
  exact redF_ok (by omega) (by omega) (by omega) (by omega)
theorem share_again {s : Int} {xs : List Int} (ho : (shareM s xs).ok = true) : shareM s (shareM s xs).parts = shareM s xs := by
  obtain ⟨e, he, e1, e2, e3, e4, _⟩ := share_facts ho
  obtain ⟨h, _, _⟩ := share_ok ho
  obtain ⟨hk, hl, h16, _⟩ := massOk_facts h
  obtain ⟨h5, hn⟩ := size_k hk
  have hself : shareM s xs = mkMass s (shareM s xs).parts := by
    rw [mkMass_self e3]
    cases hh : shareM s xs with
    | mk a b c => rw [hh] at ho e1; simp only at ho e1; rw [ho, e1]
  generalize (shareM s xs).parts = ps at *
  rw [hself]
  unfold shareM
  rw [if_pos e3]
  refine mkMass_dot s _ _ xs.length 1 12 (by decide) (by decide) (by rw [← e2]; exact shcTo_len _ _ _) e2 fun g => ?_
  have h1 := share_dot e3 g
  rw [e2] at h1
  rw [h1, Int.one_mul]
  have key : ∀ x, x < s.toNat → e * evenTo ps (2 ^ x) xs.length = 12 * evenTo xs (2 ^ x) xs.length := fun x hx => by
    rw [evenTo_dot ps, e4, share_dot h]
    have e7 : sumX (fun y => gA (2 ^ x) (2 ^ y) * evenTo xs (2 ^ y) xs.length) s.toNat = sumX (fun y => if x = y then 12 * evenTo xs (2 ^ x) xs.length else 0) s.toNat := sumX_congr _ fun y hy => by
      have := gaF ⟨x, by omega⟩ ⟨y, by omega⟩
      simp only at this
      rw [this]
      by_cases hxy : x = y
      · subst hxy; rw [if_pos rfl, if_pos rfl]
      · rw [if_neg hxy, if_neg hxy, Int.zero_mul]
    rw [e7]
    have e8 : ∀ k, sumX (fun y => if x = y then 12 * evenTo xs (2 ^ x) xs.length else 0) k = if x < k then 12 * evenTo xs (2 ^ x) xs.length else 0 := by
      intro k
      induction k with
      | zero => rfl
      | succ k ih =>
        rw [sumX_succ, ih]
        by_cases hxk : x = k
        · subst hxk; rw [if_neg (by omega), if_pos rfl, if_pos (by omega)]; omega
        · rw [if_neg hxk]
          by_cases h2 : x < k
          · rw [if_pos h2, if_pos (by omega)]; omega
          · rw [if_neg h2, if_neg (by omega)]; omega
    rw [e8, if_pos hx]
  have h2 : e * sumX (fun x => g (2 ^ x) * evenTo ps (2 ^ x) xs.length) s.toNat = e * (12 * dot g ps xs.length) := by
    rw [← sumX_lin, Int.mul_left_comm, e4, share_dot h, ← sumX_lin]
    refine sumX_congr _ fun x hx => ?_
    rw [Int.mul_left_comm, key x hx, Int.mul_left_comm]
  exact Int.eq_of_mul_eq_mul_left (by omega) h2
/-- the set of some answers -/
def sufL : List Int → Nat
  | [] => 0
  | x :: t => sufL t ||| 2 ^ x.toNat
def ascB (n : Nat) (o : List Int) (i : Nat) : Bool := decide (o.Pairwise fun x y => nth (indL (sufL (o.drop i)) n) x.toNat ≤ nth (indL (sufL (o.drop i)) n) y.toNat) && decide (sufL (o.drop i) < 2 ^ n)
theorem ascF : ∀ n : Fin 5, ((orders n.val).all fun o => (List.range 5).all fun i => ascB n.val o i) = true := by decide +kernel
theorem suf_asc {s : Int} {o : List Int} (hs : okSize s = true) (h : ordS s o = true) {i : Nat} (hi : i < 5) : Asc (indL (sufL (o.drop i)) s.toNat) o ∧ sufL (o.drop i) < 2 ^ s.toNat := by
  obtain ⟨ho, hl⟩ := ordS_ok hs h
  have hn : s.toNat ≤ 4 ∧ 1 ≤ s.toNat := by rcases okSize_iff.1 hs with rfl | rfl | rfl | rfl <;> decide
  have hm := order_in hn.2 hn.1 hl ho
  have h1 := ascF ⟨s.toNat, by omega⟩
  rw [List.all_eq_true] at h1
  have h2 := h1 o hm
  rw [List.all_eq_true] at h2
  have h3 := h2 i (by simpa using hi)
  unfold ascB at h3
  rw [Bool.and_eq_true, decide_eq_true_iff, decide_eq_true_iff] at h3
  exact h3
theorem coM_ok {s : Int} {xs o : List Int} (h : (coM s xs o).ok = true) : normalOk s xs = true ∧ ordS s o = true ∧ coM s xs o = chanceM s xs o := by
  unfold coM at h ⊢
  split at h
  · next hh => rw [if_pos hh]; simp only [Bool.and_eq_true] at hh; exact ⟨hh.1, hh.2, rfl⟩
  · cases h
theorem suf_imp {s : Int} {xs o : List Int} (hn : normalOk s xs = true) (h : ordS s o = true) {i : Nat} (hi : i < 5) :
    impP (sufL (o.drop i)) (chanceM s xs o).parts * isum xs = impP (sufL (o.drop i)) xs * isum (chanceM s xs o).parts := by
  have hs := (massOk_facts (normal_facts hn).1).1
  obtain ⟨ha, hlt⟩ := suf_asc hs h hi
  exact (corner_imp hn (ordS_ok hs h).1 (by rw [(norm_size hn).2.2.1]; exact hlt)).2 ha
theorem first_sub {n : Nat} {o : List Int} (hn : n ≤ 4) (ho : OrdOk n o) {a : Nat} (ha : a < 2 ^ n) (h0 : a ≠ 0) : subN (firstBit o a) a = true := by
  obtain ⟨x, _, hb, e⟩ := fb_some hn ho ha h0
  rw [e, subN_pow]; exact hb
/-- a corner is a specialization of its mass -/
theorem corner_hall {s : Int} {xs o : List Int} (hn : normalOk s xs = true) (ho : OrdOk s.toNat o) : HallD subN xs.length (chanceM s xs o).parts xs (isum (chanceM s xs o).parts) (isum xs) := by
  obtain ⟨e, he, _, _, hl, _, hd, _⟩ := corner_facts hn ho
  obtain ⟨p1, p4, hl2, h0, hm, _⟩ := norm_size hn
  obtain ⟨_, _, _, hb, _⟩ := massOk_facts hm
  rw [isum_ofl hl, isum_ofl rfl]
  refine hall_down (ψ := firstBit o) (k := e) (c := 1) (fun j hj => (hb j hj).1) (by omega) (by omega) (fun g => by rw [hd, Int.one_mul]) fun b hb2 hne => ⟨?_, ?_⟩
  · rw [hl2]; exact firstBit_lt o s.toNat b ho.1
  · exact first_sub p4 ho (by rw [← hl2]; exact hb2) (by intro e2; rw [e2] at hne; exact hne h0)
/-- a chance that gives each set at least its belief is a specialization, and the other way round -/
theorem impP_pI (a : Nat) (xs : List Int) : impP a xs = dot (pI fun b => subN b a) xs xs.length := rfl
theorem single_two : ∀ a : Fin 16, single a.val = true → ∃ j : Fin 4, a.val = 2 ^ j.val := by decide
theorem allows_hall {s : Int} {xs ys : List Int} (hn : normalOk s xs = true) (hc : chanceOk s ys = true) : (∀ a, a < xs.length → impP a xs * isum ys ≤ impP a ys * isum xs) ↔ HallD subN ys.length ys xs (isum ys) (isum xs) := by
  obtain ⟨p1, p4, hl2, h0, hm, _⟩ := norm_size hn
  obtain ⟨hs, hlx, h16, hb, s1, _⟩ := massOk_facts hm
  have hmy : massOk s ys = true := by unfold chanceOk at hc; rw [Bool.and_eq_true] at hc; exact hc.1
  obtain ⟨_, hly, h16y, hby, t1, _⟩ := massOk_facts hmy
  have hyl : ys.length = 2 ^ s.toNat := by rw [hly, ← hl2, hlx]
  have hsg : ∀ a, a < ys.length → nth ys a ≠ 0 → single a = true := by
    unfold chanceOk at hc; rw [Bool.and_eq_true, allN_iff] at hc
    intro a ha hne
    have := hc.2 a ha
    rw [Bool.or_eq_true, beq_iff_eq] at this
    exact this.resolve_left hne
  have key : ∀ a, (impP a xs * isum ys ≤ impP a ys * isum xs) ↔ (isum ys * dot (pI fun b => subN b a) xs (2 ^ s.toNat) ≤ isum xs * dot (pI fun b => subN b a) ys (2 ^ s.toNat)) := fun a => by
    rw [impP_pI, impP_pI, hl2, hyl, Int.mul_comm, Int.mul_comm (isum xs)]
  rw [hyl]
  constructor
  · intro h
    exact hall_chance (by omega) (by omega) (fun j hj => (hby j (by omega)).1) (fun j hj => (hb j (by omega)).1) (fun a ha hne => by
      obtain ⟨j, e⟩ := single_two ⟨a, by omega⟩ (hsg a (by omega) hne)
      exact ⟨j.val, e⟩) fun a ha => (key a).1 (h a (by omega))
  · intro h a _
    exact (key a).2 (chance_of_hall h a)
/-- a list written place by place -/
def setFn (f : Nat → Int) (N k : Nat) : List Int := iter (fun a l => l.set a (f a)) (List.replicate N 0) k
theorem setFn_len (f : Nat → Int) (N k : Nat) : (setFn f N k).length = N := by
  induction k with
  | zero => simp [setFn, iter]
  | succ k ih => show ((setFn f N k).set _ _).length = N; rw [List.length_set]; exact ih
theorem setFn_nth (f : Nat → Int) (N k j : Nat) (hk : k ≤ N) : nth (setFn f N k) j = if j < k then f j else 0 := by
  induction k with
  | zero => show nth (List.replicate N 0) j = _; rw [nth_replicate, if_neg (by omega)]
  | succ k ih =>
    show nth ((setFn f N k).set k (f k)) j = _
    rw [nth_set, ih (by omega), setFn_len]
    by_cases h : k = j
    · subst h; rw [if_pos ⟨rfl, by omega⟩, if_pos (by omega)]
    · rw [if_neg (by omega)]
      by_cases h2 : j < k
      · rw [if_pos h2, if_pos (by omega)]
      · rw [if_neg h2, if_neg (by omega)]
/-- a list built place by place -/
def appFn (f : Nat → Int) (k : Nat) : List Int := iter (fun a l => l ++ [f a]) [] k
theorem appFn_len (f : Nat → Int) (k : Nat) : (appFn f k).length = k := by
  induction k with
  | zero => rfl
  | succ k ih => show (appFn f k ++ [f k]).length = k + 1; rw [List.length_append, ih]; rfl
theorem appFn_nth (f : Nat → Int) (k j : Nat) : nth (appFn f k) j = if j < k then f j else 0 := by
  induction k with
  | zero => rfl
  | succ k ih =>
    show nth (appFn f k ++ [f k]) j = _
    unfold nth at ih ⊢
    rw [List.getD_eq_getElem?_getD] at ih ⊢
    by_cases h : j < k
    · rw [List.getElem?_append_left (by rw [appFn_len]; exact h), ih, if_pos h, if_pos (by omega)]
    · rw [List.getElem?_append_right (by rw [appFn_len]; omega), appFn_len]
      by_cases h2 : j = k
      · subst h2; rw [if_pos (by omega)]; simp
      · rw [if_neg (by omega), List.getElem?_eq_none (by simp; omega)]; rfl
theorem app_set (f : Nat → Int) (N : Nat) : setFn f N N = appFn f N := by
  refine ext_nth _ _ (by rw [setFn_len, appFn_len]) fun j hj => ?_
  rw [setFn_nth _ _ _ _ (Nat.le_refl _), appFn_nth]
/-- the part of a set in the mean of two masses -/
def mixV (xs ys : List Int) (num den X Y : Int) (a : Nat) : Int := num * nth xs a * Y + (den - num) * nth ys a * X
def mixM (s : Int) (xs : List Int) (u : Int) (ys : List Int) (num den : Int) : MR :=
  if oneQ s xs u ys && (shareOk num den && decide (den ≤ 1000)) then mkMass s (appFn (mixV xs ys num den (isum xs) (isum ys)) xs.length) else MR.no
theorem mul_le2 {a b A B : Int} (ha : 0 ≤ a ∧ a ≤ A) (hb : 0 ≤ b ∧ b ≤ B) : 0 ≤ a * b ∧ a * b ≤ A * B :=
  ⟨Int.mul_nonneg ha.1 hb.1, Int.mul_le_mul ha.2 hb.2 hb.1 (by omega)⟩
theorem mix_bd {x y num den X Y : Int} (hx : 0 ≤ x ∧ x ≤ 1000000) (hy : 0 ≤ y ∧ y ≤ 1000000) (hX : 0 ≤ X ∧ X ≤ 1000000) (hY : 0 ≤ Y ∧ Y ≤ 1000000) (hn : 0 ≤ num ∧ num ≤ den) (hd : den ≤ 1000) :
    (0 ≤ num * x ∧ num * x ≤ 1000000000) ∧ (0 ≤ num * x * Y ∧ num * x * Y ≤ 1000000000000000) ∧ (0 ≤ (den - num) * y ∧ (den - num) * y ≤ 1000000000) ∧ (0 ≤ (den - num) * y * X ∧ (den - num) * y * X ≤ 1000000000000000) ∧
    (0 ≤ x * Y ∧ x * Y ≤ 1000000000000) ∧ (0 ≤ y * X ∧ y * X ≤ 1000000000000) ∧ x * Y * num = num * x * Y ∧ y * X * (den - num) = (den - num) * y * X := by
  have h1 := mul_le2 (a := num) (A := 1000) ⟨hn.1, by omega⟩ hx
  have h2 := mul_le2 (A := 1000000000) ⟨h1.1, by omega⟩ hY
  have h3 := mul_le2 (a := den - num) (A := 1000) ⟨by omega, by omega⟩ hy
  have h4 := mul_le2 (A := 1000000000) ⟨h3.1, by omega⟩ hX
  have h5 := mul_le2 hx hY
  have h6 := mul_le2 hy hX
  refine ⟨by omega, by omega, by omega, by omega, by omega, by omega, ?_, ?_⟩
  · rw [Int.mul_comm (x * Y), Int.mul_assoc]
  · rw [Int.mul_comm (y * X), Int.mul_assoc]
theorem mixV_bd {xs ys : List Int} {num den X Y : Int} {N : Nat} (hx : ∀ k, k < N → 0 ≤ nth xs k ∧ nth xs k ≤ 1000000) (hy : ∀ k, k < N → 0 ≤ nth ys k ∧ nth ys k ≤ 1000000) (hX : 0 ≤ X ∧ X ≤ 1000000) (hY : 0 ≤ Y ∧ Y ≤ 1000000) (hn : 0 ≤ num ∧ num ≤ den) (hd : den ≤ 1000) {a : Nat} (ha : a < N) :
    0 ≤ mixV xs ys num den X Y a ∧ mixV xs ys num den X Y a ≤ 4000000000000000000 := by
  obtain ⟨_, h1, _, h2, _⟩ := mix_bd (hx a ha) (hy a ha) hX hY hn hd
  unfold mixV; omega
theorem one_box {W : World} {A : Nat} (t : TypeId) (x y : Value) (h : W.heap.size = A) : (W.alloc (.cells #[x, y] t)).cell? ⟨A, 0, none⟩ = some x ∧ (W.alloc (.cells #[x, y] t)).cell? ⟨A, 1, none⟩ = some y ∧ (W.alloc (.cells #[x, y] t)).frozen? ⟨A, 0, none⟩ = false ∧ (W.alloc (.cells #[x, y] t)).frozen? ⟨A, 1, none⟩ = false ∧ A < (W.alloc (.cells #[x, y] t)).heap.size := by
  subst h; simp
/-- four boxes laid one behind the other -/
theorem four_boxes (w : World) (t1 t2 t3 t4 : TypeId) (a0 a1 b0 b1 c0 c1 d0 d1 : Value) :
    let W := (((w.alloc (.cells #[a0, a1] t1)).alloc (.cells #[b0, b1] t2)).alloc (.cells #[c0, c1] t3)).alloc (.cells #[d0, d1] t4)
    W.cell? ⟨w.heap.size, 0, none⟩ = some a0 ∧ W.cell? ⟨w.heap.size, 1, none⟩ = some a1 ∧ W.cell? ⟨w.heap.size + 1, 0, none⟩ = some b0 ∧ W.cell? ⟨w.heap.size + 1, 1, none⟩ = some b1 ∧
    W.cell? ⟨w.heap.size + 1 + 1, 0, none⟩ = some c0 ∧ W.cell? ⟨w.heap.size + 1 + 1, 1, none⟩ = some c1 ∧ W.cell? ⟨w.heap.size + 1 + 1 + 1, 0, none⟩ = some d0 ∧ W.cell? ⟨w.heap.size + 1 + 1 + 1, 1, none⟩ = some d1 ∧
    W.frozen? ⟨w.heap.size + 1 + 1 + 1, 0, none⟩ = false ∧ W.frozen? ⟨w.heap.size + 1 + 1 + 1, 1, none⟩ = false ∧ w.heap.size + 1 + 1 + 1 < W.heap.size := by
  have hA := one_box (W := w) t1 a0 a1 rfl
  have hB := one_box (W := w.alloc (.cells #[a0, a1] t1)) (A := w.heap.size + 1) t2 b0 b1 (by simp)
  have hC := one_box (W := (w.alloc (.cells #[a0, a1] t1)).alloc (.cells #[b0, b1] t2)) (A := w.heap.size + 1 + 1) t3 c0 c1 (by simp)
  have hD := one_box (W := ((w.alloc (.cells #[a0, a1] t1)).alloc (.cells #[b0, b1] t2)).alloc (.cells #[c0, c1] t3)) (A := w.heap.size + 1 + 1 + 1) t4 d0 d1 (by simp)
  refine ⟨?_, ?_, ?_, ?_, ?_, ?_, hD.1, hD.2.1, hD.2.2.1, hD.2.2.2.1, hD.2.2.2.2⟩
  · exact keep (below_alloc _ _) (keep (below_alloc _ _) (keep (below_alloc _ _) hA.1))
  · exact keep (below_alloc _ _) (keep (below_alloc _ _) (keep (below_alloc _ _) hA.2.1))
  · exact keep (below_alloc _ _) (keep (below_alloc _ _) hB.1)
  · exact keep (below_alloc _ _) (keep (below_alloc _ _) hB.2.1)
  · exact keep (below_alloc _ _) hC.1
  · exact keep (below_alloc _ _) hC.2.1
set_option maxHeartbeats 4000000 in
theorem MixMasses_any (s u num den : Int) (ao bo : Option Addr) (n c m d : Nat) (xs ys : List Int) (w : World) (hx : IntsAt w ao n xs) (hy : IntsAt w bo m ys) :
    Calls Try.prog 20 #[.agg #[.int .i64 s, .slice ao n c], .agg #[.int .i64 u, .slice bo m d], .agg #[.int .i64 num, .int .i64 den]] w fun e w' => RetM (mixM s xs u ys num den) w.heap.size e w' ∧ Below w.heap.size w w' := by
  obtain ⟨W, HW⟩ : ∃ W, Hid ((((w.alloc (.cells #[.int .i64 s, .slice ao n c] 25)).alloc (.cells #[.int .i64 u, .slice bo m d] 25)).alloc (.cells #[.int .i64 num, .int .i64 den] 43)).alloc (.cells #[.int .i64 0, .slice none 0 0] 25) = W) := ⟨_, rfl⟩
  have hB0 : Below w.heap.size w W := by rw [← HW.out]; (repeat (first | exact Below.refl _ _ | assumption | refine Below.alloc ?_ (by first | omega | (simp <;> omega)) _ | refine Below.setCell ?_ (by first | omega | (simp <;> omega)) _ | refine Below.drew ?_ | refine below_drewN ?_))
  obtain ⟨p0, p1, q0, q1, g0, g1, h10, h11, f20, f21, hzW⟩ := four_boxes w 25 25 43 25 (.int .i64 s) (.slice ao n c) (.int .i64 u) (.slice bo m d) (.int .i64 num) (.int .i64 den) (.int .i64 0) (.slice none 0 0)
  rw [HW.out] at p0 p1 q0 q1 g0 g1 h10 h11 f20 f21 hzW
  obtain ⟨A3, HA3⟩ : ∃ A, Hid (w.heap.size + 1 + 1 + 1 = A) := ⟨_, rfl⟩
  obtain ⟨A2, HA2⟩ : ∃ A, Hid (w.heap.size + 1 + 1 = A) := ⟨_, rfl⟩
  obtain ⟨A1, HA1⟩ : ∃ A, Hid (w.heap.size + 1 = A) := ⟨_, rfl⟩
  rw [HA3.out] at h10 h11 f20 f21 hzW
  rw [HA2.out] at g0 g1
  rw [HA1.out] at q0 q1
  have hA3 : w.heap.size < A1 ∧ A1 < A2 ∧ A2 < A3 := by rw [← HA3.out, ← HA2.out, ← HA1.out]; omega
  have hxW := hx.below hB0
  have hyW := hy.below hB0
  cases hq : oneQ s xs u ys
  · have HR : Hid (mixM s xs u ys num den = MR.no) := by show mixM s xs u ys num den = MR.no; unfold mixM; rw [hq]; rfl
    rw [HR.out]
    go_enter Try.func20, Try.ntmps20
    go_wp2_with fail
    rw [HW.out, HA3.out, HA2.out, HA1.out]
    refine (ofOneQuestion_any _ _ _ _ _ _ _ _ _ _ _ hxW hyW).mono ?_; rw [hq]; rintro e w1 ⟨rfl, hb1⟩
    replace p0 := keep hb1 p0
    replace p1 := keep hb1 p1
    replace q0 := keep hb1 q0
    replace q1 := keep hb1 q1
    replace g0 := keep hb1 g0
    replace g1 := keep hb1 g1
    replace f20 := keepF hb1 h10 f20
    replace f21 := keepF hb1 h11 f21
    replace h10 := keep hb1 h10
    replace h11 := keep hb1 h11
    have hB1 := chain hB0 hb1
    clear hb1
    go_wp2
    refine bodyPost_ret (v := .tuple #[.agg #[.int .i64 0, .slice none 0 0], .bool false]) (by simp [results, Try.results20, go_sem, h10, h11]) rfl ⟨RetM.no _ _, ?_⟩
    (repeat (first | exact Below.refl _ _ | assumption | refine Below.alloc ?_ (by first | omega | (simp <;> omega)) _ | refine Below.setCell ?_ (by first | omega | (simp <;> omega)) _ | refine Below.drew ?_ | refine below_drewN ?_))
  · cases hsh : (shareOk num den && decide (den ≤ 1000))
    · have HR : Hid (mixM s xs u ys num den = MR.no) := by show mixM s xs u ys num den = MR.no; unfold mixM; rw [hsh]; simp
      rw [HR.out]
      go_enter Try.func20, Try.ntmps20
      go_wp2_with fail
      rw [HW.out, HA3.out, HA2.out, HA1.out]
      refine (ofOneQuestion_any _ _ _ _ _ _ _ _ _ _ _ hxW hyW).mono ?_; rw [hq]; rintro e w1 ⟨rfl, hb1⟩
      replace p0 := keep hb1 p0
      replace p1 := keep hb1 p1
      replace q0 := keep hb1 q0
      replace q1 := keep hb1 q1
      replace g0 := keep hb1 g0
      replace g1 := keep hb1 g1
      replace f20 := keepF hb1 h10 f20
      replace f21 := keepF hb1 h11 f21
      replace h10 := keep hb1 h10
      replace h11 := keep hb1 h11
      have hB1 := chain hB0 hb1
      clear hb1
      go_wp2_with fail
      refine (isShare_any _ _ _).mono ?_; rintro e w2 ⟨rfl, hb2⟩
      replace p0 := keep hb2 p0
      replace p1 := keep hb2 p1
      replace q0 := keep hb2 q0
      replace q1 := keep hb2 q1
      replace g0 := keep hb2 g0
      replace g1 := keep hb2 g1
      replace f20 := keepF hb2 h10 f20
      replace f21 := keepF hb2 h11 f21
      replace h10 := keep hb2 h10
      replace h11 := keep hb2 h11
      have hB2 := chain hB1 hb2
      clear hb2
      cases hs1 : shareOk num den
      all_goals
        (try (rw [hs1, Bool.true_and, decide_eq_false_iff_not] at hsh))
        go_wp2
        refine bodyPost_ret (v := .tuple #[.agg #[.int .i64 0, .slice none 0 0], .bool false]) (by simp [results, Try.results20, go_sem, h10, h11]) rfl ⟨RetM.no _ _, ?_⟩
        (repeat (first | exact Below.refl _ _ | assumption | refine Below.alloc ?_ (by first | omega | (simp <;> omega)) _ | refine Below.setCell ?_ (by first | omega | (simp <;> omega)) _ | refine Below.drew ?_ | refine below_drewN ?_))
    · have HR : Hid (mixM s xs u ys num den = mkMass s (setFn (mixV xs ys num den (isum xs) (isum ys)) xs.length xs.length)) := by rw [Hid, app_set]; unfold mixM; rw [hq, hsh]; rfl
      rw [HR.out]
      rw [Bool.and_eq_true, decide_eq_true_iff] at hsh
      obtain ⟨hsh, hd3⟩ := hsh
      have hbd := shareOk_bd hsh
      obtain ⟨hm1, hm2, hus, hll⟩ := oneQ_facts hq
      subst hus
      obtain rfl : n = xs.length := hx.len.symm
      have hmn : m = xs.length := by rw [← hy.len, hll]
      subst hmn
      obtain ⟨N, hN⟩ : ∃ N, xs.length = N := ⟨_, rfl⟩
      obtain ⟨hs1, _, h16, hxb, X1, X2, _⟩ := massOk_facts hm1
      obtain ⟨_, _, _, hyb, Y1, Y2, _⟩ := massOk_facts hm2
      have hsz := (massOk_facts hm1).2.1
      have hnn := nsets_le hs1
      rw [hll] at hyb
      rw [hN] at hx hy hxW hyW p1 q1 h16 hxb hyb HR HW hsz ⊢
      have hN2 : 2 ≤ N := by omega
      have HLX := hid hN
      have HLY : Hid (ys.length = N) := by rw [Hid, hll, hN]
      have HM1 := hid hm1
      have HM2 := hid hm2
      have HQ := hid hq
      obtain ⟨X, hX⟩ : ∃ X, isum xs = X := ⟨_, rfl⟩
      obtain ⟨Y, hY⟩ : ∃ Y, isum ys = Y := ⟨_, rfl⟩
      rw [hX] at X1 X2 HR ⊢
      rw [hY] at Y1 Y2 HR ⊢
      have HWX : Hid (∀ w', IntsAt w' ao N xs → Calls Try.prog 44 #[.agg #[.int .i64 u, .slice ao N c]] w' fun e w'' => e = .returned (.int .i64 X) ∧ Below w'.heap.size w' w'') := fun w' h1 => by rw [← hX]; exact wholeOf_any _ _ _ _ xs w' h1 (fun k hk => by have := hxb k hk; omega) h16
      have HWY : Hid (∀ w', IntsAt w' bo N ys → Calls Try.prog 44 #[.agg #[.int .i64 u, .slice bo N d]] w' fun e w'' => e = .returned (.int .i64 Y) ∧ Below w'.heap.size w' w'') := fun w' h1 => by rw [← hY]; exact wholeOf_any _ _ _ _ ys w' h1 (fun k hk => by have := hyb k hk; omega) h16
      have HBD : Hid (∀ a, a < N → 0 ≤ mixV xs ys num den X Y a ∧ mixV xs ys num den X Y a ≤ 4000000000000000000) := fun a ha => mixV_bd hxb hyb ⟨by omega, X2⟩ ⟨by omega, Y2⟩ ⟨by omega, by omega⟩ hd3 ha
      have HMB : Hid (∀ a, a < N → _) := fun a ha => mix_bd (hxb a ha) (hyb a ha) (X := X) (Y := Y) (num := num) (den := den) ⟨by omega, X2⟩ ⟨by omega, Y2⟩ ⟨by omega, by omega⟩ hd3
      have HSH := hid hsh
      have HST : Hid (∀ k, setFn (mixV xs ys num den X Y) N (k + 1) = (setFn (mixV xs ys num den X Y) N k).set k (num * nth xs k * Y + (den - num) * nth ys k * X)) := fun k => rfl
      obtain ⟨fV, hfV⟩ : ∃ f, mixV xs ys num den X Y = f := ⟨_, rfl⟩
      rw [hfV] at HST HBD ⊢
      clear hfV HR hN hll hm1 hm2 hX hY hxb hyb hsz hnn hs1 hsh
      go_enter Try.func20, Try.ntmps20
      go_wp2_with fail
      rw [HW.out, HA3.out, HA2.out, HA1.out]
      refine (ofOneQuestion_any _ _ _ _ _ _ _ _ _ _ _ hxW hyW).mono ?_; rw [HQ.out]; rintro e w1 ⟨rfl, hb1⟩
      replace p0 := keep hb1 p0
      replace p1 := keep hb1 p1
      replace q0 := keep hb1 q0
      replace q1 := keep hb1 q1
      replace g0 := keep hb1 g0
      replace g1 := keep hb1 g1
      replace f20 := keepF hb1 h10 f20
      replace f21 := keepF hb1 h11 f21
      replace h10 := keep hb1 h10
      replace h11 := keep hb1 h11
      have hB1 := chain hB0 hb1
      clear hb1 hq
      go_wp2_with fail
      refine (isShare_any _ _ _).mono ?_; rw [HSH.out]; rintro e w2 ⟨rfl, hb2⟩
      replace p0 := keep hb2 p0
      replace p1 := keep hb2 p1
      replace q0 := keep hb2 q0
      replace q1 := keep hb2 q1
      replace g0 := keep hb2 g0
      replace g1 := keep hb2 g1
      replace f20 := keepF hb2 h10 f20
      replace f21 := keepF hb2 h11 f21
      replace h10 := keep hb2 h10
      replace h11 := keep hb2 h11
      have hB2 := chain hB1 hb2
      clear hb2
      have hz2 : A3 < w2.heap.size := by have := World.block_lt_of_cell? w2 _ h10; simpa using this
      have hd4 : ¬ 1000 < den := by omega
      go_wp2_with (at_make; refine wpList_make_ints rfl _ _ rfl N _ _ rfl rfl rfl rfl (by omega) ?_; intro w3 hrow hb3 hz3; (have p0' := keep hb3 p0); (have p1' := keep hb3 p1); (have q0' := keep hb3 q0); (have q1' := keep hb3 q1); (have g0' := keep hb3 g0); (have g1' := keep hb3 g1); (have h10' := keep hb3 h10); (have h11' := keep hb3 h11); (have f20' := keepF hb3 h10 f20); (have f21' := keepF hb3 h11 f21))
      have hB3 : Below w.heap.size w w3 := chain hB2 hb3
      clear p0 p1 q0 q1 g0 g1 h10 h11 f20 f21 hb3
      obtain ⟨g, hg⟩ : ∃ g, w2.heap.size = g := ⟨_, rfl⟩
      rw [hg] at hrow hz3 hz2 ⊢
      clear hg
      have hr0 : Row w3 g (.slice (some ⟨g, 0, none⟩) N N) (setFn fV N 0) := hrow
      clear hrow
      go_loopw [9, 31] (fun _ i wr => ∃ k : Nat, k ≤ N ∧ i = .int .i64 k ∧ Row wr g (.slice (some ⟨g, 0, none⟩) N N) (setFn fV N k) ∧ w3.grownBy wr (some g)) (fun _ i _ => N - (intOf i).toNat)
      case atStart => exact ⟨0, by omega, rfl, hr0, grownBy_refl _ _⟩
      case round =>
        obtain ⟨k, hk, rfl, hr, hg⟩ := hrel
        have hB : Below w.heap.size w wr := below_grownBy hB3 hB3.size hg (fun k e => by injection e with e; omega)
        have p0 := keepG hg p0' (by omega)
        have p1 := keepG hg p1' (by omega)
        have q0 := keepG hg q0' (by omega)
        have q1 := keepG hg q1' (by omega)
        have g0 := keepG hg g0' (by omega)
        have g1 := keepG hg g1' (by omega)
        by_cases hlt : k < N
        · have hk0 : (0 : Int) ≤ (k : Int) := by omega
          have hk1 : (k : Int) < (N : Int) := by omega
          have HSK := hid (HST.out k)
          obtain ⟨bx, ox, rfl, _, _, hxk⟩ := hx.at hB hlt
          obtain ⟨by', oy, rfl, _, _, hyk⟩ := hy.at hB hlt
          obtain ⟨hc3, hf3, _⟩ := hr.cellAt hlt
          obtain ⟨⟨b1, b2⟩, ⟨b3, b4⟩, ⟨b5, b6⟩, ⟨b7, b8⟩, _⟩ := HMB.out k hlt
          generalize nth xs k = x at *
          generalize nth ys k = y at *
          obtain ⟨D, hD⟩ : ∃ D, den - num = D := ⟨_, rfl⟩
          rw [hD] at b5 b6 b7 b8 HSK
          obtain ⟨A, hA⟩ : ∃ A, num * x = A := ⟨_, rfl⟩
          obtain ⟨E, hE⟩ : ∃ A, D * y = A := ⟨_, rfl⟩
          rw [hA] at b1 b2 b3 b4 HSK
          rw [hE] at b5 b6 b7 b8 HSK
          obtain ⟨B, hB9⟩ : ∃ B, A * Y = B := ⟨_, rfl⟩
          obtain ⟨G, hG9⟩ : ∃ B, E * X = B := ⟨_, rfl⟩
          rw [hB9] at b3 b4 HSK
          rw [hG9] at b7 b8 HSK
          have e1 : IntKind.i64.wrap (num * x) = A := by rw [hA]; exact IntWalk.i64_in _ (by omega)
          have e2 : IntKind.i64.wrap (A * Y) = B := by rw [hB9]; exact IntWalk.i64_in _ (by omega)
          have e3 : IntKind.i64.wrap (den - num) = D := by rw [← hD]; exact IntWalk.i64_in _ (by omega)
          have e4 : IntKind.i64.wrap (D * y) = E := by rw [hE]; exact IntWalk.i64_in _ (by omega)
          have e5 : IntKind.i64.wrap (E * X) = G := by rw [hG9]; exact IntWalk.i64_in _ (by omega)
          have e6 : IntKind.i64.wrap (B + G) = B + G := IntWalk.i64_in _ (by omega)
          clear hA hE hB9 hG9
          clear hD b1 b2 b3 b4 b5 b6 b7 b8
          go_wp2
          refine wp_region_ov_tail 28 (by kernel_rfl) (by kernel_rfl) (fun _ _ _ _ _ h => h) ?_
          simp only [List.take_succ_cons, List.take_zero, List.drop_succ_cons, List.drop_zero]
          repeat (first | go_big_quiet_step ((go_at_call 44; first | (with_reducible exact ov_call (HWX.out _ ((hx.below hB).below (ov_below _ _)))) | (with_reducible exact ov_call (HWY.out _ ((hy.below hB).below (ov_below _ _)))))) | quiet_step ((go_at_call 44; first | (with_reducible exact ov_call (HWX.out _ ((hx.below hB).below (ov_below _ _)))) | (with_reducible exact ov_call (HWY.out _ ((hy.below hB).below (ov_below _ _)))))))
          refine wpQuiet_nil ?_
          intro _ hw_ov
          obtain ⟨x_ov, hw_ov2⟩ := hw_ov
          subst hw_ov2
          obtain ⟨w5, hw_ov3, hb5⟩ := ov_gen _ x_ov
          rw [hw_ov3]
          clear hw_ov3 x_ov
          have hr3 := hr.below hb5
          replace hf3 := keepF hb5 hc3 hf3
          replace hc3 := keep hb5 hc3
          obtain ⟨w4, hw4, hr4, hg4⟩ := store_gen hr3 hlt (B + G)
          have HG := hid (grownBy_trans (grownBy_trans hg (grownBy_below hb5 (some g))) hg4)
          have HW4 := hid hw4
          clear hw4 hg4 hr3 hr hb5 hg
          go_wp2
          rw [HW4.out]
          go_roundw
          case rel => first | exact ⟨k + 1, by omega, by go_num, by rw [HSK.out]; exact hr4, HG.out⟩ | exact ⟨_, ⟨k + 1, by omega, by go_num, by rw [HSK.out]; exact hr4, HG.out⟩, rfl⟩ | exact ⟨_, _, ⟨k + 1, by omega, by go_num, by rw [HSK.out]; exact hr4, HG.out⟩, rfl, rfl⟩ | exact ⟨_, _, _, ⟨k + 1, by omega, by go_num, by rw [HSK.out]; exact hr4, HG.out⟩, rfl, rfl, rfl⟩ | exact ⟨_, _, _, _, ⟨k + 1, by omega, by go_num, by rw [HSK.out]; exact hr4, HG.out⟩, rfl, rfl, rfl, rfl⟩ | exact ⟨_, _, _, _, _, ⟨k + 1, by omega, by go_num, by rw [HSK.out]; exact hr4, HG.out⟩, rfl, rfl, rfl, rfl, rfl⟩
          case measure => simp [intOf]; omega
        · obtain rfl : k = N := by omega
          have f20 := keepGF hg h10' (by omega) f20'
          have f21 := keepGF hg h11' (by omega) f21'
          have h10 := keepG hg h10' (by omega)
          have h11 := keepG hg h11' (by omega)
          have hzz := hg.size
          obtain ⟨ao', n', c', e', hi⟩ := hr.ints
          injection e' with e1 e2 e3
          subst e1 e2 e3
          have HBK : Hid (∀ j, j < k → 0 ≤ nth (setFn fV k k) j ∧ nth (setFn fV k k) j ≤ 4000000000000000000) := fun j hj => by rw [setFn_nth _ _ _ _ (Nat.le_refl _), if_pos hj]; exact HBD.out j hj
          clear hg p0' p1' q0' q1' g0' g1' h10' h11' f20' f21'
          go_wp2_with fail
          refine (makeMass_any _ _ _ _ (setFn fV k k) _ hi h16 HBK.out).mono ?_; rintro e w5 ⟨⟨v, rfl, hr5⟩, hb5⟩
          obtain ⟨a5, n5, c5, rfl, hi5⟩ := hr5.ints
          replace f20 := keepF hb5 h10 f20
          replace f21 := keepF hb5 h11 f21
          replace h10 := keep hb5 h10
          replace h11 := keep hb5 h11
          have hB5 := chain hB hb5
          have hz5 := hb5.size
          clear hb5
          go_wp2
          refine bodyPost_ret (v := .tuple #[.agg #[.int .i64 (mkMass u (setFn fV k k)).size, .slice a5 n5 c5], .bool (mkMass u (setFn fV k k)).ok]) (by simp [results, Try.results20, go_sem, h10, h11]) rfl ⟨⟨_, rfl, ((hr5.setBelow (a := ⟨A3, 0, none⟩) (by simp; omega) _).setBelow (a := ⟨A3, 1, none⟩) (by simp; omega) _).mono (by omega)⟩, ?_⟩
          (repeat (first | exact Below.refl _ _ | assumption | refine Below.alloc ?_ (by first | omega | (simp <;> omega)) _ | refine Below.setCell ?_ (by first | omega | (simp <;> omega)) _ | refine Below.drew ?_ | refine below_drewN ?_))
set_option maxHeartbeats 4000000 in
theorem specMixMasses_any (s u num den : Int) (ao bo : Option Addr) (n c m d : Nat) (xs ys : List Int) (w : World) (hx : IntsAt w ao n xs) (hy : IntsAt w bo m ys) :
    Calls Try.prog 51 #[.agg #[.int .i64 s, .slice ao n c], .agg #[.int .i64 u, .slice bo m d], .agg #[.int .i64 num, .int .i64 den]] w fun e w' => RetM (mixM s xs u ys num den) w.heap.size e w' ∧ Below w.heap.size w w' := by
  obtain ⟨W, HW⟩ : ∃ W, Hid ((((w.alloc (.cells #[.int .i64 s, .slice ao n c] 25)).alloc (.cells #[.int .i64 u, .slice bo m d] 25)).alloc (.cells #[.int .i64 num, .int .i64 den] 43)).alloc (.cells #[.int .i64 0, .slice none 0 0] 25) = W) := ⟨_, rfl⟩
  have hB0 : Below w.heap.size w W := by rw [← HW.out]; (repeat (first | exact Below.refl _ _ | assumption | refine Below.alloc ?_ (by first | omega | (simp <;> omega)) _ | refine Below.setCell ?_ (by first | omega | (simp <;> omega)) _ | refine Below.drew ?_ | refine below_drewN ?_))
  obtain ⟨p0, p1, q0, q1, g0, g1, h10, h11, f20, f21, hzW⟩ := four_boxes w 25 25 43 25 (.int .i64 s) (.slice ao n c) (.int .i64 u) (.slice bo m d) (.int .i64 num) (.int .i64 den) (.int .i64 0) (.slice none 0 0)
  rw [HW.out] at p0 p1 q0 q1 g0 g1 h10 h11 f20 f21 hzW
  obtain ⟨A3, HA3⟩ : ∃ A, Hid (w.heap.size + 1 + 1 + 1 = A) := ⟨_, rfl⟩
  obtain ⟨A2, HA2⟩ : ∃ A, Hid (w.heap.size + 1 + 1 = A) := ⟨_, rfl⟩
  obtain ⟨A1, HA1⟩ : ∃ A, Hid (w.heap.size + 1 = A) := ⟨_, rfl⟩
  rw [HA3.out] at h10 h11 f20 f21 hzW
  rw [HA2.out] at g0 g1
  rw [HA1.out] at q0 q1
  have hA3 : w.heap.size < A1 ∧ A1 < A2 ∧ A2 < A3 := by rw [← HA3.out, ← HA2.out, ← HA1.out]; omega
  have hxW := hx.below hB0
  have hyW := hy.below hB0
  cases hq : oneQ s xs u ys
  · have HR : Hid (mixM s xs u ys num den = MR.no) := by show mixM s xs u ys num den = MR.no; unfold mixM; rw [hq]; rfl
    rw [HR.out]
    go_enter Try.func51, Try.ntmps51
    go_wp2_with fail
    rw [HW.out, HA3.out, HA2.out, HA1.out]
    refine (l3Both_any _ _ _ _ _ _ _ _ _ _ _ hxW hyW).mono ?_; rw [hq]; rintro e w1 ⟨rfl, hb1⟩
    replace p0 := keep hb1 p0
    replace p1 := keep hb1 p1
    replace q0 := keep hb1 q0
    replace q1 := keep hb1 q1
    replace g0 := keep hb1 g0
    replace g1 := keep hb1 g1
    replace f20 := keepF hb1 h10 f20
    replace f21 := keepF hb1 h11 f21
    replace h10 := keep hb1 h10
    replace h11 := keep hb1 h11
    have hB1 := chain hB0 hb1
    clear hb1
    go_wp2
    refine bodyPost_ret (v := .tuple #[.agg #[.int .i64 0, .slice none 0 0], .bool false]) (by simp [results, Try.results51, go_sem, h10, h11]) rfl ⟨RetM.no _ _, ?_⟩
    (repeat (first | exact Below.refl _ _ | assumption | refine Below.alloc ?_ (by first | omega | (simp <;> omega)) _ | refine Below.setCell ?_ (by first | omega | (simp <;> omega)) _ | refine Below.drew ?_ | refine below_drewN ?_))
  · cases hsh : (shareOk num den && decide (den ≤ 1000))
    · have HR : Hid (mixM s xs u ys num den = MR.no) := by show mixM s xs u ys num den = MR.no; unfold mixM; rw [hsh]; simp
      rw [HR.out]
      go_enter Try.func51, Try.ntmps51
      go_wp2_with fail
      rw [HW.out, HA3.out, HA2.out, HA1.out]
      refine (l3Both_any _ _ _ _ _ _ _ _ _ _ _ hxW hyW).mono ?_; rw [hq]; rintro e w1 ⟨rfl, hb1⟩
      replace p0 := keep hb1 p0
      replace p1 := keep hb1 p1
      replace q0 := keep hb1 q0
      replace q1 := keep hb1 q1
      replace g0 := keep hb1 g0
      replace g1 := keep hb1 g1
      replace f20 := keepF hb1 h10 f20
      replace f21 := keepF hb1 h11 f21
      replace h10 := keep hb1 h10
      replace h11 := keep hb1 h11
      have hB1 := chain hB0 hb1
      clear hb1
      go_wp2_with fail
      refine (l3Share_any _ _ _).mono ?_; rintro e w2 ⟨rfl, hb2⟩
      replace p0 := keep hb2 p0
      replace p1 := keep hb2 p1
      replace q0 := keep hb2 q0
      replace q1 := keep hb2 q1
      replace g0 := keep hb2 g0
      replace g1 := keep hb2 g1
      replace f20 := keepF hb2 h10 f20
      replace f21 := keepF hb2 h11 f21
      replace h10 := keep hb2 h10
      replace h11 := keep hb2 h11
      have hB2 := chain hB1 hb2
      clear hb2
      cases hs1 : shareOk num den
      all_goals
        (try (rw [hs1, Bool.true_and, decide_eq_false_iff_not] at hsh))
        go_wp2
        refine bodyPost_ret (v := .tuple #[.agg #[.int .i64 0, .slice none 0 0], .bool false]) (by simp [results, Try.results51, go_sem, h10, h11]) rfl ⟨RetM.no _ _, ?_⟩
        (repeat (first | exact Below.refl _ _ | assumption | refine Below.alloc ?_ (by first | omega | (simp <;> omega)) _ | refine Below.setCell ?_ (by first | omega | (simp <;> omega)) _ | refine Below.drew ?_ | refine below_drewN ?_))
    · have HR : Hid (mixM s xs u ys num den = mkMass s (appFn (mixV xs ys num den (isum xs) (isum ys)) xs.length)) := by rw [Hid]; unfold mixM; rw [hq, hsh]; rfl
      rw [HR.out]
      rw [Bool.and_eq_true, decide_eq_true_iff] at hsh
      obtain ⟨hsh, hd3⟩ := hsh
      have hbd := shareOk_bd hsh
      obtain ⟨hm1, hm2, hus, hll⟩ := oneQ_facts hq
      subst hus
      obtain rfl : n = xs.length := hx.len.symm
      have hmn : m = xs.length := by rw [← hy.len, hll]
      subst hmn
      obtain ⟨N, hN⟩ : ∃ N, xs.length = N := ⟨_, rfl⟩
      obtain ⟨hs1, _, h16, hxb, X1, X2, _⟩ := massOk_facts hm1
      obtain ⟨_, _, _, hyb, Y1, Y2, _⟩ := massOk_facts hm2
      have hsz := (massOk_facts hm1).2.1
      have hnn := nsets_le hs1
      rw [hll] at hyb
      rw [hN] at hx hy hxW hyW p1 q1 h16 hxb hyb HR HW hsz ⊢
      have hN2 : 2 ≤ N := by omega
      have HLX := hid hN
      have HLY : Hid (ys.length = N) := by rw [Hid, hll, hN]
      have HM1 := hid hm1
      have HM2 := hid hm2
      have HQ := hid hq
      obtain ⟨X, hX⟩ : ∃ X, isum xs = X := ⟨_, rfl⟩
      obtain ⟨Y, hY⟩ : ∃ Y, isum ys = Y := ⟨_, rfl⟩
      rw [hX] at X1 X2 HR ⊢
      rw [hY] at Y1 Y2 HR ⊢
      have HWX : Hid (∀ w', IntsAt w' ao N xs → Calls Try.prog 57 #[.agg #[.int .i64 u, .slice ao N c]] w' fun e w'' => e = .returned (.int .i64 X) ∧ Below w'.heap.size w' w'') := fun w' h1 => by rw [← hX]; exact l3Whole_any _ _ _ _ xs w' h1 HM1.out
      have HWY : Hid (∀ w', IntsAt w' bo N ys → Calls Try.prog 57 #[.agg #[.int .i64 u, .slice bo N d]] w' fun e w'' => e = .returned (.int .i64 Y) ∧ Below w'.heap.size w' w'') := fun w' h1 => by rw [← hY]; exact l3Whole_any _ _ _ _ ys w' h1 HM2.out
      have HBD : Hid (∀ a, a < N → 0 ≤ mixV xs ys num den X Y a ∧ mixV xs ys num den X Y a ≤ 4000000000000000000) := fun a ha => mixV_bd hxb hyb ⟨by omega, X2⟩ ⟨by omega, Y2⟩ ⟨by omega, by omega⟩ hd3 ha
      have HMB : Hid (∀ a, a < N → _) := fun a ha => mix_bd (hxb a ha) (hyb a ha) (X := X) (Y := Y) (num := num) (den := den) ⟨by omega, X2⟩ ⟨by omega, Y2⟩ ⟨by omega, by omega⟩ hd3
      have HSH := hid hsh
      have HST : Hid (∀ k, appFn (mixV xs ys num den X Y) (k + 1) = appFn (mixV xs ys num den X Y) k ++ [num * nth xs k * Y + (den - num) * nth ys k * X]) := fun k => rfl
      obtain ⟨fV, hfV⟩ : ∃ f, mixV xs ys num den X Y = f := ⟨_, rfl⟩
      rw [hfV] at HST HBD ⊢
      clear hfV HR hN hll hm1 hm2 hX hY hxb hyb hsz hnn hs1 hsh
      go_enter Try.func51, Try.ntmps51
      go_wp2_with fail
      rw [HW.out, HA3.out, HA2.out, HA1.out]
      refine (l3Both_any _ _ _ _ _ _ _ _ _ _ _ hxW hyW).mono ?_; rw [HQ.out]; rintro e w1 ⟨rfl, hb1⟩
      replace p0 := keep hb1 p0
      replace p1 := keep hb1 p1
      replace q0 := keep hb1 q0
      replace q1 := keep hb1 q1
      replace g0 := keep hb1 g0
      replace g1 := keep hb1 g1
      replace f20 := keepF hb1 h10 f20
      replace f21 := keepF hb1 h11 f21
      replace h10 := keep hb1 h10
      replace h11 := keep hb1 h11
      have hB1 := chain hB0 hb1
      clear hb1 hq
      go_wp2_with fail
      refine (l3Share_any _ _ _).mono ?_; rw [HSH.out]; rintro e w2 ⟨rfl, hb2⟩
      replace p0 := keep hb2 p0
      replace p1 := keep hb2 p1
      replace q0 := keep hb2 q0
      replace q1 := keep hb2 q1
      replace g0 := keep hb2 g0
      replace g1 := keep hb2 g1
      replace f20 := keepF hb2 h10 f20
      replace f21 := keepF hb2 h11 f21
      replace h10 := keep hb2 h10
      replace h11 := keep hb2 h11
      have hB2 := chain hB1 hb2
      clear hb2
      have hz2 : A3 < w2.heap.size := by have := World.block_lt_of_cell? w2 _ h10; simpa using this
      have hd4 : ¬ 1000 < den := by omega
      go_wp2
      obtain ⟨w3, hw3⟩ : ∃ W, w2.alloc (.cells #[] 3) = W := ⟨_, rfl⟩
      have hb3 : Below w2.heap.size w2 w3 := by rw [← hw3]; exact below_alloc _ _
      have hr0 : Row w3 w2.heap.size (.slice (some ⟨w2.heap.size, 0, none⟩) 0 0) (appFn fV 0) := by rw [← hw3]; exact World.ownsRow_lit _ #[] 0 (Nat.le_refl _) (by unfold maxLen; omega) rfl
      rw [hw3]
      have p0' := keep hb3 p0
      have p1' := keep hb3 p1
      have q0' := keep hb3 q0
      have q1' := keep hb3 q1
      have g0' := keep hb3 g0
      have g1' := keep hb3 g1
      have f20' := keepF hb3 h10 f20
      have f21' := keepF hb3 h11 f21
      have h10' := keep hb3 h10
      have h11' := keep hb3 h11
      have hB3 := chain hB2 hb3
      have hz3 := hb3.size
      clear p0 p1 q0 q1 g0 g1 h10 h11 f20 f21 hb3 hw3
      obtain ⟨g, hg⟩ : ∃ g, w2.heap.size = g := ⟨_, rfl⟩
      rw [hg] at hr0 hz3 hz2 ⊢
      clear hg
      go_loopw [8, 9] (fun o i wr => ∃ (k : Nat) (v : Value), k ≤ N ∧ i = .int .i64 k ∧ o = v ∧ Row wr g v (appFn fV k) ∧ Below g w3 wr ∧ w3.heap.size ≤ wr.heap.size) (fun o i _ => N - (intOf i).toNat)
      case atStart => exact ⟨0, _, by omega, rfl, rfl, hr0, Below.refl _ _, Nat.le_refl _⟩
      case round =>
        obtain ⟨k, v, hk, rfl, rfl, hr, hBr, hzr⟩ := hrel
        have hB : Below w.heap.size w wr := hB3.trans (hBr.mono (by omega))
        have p0 := keepB hBr (by omega) p0'
        have p1 := keepB hBr (by omega) p1'
        have q0 := keepB hBr (by omega) q0'
        have q1 := keepB hBr (by omega) q1'
        have g0 := keepB hBr (by omega) g0'
        have g1 := keepB hBr (by omega) g1'
        by_cases hlt : k < N
        · have hk0 : (0 : Int) ≤ (k : Int) := by omega
          have hk1 : (k : Int) < (N : Int) := by omega
          have HSK := hid (HST.out k)
          obtain ⟨bx, ox, rfl, _, _, hxk⟩ := hx.at hB hlt
          obtain ⟨by', oy, rfl, _, _, hyk⟩ := hy.at hB hlt
          obtain ⟨_, ⟨b3, b4⟩, _, ⟨b7, b8⟩, ⟨b1, b2⟩, ⟨b5, b6⟩, hv1, hv2⟩ := HMB.out k hlt
          rw [← hv1, ← hv2] at HSK
          rw [← hv1] at b3 b4
          rw [← hv2] at b7 b8
          clear hv1 hv2
          generalize nth xs k = x at *
          generalize nth ys k = y at *
          obtain ⟨D, hD⟩ : ∃ D, den - num = D := ⟨_, rfl⟩
          rw [hD] at b7 b8 HSK
          obtain ⟨A, hA⟩ : ∃ A, x * Y = A := ⟨_, rfl⟩
          obtain ⟨E, hE⟩ : ∃ A, y * X = A := ⟨_, rfl⟩
          rw [hA] at b1 b2 b3 b4 HSK
          rw [hE] at b5 b6 b7 b8 HSK
          obtain ⟨B, hB9⟩ : ∃ B, A * num = B := ⟨_, rfl⟩
          obtain ⟨G, hG9⟩ : ∃ B, E * D = B := ⟨_, rfl⟩
          rw [hB9] at b3 b4 HSK
          rw [hG9] at b7 b8 HSK
          have e1 : IntKind.i64.wrap (x * Y) = A := by rw [hA]; exact IntWalk.i64_in _ (by omega)
          have e2 : IntKind.i64.wrap (A * num) = B := by rw [hB9]; exact IntWalk.i64_in _ (by omega)
          have e3 : IntKind.i64.wrap (den - num) = D := by rw [← hD]; exact IntWalk.i64_in _ (by omega)
          have e4 : IntKind.i64.wrap (y * X) = E := by rw [hE]; exact IntWalk.i64_in _ (by omega)
          have e5 : IntKind.i64.wrap (E * D) = G := by rw [hG9]; exact IntWalk.i64_in _ (by omega)
          have e6 : IntKind.i64.wrap (B + G) = B + G := IntWalk.i64_in _ (by omega)
          clear hA hE hB9 hG9
          clear hD b1 b2 b3 b4 b5 b6 b7 b8
          go_wp2
          refine wp_region_ov_tail1 27 _ _ (by kernel_rfl) (by kernel_rfl) rfl rfl rfl (fun _ _ _ _ _ h => h) ⟨_, rfl⟩ ?_
          simp only [List.take_succ_cons, List.take_zero, List.drop_succ_cons, List.drop_zero]
          repeat (first | go_big_quiet_step ((go_at_call 57; first | (with_reducible exact ov_call (HWX.out _ ((hx.below hB).below (ov_below _ _)))) | (with_reducible exact ov_call (HWY.out _ ((hy.below hB).below (ov_below _ _)))))) | quiet_step ((go_at_call 57; first | (with_reducible exact ov_call (HWX.out _ ((hx.below hB).below (ov_below _ _)))) | (with_reducible exact ov_call (HWY.out _ ((hy.below hB).below (ov_below _ _)))))))
          refine wpQuiet_nil ?_
          intro _ hw_ov
          obtain ⟨x_ov, hw_ov2⟩ := hw_ov
          subst hw_ov2
          obtain ⟨w5, hw_ov3, hb5⟩ := ov_gen _ x_ov
          rw [hw_ov3]
          clear hw_ov3 x_ov
          have hrow3 := hr.below hb5
          have hz5 := hb5.size
          have HLn := hid (appFn_len fV k)
          go_wp2_with (at_builtin; refine wpList_append_int rfl _ _ rfl g _ _ k HLn.out (by rfl) (hrow3.below (below_alloc w5 _)) _ _ (B + G) (by rfl) (by simp [*]) (by omega) (by simp; omega) ?_; intro g' c' w' hrow' hgrow)
          have HB' := hid (below_grownBy (B := g) ((hBr.trans (hb5.mono (by omega))).alloc (by omega) _) (by simp; omega) hgrow (fun b e => (hrow3.block b e).1))
          have hz' : w3.heap.size ≤ w'.heap.size := by have := hgrow.size; simp at this; omega
          clear hgrow hr hrow3 hB hBr hb5
          go_roundw
          case rel => first | exact ⟨k + 1, _, by omega, by go_num, rfl, by rw [HSK.out]; exact hrow', HB'.out, hz'⟩ | exact ⟨_, ⟨k + 1, _, by omega, by go_num, rfl, by rw [HSK.out]; exact hrow', HB'.out, hz'⟩, rfl⟩ | exact ⟨_, _, ⟨k + 1, _, by omega, by go_num, rfl, by rw [HSK.out]; exact hrow', HB'.out, hz'⟩, rfl, rfl⟩ | exact ⟨_, _, _, ⟨k + 1, _, by omega, by go_num, rfl, by rw [HSK.out]; exact hrow', HB'.out, hz'⟩, rfl, rfl, rfl⟩ | exact ⟨_, _, _, _, ⟨k + 1, _, by omega, by go_num, rfl, by rw [HSK.out]; exact hrow', HB'.out, hz'⟩, rfl, rfl, rfl, rfl⟩ | exact ⟨_, _, _, _, _, ⟨k + 1, _, by omega, by go_num, rfl, by rw [HSK.out]; exact hrow', HB'.out, hz'⟩, rfl, rfl, rfl, rfl, rfl⟩
          case measure => simp [intOf]; omega
        · obtain rfl : k = N := by omega
          have f20 : wr.frozen? ⟨A3, 0, none⟩ = false := (hBr.frozen (p := ⟨A3, 0, none⟩) (by show A3 < g; omega)).trans f20'
          have f21 : wr.frozen? ⟨A3, 1, none⟩ = false := (hBr.frozen (p := ⟨A3, 1, none⟩) (by show A3 < g; omega)).trans f21'
          have h10 := keepB hBr (by omega) h10'
          have h11 := keepB hBr (by omega) h11'
          obtain ⟨ao', n', c', rfl, hi⟩ := hr.ints
          obtain rfl : n' = k := by rw [← hi.len]; exact appFn_len fV k
          have HBK : Hid (∀ j, j < n' → 0 ≤ nth (appFn fV n') j ∧ nth (appFn fV n') j ≤ 4000000000000000000) := fun j hj => by rw [appFn_nth, if_pos hj]; exact HBD.out j hj
          clear p0' p1' q0' q1' g0' g1' h10' h11' f20' f21'
          go_wp2_with fail
          refine (l3Made_any _ _ _ _ (appFn fV n') _ hi h16 HBK.out).mono ?_; rintro e w5 ⟨⟨v, rfl, hr5⟩, hb5⟩
          obtain ⟨a5, n5, c5, rfl, hi5⟩ := hr5.ints
          replace f20 := keepF hb5 h10 f20
          replace f21 := keepF hb5 h11 f21
          replace h10 := keep hb5 h10
          replace h11 := keep hb5 h11
          have hB5 := chain hB hb5
          have hz5 := hb5.size
          clear hb5
          go_wp2
          refine bodyPost_ret (v := .tuple #[.agg #[.int .i64 (mkMass u (appFn fV n')).size, .slice a5 n5 c5], .bool (mkMass u (appFn fV n')).ok]) (by simp [results, Try.results51, go_sem, h10, h11]) rfl ⟨⟨_, rfl, ((hr5.setBelow (a := ⟨A3, 0, none⟩) (by simp; omega) _).setBelow (a := ⟨A3, 1, none⟩) (by simp; omega) _).mono (by omega)⟩, ?_⟩
          (repeat (first | exact Below.refl _ _ | assumption | refine Below.alloc ?_ (by first | omega | (simp <;> omega)) _ | refine Below.setCell ?_ (by first | omega | (simp <;> omega)) _ | refine Below.drew ?_ | refine below_drewN ?_))
theorem allows_iff {s u : Int} {xs ys : List Int} : allowsM s xs u ys = true ↔ normalOk s xs = true ∧ chanceOk u ys = true ∧ u = s ∧ ∀ a, a < xs.length → impP a xs * isum ys ≤ impP a ys * isum xs := by
  unfold allowsM oneQ
  simp only [Bool.and_eq_true, beq_iff_eq, allN_iff, decide_eq_true_iff]
  constructor
  · rintro ⟨⟨_, _, h1⟩, h2, h3, h4⟩; exact ⟨h2, h3, h1.symm, h4⟩
  · rintro ⟨h1, h2, h3, h4⟩
    exact ⟨⟨(normal_facts h1).1, (chance_normal h2).1, h3.symm⟩, h1, h2, h4⟩
theorem allows_spec {s u : Int} {xs ys : List Int} (h : allowsM s xs u ys = true) : oneQ u ys s xs = true ∧ HallD subN ys.length ys xs (isum ys) (isum xs) := by
  obtain ⟨h1, h2, rfl, h4⟩ := allows_iff.1 h
  exact ⟨by unfold oneQ; rw [(normal_facts h1).1, (chance_normal h2).1]; simp, (allows_hall h1 h2).1 h4⟩
theorem spec_not {s : Int} {xs ys : List Int} (h : allowsM s xs s ys = false) (h1 : normalOk s xs = true) (h2 : chanceOk s ys = true) : ¬ HallD subN ys.length ys xs (isum ys) (isum xs) := fun hh => by
  have := allows_iff.2 ⟨h1, h2, rfl, (allows_hall h1 h2).2 hh⟩
  rw [h] at this; cases this
theorem meetF : ∀ s : Fin 5, ∀ a b : Fin (2 ^ s.val), predI (meetB a.val) b.val = 1 - predI (subB (2 ^ s.val - 1 - a.val)) b.val := by decide +kernel
theorem dot_sub1 (g : Nat → Int) (xs : List Int) (n : Nat) : dot (fun b => 1 - g b) xs n = dot (fun _ => 1) xs n - dot g xs n := by
  induction n with
  | zero => rfl
  | succ n ih => rw [dot_succ, dot_succ, dot_succ, ih, Int.sub_mul]; omega
theorem poss_imp {n : Nat} (hn : n < 5) {xs : List Int} (hl : xs.length = 2 ^ n) {a : Nat} (ha : a < 2 ^ n) : dot (predI (meetB a)) xs xs.length = isum xs - impP (2 ^ n - 1 - a) xs := by
  rw [isum_ofl rfl]
  unfold impP
  rw [← dot_sub1]
  refine dot_congr _ _ fun b hb => ?_
  rw [meetF ⟨n, hn⟩ ⟨a, ha⟩ ⟨b, by rw [hl] at hb; exact hb⟩]
/-- no set has a greater chance than is possible -/
theorem allows_poss {s : Int} {xs ys : List Int} (h : allowsM s xs s ys = true) {a : Nat} (ha : a < xs.length) : dot (predI (meetB a)) ys ys.length * isum xs ≤ dot (predI (meetB a)) xs xs.length * isum ys := by
  obtain ⟨h1, h2, _, h4⟩ := allows_iff.1 h
  obtain ⟨p1, p4, hl, _, hm, _⟩ := norm_size h1
  have hly : ys.length = 2 ^ s.toNat := by rw [(massOk_facts (chance_normal h2).1).2.1, ← hl, (massOk_facts hm).2.1]
  rw [hl] at ha
  rw [poss_imp (by omega) hl ha, poss_imp (by omega) hly ha]
  have h5 := h4 (2 ^ s.toNat - 1 - a) (by rw [hl]; omega)
  rw [Int.sub_mul, Int.sub_mul, Int.mul_comm (isum ys) (isum xs)]
  omega
theorem gA_sub : ∀ a b : Fin 16, b.val ≠ 0 → 12 * predI (subB a.val) b.val ≤ gA a.val b.val := by decide +kernel
theorem share_allowed {s : Int} {xs : List Int} (hn : normalOk s xs = true) (ho : (shareM s xs).ok = true) : allowsM s xs (shareM s xs).size (shareM s xs).parts = true := by
  obtain ⟨e, he, hs, hl, hm, hd, _, hw⟩ := share_facts ho
  obtain ⟨p1, p4, hlx, h0, hmx, _⟩ := norm_size hn
  obtain ⟨_, _, h16, hb, x1, _⟩ := massOk_facts hmx
  have hmx2 := hmx
  rw [hs]
  refine allows_iff.2 ⟨hn, ?_, rfl, fun a ha => ?_⟩
  · unfold chanceOk
    rw [hm, Bool.true_and, allN_iff]
    intro j hj
    cases hsj : single j
    · rw [share_nth ho (by rw [← hl]; exact hj) hsj]; rfl
    · simp
  · have h1 := hd (predI (subB a))
    rw [share_sub hmx ha, evenTo_dot] at h1
    have h2 : 12 * impP a xs ≤ dot (gA a) xs xs.length := by
      unfold impP
      rw [← dot_lin]
      refine dot_mono _ _ (fun j hj => (hb j hj).1) fun j hj hne => ?_
      exact gA_sub ⟨a, by omega⟩ ⟨j, by omega⟩ (by rintro rfl; exact hne h0)
    have h3 : e * impP a (shareM s xs).parts = dot (gA a) xs xs.length := by unfold impP; rw [hl]; exact h1
    rw [h0, Int.sub_zero] at hw
    refine Int.le_of_mul_le_mul_left ?_ (show 0 < e by omega)
    have e1 : e * (impP a xs * isum (shareM s xs).parts) = 12 * impP a xs * isum xs := by
      rw [Int.mul_left_comm, hw, Int.mul_comm (12 : Int) (isum xs), ← Int.mul_assoc, Int.mul_comm _ (12 : Int), Int.mul_assoc]
    rw [e1, ← Int.mul_assoc, h3]
    exact Int.mul_le_mul_of_nonneg_right h2 (by omega)
theorem dot_mix (f : Nat → Int) (l ys zs : List Int) (A B : Int) (n : Nat) (h : ∀ k, k < n → nth l k = A * nth ys k + B * nth zs k) : dot f l n = A * dot f ys n + B * dot f zs n := by
  induction n with
  | zero => show (0 : Int) = A * 0 + B * 0; omega
  | succ n ih =>
    rw [dot_succ, dot_succ, dot_succ, ih (fun k hk => h k (by omega)), h n (by omega), Int.mul_add, Int.mul_add, Int.mul_add, Int.mul_left_comm (f n) A, Int.mul_left_comm (f n) B]
    omega
theorem mixM_ok {s u num den : Int} {ys zs : List Int} (h : (mixM s ys u zs num den).ok = true) : oneQ s ys u zs = true ∧ 0 ≤ num ∧ num ≤ den ∧ ∃ e : Int, 1 ≤ e ∧ (mixM s ys u zs num den).size = s ∧ (mixM s ys u zs num den).parts.length = ys.length ∧ massOk s (mixM s ys u zs num den).parts = true ∧
    ∀ f, e * dot f (mixM s ys u zs num den).parts ys.length = num * isum zs * dot f ys ys.length + (den - num) * isum ys * dot f zs ys.length := by
  unfold mixM at h ⊢
  split at h
  · next hh =>
    rw [if_pos hh]
    rw [Bool.and_eq_true, Bool.and_eq_true, decide_eq_true_iff] at hh
    obtain ⟨h1, h2, h3⟩ := hh
    obtain ⟨q1, q2, q3, q4⟩ := shareOk_bd h2
    obtain ⟨g1, g2, g3, g4, g5⟩ := mkMass_parts h
    rw [appFn_len] at g3 g5
    refine ⟨h1, q1, q2, _, g1, g2, g3, g4, fun f => ?_⟩
    rw [g5]
    refine dot_mix _ _ _ _ _ _ _ fun k hk => ?_
    rw [appFn_nth, if_pos hk]
    unfold mixV
    rw [Int.mul_assoc, Int.mul_comm (nth ys k), ← Int.mul_assoc, Int.mul_assoc (den - num), Int.mul_comm (nth zs k), ← Int.mul_assoc]
  · cases h
/-- a mean of two allowed chances is allowed -/
theorem mean_allowed {s u num den : Int} {xs ys zs : List Int} (hy : allowsM s xs s ys = true) (hz : allowsM s xs u zs = true) (ho : (mixM s ys u zs num den).ok = true) : allowsM s xs (mixM s ys u zs num den).size (mixM s ys u zs num den).parts = true := by
  obtain ⟨hq, n0, n1, e, he, hs, hl, hm, hd⟩ := mixM_ok ho
  obtain ⟨a1, a2, _, a4⟩ := allows_iff.1 hy
  obtain ⟨_, b2, rfl, b4⟩ := allows_iff.1 hz
  obtain ⟨_, _, hlx, _, hmx, _⟩ := norm_size a1
  have hmy := (chance_normal a2).1
  have hmz := (chance_normal b2).1
  have hly : ys.length = xs.length := by rw [(massOk_facts hmy).2.1, (massOk_facts hmx).2.1]
  have hlz : zs.length = ys.length := by rw [(massOk_facts hmy).2.1, (massOk_facts hmz).2.1]
  have x1 := (massOk_facts hmx).2.2.2.2.1
  have y1 := (massOk_facts hmy).2.2.2.2.1
  have z1 := (massOk_facts hmz).2.2.2.2.1
  rw [hs]
  refine allows_iff.2 ⟨a1, ?_, rfl, fun a ha => ?_⟩
  · unfold chanceOk at a2 b2 ⊢
    rw [Bool.and_eq_true, allN_iff] at a2 b2
    rw [hm, Bool.true_and, allN_iff]
    intro j hj
    rw [hl] at hj
    have h1 := a2.2 j hj
    have h2 := b2.2 j (by rw [hlz]; exact hj)
    cases hsj : single j
    · simp only [hsj, Bool.or_false, beq_iff_eq] at h1 h2 ⊢
      have h3 := hd (at1 j)
      rw [dot_at1, dot_at1, dot_at1, if_pos hj, if_pos hj, if_pos hj, h1, h2, Int.mul_zero, Int.mul_zero] at h3
      rcases Int.mul_eq_zero.1 h3 with h4 | h4
      · omega
      · exact h4
    · simp
  · have h1 := hd (predI (subB a))
    have h2 := hd (fun _ => 1)
    rw [← isum_ofl hl, ← isum_ofl (xs := ys) rfl, ← isum_ofl hlz] at h2
    have hay := a4 a ha
    have haz := b4 a ha
    have e1 : impP a (mixM u ys u zs num den).parts = dot (predI (subB a)) (mixM u ys u zs num den).parts ys.length := by unfold impP; rw [hl]
    have e2 : impP a zs = dot (predI (subB a)) zs ys.length := by unfold impP; rw [hlz]
    have e3 : impP a ys = dot (predI (subB a)) ys ys.length := rfl
    rw [← e1, ← e2, ← e3] at h1
    generalize impP a (mixM u ys u zs num den).parts = PM at *
    generalize isum (mixM u ys u zs num den).parts = M at *
    generalize impP a ys = PY at *
    generalize impP a zs = PZ at *
    generalize impP a xs = PX at *
    generalize isum xs = X at *
    generalize isum ys = Y at *
    generalize isum zs = Z at *
    refine Int.le_of_mul_le_mul_left ?_ (show 0 < e by omega)
    have k1 : e * (PX * M) = num * Z * (PX * Y) + (den - num) * Y * (PX * Z) := by
      rw [Int.mul_left_comm, h2, Int.mul_add, Int.mul_left_comm PX, Int.mul_left_comm PX]
    have k2 : e * (PM * X) = num * Z * (PY * X) + (den - num) * Y * (PZ * X) := by
      rw [← Int.mul_assoc, h1, Int.add_mul, Int.mul_assoc (num * Z), Int.mul_assoc ((den - num) * Y)]
    rw [k1, k2]
    exact Int.add_le_add (Int.mul_le_mul_of_nonneg_left hay (Int.mul_nonneg n0 (by omega))) (Int.mul_le_mul_of_nonneg_left haz (Int.mul_nonneg (by omega) (by omega)))
theorem MassesO.row {w : World} {base n : Nat} {v : Value} {t p} (h : MassesO w base v n t p) {k : Nat} (hk : k < n) :
    ∃ g c a' n' c', v = .slice (some ⟨g, 0, none⟩) n c ∧ w.cell? ⟨g, k * 2, none⟩ = some (.int .i64 (t k)) ∧ w.cell? ⟨g, k * 2 + 1, none⟩ = some (.slice a' n' c') ∧ Row w base (.slice a' n' c') (p k) := by
  obtain ⟨vals, u, h1, h3, _⟩ := h.own
  rcases h1.2 with ⟨rfl, h0⟩ | ⟨g, cap, cur, rfl, hg, hh, hn, hc, hs, ht⟩
  · omega
  · obtain ⟨e0, e1, hr, _⟩ := h3 k hk
    have c0 := World.ownsRow.cells h1 (g := g) rfl (k * 2) _ e0
    have c1 := World.ownsRow.cells h1 (g := g) rfl (k * 2 + 1) _ e1
    obtain ⟨a', n', c', e2, hi⟩ := hr.ints
    rw [add_at] at c0 c1
    rw [e2] at hr c1
    exact ⟨g, cap, a', n', c', rfl, c0, c1, hr⟩
theorem mixM_half (s : Int) (xs ys : List Int) : (mixM s xs s ys 1 2).ok = true → massOk s (mixM s xs s ys 1 2).parts = true := fun h => by
  unfold mixM at h ⊢
  split
  · next hh => rw [if_pos hh] at h; exact (mkMass_parts h).2.2.2.1
  · next hh => rw [if_neg hh] at h; cases h
theorem kept4_set {b d i j k l : Nat} {u v x y : Value} {w : World} (h : w.cell? ⟨b, i, none⟩ = some u ∧ w.cell? ⟨b, j, none⟩ = some v ∧ w.cell? ⟨d, k, none⟩ = some x ∧ w.cell? ⟨d, l, none⟩ = some y) (a : Addr) (z : Value) (ha : a.block ≠ b ∧ a.block ≠ d) : (w.setCell a z).cell? ⟨b, i, none⟩ = some u ∧ (w.setCell a z).cell? ⟨b, j, none⟩ = some v ∧ (w.setCell a z).cell? ⟨d, k, none⟩ = some x ∧ (w.setCell a z).cell? ⟨d, l, none⟩ = some y := by
  obtain ⟨h1, h2, h3, h4⟩ := h
  refine ⟨?_, ?_, ?_, ?_⟩
  · rw [World.cell?_setCell_other _ _ _ _ (by rintro rfl; exact ha.1 rfl)]; exact h1
  · rw [World.cell?_setCell_other _ _ _ _ (by rintro rfl; exact ha.1 rfl)]; exact h2
  · rw [World.cell?_setCell_other _ _ _ _ (by rintro rfl; exact ha.2 rfl)]; exact h3
  · rw [World.cell?_setCell_other _ _ _ _ (by rintro rfl; exact ha.2 rfl)]; exact h4
theorem kept4_drew {b d i j k l : Nat} {u v x y : Value} {w : World} (h : w.cell? ⟨b, i, none⟩ = some u ∧ w.cell? ⟨b, j, none⟩ = some v ∧ w.cell? ⟨d, k, none⟩ = some x ∧ w.cell? ⟨d, l, none⟩ = some y) : w.drew.cell? ⟨b, i, none⟩ = some u ∧ w.drew.cell? ⟨b, j, none⟩ = some v ∧ w.drew.cell? ⟨d, k, none⟩ = some x ∧ w.drew.cell? ⟨d, l, none⟩ = some y := h
set_option maxRecDepth 100000 in
set_option maxHeartbeats 8000000 in
theorem DrawAllowsChance_any (ao : Option Addr) (n c : Nat) (w : World) (hx : BytesIn w w.heap.size ao n) (hnc : n ≤ c) :
    Calls Try.prog 14 #[.slice ao n c] w fun e w' => (∃ s p xs t q ys, e = .returned (.tuple #[.agg #[.int .i64 s, p], .agg #[.int .i64 t, q]]) ∧ Row w' w.heap.size p xs ∧ xs.length ≤ 17 ∧ Row w' w.heap.size q ys) ∧ Below w.heap.size w w' := by
  obtain ⟨R, hRe⟩ : ∃ R, w.heap.size + 1 + 1 = R := ⟨_, rfl⟩
  have HX := hid hx
  clear hx
  go_enter Try.func14, Try.ntmps14
  go_wp2_with fail
  refine (l14OpenR_any ao n c R _ (by simp; exact hRe) (HX.out.on (by (repeat (first | exact Below.refl _ _ | assumption | refine Below.alloc ?_ (by first | omega | (simp <;> omega)) _ | refine Below.setCell ?_ (by first | omega | (simp <;> omega)) _ | refine Below.drew ?_ | refine below_drewN ?_))) (by omega)) hnc).mono ?_; rintro e w0 ⟨rfl, hrd, hb⟩
  have hz : R ≤ w0.heap.size := by have := hb.size; simp at this; omega
  have r0 := hb.cell (p := ⟨w.heap.size, 0, none⟩) (by simp; omega)
  have r1 := hb.cell (p := ⟨w.heap.size, 1, none⟩) (by simp; omega)
  have fr0 := hb.frozen (p := ⟨w.heap.size, 0, none⟩) (by simp; omega)
  have fr1 := hb.frozen (p := ⟨w.heap.size, 1, none⟩) (by simp; omega)
  have q0 := hb.cell (p := ⟨w.heap.size + 1, 0, none⟩) (by simp; omega)
  have q1 := hb.cell (p := ⟨w.heap.size + 1, 1, none⟩) (by simp; omega)
  have fq0 := hb.frozen (p := ⟨w.heap.size + 1, 0, none⟩) (by simp; omega)
  have fq1 := hb.frozen (p := ⟨w.heap.size + 1, 1, none⟩) (by simp; omega)
  simp at r0 r1 fr0 fr1 q0 q1 fq0 fq1
  have hB : Below w.heap.size w w0 := Below.trans (by (repeat (first | exact Below.refl _ _ | assumption | refine Below.alloc ?_ (by first | omega | (simp <;> omega)) _ | refine Below.setCell ?_ (by first | omega | (simp <;> omega)) _ | refine Below.drew ?_ | refine below_drewN ?_))) (hb.mono (by omega))
  have hR1 := hrd.1
  have rb : Bx w0 w.heap.size (.int .i64 0) (.slice none 0 0) := ⟨r0, r1, fr0, fr1, by omega⟩
  have qb : Bx w0 (w.heap.size + 1) (.int .i64 0) (.slice none 0 0) := ⟨q0, q1, fq0, fq1, by omega⟩
  have hRl : w.heap.size + 1 < R := by omega
  clear hb r0 r1 fr0 fr1 q0 q1 fq0 fq1 hRe HX
  go_wp2_with fail
  refine (l10Normal_any R _ _ hrd (by omega)).mono ?_; rintro e w1 ⟨_, rfl, ⟨s, p, xs, rfl, hrm, hl⟩, hrdn, ht⟩
  clear hrd
  have hrd := hrdn
  clear hrdn
  replace rb := rb.span ht (by omega)
  replace qb := qb.span ht (by omega)
  replace hB := Span.below hB hB.size ht (by omega)
  have hz1 := ht.size
  clear ht
  replace hrm : Row w1 (R + 1) p xs := hrm.mono (by omega)
  obtain ⟨am, nm, cm, rfl, him⟩ := hrm.ints
  clear him
  have hvm : ∀ b, (Value.slice am nm cm).ownBlock = some b → R + 1 ≤ b := fun b e => (hrm.block b e).1
  have rb0 := rb.c0
  have rb1 := rb.c1
  have rb2 := rb.f0
  have rb3 := rb.f1
  have qb0 := qb.c0
  have qb1 := qb.c1
  have qb2 := qb.f0
  have qb3 := qb.f1
  go_wp2_with fail
  clear rb0 rb1 rb2 rb3 qb0 qb1 qb2 qb3
  refine (CornersOf_any s _ _ _ xs _ (hrm.view.below (by (repeat (first | exact Below.refl _ _ | assumption | refine Below.alloc ?_ (by first | omega | (simp <;> omega)) _ | refine Below.setCell ?_ (by first | omega | (simp <;> omega)) _ | refine Below.drew ?_ | refine below_drewN ?_))))).mono ?_; rintro e w2 ⟨⟨vc, rfl, hmo⟩, hb⟩
  have mb : Bx w2 w1.heap.size (.int .i64 s) (.slice am nm cm) := (Bx.mk2 (w := w1) rfl).below hb
  have ht : Below w1.heap.size w1 w2 := Below.trans (by (repeat (first | exact Below.refl _ _ | assumption | refine Below.alloc ?_ (by first | omega | (simp <;> omega)) _ | refine Below.setCell ?_ (by first | omega | (simp <;> omega)) _ | refine Below.drew ?_ | refine below_drewN ?_))) (hb.mono (by simp <;> omega))
  replace rb := rb.below ht
  replace qb := qb.below ht
  replace hrm := hrm.below ht
  replace hB := chain hB ht
  replace hrd := hrd.on ht
  replace hmo := hmo.mono (base' := R + 1) (by simp; omega)
  have hz2 := ht.size
  clear ht hb
  obtain ⟨M0, hM0⟩ : ∃ b, w1.heap.size = b := ⟨_, rfl⟩
  rw [hM0] at mb ⊢
  have hMR : R < M0 := by omega
  clear hM0
  obtain ⟨ac, cc, rfl, hat⟩ := hmo.form
  clear hat
  have HCG : Hid (∀ i, i < (cornersL s xs).length → okSize s = true) := fun i hi => by obtain ⟨_, g2, _⟩ := corners_good hi; exact (massOk_facts (norm_size g2).2.2.2.2.1).1
  have hQ24 : (cornersL s xs).length ≤ 24 := corners_len _ _
  generalize hCe : cornersL s xs = C at *
  clear hCe
  obtain ⟨Q, hQ⟩ : ∃ Q, C.length = Q := ⟨_, rfl⟩
  rw [hQ] at hmo HCG hQ24 ⊢
  clear hQ
  by_cases hQ0 : Q = 0
  · subst hQ0
    clear hmo
    have hmx : M0 < w2.heap.size := mb.lt
    have hS3 : w2.cell? ⟨M0, 0, none⟩ = some (.int .i64 s) ∧ w2.cell? ⟨M0, 1, none⟩ = some (.slice am nm cm) ∧ w2.heap.size ≤ w2.heap.size := ⟨mb.c0, mb.c1, Nat.le_refl _⟩
    have rb0 := rb.c0
    have rb1 := rb.c1
    have rb2 := rb.f0
    have rb3 := rb.f1
    have qb0 := qb.c0
    have qb1 := qb.c1
    have qb2 := qb.f0
    have qb3 := qb.f1
    have mb0 := mb.c0
    have mb1 := mb.c1
    have mb2 := mb.f0
    have mb3 := mb.f1
    go_wp2_with fail
    refine wp_region_joinF (ι := Value) (fun a i => (Act.put (Act.put (Act.put a (some 20) (.agg #[.int .i64 s, .slice am nm cm])) (some 21) (.pointer (some ⟨R, 0, none⟩))) (some 22) i)) (fun i W => ∃ t ay ny cy ys, i = .agg #[.int .i64 t, .slice ay ny cy] ∧ Row W (w.heap.size + 1 + 1) (.slice am nm cm) xs ∧ Row W (w.heap.size + 1 + 1) (.slice ay ny cy) ys ∧ Bx W w.heap.size (.int .i64 s) (.slice am nm cm) ∧ Bx W (w.heap.size + 1) (.int .i64 t) (.slice ay ny cy) ∧ Below w.heap.size w W) ?_ ?_
    · go_region_held3 (fun w' => w'.cell? ⟨M0, 0, none⟩ = some (.int .i64 s) ∧ w'.cell? ⟨M0, 1, none⟩ = some (.slice am nm cm) ∧ w2.heap.size ≤ w'.heap.size) (first | ((repeat (first | (with_reducible assumption) | (with_reducible refine kept2_set ?_ _ _ (by simp <;> omega)) | (with_reducible refine kept2_alloc hmx ?_ _) | (with_reducible refine kept2_drew ?_))); done)) (first | (go_at_call 49; refine (l3Open_any R _ w2.drew (hrd.on (by (repeat (first | exact Below.refl _ _ | assumption | refine Below.alloc ?_ (by first | omega | (simp <;> omega)) _ | refine Below.setCell ?_ (by first | omega | (simp <;> omega)) _ | refine Below.drew ?_ | refine below_drewN ?_)))) (by omega)).mono ?_; rintro e wy ⟨_, rfl, ⟨t, py, ys, rfl, hry, hly⟩, hrdy, hsy⟩; obtain ⟨ay, ny, cy, rfl, hiy⟩ := hry.ints; have ht : Span R (R + 1) w2 wy := Span.trans (Span.of_below (by (repeat (first | exact Below.refl _ _ | assumption | refine Below.alloc ?_ (by first | omega | (simp <;> omega)) _ | refine Below.setCell ?_ (by first | omega | (simp <;> omega)) _ | refine Below.drew ?_ | refine below_drewN ?_)))) hsy; have hSy := kept2_span hS3 ht (by omega); have k0 := hSy.1; have k1 := hSy.2.1; have ksz := hSy.2.2; have hrmy := Span.row ht hrm (fun b e => by have := hvm b e; omega); have rby := rb.span ht (by omega); have qby := qb.span ht (by omega); have s0 := rby.c0; have s1 := rby.c1; have s2 := rby.f0; have s3 := rby.f1; have s4 := rby.lt; have u0 := qby.c0; have u1 := qby.c1; have u2 := qby.f0; have u3 := qby.f1; have u4 := qby.lt; have hBy := Span.below hB hB.size ht (by omega)))
      have hvy : ∀ b, (Value.slice ay ny cy).ownBlock = some b → w2.heap.size ≤ b := fun b e => (hry.block b e).1
      refine ⟨_, rfl, t, ay, ny, cy, ys, rfl, ?_, ?_, ?_, ?_, by (repeat (first | exact Below.refl _ _ | assumption | refine Below.alloc ?_ (by first | omega | (simp <;> omega)) _ | refine Below.setCell ?_ (by first | omega | (simp <;> omega)) _ | refine Below.drew ?_ | refine below_drewN ?_))⟩
      · exact ((hrmy.mono (by omega)).put2 (fun k e => by have := hvm k e; omega)).put2 (fun k e => by have := hvm k e; omega)
      · exact ((hry.mono (by first | omega | (simp <;> omega))).put2 (fun k e => by have := hvy k e; omega)).put2 (fun k e => by have := hvy k e; omega)
      · exact (rby.put2 _ _).of_block (World.setCell2_other _ _ _ _ _ (by omega)) (by simp)
      · exact (qby.of_block (World.setCell2_other _ _ _ _ _ (by omega)) (by simp)).put2 _ _
    · rintro i wz ⟨t, ay, ny, cy, ys, rfl, hrmz, hryz, rbz, qbz, hB4⟩
      clear rb0 rb1 rb2 rb3 qb0 qb1 qb2 qb3 mb0 mb1 mb2 mb3
      clear hS3 hmx rb qb mb hrd
      obtain ⟨r0, r1, fr0, fr1, hrl4⟩ := rbz
      obtain ⟨q0, q1, fq0, fq1, hql4⟩ := qbz
      go_wp2
      refine bodyPost_ret (v := .tuple #[.agg #[.int .i64 s, .slice am nm cm], .agg #[.int .i64 t, .slice ay ny cy]]) (by simp [results, Try.results14, go_sem, r0, r1, q0, q1]) rfl ⟨⟨_, _, xs, _, _, ys, rfl, ?_, hl, ?_⟩, ?_⟩
      · exact (hrmz.below (by (repeat (first | exact Below.refl _ _ | assumption | refine Below.alloc ?_ (by first | omega | (simp <;> omega)) _ | refine Below.setCell ?_ (by first | omega | (simp <;> omega)) _ | refine Below.drew ?_ | refine below_drewN ?_)))).mono (by omega)
      · exact (hryz.below (by (repeat (first | exact Below.refl _ _ | assumption | refine Below.alloc ?_ (by first | omega | (simp <;> omega)) _ | refine Below.setCell ?_ (by first | omega | (simp <;> omega)) _ | refine Below.drew ?_ | refine below_drewN ?_)))).mono (by omega)
      · (repeat (first | exact Below.refl _ _ | assumption | refine Below.alloc ?_ (by first | omega | (simp <;> omega)) _ | refine Below.setCell ?_ (by first | omega | (simp <;> omega)) _ | refine Below.drew ?_ | refine below_drewN ?_))
  · have hq0 : ((Q : Int) == 0) = false := by rw [beq_eq_false_iff_ne]; omega
    have hOK := HCG.out 0 (by omega)
    have rb0 := rb.c0
    have rb1 := rb.c1
    have rb2 := rb.f0
    have rb3 := rb.f1
    have qb0 := qb.c0
    have qb1 := qb.c1
    have qb2 := qb.f0
    have qb3 := qb.f1
    have mb0 := mb.c0
    have mb1 := mb.c1
    have mb2 := mb.f0
    have mb3 := mb.f1
    go_wp2_with fail
    clear rb0 rb1 rb2 rb3 qb0 qb1 qb2 qb3 mb0 mb1 mb2 mb3
    refine (pick_any R _ _ _ (hrd.on (by (repeat (first | exact Below.refl _ _ | assumption | refine Below.alloc ?_ (by first | omega | (simp <;> omega)) _ | refine Below.setCell ?_ (by first | omega | (simp <;> omega)) _ | refine Below.drew ?_ | refine below_drewN ?_)))) (by omega) (by omega)).mono ?_; rintro e w3 ⟨_, rfl, ⟨k, rfl, k0, k1⟩, hrdn, hs⟩
    clear hrd
    have hrd := hrdn
    clear hrdn
    have ht := hs
    replace rb := rb.span ht (by omega)
    replace qb := qb.span ht (by omega)
    replace mb := mb.span ht (by omega)
    replace hrm := Span.row ht hrm (fun b e => by have := hvm b e; omega)
    replace hmo := hmo.span ht (by omega)
    replace hB := Span.below hB hB.size ht (by omega)
    have hzw3 := ht.size
    clear ht hs
    obtain ⟨jp, rfl⟩ : ∃ q : Nat, k = (q : Int) := ⟨k.toNat, by omega⟩
    have hjp : jp < Q := by omega
    obtain ⟨gp, cp9, ap, np, cp, e9, lp0, lp1, hrp⟩ := hmo.row hjp
    injection e9 with e1 e2 e3
    subst e1 e3
    clear e2
    have hip0 : (0 : Int) ≤ (jp : Int) := by omega
    have hip1 : (jp : Int) < (Q : Int) := by omega
    have hvp : ∀ b, (Value.slice ap np cp).ownBlock = some b → R + 1 ≤ b := fun b e => (hrp.block b e).1
    generalize nthL C jp = D at *
    have rb0 := rb.c0
    have rb1 := rb.c1
    have rb2 := rb.f0
    have rb3 := rb.f1
    have qb0 := qb.c0
    have qb1 := qb.c1
    have qb2 := qb.f0
    have qb3 := qb.f1
    have mb0 := mb.c0
    have mb1 := mb.c1
    have mb2 := mb.f0
    have mb3 := mb.f1
    go_wp2_with fail
    clear rb0 rb1 rb2 rb3 qb0 qb1 qb2 qb3 mb0 mb1 mb2 mb3
    refine (pick_any R _ _ _ (hrd.on (by (repeat (first | exact Below.refl _ _ | assumption | refine Below.alloc ?_ (by first | omega | (simp <;> omega)) _ | refine Below.setCell ?_ (by first | omega | (simp <;> omega)) _ | refine Below.drew ?_ | refine below_drewN ?_)))) (by omega) (by omega)).mono ?_; rintro e w4 ⟨_, rfl, ⟨k, rfl, k0, k1⟩, hrdn, hs⟩
    clear hrd
    have hrd := hrdn
    clear hrdn
    have pb : Bx w4 w3.heap.size (.int .i64 s) (.slice ap np cp) := (Bx.mk2 (w := w3) rfl).span hs (by omega)
    have ht : Span R (R + 1) w3 w4 := Span.trans (Span.of_below (by (repeat (first | exact Below.refl _ _ | assumption | refine Below.alloc ?_ (by first | omega | (simp <;> omega)) _ | refine Below.setCell ?_ (by first | omega | (simp <;> omega)) _ | refine Below.drew ?_ | refine below_drewN ?_)))) hs
    replace rb := rb.span ht (by omega)
    replace qb := qb.span ht (by omega)
    replace mb := mb.span ht (by omega)
    replace hrm := Span.row ht hrm (fun b e => by have := hvm b e; omega)
    replace hrp := Span.row ht hrp (fun b e => by have := hvp b e; omega)
    replace hmo := hmo.span ht (by omega)
    replace hB := Span.below hB hB.size ht (by omega)
    have hzw4 := ht.size
    clear ht hs
    clear lp0 lp1
    obtain ⟨P0, hP0⟩ : ∃ b, w3.heap.size = b := ⟨_, rfl⟩
    rw [hP0] at pb ⊢
    have hPR : R < P0 := by omega
    clear hP0
    obtain ⟨jq, rfl⟩ : ∃ q : Nat, k = (q : Int) := ⟨k.toNat, by omega⟩
    have hjq : jq < Q := by omega
    obtain ⟨gq, cq9, aq, nq, cq, e9, lq0, lq1, hrq⟩ := hmo.row hjq
    injection e9 with e1 e2 e3
    injection e1 with e1
    injection e1 with e1
    subst e1 e3
    clear e2
    have hiq0 : (0 : Int) ≤ (jq : Int) := by omega
    have hiq1 : (jq : Int) < (Q : Int) := by omega
    have hvq : ∀ b, (Value.slice aq nq cq).ownBlock = some b → R + 1 ≤ b := fun b e => (hrq.block b e).1
    generalize nthL C jq = E at hrq
    have rb0 := rb.c0
    have rb1 := rb.c1
    have rb2 := rb.f0
    have rb3 := rb.f1
    have qb0 := qb.c0
    have qb1 := qb.c1
    have qb2 := qb.f0
    have qb3 := qb.f1
    have mb0 := mb.c0
    have mb1 := mb.c1
    have mb2 := mb.f0
    have mb3 := mb.f1
    have pb0 := pb.c0
    have pb1 := pb.c1
    have pb2 := pb.f0
    have pb3 := pb.f1
    go_wp2_with fail
    clear rb0 rb1 rb2 rb3 qb0 qb1 qb2 qb3 mb0 mb1 mb2 mb3 pb0 pb1 pb2 pb3
    refine (specMixMasses_any s s 1 2 _ _ _ _ _ _ D E _ (hrp.view.below (by (repeat (first | exact Below.refl _ _ | assumption | refine Below.alloc ?_ (by first | omega | (simp <;> omega)) _ | refine Below.setCell ?_ (by first | omega | (simp <;> omega)) _ | refine Below.drew ?_ | refine below_drewN ?_)))) (hrq.view.below (by (repeat (first | exact Below.refl _ _ | assumption | refine Below.alloc ?_ (by first | omega | (simp <;> omega)) _ | refine Below.setCell ?_ (by first | omega | (simp <;> omega)) _ | refine Below.drew ?_ | refine below_drewN ?_))))).mono ?_; rintro e w5 ⟨⟨vk, rfl, hrk⟩, hb⟩
    have ht : Below w4.heap.size w4 w5 := Below.trans (by (repeat (first | exact Below.refl _ _ | assumption | refine Below.alloc ?_ (by first | omega | (simp <;> omega)) _ | refine Below.setCell ?_ (by first | omega | (simp <;> omega)) _ | refine Below.drew ?_ | refine below_drewN ?_))) (hb.mono (by simp <;> omega))
    replace rb := rb.below ht
    replace qb := qb.below ht
    replace mb := mb.below ht
    replace pb := pb.below ht
    replace hrm := hrm.below ht
    replace hrp := hrp.below ht
    replace hmo := hmo.below ht
    replace hB := chain hB ht
    replace hrd := hrd.on ht
    replace hrk := hrk.mono (base' := R + 1) (by simp; omega)
    have hzw5 := ht.size
    clear ht hb lq0 lq1 hrq hvq
    obtain ⟨ak, nk, ck, rfl, hik⟩ := hrk.ints
    clear hik
    have hvk : ∀ b, (Value.slice ak nk ck).ownBlock = some b → R + 1 ≤ b := fun b e => (hrk.block b e).1
    generalize (mixM s D s E 1 2).ok = ok at *
    generalize (mixM s D s E 1 2).size = sk at *
    generalize (mixM s D s E 1 2).parts = ks at *
    cases ok
    · have rb0 := rb.c0
      have rb1 := rb.c1
      have rb2 := rb.f0
      have rb3 := rb.f1
      have qb0 := qb.c0
      have qb1 := qb.c1
      have qb2 := qb.f0
      have qb3 := qb.f1
      have mb0 := mb.c0
      have mb1 := mb.c1
      have mb2 := mb.f0
      have mb3 := mb.f1
      have pb0 := pb.c0
      have pb1 := pb.c1
      have pb2 := pb.f0
      have pb3 := pb.f1
      go_wp2_with fail
      clear rb0 rb1 rb2 rb3 qb0 qb1 qb2 qb3 mb0 mb1 mb2 mb3 pb0 pb1 pb2 pb3
      refine (pick_any R _ _ _ (hrd.on (by (repeat (first | exact Below.refl _ _ | assumption | refine Below.alloc ?_ (by first | omega | (simp <;> omega)) _ | refine Below.setCell ?_ (by first | omega | (simp <;> omega)) _ | refine Below.drew ?_ | refine below_drewN ?_)))) (by omega) (by omega)).mono ?_; rintro e w6 ⟨_, rfl, ⟨z, rfl, z0, z1⟩, hrdn, hs⟩
      clear hrd
      have hrd := hrdn
      clear hrdn
      have eb : Bx w6 w5.heap.size (.int .i64 sk) (.slice ak nk ck) := (Bx.mk2 (w := w5) rfl).span hs (by omega)
      have ht : Span R (R + 1) w5 w6 := Span.trans (Span.of_below (by (repeat (first | exact Below.refl _ _ | assumption | refine Below.alloc ?_ (by first | omega | (simp <;> omega)) _ | refine Below.setCell ?_ (by first | omega | (simp <;> omega)) _ | refine Below.drew ?_ | refine below_drewN ?_)))) hs
      replace rb := rb.span ht (by omega)
      replace qb := qb.span ht (by omega)
      replace mb := mb.span ht (by omega)
      replace pb := pb.span ht (by omega)
      replace hrm := Span.row ht hrm (fun b e => by have := hvm b e; omega)
      replace hrp := Span.row ht hrp (fun b e => by have := hvp b e; omega)
      replace hrk := Span.row ht hrk (fun b e => by have := hvk b e; omega)
      replace hmo := hmo.span ht (by omega)
      replace hB := Span.below hB hB.size ht (by omega)
      have hzw6 := ht.size
      clear ht hs
      by_cases e0 : z = 0
      · subst e0
        have hmx : M0 < w6.heap.size := mb.lt
        have hS3 : w6.cell? ⟨M0, 0, none⟩ = some (.int .i64 s) ∧ w6.cell? ⟨M0, 1, none⟩ = some (.slice am nm cm) ∧ w6.heap.size ≤ w6.heap.size := ⟨mb.c0, mb.c1, Nat.le_refl _⟩
        have rb0 := rb.c0
        have rb1 := rb.c1
        have rb2 := rb.f0
        have rb3 := rb.f1
        have qb0 := qb.c0
        have qb1 := qb.c1
        have qb2 := qb.f0
        have qb3 := qb.f1
        have mb0 := mb.c0
        have mb1 := mb.c1
        have mb2 := mb.f0
        have mb3 := mb.f1
        go_wp2_with fail
        refine wp_region_joinF (ι := Value) (fun a i => (Act.put (Act.put (Act.put (Act.put (Act.put a (some 57) (.agg #[.int .i64 s, .slice am nm cm])) (some 58) (.pointer (some ⟨R, 0, none⟩))) (some 59) (.pointer (some ⟨M0, 0, none⟩))) (some 60) (.int .i64 s)) (some 61) i)) (fun i W => ∃ t ay ny cy ys, i = .agg #[.int .i64 t, .slice ay ny cy] ∧ Row W (w.heap.size + 1 + 1) (.slice am nm cm) xs ∧ Row W (w.heap.size + 1 + 1) (.slice ay ny cy) ys ∧ Bx W w.heap.size (.int .i64 s) (.slice am nm cm) ∧ Bx W (w.heap.size + 1) (.int .i64 t) (.slice ay ny cy) ∧ Below w.heap.size w W) ?_ ?_
        · go_region_held3 (fun w' => w'.cell? ⟨M0, 0, none⟩ = some (.int .i64 s) ∧ w'.cell? ⟨M0, 1, none⟩ = some (.slice am nm cm) ∧ w6.heap.size ≤ w'.heap.size) (first | ((repeat (first | (with_reducible assumption) | (with_reducible refine kept2_set ?_ _ _ (by simp <;> omega)) | (with_reducible refine kept2_alloc hmx ?_ _) | (with_reducible refine kept2_drew ?_))); done)) (first | (go_at_call 52; refine (l3Draw_any R _ s w6.drew (hrd.on (by (repeat (first | exact Below.refl _ _ | assumption | refine Below.alloc ?_ (by first | omega | (simp <;> omega)) _ | refine Below.setCell ?_ (by first | omega | (simp <;> omega)) _ | refine Below.drew ?_ | refine below_drewN ?_)))) (by omega) hOK).mono ?_; rintro e wy ⟨_, rfl, ⟨py, ys, rfl, hry, hly, hoy⟩, hrdy, hsy⟩; obtain ⟨ay, ny, cy, rfl, hiy⟩ := hry.ints; have ht : Span R (R + 1) w6 wy := Span.trans (Span.of_below (by (repeat (first | exact Below.refl _ _ | assumption | refine Below.alloc ?_ (by first | omega | (simp <;> omega)) _ | refine Below.setCell ?_ (by first | omega | (simp <;> omega)) _ | refine Below.drew ?_ | refine below_drewN ?_)))) hsy; have hSy := kept2_span hS3 ht (by omega); have k0 := hSy.1; have k1 := hSy.2.1; have ksz := hSy.2.2; have hrmy := Span.row ht hrm (fun b e => by have := hvm b e; omega); have rby := rb.span ht (by omega); have qby := qb.span ht (by omega); have s0 := rby.c0; have s1 := rby.c1; have s2 := rby.f0; have s3 := rby.f1; have s4 := rby.lt; have u0 := qby.c0; have u1 := qby.c1; have u2 := qby.f0; have u3 := qby.f1; have u4 := qby.lt; have hBy := Span.below hB hB.size ht (by omega)))
          have hvy : ∀ b, (Value.slice ay ny cy).ownBlock = some b → w6.heap.size ≤ b := fun b e => (hry.block b e).1
          refine ⟨_, rfl, s, ay, ny, cy, ys, rfl, ?_, ?_, ?_, ?_, by (repeat (first | exact Below.refl _ _ | assumption | refine Below.alloc ?_ (by first | omega | (simp <;> omega)) _ | refine Below.setCell ?_ (by first | omega | (simp <;> omega)) _ | refine Below.drew ?_ | refine below_drewN ?_))⟩
          · exact ((hrmy.mono (by omega)).put2 (fun k e => by have := hvm k e; omega)).put2 (fun k e => by have := hvm k e; omega)
          · exact ((hry.mono (by first | omega | (simp <;> omega))).put2 (fun k e => by have := hvy k e; omega)).put2 (fun k e => by have := hvy k e; omega)
          · exact (rby.put2 _ _).of_block (World.setCell2_other _ _ _ _ _ (by omega)) (by simp)
          · exact (qby.of_block (World.setCell2_other _ _ _ _ _ (by omega)) (by simp)).put2 _ _
        · rintro i wz ⟨t, ay, ny, cy, ys, rfl, hrmz, hryz, rbz, qbz, hB4⟩
          clear rb0 rb1 rb2 rb3 qb0 qb1 qb2 qb3 mb0 mb1 mb2 mb3
          clear hS3 hmx rb qb mb hrd
          obtain ⟨r0, r1, fr0, fr1, hrl4⟩ := rbz
          obtain ⟨q0, q1, fq0, fq1, hql4⟩ := qbz
          go_wp2
          refine bodyPost_ret (v := .tuple #[.agg #[.int .i64 s, .slice am nm cm], .agg #[.int .i64 t, .slice ay ny cy]]) (by simp [results, Try.results14, go_sem, r0, r1, q0, q1]) rfl ⟨⟨_, _, xs, _, _, ys, rfl, ?_, hl, ?_⟩, ?_⟩
          · exact (hrmz.below (by (repeat (first | exact Below.refl _ _ | assumption | refine Below.alloc ?_ (by first | omega | (simp <;> omega)) _ | refine Below.setCell ?_ (by first | omega | (simp <;> omega)) _ | refine Below.drew ?_ | refine below_drewN ?_)))).mono (by omega)
          · exact (hryz.below (by (repeat (first | exact Below.refl _ _ | assumption | refine Below.alloc ?_ (by first | omega | (simp <;> omega)) _ | refine Below.setCell ?_ (by first | omega | (simp <;> omega)) _ | refine Below.drew ?_ | refine below_drewN ?_)))).mono (by omega)
          · (repeat (first | exact Below.refl _ _ | assumption | refine Below.alloc ?_ (by first | omega | (simp <;> omega)) _ | refine Below.setCell ?_ (by first | omega | (simp <;> omega)) _ | refine Below.drew ?_ | refine below_drewN ?_))
      · have hz9 : (z == 0) = false := by simpa using e0
        have hS4 := And.intro mb.c0 (And.intro mb.c1 (And.intro pb.c0 pb.c1))
        have rb0 := rb.c0
        have rb1 := rb.c1
        have rb2 := rb.f0
        have rb3 := rb.f1
        have qb0 := qb.c0
        have qb1 := qb.c1
        have qb2 := qb.f0
        have qb3 := qb.f1
        have mb0 := mb.c0
        have mb1 := mb.c1
        have mb2 := mb.f0
        have mb3 := mb.f1
        have pb0 := pb.c0
        have pb1 := pb.c1
        have pb2 := pb.f0
        have pb3 := pb.f1
        go_wp2_with fail
        go_region_held3 (fun w' => w'.cell? ⟨M0, 0, none⟩ = some (.int .i64 s) ∧ w'.cell? ⟨M0, 1, none⟩ = some (.slice am nm cm) ∧ w'.cell? ⟨P0, 0, none⟩ = some (.int .i64 s) ∧ w'.cell? ⟨P0, 1, none⟩ = some (.slice ap np cp)) (first | ((repeat (first | (with_reducible assumption) | (with_reducible refine kept4_set ?_ _ _ (by simp <;> omega)) | (with_reducible refine kept4_drew ?_))); done)) (first | fail)
        have rz := (rb.put2 (.int .i64 s) (.slice am nm cm)).of_block (World.setCell2_other _ (w.heap.size + 1) _ (.int .i64 s) (.slice ap np cp) (by omega)) (by simp)
        have qz := (qb.of_block (World.setCell2_other _ w.heap.size _ (.int .i64 s) (.slice am nm cm) (by omega)) (by simp)).put2 (.int .i64 s) (.slice ap np cp)
        have hrm9 := ((hrm.mono (base' := w.heap.size + 1 + 1) (by omega)).put2 (b := w.heap.size) (x := .int .i64 s) (y := .slice am nm cm) (fun k e => by have := hvm k e; omega)).put2 (b := w.heap.size + 1) (x := .int .i64 s) (y := .slice ap np cp) (fun k e => by have := hvm k e; omega)
        have hrk9 := ((hrp.mono (base' := w.heap.size + 1 + 1) (by omega)).put2 (b := w.heap.size) (x := .int .i64 s) (y := .slice am nm cm) (fun k e => by have := hvp k e; omega)).put2 (b := w.heap.size + 1) (x := .int .i64 s) (y := .slice ap np cp) (fun k e => by have := hvp k e; omega)
        clear rb0 rb1 rb2 rb3 qb0 qb1 qb2 qb3 mb0 mb1 mb2 mb3 pb0 pb1 pb2 pb3
        clear hS4
        have r20 := rz.c0
        have r21 := rz.c1
        have q20 := qz.c0
        have q21 := qz.c1
        clear rb qb mb pb hrd hmo
        go_wp2
        refine bodyPost_ret (v := .tuple #[.agg #[.int .i64 s, .slice am nm cm], .agg #[.int .i64 s, .slice ap np cp]]) (by simp [results, Try.results14, go_sem, r20, r21, q20, q21]) rfl ⟨⟨_, _, xs, _, _, D, rfl, hrm9.mono (by omega), hl, hrk9.mono (by omega)⟩, ?_⟩
        (repeat (first | exact Below.refl _ _ | assumption | refine Below.alloc ?_ (by first | omega | (simp <;> omega)) _ | refine Below.setCell ?_ (by first | omega | (simp <;> omega)) _ | refine Below.drew ?_ | refine below_drewN ?_))
    · have rb0 := rb.c0
      have rb1 := rb.c1
      have rb2 := rb.f0
      have rb3 := rb.f1
      have qb0 := qb.c0
      have qb1 := qb.c1
      have qb2 := qb.f0
      have qb3 := qb.f1
      have mb0 := mb.c0
      have mb1 := mb.c1
      have mb2 := mb.f0
      have mb3 := mb.f1
      have pb0 := pb.c0
      have pb1 := pb.c1
      have pb2 := pb.f0
      have pb3 := pb.f1
      go_wp2_with fail
      clear rb0 rb1 rb2 rb3 qb0 qb1 qb2 qb3 mb0 mb1 mb2 mb3 pb0 pb1 pb2 pb3
      refine (pick_any R _ _ _ (hrd.on (by (repeat (first | exact Below.refl _ _ | assumption | refine Below.alloc ?_ (by first | omega | (simp <;> omega)) _ | refine Below.setCell ?_ (by first | omega | (simp <;> omega)) _ | refine Below.drew ?_ | refine below_drewN ?_)))) (by omega) (by omega)).mono ?_; rintro e w6 ⟨_, rfl, ⟨y, rfl, y0, y1⟩, hrdn, hs⟩
      clear hrd
      have hrd := hrdn
      clear hrdn
      have eb : Bx w6 w5.heap.size (.int .i64 sk) (.slice ak nk ck) := (Bx.mk2 (w := w5) rfl).span hs (by omega)
      have ht : Span R (R + 1) w5 w6 := Span.trans (Span.of_below (by (repeat (first | exact Below.refl _ _ | assumption | refine Below.alloc ?_ (by first | omega | (simp <;> omega)) _ | refine Below.setCell ?_ (by first | omega | (simp <;> omega)) _ | refine Below.drew ?_ | refine below_drewN ?_)))) hs
      replace rb := rb.span ht (by omega)
      replace qb := qb.span ht (by omega)
      replace mb := mb.span ht (by omega)
      replace pb := pb.span ht (by omega)
      replace hrm := Span.row ht hrm (fun b e => by have := hvm b e; omega)
      replace hrp := Span.row ht hrp (fun b e => by have := hvp b e; omega)
      replace hrk := Span.row ht hrk (fun b e => by have := hvk b e; omega)
      replace hmo := hmo.span ht (by omega)
      replace hB := Span.below hB hB.size ht (by omega)
      have hzw6 := ht.size
      clear ht hs
      obtain ⟨E0, hE0⟩ : ∃ b, w5.heap.size = b := ⟨_, rfl⟩
      rw [hE0] at eb ⊢
      have hER : R < E0 := by omega
      clear hE0
      by_cases e1 : y = 0
      · subst e1
        have hS4 := And.intro mb.c0 (And.intro mb.c1 (And.intro eb.c0 eb.c1))
        have rb0 := rb.c0
        have rb1 := rb.c1
        have rb2 := rb.f0
        have rb3 := rb.f1
        have qb0 := qb.c0
        have qb1 := qb.c1
        have qb2 := qb.f0
        have qb3 := qb.f1
        have mb0 := mb.c0
        have mb1 := mb.c1
        have mb2 := mb.f0
        have mb3 := mb.f1
        have eb0 := eb.c0
        have eb1 := eb.c1
        have eb2 := eb.f0
        have eb3 := eb.f1
        go_wp2_with fail
        go_region_held3 (fun w' => w'.cell? ⟨M0, 0, none⟩ = some (.int .i64 s) ∧ w'.cell? ⟨M0, 1, none⟩ = some (.slice am nm cm) ∧ w'.cell? ⟨E0, 0, none⟩ = some (.int .i64 sk) ∧ w'.cell? ⟨E0, 1, none⟩ = some (.slice ak nk ck)) (first | ((repeat (first | (with_reducible assumption) | (with_reducible refine kept4_set ?_ _ _ (by simp <;> omega)) | (with_reducible refine kept4_drew ?_))); done)) (first | fail)
        have rz := (rb.put2 (.int .i64 s) (.slice am nm cm)).of_block (World.setCell2_other _ (w.heap.size + 1) _ (.int .i64 sk) (.slice ak nk ck) (by omega)) (by simp)
        have qz := (qb.of_block (World.setCell2_other _ w.heap.size _ (.int .i64 s) (.slice am nm cm) (by omega)) (by simp)).put2 (.int .i64 sk) (.slice ak nk ck)
        have hrm9 := ((hrm.mono (base' := w.heap.size + 1 + 1) (by omega)).put2 (b := w.heap.size) (x := .int .i64 s) (y := .slice am nm cm) (fun k e => by have := hvm k e; omega)).put2 (b := w.heap.size + 1) (x := .int .i64 sk) (y := .slice ak nk ck) (fun k e => by have := hvm k e; omega)
        have hrk9 := ((hrk.mono (base' := w.heap.size + 1 + 1) (by omega)).put2 (b := w.heap.size) (x := .int .i64 s) (y := .slice am nm cm) (fun k e => by have := hvk k e; omega)).put2 (b := w.heap.size + 1) (x := .int .i64 sk) (y := .slice ak nk ck) (fun k e => by have := hvk k e; omega)
        clear rb0 rb1 rb2 rb3 qb0 qb1 qb2 qb3 mb0 mb1 mb2 mb3 eb0 eb1 eb2 eb3
        clear hS4
        have r20 := rz.c0
        have r21 := rz.c1
        have q20 := qz.c0
        have q21 := qz.c1
        clear rb qb mb eb hrd hmo
        go_wp2
        refine bodyPost_ret (v := .tuple #[.agg #[.int .i64 s, .slice am nm cm], .agg #[.int .i64 sk, .slice ak nk ck]]) (by simp [results, Try.results14, go_sem, r20, r21, q20, q21]) rfl ⟨⟨_, _, xs, _, _, ks, rfl, hrm9.mono (by omega), hl, hrk9.mono (by omega)⟩, ?_⟩
        (repeat (first | exact Below.refl _ _ | assumption | refine Below.alloc ?_ (by first | omega | (simp <;> omega)) _ | refine Below.setCell ?_ (by first | omega | (simp <;> omega)) _ | refine Below.drew ?_ | refine below_drewN ?_))
      · have hy9 : (y == 0) = false := by simpa using e1
        have rb0 := rb.c0
        have rb1 := rb.c1
        have rb2 := rb.f0
        have rb3 := rb.f1
        have qb0 := qb.c0
        have qb1 := qb.c1
        have qb2 := qb.f0
        have qb3 := qb.f1
        have mb0 := mb.c0
        have mb1 := mb.c1
        have mb2 := mb.f0
        have mb3 := mb.f1
        have pb0 := pb.c0
        have pb1 := pb.c1
        have pb2 := pb.f0
        have pb3 := pb.f1
        have eb0 := eb.c0
        have eb1 := eb.c1
        have eb2 := eb.f0
        have eb3 := eb.f1
        go_wp2_with fail
        clear rb0 rb1 rb2 rb3 qb0 qb1 qb2 qb3 mb0 mb1 mb2 mb3 pb0 pb1 pb2 pb3 eb0 eb1 eb2 eb3
        refine (pick_any R _ _ _ (hrd.on (by (repeat (first | exact Below.refl _ _ | assumption | refine Below.alloc ?_ (by first | omega | (simp <;> omega)) _ | refine Below.setCell ?_ (by first | omega | (simp <;> omega)) _ | refine Below.drew ?_ | refine below_drewN ?_)))) (by omega) (by omega)).mono ?_; rintro e w7 ⟨_, rfl, ⟨z, rfl, z0, z1⟩, hrdn, hs⟩
        clear hrd
        have hrd := hrdn
        clear hrdn
        have ht := hs
        replace rb := rb.span ht (by omega)
        replace qb := qb.span ht (by omega)
        replace mb := mb.span ht (by omega)
        replace pb := pb.span ht (by omega)
        replace eb := eb.span ht (by omega)
        replace hrm := Span.row ht hrm (fun b e => by have := hvm b e; omega)
        replace hrp := Span.row ht hrp (fun b e => by have := hvp b e; omega)
        replace hrk := Span.row ht hrk (fun b e => by have := hvk b e; omega)
        replace hmo := hmo.span ht (by omega)
        replace hB := Span.below hB hB.size ht (by omega)
        have hzw7 := ht.size
        clear ht hs
        by_cases e0 : z = 0
        · subst e0
          have hmx : M0 < w7.heap.size := mb.lt
          have hS3 : w7.cell? ⟨M0, 0, none⟩ = some (.int .i64 s) ∧ w7.cell? ⟨M0, 1, none⟩ = some (.slice am nm cm) ∧ w7.heap.size ≤ w7.heap.size := ⟨mb.c0, mb.c1, Nat.le_refl _⟩
          have rb0 := rb.c0
          have rb1 := rb.c1
          have rb2 := rb.f0
          have rb3 := rb.f1
          have qb0 := qb.c0
          have qb1 := qb.c1
          have qb2 := qb.f0
          have qb3 := qb.f1
          have mb0 := mb.c0
          have mb1 := mb.c1
          have mb2 := mb.f0
          have mb3 := mb.f1
          go_wp2_with fail
          refine wp_region_joinF (ι := Value) (fun a i => (Act.put (Act.put (Act.put (Act.put (Act.put a (some 57) (.agg #[.int .i64 s, .slice am nm cm])) (some 58) (.pointer (some ⟨R, 0, none⟩))) (some 59) (.pointer (some ⟨M0, 0, none⟩))) (some 60) (.int .i64 s)) (some 61) i)) (fun i W => ∃ t ay ny cy ys, i = .agg #[.int .i64 t, .slice ay ny cy] ∧ Row W (w.heap.size + 1 + 1) (.slice am nm cm) xs ∧ Row W (w.heap.size + 1 + 1) (.slice ay ny cy) ys ∧ Bx W w.heap.size (.int .i64 s) (.slice am nm cm) ∧ Bx W (w.heap.size + 1) (.int .i64 t) (.slice ay ny cy) ∧ Below w.heap.size w W) ?_ ?_
          · go_region_held3 (fun w' => w'.cell? ⟨M0, 0, none⟩ = some (.int .i64 s) ∧ w'.cell? ⟨M0, 1, none⟩ = some (.slice am nm cm) ∧ w7.heap.size ≤ w'.heap.size) (first | ((repeat (first | (with_reducible assumption) | (with_reducible refine kept2_set ?_ _ _ (by simp <;> omega)) | (with_reducible refine kept2_alloc hmx ?_ _) | (with_reducible refine kept2_drew ?_))); done)) (first | (go_at_call 52; refine (l3Draw_any R _ s w7.drew (hrd.on (by (repeat (first | exact Below.refl _ _ | assumption | refine Below.alloc ?_ (by first | omega | (simp <;> omega)) _ | refine Below.setCell ?_ (by first | omega | (simp <;> omega)) _ | refine Below.drew ?_ | refine below_drewN ?_)))) (by omega) hOK).mono ?_; rintro e wy ⟨_, rfl, ⟨py, ys, rfl, hry, hly, hoy⟩, hrdy, hsy⟩; obtain ⟨ay, ny, cy, rfl, hiy⟩ := hry.ints; have ht : Span R (R + 1) w7 wy := Span.trans (Span.of_below (by (repeat (first | exact Below.refl _ _ | assumption | refine Below.alloc ?_ (by first | omega | (simp <;> omega)) _ | refine Below.setCell ?_ (by first | omega | (simp <;> omega)) _ | refine Below.drew ?_ | refine below_drewN ?_)))) hsy; have hSy := kept2_span hS3 ht (by omega); have k0 := hSy.1; have k1 := hSy.2.1; have ksz := hSy.2.2; have hrmy := Span.row ht hrm (fun b e => by have := hvm b e; omega); have rby := rb.span ht (by omega); have qby := qb.span ht (by omega); have s0 := rby.c0; have s1 := rby.c1; have s2 := rby.f0; have s3 := rby.f1; have s4 := rby.lt; have u0 := qby.c0; have u1 := qby.c1; have u2 := qby.f0; have u3 := qby.f1; have u4 := qby.lt; have hBy := Span.below hB hB.size ht (by omega)))
            have hvy : ∀ b, (Value.slice ay ny cy).ownBlock = some b → w7.heap.size ≤ b := fun b e => (hry.block b e).1
            refine ⟨_, rfl, s, ay, ny, cy, ys, rfl, ?_, ?_, ?_, ?_, by (repeat (first | exact Below.refl _ _ | assumption | refine Below.alloc ?_ (by first | omega | (simp <;> omega)) _ | refine Below.setCell ?_ (by first | omega | (simp <;> omega)) _ | refine Below.drew ?_ | refine below_drewN ?_))⟩
            · exact ((hrmy.mono (by omega)).put2 (fun k e => by have := hvm k e; omega)).put2 (fun k e => by have := hvm k e; omega)
            · exact ((hry.mono (by first | omega | (simp <;> omega))).put2 (fun k e => by have := hvy k e; omega)).put2 (fun k e => by have := hvy k e; omega)
            · exact (rby.put2 _ _).of_block (World.setCell2_other _ _ _ _ _ (by omega)) (by simp)
            · exact (qby.of_block (World.setCell2_other _ _ _ _ _ (by omega)) (by simp)).put2 _ _
          · rintro i wz ⟨t, ay, ny, cy, ys, rfl, hrmz, hryz, rbz, qbz, hB4⟩
            clear rb0 rb1 rb2 rb3 qb0 qb1 qb2 qb3 mb0 mb1 mb2 mb3
            clear hS3 hmx rb qb mb hrd
            obtain ⟨r0, r1, fr0, fr1, hrl4⟩ := rbz
            obtain ⟨q0, q1, fq0, fq1, hql4⟩ := qbz
            go_wp2
            refine bodyPost_ret (v := .tuple #[.agg #[.int .i64 s, .slice am nm cm], .agg #[.int .i64 t, .slice ay ny cy]]) (by simp [results, Try.results14, go_sem, r0, r1, q0, q1]) rfl ⟨⟨_, _, xs, _, _, ys, rfl, ?_, hl, ?_⟩, ?_⟩
            · exact (hrmz.below (by (repeat (first | exact Below.refl _ _ | assumption | refine Below.alloc ?_ (by first | omega | (simp <;> omega)) _ | refine Below.setCell ?_ (by first | omega | (simp <;> omega)) _ | refine Below.drew ?_ | refine below_drewN ?_)))).mono (by omega)
            · exact (hryz.below (by (repeat (first | exact Below.refl _ _ | assumption | refine Below.alloc ?_ (by first | omega | (simp <;> omega)) _ | refine Below.setCell ?_ (by first | omega | (simp <;> omega)) _ | refine Below.drew ?_ | refine below_drewN ?_)))).mono (by omega)
            · (repeat (first | exact Below.refl _ _ | assumption | refine Below.alloc ?_ (by first | omega | (simp <;> omega)) _ | refine Below.setCell ?_ (by first | omega | (simp <;> omega)) _ | refine Below.drew ?_ | refine below_drewN ?_))
        · have hz9 : (z == 0) = false := by simpa using e0
          have hS4 := And.intro mb.c0 (And.intro mb.c1 (And.intro pb.c0 pb.c1))
          have rb0 := rb.c0
          have rb1 := rb.c1
          have rb2 := rb.f0
          have rb3 := rb.f1
          have qb0 := qb.c0
          have qb1 := qb.c1
          have qb2 := qb.f0
          have qb3 := qb.f1
          have mb0 := mb.c0
          have mb1 := mb.c1
          have mb2 := mb.f0
          have mb3 := mb.f1
          have pb0 := pb.c0
          have pb1 := pb.c1
          have pb2 := pb.f0
          have pb3 := pb.f1
          go_wp2_with fail
          go_region_held3 (fun w' => w'.cell? ⟨M0, 0, none⟩ = some (.int .i64 s) ∧ w'.cell? ⟨M0, 1, none⟩ = some (.slice am nm cm) ∧ w'.cell? ⟨P0, 0, none⟩ = some (.int .i64 s) ∧ w'.cell? ⟨P0, 1, none⟩ = some (.slice ap np cp)) (first | ((repeat (first | (with_reducible assumption) | (with_reducible refine kept4_set ?_ _ _ (by simp <;> omega)) | (with_reducible refine kept4_drew ?_))); done)) (first | fail)
          have rz := (rb.put2 (.int .i64 s) (.slice am nm cm)).of_block (World.setCell2_other _ (w.heap.size + 1) _ (.int .i64 s) (.slice ap np cp) (by omega)) (by simp)
          have qz := (qb.of_block (World.setCell2_other _ w.heap.size _ (.int .i64 s) (.slice am nm cm) (by omega)) (by simp)).put2 (.int .i64 s) (.slice ap np cp)
          have hrm9 := ((hrm.mono (base' := w.heap.size + 1 + 1) (by omega)).put2 (b := w.heap.size) (x := .int .i64 s) (y := .slice am nm cm) (fun k e => by have := hvm k e; omega)).put2 (b := w.heap.size + 1) (x := .int .i64 s) (y := .slice ap np cp) (fun k e => by have := hvm k e; omega)
          have hrk9 := ((hrp.mono (base' := w.heap.size + 1 + 1) (by omega)).put2 (b := w.heap.size) (x := .int .i64 s) (y := .slice am nm cm) (fun k e => by have := hvp k e; omega)).put2 (b := w.heap.size + 1) (x := .int .i64 s) (y := .slice ap np cp) (fun k e => by have := hvp k e; omega)
          clear rb0 rb1 rb2 rb3 qb0 qb1 qb2 qb3 mb0 mb1 mb2 mb3 pb0 pb1 pb2 pb3
          clear hS4
          have r20 := rz.c0
          have r21 := rz.c1
          have q20 := qz.c0
          have q21 := qz.c1
          clear rb qb mb pb hrd hmo
          go_wp2
          refine bodyPost_ret (v := .tuple #[.agg #[.int .i64 s, .slice am nm cm], .agg #[.int .i64 s, .slice ap np cp]]) (by simp [results, Try.results14, go_sem, r20, r21, q20, q21]) rfl ⟨⟨_, _, xs, _, _, D, rfl, hrm9.mono (by omega), hl, hrk9.mono (by omega)⟩, ?_⟩
          (repeat (first | exact Below.refl _ _ | assumption | refine Below.alloc ?_ (by first | omega | (simp <;> omega)) _ | refine Below.setCell ?_ (by first | omega | (simp <;> omega)) _ | refine Below.drew ?_ | refine below_drewN ?_))
end Go.Proofs.Ytnbjhmghobljaaa
