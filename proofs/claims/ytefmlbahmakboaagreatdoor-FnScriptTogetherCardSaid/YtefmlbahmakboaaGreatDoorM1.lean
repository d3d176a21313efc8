/- Plain facts on fractions in lowest terms and on sums over parts that were moved; no program in sight. Plain facts on masses made of parts, and on the chance of an order; no program in sight. Plain: all orders of so many answers, and the corners of a mass. No program in sight. -/
import Derived.Test.YtefmlbahmakboaaGreatDoorW3
import Derived.Test.YtefmlbahmakboaaGreatDoorS2
import Derived.Test.YtefmlbahmakboaaGreatDoorW13
import Derived.Test.YtefmlbahmakboaaGreatDoorW6
set_option linter.unusedSimpArgs false
set_option linter.unusedVariables false
namespace Go.Proofs.YtefmlbahmakboaaGreatDoor
open Go.RowKit
/-- a quotient by a positive number: what lowest terms are -/
theorem red_parts (n w : Int) (hw : 0 < w) : ∃ g a b : Int, 0 < g ∧ n = g * a ∧ w = g * b ∧ 0 < b ∧ Int.gcd a b = 1 ∧ n.tdiv (redD n w) = a ∧ w.tdiv (redD n w) = b := by
  have hg : 0 < Int.gcd n w := gcd_pos_right n w (by omega)
  have hd : redD n w = (Int.gcd n w : Int) := by unfold redD; rw [if_neg (by omega)]
  obtain ⟨a, ha⟩ : (Int.gcd n w : Int) ∣ n := Int.gcd_dvd_left _ _
  obtain ⟨b, hb⟩ : (Int.gcd n w : Int) ∣ w := Int.gcd_dvd_right _ _
  have h1 : Int.gcd ((Int.gcd n w : Int) * a) ((Int.gcd n w : Int) * b) = Int.gcd n w := by rw [← ha, ← hb]
  rw [hd]
  generalize Int.gcd n w = g at *
  have hg0 : (g : Int) ≠ 0 := by omega
  refine ⟨g, a, b, by omega, ha, hb, ?_, ?_, ?_, ?_⟩
  · have : 0 < (g : Int) * b := by rw [← hb]; exact hw
    exact Int.pos_of_mul_pos_right this (by omega)
  · rw [Int.gcd_mul_left] at h1
    simp only [Int.natAbs_natCast] at h1
    exact Nat.eq_of_mul_eq_mul_left hg (by omega)
  · rw [ha]; exact Int.mul_tdiv_cancel_left _ hg0
  · rw [hb]; exact Int.mul_tdiv_cancel_left _ hg0
theorem redF_ok {n w : Int} (hw : 0 < w) (h1 : -1000000000 ≤ n) (h2 : n ≤ 1000000000) (h3 : w ≤ 1000000000) : (redF n w).ok = true := by
  obtain ⟨g, a, b, hg, hn, hb, hb0, hc, e1, e2⟩ := red_parts n w hw
  unfold redF
  rw [e1, e2]
  have ha : a.natAbs ≤ n.natAbs := by rw [hn, Int.natAbs_mul]; exact Nat.le_mul_of_pos_left _ (by omega)
  have hbb : b.natAbs ≤ w.natAbs := by rw [hb, Int.natAbs_mul]; exact Nat.le_mul_of_pos_left _ (by omega)
  have hok : fracOk a b = true := by
    rw [fracOk_rest (inB_iff.2 (by omega)) (inB_iff.2 (by omega)), hc]; rfl
  rw [hok]; rfl
/-- what a fraction in lowest terms says of its quotient -/
theorem redF_cross {n w : Int} (hw : 0 < w) (h : (redF n w).ok = true) : (redF n w).num * w = n * (redF n w).den ∧ 0 < (redF n w).den ∧ fracOk (redF n w).num (redF n w).den = true := by
  obtain ⟨g, a, b, hg, hn, hb, hb0, hc, e1, e2⟩ := red_parts n w hw
  have hr : redF n w = if fracOk a b then ⟨a, b, true⟩ else FR.no := by unfold redF; rw [e1, e2]
  rw [hr] at h ⊢
  split at h
  · rename_i h1
    rw [if_pos h1]
    refine ⟨?_, hb0, h1⟩
    show a * w = n * b
    rw [hn, hb]; ac_rfl
  · cases h
theorem dvd_cancel {k m n : Int} (h : k ∣ m * n) (hc : Int.gcd k m = 1) : k ∣ n := by
  have h1 : k.natAbs ∣ m.natAbs * n.natAbs := by rw [← Int.natAbs_mul]; exact Int.natAbs_dvd_natAbs.2 h
  exact Int.natAbs_dvd_natAbs.1 (Nat.Coprime.dvd_of_dvd_mul_left hc h1)
theorem coprime_cross {a b c d : Int} (hb : 0 < b) (hd : 0 < d) (h1 : Int.gcd a b = 1) (h2 : Int.gcd c d = 1) (h : a * d = c * b) : a = c ∧ b = d := by
  have hbd : b ∣ d := by
    have : b ∣ a * d := ⟨c, by rw [h, Int.mul_comm]⟩
    exact dvd_cancel this (by rw [Int.gcd_comm]; exact h1)
  have hdb : d ∣ b := by
    have : d ∣ c * b := ⟨a, by rw [← h, Int.mul_comm]⟩
    exact dvd_cancel this (by rw [Int.gcd_comm]; exact h2)
  have e : b = d := Int.dvd_antisymm (by omega) (by omega) hbd hdb
  subst e
  exact ⟨Int.eq_of_mul_eq_mul_right (by omega) h, rfl⟩
theorem redF_eq {n w m v : Int} (hw : 0 < w) (hv : 0 < v) (h : n * v = m * w) : redF n w = redF m v := by
  obtain ⟨g, a, b, hg, hn, hb, hb0, hc, e1, e2⟩ := red_parts n w hw
  obtain ⟨k, c, d, hk, hm, hd, hd0, hc2, e3, e4⟩ := red_parts m v hv
  have hx : a * d = c * b := by
    have : (g * k) * (a * d) = (g * k) * (c * b) := by
      rw [hn, hd, hm, hb] at h
      calc (g * k) * (a * d) = g * a * (k * d) := by ac_rfl
        _ = k * c * (g * b) := h
        _ = (g * k) * (c * b) := by ac_rfl
    exact Int.eq_of_mul_eq_mul_left (Int.ne_of_gt (Int.mul_pos hg hk)) this
  obtain ⟨rfl, rfl⟩ := coprime_cross hb0 hd0 hc hc2 hx
  unfold redF
  rw [e1, e2, e3, e4]
theorem redF_inj {n w m v : Int} (hw : 0 < w) (hv : 0 < v) (h1 : (redF n w).ok = true) (h : redF n w = redF m v) : n * v = m * w := by
  obtain ⟨c1, d1, _⟩ := redF_cross hw h1
  obtain ⟨c2, d2, _⟩ := redF_cross hv (by rw [← h]; exact h1)
  rw [← h] at c2 d2
  -- num * w = n * den, num * v = m * den
  have : (n * v) * (redF n w).den = (m * w) * (redF n w).den := by
    calc (n * v) * (redF n w).den = (n * (redF n w).den) * v := by ac_rfl
      _ = ((redF n w).num * w) * v := by rw [c1]
      _ = ((redF n w).num * v) * w := by ac_rfl
      _ = (m * (redF n w).den) * w := by rw [c2]
      _ = (m * w) * (redF n w).den := by ac_rfl
  exact Int.eq_of_mul_eq_mul_right (by omega) this
/-- is a fraction less than another one? -/
def lessF (a b c d : Int) : Bool := fracOk a b && (fracOk c d && decide (a * d < c * b))
theorem lessF_red {n w m v : Int} (hw : 0 < w) (hv : 0 < v) (h1 : (redF n w).ok = true) (h2 : (redF m v).ok = true) :
    lessF (redF n w).num (redF n w).den (redF m v).num (redF m v).den = decide (n * v < m * w) := by
  obtain ⟨c1, d1, f1⟩ := redF_cross hw h1
  obtain ⟨c2, d2, f2⟩ := redF_cross hv h2
  unfold lessF
  rw [f1, f2, Bool.true_and, Bool.true_and]
  generalize (redF n w).num = a at *
  generalize (redF n w).den = b at *
  generalize (redF m v).num = c at *
  generalize (redF m v).den = d at *
  -- a w = n b, c v = m d; a d < c b iff n v < m w
  rw [decide_eq_decide]
  have e1 : (a * d) * (w * v) = (n * v) * (b * d) := by
    calc (a * d) * (w * v) = (a * w) * (d * v) := by ac_rfl
      _ = (n * b) * (d * v) := by rw [c1]
      _ = (n * v) * (b * d) := by ac_rfl
  have e2 : (c * b) * (w * v) = (m * w) * (b * d) := by
    calc (c * b) * (w * v) = (c * v) * (b * w) := by ac_rfl
      _ = (m * d) * (b * w) := by rw [c2]
      _ = (m * w) * (b * d) := by ac_rfl
  have hp : 0 < w * v := Int.mul_pos hw hv
  have hq : 0 < b * d := Int.mul_pos d1 d2
  constructor
  · intro h
    have := Int.mul_lt_mul_of_pos_right h hp
    rw [e1, e2] at this
    exact Int.lt_of_mul_lt_mul_right this (by omega)
  · intro h
    have := Int.mul_lt_mul_of_pos_right h hq
    rw [← e1, ← e2] at this
    exact Int.lt_of_mul_lt_mul_right this (by omega)
/-- the sum of g j times part j over the first n parts -/
def dot (g : Nat → Int) (xs : List Int) (n : Nat) : Int := iter (fun j t => t + g j * nth xs j) 0 n
theorem dot_succ (g : Nat → Int) (xs : List Int) (n : Nat) : dot g xs (n + 1) = dot g xs n + g n * nth xs n := rfl
theorem dot_congr {g h : Nat → Int} (xs : List Int) (n : Nat) (e : ∀ j, j < n → g j * nth xs j = h j * nth xs j) : dot g xs n = dot h xs n := by
  induction n with
  | zero => rfl
  | succ n ih => rw [dot_succ, dot_succ, ih fun j hj => e j (by omega), e n (by omega)]
theorem dot_congr_l {g : Nat → Int} {xs ys : List Int} (n : Nat) (e : ∀ j, j < n → nth xs j = nth ys j) : dot g xs n = dot g ys n := by
  induction n with
  | zero => rfl
  | succ n ih => rw [dot_succ, dot_succ, ih fun j hj => e j (by omega), e n (by omega)]
theorem dot_set (g : Nat → Int) (xs : List Int) (i n : Nat) (v : Int) (hi : i < n) (hn : n ≤ xs.length) : dot g (xs.set i v) n = dot g xs n + g i * (v - nth xs i) := by
  induction n with
  | zero => omega
  | succ n ih =>
    rw [dot_succ, dot_succ, nth_set]
    by_cases e : i = n
    · subst e
      rw [if_pos ⟨rfl, by omega⟩]
      have : dot g (xs.set i v) i = dot g xs i := dot_congr_l i fun j hj => by rw [nth_set, if_neg (by omega)]
      rw [this, Int.mul_sub]; omega
    · rw [if_neg (by omega), ih (by omega) (by omega)]; omega
theorem dot_zero (g : Nat → Int) (N n : Nat) : dot g (List.replicate N 0) n = 0 := by
  induction n with
  | zero => rfl
  | succ n ih => rw [dot_succ, ih, nth_replicate]; simp
/-- parts that were moved by T, summed: the parts, each with the weight of where it went -/
theorem dot_mapTo (g : Nat → Int) (T : Nat → Nat) (xs : List Int) (N k : Nat) (hT : ∀ a, a < k → T a < N) : dot g (mapTo T xs N k) N = dot (fun a => g (T a)) xs k := by
  induction k with
  | zero => show dot g (List.replicate N 0) N = 0; exact dot_zero _ _ _
  | succ k ih =>
    show dot g ((mapTo T xs N k).set (T k) (nth (mapTo T xs N k) (T k) + nth xs k)) N = _
    rw [dot_set _ _ _ _ _ (hT k (by omega)) (by rw [mapTo_len]; exact Nat.le_refl _), ih fun a ha => hT a (by omega), dot_succ]
    have : nth (mapTo T xs N k) (T k) + nth xs k - nth (mapTo T xs N k) (T k) = nth xs k := by omega
    rw [this]
theorem dot_one (xs : List Int) (n : Nat) : dot (fun _ => 1) xs n = isumTo xs n := by
  induction n with
  | zero => rfl
  | succ n ih => rw [dot_succ, ih, isumTo_succ, Int.one_mul]
theorem dot_mono {g h : Nat → Int} (xs : List Int) (n : Nat) (hx : ∀ j, j < n → 0 ≤ nth xs j) (e : ∀ j, j < n → nth xs j ≠ 0 → g j ≤ h j) : dot g xs n ≤ dot h xs n := by
  induction n with
  | zero => exact Int.le_refl _
  | succ n ih =>
    have h1 := ih (fun j hj => hx j (by omega)) (fun j hj => e j (by omega))
    have h2 : g n * nth xs n ≤ h n * nth xs n := by
      by_cases hz : nth xs n = 0
      · rw [hz]; simp
      · exact Int.mul_le_mul_of_nonneg_right (e n (by omega) hz) (hx n (by omega))
    rw [dot_succ, dot_succ]; omega
/-- all parts divided by what divides them -/
theorem dot_div (g : Nat → Int) (xs : List Int) (d : Int) (n : Nat) (hn : n ≤ xs.length) (hd : ∀ j, j < n → d ∣ nth xs j) : d * dot g (xs.map (· / d)) n = dot g xs n := by
  induction n with
  | zero => simp [dot, iter]
  | succ n ih =>
    rw [dot_succ, dot_succ, Int.mul_add, ih (by omega) fun j hj => hd j (by omega), nth_map _ _ _ (by omega)]
    have h1 : d * (nth xs n / d) = nth xs n := Int.mul_ediv_cancel' (hd n (by omega))
    have h2 : d * (g n * (nth xs n / d)) = g n * (d * (nth xs n / d)) := by ac_rfl
    rw [h2, h1]
theorem gcdTo_zero_iff (xs : List Int) (k : Nat) : gcdTo xs k = 0 ↔ ∀ j, j < k → nth xs j = 0 := by
  induction k with
  | zero => exact ⟨fun _ j hj => by omega, fun _ => rfl⟩
  | succ k ih =>
    rw [gcdTo_succ]
    constructor
    · intro h
      have h1 : Int.gcd (gcdTo xs k) (nth xs k) = 0 := by omega
      obtain ⟨h2, h3⟩ := Int.gcd_eq_zero_iff.1 h1
      intro j hj
      by_cases e : j = k
      · rw [e]; exact h3
      · exact ih.1 h2 j (by omega)
    · intro h
      rw [ih.2 fun j hj => h j (by omega), h k (by omega)]; rfl
theorem gcdTo_greatest (xs : List Int) (c : Int) (k : Nat) (h : ∀ j, j < k → c ∣ nth xs j) : c ∣ gcdTo xs k := by
  induction k with
  | zero => exact Int.dvd_zero c
  | succ k ih => rw [gcdTo_succ]; exact Int.dvd_coe_gcd (ih fun j hj => h j (by omega)) (h k (by omega))
/-- divided by what divides all, nothing divides all -/
theorem gcdL_div (xs : List Int) (h0 : gcdL xs ≠ 0) : gcdL (xs.map (· / gcdL xs)) = 1 := by
  have hg0 : 0 ≤ gcdL xs := gcdTo_nonneg _ _
  have hd : ∀ j, j < xs.length → gcdL xs ∣ nth xs j := gcdTo_dvd xs xs.length
  obtain ⟨g, hg⟩ : ∃ g, gcdL xs = g := ⟨_, rfl⟩
  obtain ⟨c, hc⟩ : ∃ c, gcdL (xs.map (· / gcdL xs)) = c := ⟨_, rfl⟩
  have hc0 : 0 ≤ c := by rw [← hc]; exact gcdTo_nonneg _ _
  have hcd : ∀ j, j < xs.length → c ∣ nth xs j / g := fun j hj => by
    have := gcdTo_dvd (xs.map (· / gcdL xs)) (xs.map (· / gcdL xs)).length j (by simpa using hj)
    rw [nth_map _ _ _ hj] at this
    rw [← hc, ← hg]; exact this
  have h1 : g * c ∣ g := by
    have : g * c ∣ gcdL xs := gcdTo_greatest xs (g * c) xs.length fun j hj => by
      obtain ⟨q, hq⟩ := hcd j hj
      have hgj := hd j hj
      rw [hg] at hgj
      have h2 : g * (nth xs j / g) = nth xs j := Int.mul_ediv_cancel' hgj
      exact ⟨q, by rw [← h2, hq]; ac_rfl⟩
    rwa [hg] at this
  have hgp : 0 < g := by omega
  have h2 : g * c ≤ g := Int.le_of_dvd hgp h1
  have h3 : c ≠ 0 := by
    rintro rfl
    obtain ⟨q, hq⟩ := h1
    simp at hq; omega
  have h4 : c ≤ 1 := by
    have : g * c ≤ g * 1 := by rw [Int.mul_one]; exact h2
    exact Int.le_of_mul_le_mul_left this hgp
  rw [hc]; omega
theorem isum_dot (xs : List Int) : isum xs = dot (fun _ => 1) xs xs.length := (dot_one xs xs.length).symm
theorem part_le_isum (xs : List Int) (n : Nat) (h : ∀ j, j < n → 0 ≤ nth xs j) (j : Nat) (hj : j < n) : nth xs j ≤ isumTo xs n := by
  induction n with
  | zero => omega
  | succ n ih =>
    have h1 : 0 ≤ isumTo xs n := by
      clear ih hj
      have : ∀ m, m ≤ n → 0 ≤ isumTo xs m := fun m => by
        induction m with
        | zero => intro _; exact Int.le_refl _
        | succ m im => intro hm; rw [isumTo_succ]; have := im (by omega); have := h m (by omega); omega
      exact this n (Nat.le_refl _)
    rw [isumTo_succ]
    by_cases e : j = n
    · rw [e]; omega
    · have := ih (fun j hj => h j (by omega)) (by omega)
      have := h n (by omega)
      omega
/-- parts that are not negative, some of them, and at most a million together, make a mass -/
theorem mkMass_valid {s : Int} {xs : List Int} (hs : okSize s = true) (hl : xs.length = nsets s) (h0 : ∀ j, j < xs.length → 0 ≤ nth xs j) (h1 : 1 ≤ isum xs) (h2 : isum xs ≤ 1000000) :
    (mkMass s xs).ok = true ∧ gcdL xs ≠ 0 ∧ 1 ≤ gcdL xs ∧ (mkMass s xs).size = s ∧ (mkMass s xs).parts = xs.map (· / gcdL xs) ∧ massOk s (mkMass s xs).parts = true := by
  have hg : gcdL xs ≠ 0 := by
    intro h
    have hz := (gcdTo_zero_iff xs xs.length).1 h
    have : isum xs = 0 := by
      have : ∀ m, m ≤ xs.length → isumTo xs m = 0 := fun m => by
        induction m with
        | zero => intro _; rfl
        | succ m im => intro hm; rw [isumTo_succ, im (by omega), hz m (by omega)]; rfl
      exact this _ (Nat.le_refl _)
    omega
  have hg0 : 0 ≤ gcdL xs := gcdTo_nonneg _ _
  have hg1 : 1 ≤ gcdL xs := by omega
  have hd : ∀ j, j < xs.length → gcdL xs ∣ nth xs j := gcdTo_dvd xs xs.length
  have hsum : gcdL xs * isum (xs.map (· / gcdL xs)) = isum xs := by
    rw [isum_dot, isum_dot, List.length_map]
    exact dot_div _ _ _ _ (Nat.le_refl _) hd
  have hm : massOk s (xs.map (· / gcdL xs)) = true := by
    have hq : ∀ j, j < xs.length → 0 ≤ nth (xs.map (· / gcdL xs)) j ∧ nth (xs.map (· / gcdL xs)) j ≤ 1000000 := fun j hj => by
      rw [nth_map _ _ _ hj]
      have h3 := h0 j hj
      have h4 := part_le_isum xs xs.length h0 j hj
      have h5 : nth xs j / gcdL xs ≤ nth xs j := Int.ediv_le_self _ h3
      have h6 : 0 ≤ nth xs j / gcdL xs := Int.ediv_nonneg h3 hg0
      have : isumTo xs xs.length = isum xs := rfl
      omega
    have hs1 : 1 ≤ isum (xs.map (· / gcdL xs)) ∧ isum (xs.map (· / gcdL xs)) ≤ 1000000 := by
      have hpos : 0 < gcdL xs * isum (xs.map (· / gcdL xs)) := by rw [hsum]; omega
      have hp := Int.pos_of_mul_pos_right hpos (by omega)
      have hle : 1 * isum (xs.map (· / gcdL xs)) ≤ gcdL xs * isum (xs.map (· / gcdL xs)) := Int.mul_le_mul_of_nonneg_right hg1 (by omega)
      rw [hsum] at hle
      omega
    unfold massOk
    rw [hs, (allN_iff _ _).2 fun k hk => inB_iff.2 (hq k (by simpa using hk)), inB_iff.2 hs1, gcdL_div xs hg, List.length_map, hl]
    simp
  have he : mkMass s xs = ⟨s, xs.map (· / gcdL xs), true⟩ := by unfold mkMass; rw [if_neg hg, if_pos hm]
  rw [he]
  exact ⟨rfl, hg, hg1, rfl, rfl, hm⟩
/-- a mass is made of its own parts -/
theorem mkMass_self {s : Int} {xs : List Int} (h : massOk s xs = true) : mkMass s xs = ⟨s, xs, true⟩ := by
  have h1 := (massOk_facts' h).2.2.2.2.2.2
  unfold mkMass
  rw [if_neg (by omega), h1]
  have : xs.map (· / (1 : Int)) = xs := by
    conv => rhs; rw [← List.map_id xs]
    exact List.map_congr_left fun x _ => Int.ediv_one x
  rw [this, if_pos h]
/-- the set of the first answer of a set in an order -/
def firstBit : List Int → Nat → Nat
  | [], _ => 0
  | x :: t, a => if hasB a x.toNat then 2 ^ x.toNat else firstBit t a
theorem firstBit_zero (order : List Int) : firstBit order 0 = 0 := by
  induction order with
  | nil => rfl
  | cons x t ih => show (if hasB 0 x.toNat then _ else _) = 0; unfold hasB; rw [Nat.zero_testBit]; exact ih
theorem firstBit_some (order : List Int) (a : Nat) (h : ∃ x, x ∈ order ∧ hasB a x.toNat = true) : ∃ x, x ∈ order ∧ hasB a x.toNat = true ∧ firstBit order a = 2 ^ x.toNat := by
  induction order with
  | nil => obtain ⟨x, hx, _⟩ := h; cases hx
  | cons y t ih =>
    show ∃ x, x ∈ y :: t ∧ hasB a x.toNat = true ∧ (if hasB a y.toNat then 2 ^ y.toNat else firstBit t a) = 2 ^ x.toNat
    cases hy : hasB a y.toNat
    · obtain ⟨x, hx, hb⟩ := h
      have hxt : x ∈ t := by
        rcases List.mem_cons.1 hx with e | e
        · rw [e] at hb; rw [hb] at hy; cases hy
        · exact e
      obtain ⟨z, h1, h2, h3⟩ := ih ⟨x, hxt, hb⟩
      exact ⟨z, List.mem_cons_of_mem _ h1, h2, h3⟩
    · exact ⟨y, List.mem_cons_self, hy, rfl⟩
theorem firstBit_lt (order : List Int) (n a : Nat) (h : ∀ x, x ∈ order → 0 ≤ x ∧ x < n) : firstBit order a < 2 ^ n := by
  induction order with
  | nil => exact Nat.two_pow_pos n
  | cons y t ih =>
    show (if hasB a y.toNat then 2 ^ y.toNat else firstBit t a) < 2 ^ n
    split
    · have := h y List.mem_cons_self
      exact Nat.pow_lt_pow_right (by decide) (by omega)
    · exact ih fun x hx => h x (List.mem_cons_of_mem _ hx)
/-- the parts of the chance of an order -/
def chP (order xs : List Int) (N : Nat) : List Int := mapTo (fun a => firstBit order a) xs N N
def chanceM (s : Int) (xs order : List Int) : MR := mkMass s (chP order xs xs.length)
/-- has a list a number? -/
def hasI (l : List Int) (x : Int) : Bool := !allN (fun k => !(nth l k == x)) l.length
def inTo (l : List Int) (L : List (List Int)) (k : Nat) : List (List Int) := iter (fun x L => if hasI l x then L else L ++ [l ++ [(x : Int)]]) L k
def midTo (n : Nat) (out : List (List Int)) (k : Nat) : List (List Int) := iter (fun i L => inTo (nthL out i) L n) [] k
def ordTo (n k : Nat) : List (List Int) := iter (fun _ out => midTo n out out.length) [[]] k
/-- all orders of n answers -/
def orders (n : Nat) : List (List Int) := ordTo n n
theorem inTo_succ (l : List Int) (L : List (List Int)) (k : Nat) : inTo l L (k + 1) = if hasI l (k : Int) then inTo l L k else inTo l L k ++ [l ++ [(k : Int)]] := rfl
theorem midTo_succ (n : Nat) (out : List (List Int)) (k : Nat) : midTo n out (k + 1) = inTo (nthL out k) (midTo n out k) n := rfl
theorem ordTo_succ (n k : Nat) : ordTo n (k + 1) = midTo n (ordTo n k) (ordTo n k).length := rfl
theorem inTo_len (l : List Int) (L : List (List Int)) (k : Nat) : (inTo l L k).length ≤ L.length + k := by
  induction k with
  | zero => exact Nat.le_refl _
  | succ k ih =>
    rw [inTo_succ]
    split
    · omega
    · rw [List.length_append]; simp; omega
theorem midTo_len (n : Nat) (out : List (List Int)) (k : Nat) : (midTo n out k).length ≤ n * k := by
  induction k with
  | zero => simp [midTo, iter]
  | succ k ih =>
    rw [midTo_succ, Nat.mul_succ]
    have := inTo_len (nthL out k) (midTo n out k) n
    omega
def ordGood (n k : Nat) : Bool := decide ((ordTo n k).length ≤ 24) && decide (1 ≤ (ordTo n k).length) && allN (fun i => ((nthL (ordTo n k) i).length == k) && allN (fun j => inB 0 ((n : Int) - 1) (nth (nthL (ordTo n k) i) j)) k) (ordTo n k).length
theorem ordF : ∀ n k : Fin 5, k.val ≤ n.val → ordGood n.val k.val = true := by decide +kernel
theorem ord_good {n k : Nat} (hn : n ≤ 4) (hk : k ≤ n) : (ordTo n k).length ≤ 24 ∧ 1 ≤ (ordTo n k).length ∧ ∀ i, i < (ordTo n k).length → (nthL (ordTo n k) i).length = k ∧ ∀ j, j < k → 0 ≤ nth (nthL (ordTo n k) i) j ∧ nth (nthL (ordTo n k) i) j ≤ (n : Int) - 1 := by
  have h := ordF ⟨n, by omega⟩ ⟨k, by omega⟩ hk
  simp only [ordGood, Bool.and_eq_true, decide_eq_true_eq, allN_iff, beq_iff_eq, inB_iff] at h
  exact ⟨h.1.1, h.1.2, h.2⟩
/-- an order of n answers: all of them and no others -/
def OrdOk (n : Nat) (o : List Int) : Prop := (∀ x, x ∈ o → 0 ≤ x ∧ x < n) ∧ ∀ y, y < n → (y : Int) ∈ o
def okB (n : Nat) (o : List Int) : Bool := o.all (fun x => inB 0 ((n : Int) - 1) x) && (List.range n).all fun y => o.contains (y : Int)
theorem okB_iff {n : Nat} {o : List Int} : okB n o = true ↔ OrdOk n o := by
  unfold okB OrdOk
  rw [Bool.and_eq_true, List.all_eq_true, List.all_eq_true]
  constructor
  · rintro ⟨h1, h2⟩
    exact ⟨fun x hx => by have := inB_iff.1 (h1 x hx); omega, fun y hy => by simpa using h2 y (by simpa using hy)⟩
  · rintro ⟨h1, h2⟩
    exact ⟨fun x hx => inB_iff.2 (by have := h1 x hx; omega), fun y hy => by simpa using h2 y (by simpa using hy)⟩
theorem orderF : ∀ n : Fin 5, (orders n.val).all (okB n.val) = true := by decide +kernel
theorem orders_ok {n : Nat} (hn : n ≤ 4) {o : List Int} (h : o ∈ orders n) : OrdOk n o := by
  have := orderF ⟨n, by omega⟩
  rw [List.all_eq_true] at this
  exact okB_iff.1 (this o h)
theorem nthL_mem {xss : List (List Int)} {k : Nat} (h : k < xss.length) : nthL xss k ∈ xss := by
  unfold nthL; rw [List.getD_eq_getElem?_getD, List.getElem?_eq_getElem h]; exact List.getElem_mem h
theorem mem_nthL {xss : List (List Int)} {o : List Int} (h : o ∈ xss) : ∃ k, k < xss.length ∧ nthL xss k = o := by
  obtain ⟨k, hk, e⟩ := List.getElem_of_mem h
  exact ⟨k, hk, by unfold nthL; rw [List.getD_eq_getElem?_getD, List.getElem?_eq_getElem hk]; exact e⟩
theorem nthL_app_lt (L : List (List Int)) (p : List Int) {k : Nat} (h : k < L.length) : nthL (L ++ [p]) k = nthL L k := by
  unfold nthL; rw [List.getD_eq_getElem?_getD, List.getD_eq_getElem?_getD, List.getElem?_append_left h]
theorem nthL_app_eq (L : List (List Int)) (p : List Int) : nthL (L ++ [p]) L.length = p := by
  unfold nthL; rw [List.getD_eq_getElem?_getD, List.getElem?_append_right (Nat.le_refl _)]; simp
/-- has a list of lists a list? -/
def hasL (L : List (List Int)) (p : List Int) : Bool := !allN (fun k => !decide (nthL L k = p)) L.length
theorem hasL_iff {L : List (List Int)} {p : List Int} : hasL L p = true ↔ p ∈ L := by
  unfold hasL
  rw [Bool.not_eq_true']
  constructor
  · intro h
    obtain ⟨k, hk, hb⟩ := allN_ex h
    simp at hb
    rw [← hb]; exact nthL_mem hk
  · intro h
    obtain ⟨k, hk, e⟩ := mem_nthL h
    cases ha : allN (fun k => !decide (nthL L k = p)) L.length
    · rfl
    · have := (allN_iff _ _).1 ha k hk
      simp [e] at this
def cornTo (s : Int) (xs : List Int) (os : List (List Int)) (k : Nat) : List (List Int) := iter (fun i L => if hasL L (chanceM s xs (nthL os i)).parts then L else L ++ [(chanceM s xs (nthL os i)).parts]) [] k
theorem cornTo_succ (s : Int) (xs : List Int) (os : List (List Int)) (k : Nat) : cornTo s xs os (k + 1) = if hasL (cornTo s xs os k) (chanceM s xs (nthL os k)).parts then cornTo s xs os k else cornTo s xs os k ++ [(chanceM s xs (nthL os k)).parts] := rfl
def cornersL (s : Int) (xs : List Int) : List (List Int) := if normalOk s xs then cornTo s xs (orders s.toNat) (orders s.toNat).length else []
theorem cornTo_len (s : Int) (xs : List Int) (os : List (List Int)) (k : Nat) : (cornTo s xs os k).length ≤ k := by
  induction k with
  | zero => exact Nat.le_refl _
  | succ k ih =>
    rw [cornTo_succ]
    split
    · omega
    · rw [List.length_append]; simp; omega
theorem cornTo_mem {s : Int} {xs : List Int} {os : List (List Int)} {k : Nat} {p : List Int} : p ∈ cornTo s xs os k ↔ ∃ i, i < k ∧ (chanceM s xs (nthL os i)).parts = p := by
  induction k with
  | zero => exact ⟨fun h => by simp [cornTo, iter] at h, fun ⟨i, hi, _⟩ => by omega⟩
  | succ k ih =>
    rw [cornTo_succ]
    constructor
    · intro h
      split at h
      · obtain ⟨i, hi, e⟩ := ih.1 h
        exact ⟨i, by omega, e⟩
      · rcases List.mem_append.1 h with h | h
        · obtain ⟨i, hi, e⟩ := ih.1 h
          exact ⟨i, by omega, e⟩
        · exact ⟨k, by omega, (List.mem_singleton.1 h).symm⟩
    · rintro ⟨i, hi, e⟩
      by_cases hk : i = k
      · subst hk
        split
        · rename_i h; rw [← e]; exact hasL_iff.1 h
        · rw [← e]; exact List.mem_append_right _ (by simp)
      · have := ih.2 ⟨i, by omega, e⟩
        split
        · exact this
        · exact List.mem_append_left _ this
theorem cornTo_nodup (s : Int) (xs : List Int) (os : List (List Int)) (k : Nat) : ∀ i j, i < j → j < (cornTo s xs os k).length → nthL (cornTo s xs os k) i ≠ nthL (cornTo s xs os k) j := by
  induction k with
  | zero => intro i j _ hj; simp [cornTo, iter] at hj
  | succ k ih =>
    intro i j hij hj
    rw [cornTo_succ] at hj ⊢
    split
    · rename_i h; rw [if_pos h] at hj; exact ih i j hij hj
    · rename_i h
      rw [if_neg h, List.length_append] at hj
      simp at hj
      by_cases hl : j < (cornTo s xs os k).length
      · rw [nthL_app_lt _ _ hl, nthL_app_lt _ _ (by omega)]; exact ih i j hij hl
      · obtain rfl : j = (cornTo s xs os k).length := by omega
        rw [nthL_app_eq, nthL_app_lt _ _ hij]
        intro e
        exact h (hasL_iff.2 (by rw [← e]; exact nthL_mem hij))
theorem corners_len (s : Int) (xs : List Int) : (cornersL s xs).length ≤ 24 := by
  unfold cornersL
  split
  · rename_i h
    have h1 := cornTo_len s xs (orders s.toNat) (orders s.toNat).length
    have h2 : s.toNat ≤ 4 := by
      have := (massOk_facts (by simp only [normalOk, Bool.and_eq_true] at h; exact h.1)).1
      rcases okSize_iff.1 this with h | h | h | h <;> omega
    have h3 := (ord_good h2 (Nat.le_refl _)).1
    unfold orders at *
    omega
  · simp
end Go.Proofs.YtefmlbahmakboaaGreatDoor
