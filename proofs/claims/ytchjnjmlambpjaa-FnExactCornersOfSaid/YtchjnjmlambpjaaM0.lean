/- Plain facts on fractions in lowest terms and on sums over parts that were moved; no program in sight. -/
import Derived.Test.YtchjnjmlambpjaaW12
import Derived.Test.YtchjnjmlambpjaaS1
set_option linter.unusedSimpArgs false
set_option linter.unusedVariables false
namespace Go.Proofs.Ytchjnjmlambpjaa
open Go.RowKit
/-- a quotient by a positive number: what lowest terms are -/
theorem red_parts (n w : Int) (hw : 0 < w) : ∃ g a b : Int, 0 < g ∧ n = g * a ∧ w = g * b ∧ 0 < b ∧ Int.gcd a b = 1 ∧ n.tdiv (redD n w) = a ∧ w.tdiv (redD n w) = b := by
  have hg : 0 < Int.gcd n w := gcd_pos_right n w (by omega)
  have hd : redD n w = (Int.gcd n w : Int) := by unfold redD; rw [if_neg (by omega)]
  obtain ⟨a, ha⟩ : (Int.gcd n w : Int) ∣ n := Int.gcd_dvd_left _ _
  obtain ⟨b, hb⟩ : (Int.gcd n w : Int) ∣ w := Int.gcd_dvd_right _ _
  have h1 : Int.gcd ((Int.gcd n w : Int) * a) ((Int.gcd n w : Int) * b) = Int.gcd n w := by rw [← ha, ← hb]
  rw [hd]
  generalize Int.gcd n w = g at *
  have hg0 : (g : Int) ≠ 0 := by omega
  refine ⟨g, a, b, by omega, ha, hb, ?_, ?_, ?_, ?_⟩
  · have : 0 < (g : Int) * b := by rw [← hb]; exact hw
    exact Int.pos_of_mul_pos_right this (by omega)
  · rw [Int.gcd_mul_left] at h1
    simp only [Int.natAbs_natCast] at h1
    exact Nat.eq_of_mul_eq_mul_left hg (by omega)
  · rw [ha]; exact Int.mul_tdiv_cancel_left _ hg0
  · rw [hb]; exact Int.mul_tdiv_cancel_left _ hg0
theorem redF_ok {n w : Int} (hw : 0 < w) (h1 : -1000000000 ≤ n) (h2 : n ≤ 1000000000) (h3 : w ≤ 1000000000) : (redF n w).ok = true := by
  obtain ⟨g, a, b, hg, hn, hb, hb0, hc, e1, e2⟩ := red_parts n w hw
  unfold redF
  rw [e1, e2]
  have ha : a.natAbs ≤ n.natAbs := by rw [hn, Int.natAbs_mul]; exact Nat.le_mul_of_pos_left _ (by omega)
  have hbb : b.natAbs ≤ w.natAbs := by rw [hb, Int.natAbs_mul]; exact Nat.le_mul_of_pos_left _ (by omega)
  have hok : fracOk a b = true := by
    rw [fracOk_rest (inB_iff.2 (by omega)) (inB_iff.2 (by omega)), hc]; rfl
  rw [hok]; rfl
/-- what a fraction in lowest terms says of its quotient -/
theorem redF_cross {n w : Int} (hw : 0 < w) (h : (redF n w).ok = true) : (redF n w).num * w = n * (redF n w).den ∧ 0 < (redF n w).den ∧ fracOk (redF n w).num (redF n w).den = true := by
  obtain ⟨g, a, b, hg, hn, hb, hb0, hc, e1, e2⟩ := red_parts n w hw
  have hr : redF n w = if fracOk a b then ⟨a, b, true⟩ else FR.no := by unfold redF; rw [e1, e2]
  rw [hr] at h ⊢
  split at h
  · rename_i h1
    rw [if_pos h1]
    refine ⟨?_, hb0, h1⟩
    show a * w = n * b
    rw [hn, hb]; ac_rfl
  · cases h
theorem dvd_cancel {k m n : Int} (h : k ∣ m * n) (hc : Int.gcd k m = 1) : k ∣ n := by
  have h1 : k.natAbs ∣ m.natAbs * n.natAbs := by rw [← Int.natAbs_mul]; exact Int.natAbs_dvd_natAbs.2 h
  exact Int.natAbs_dvd_natAbs.1 (Nat.Coprime.dvd_of_dvd_mul_left hc h1)
theorem coprime_cross {a b c d : Int} (hb : 0 < b) (hd : 0 < d) (h1 : Int.gcd a b = 1) (h2 : Int.gcd c d = 1) (h : a * d = c * b) : a = c ∧ b = d := by
  have hbd : b ∣ d := by
    have : b ∣ a * d := ⟨c, by rw [h, Int.mul_comm]⟩
    exact dvd_cancel this (by rw [Int.gcd_comm]; exact h1)
  have hdb : d ∣ b := by
    have : d ∣ c * b := ⟨a, by rw [← h, Int.mul_comm]⟩
    exact dvd_cancel this (by rw [Int.gcd_comm]; exact h2)
  have e : b = d := Int.dvd_antisymm (by omega) (by omega) hbd hdb
  subst e
  exact ⟨Int.eq_of_mul_eq_mul_right (by omega) h, rfl⟩
theorem redF_eq {n w m v : Int} (hw : 0 < w) (hv : 0 < v) (h : n * v = m * w) : redF n w = redF m v := by
  obtain ⟨g, a, b, hg, hn, hb, hb0, hc, e1, e2⟩ := red_parts n w hw
  obtain ⟨k, c, d, hk, hm, hd, hd0, hc2, e3, e4⟩ := red_parts m v hv
  have hx : a * d = c * b := by
    have : (g * k) * (a * d) = (g * k) * (c * b) := by
      rw [hn, hd, hm, hb] at h
      calc (g * k) * (a * d) = g * a * (k * d) := by ac_rfl
        _ = k * c * (g * b) := h
        _ = (g * k) * (c * b) := by ac_rfl
    exact Int.eq_of_mul_eq_mul_left (Int.ne_of_gt (Int.mul_pos hg hk)) this
  obtain ⟨rfl, rfl⟩ := coprime_cross hb0 hd0 hc hc2 hx
  unfold redF
  rw [e1, e2, e3, e4]
theorem redF_inj {n w m v : Int} (hw : 0 < w) (hv : 0 < v) (h1 : (redF n w).ok = true) (h : redF n w = redF m v) : n * v = m * w := by
  obtain ⟨c1, d1, _⟩ := redF_cross hw h1
  obtain ⟨c2, d2, _⟩ := redF_cross hv (by rw [← h]; exact h1)
  rw [← h] at c2 d2
  -- num * w = n * den, num * v = m * den
  have : (n * v) * (redF n w).den = (m * w) * (redF n w).den := by
    calc (n * v) * (redF n w).den = (n * (redF n w).den) * v := by ac_rfl
      _ = ((redF n w).num * w) * v := by rw [c1]
      _ = ((redF n w).num * v) * w := by ac_rfl
      _ = (m * (redF n w).den) * w := by rw [c2]
      _ = (m * w) * (redF n w).den := by ac_rfl
  exact Int.eq_of_mul_eq_mul_right (by omega) this
/-- is a fraction less than another one? -/
def lessF (a b c d : Int) : Bool := fracOk a b && (fracOk c d && decide (a * d < c * b))
theorem lessF_red {n w m v : Int} (hw : 0 < w) (hv : 0 < v) (h1 : (redF n w).ok = true) (h2 : (redF m v).ok = true) :
    lessF (redF n w).num (redF n w).den (redF m v).num (redF m v).den = decide (n * v < m * w) := by
  obtain ⟨c1, d1, f1⟩ := redF_cross hw h1
  obtain ⟨c2, d2, f2⟩ := redF_cross hv h2
  unfold lessF
  rw [f1, f2, Bool.true_and, Bool.true_and]
  generalize (redF n w).num = a at *
  generalize (redF n w).den = b at *
  generalize (redF m v).num = c at *
  generalize (redF m v).den = d at *
  -- a w = n b, c v = m d; a d < c b iff n v < m w
  rw [decide_eq_decide]
  have e1 : (a * d) * (w * v) = (n * v) * (b * d) := by
    calc (a * d) * (w * v) = (a * w) * (d * v) := by ac_rfl
      _ = (n * b) * (d * v) := by rw [c1]
      _ = (n * v) * (b * d) := by ac_rfl
  have e2 : (c * b) * (w * v) = (m * w) * (b * d) := by
    calc (c * b) * (w * v) = (c * v) * (b * w) := by ac_rfl
      _ = (m * d) * (b * w) := by rw [c2]
      _ = (m * w) * (b * d) := by ac_rfl
  have hp : 0 < w * v := Int.mul_pos hw hv
  have hq : 0 < b * d := Int.mul_pos d1 d2
  constructor
  · intro h
    have := Int.mul_lt_mul_of_pos_right h hp
    rw [e1, e2] at this
    exact Int.lt_of_mul_lt_mul_right this (by omega)
  · intro h
    have := Int.mul_lt_mul_of_pos_right h hq
    rw [← e1, ← e2] at this
    exact Int.lt_of_mul_lt_mul_right this (by omega)
/-- the sum of g j times part j over the first n parts -/
def dot (g : Nat → Int) (xs : List Int) (n : Nat) : Int := iter (fun j t => t + g j * nth xs j) 0 n
theorem dot_succ (g : Nat → Int) (xs : List Int) (n : Nat) : dot g xs (n + 1) = dot g xs n + g n * nth xs n := rfl
theorem dot_congr {g h : Nat → Int} (xs : List Int) (n : Nat) (e : ∀ j, j < n → g j * nth xs j = h j * nth xs j) : dot g xs n = dot h xs n := by
  induction n with
  | zero => rfl
  | succ n ih => rw [dot_succ, dot_succ, ih fun j hj => e j (by omega), e n (by omega)]
theorem dot_congr_l {g : Nat → Int} {xs ys : List Int} (n : Nat) (e : ∀ j, j < n → nth xs j = nth ys j) : dot g xs n = dot g ys n := by
  induction n with
  | zero => rfl
  | succ n ih => rw [dot_succ, dot_succ, ih fun j hj => e j (by omega), e n (by omega)]
theorem dot_set (g : Nat → Int) (xs : List Int) (i n : Nat) (v : Int) (hi : i < n) (hn : n ≤ xs.length) : dot g (xs.set i v) n = dot g xs n + g i * (v - nth xs i) := by
  induction n with
  | zero => omega
  | succ n ih =>
    rw [dot_succ, dot_succ, nth_set]
    by_cases e : i = n
    · subst e
      rw [if_pos ⟨rfl, by omega⟩]
      have : dot g (xs.set i v) i = dot g xs i := dot_congr_l i fun j hj => by rw [nth_set, if_neg (by omega)]
      rw [this, Int.mul_sub]; omega
    · rw [if_neg (by omega), ih (by omega) (by omega)]; omega
theorem dot_zero (g : Nat → Int) (N n : Nat) : dot g (List.replicate N 0) n = 0 := by
  induction n with
  | zero => rfl
  | succ n ih => rw [dot_succ, ih, nth_replicate]; simp
/-- parts that were moved by T, summed: the parts, each with the weight of where it went -/
theorem dot_mapTo (g : Nat → Int) (T : Nat → Nat) (xs : List Int) (N k : Nat) (hT : ∀ a, a < k → T a < N) : dot g (mapTo T xs N k) N = dot (fun a => g (T a)) xs k := by
  induction k with
  | zero => show dot g (List.replicate N 0) N = 0; exact dot_zero _ _ _
  | succ k ih =>
    show dot g ((mapTo T xs N k).set (T k) (nth (mapTo T xs N k) (T k) + nth xs k)) N = _
    rw [dot_set _ _ _ _ _ (hT k (by omega)) (by rw [mapTo_len]; exact Nat.le_refl _), ih fun a ha => hT a (by omega), dot_succ]
    have : nth (mapTo T xs N k) (T k) + nth xs k - nth (mapTo T xs N k) (T k) = nth xs k := by omega
    rw [this]
theorem dot_one (xs : List Int) (n : Nat) : dot (fun _ => 1) xs n = isumTo xs n := by
  induction n with
  | zero => rfl
  | succ n ih => rw [dot_succ, ih, isumTo_succ, Int.one_mul]
theorem dot_mono {g h : Nat → Int} (xs : List Int) (n : Nat) (hx : ∀ j, j < n → 0 ≤ nth xs j) (e : ∀ j, j < n → nth xs j ≠ 0 → g j ≤ h j) : dot g xs n ≤ dot h xs n := by
  induction n with
  | zero => exact Int.le_refl _
  | succ n ih =>
    have h1 := ih (fun j hj => hx j (by omega)) (fun j hj => e j (by omega))
    have h2 : g n * nth xs n ≤ h n * nth xs n := by
      by_cases hz : nth xs n = 0
      · rw [hz]; simp
      · exact Int.mul_le_mul_of_nonneg_right (e n (by omega) hz) (hx n (by omega))
    rw [dot_succ, dot_succ]; omega
/-- all parts divided by what divides them -/
theorem dot_div (g : Nat → Int) (xs : List Int) (d : Int) (n : Nat) (hn : n ≤ xs.length) (hd : ∀ j, j < n → d ∣ nth xs j) : d * dot g (xs.map (· / d)) n = dot g xs n := by
  induction n with
  | zero => simp [dot, iter]
  | succ n ih =>
    rw [dot_succ, dot_succ, Int.mul_add, ih (by omega) fun j hj => hd j (by omega), nth_map _ _ _ (by omega)]
    have h1 : d * (nth xs n / d) = nth xs n := Int.mul_ediv_cancel' (hd n (by omega))
    have h2 : d * (g n * (nth xs n / d)) = g n * (d * (nth xs n / d)) := by ac_rfl
    rw [h2, h1]
end Go.Proofs.Ytchjnjmlambpjaa
