/- Plain facts on numbers, lists and bounded folds; no program in sight. -/
import Derived.Test.YtefmlbahmakboaaGreatDoorRows
import Derived.WalkKit
import Derived.WalkSpells
import Derived.WalkLawsBesides
set_option linter.unusedSimpArgs false
set_option linter.unusedVariables false
namespace Go.Proofs.YtefmlbahmakboaaGreatDoor
open Go.RowKit

theorem hid {p : Prop} (h : p) : Hid p := h
theorem ret_int {k : IntKind} {a b : Int} (h : a = b) : Ending.returned (.int k a) = .returned (.int k b) := by rw [h]
theorem ret_bool {a b : Bool} (h : a = b) : Ending.returned (.bool a) = .returned (.bool b) := by rw [h]

/-- element k of a list of integers, 0 past its end -/
def nth (xs : List Int) (k : Nat) : Int := xs.getD k 0
theorem nth_eq (xs : List Int) (k : Nat) (h : k < xs.length) : nth xs k = xs[k] := by simp [nth, h]
theorem nth_mem (xs : List Int) (k : Nat) (h : k < xs.length) : nth xs k ∈ xs := by rw [nth_eq _ _ h]; exact List.getElem_mem h
theorem nth_past (xs : List Int) (k : Nat) (h : xs.length ≤ k) : nth xs k = 0 := by simp [nth, h]
theorem nth_set (xs : List Int) (i k : Nat) (v : Int) : nth (xs.set i v) k = if i = k ∧ k < xs.length then v else nth xs k := by
  by_cases hk : k < xs.length
  · rw [nth_eq _ _ (by simpa using hk), nth_eq _ _ hk, List.getElem_set]
    by_cases h : i = k <;> simp [h, hk]
  · rw [nth_past _ _ (by simp; omega), nth_past _ _ (by omega), if_neg (by omega)]
theorem nth_append_left (xs ys : List Int) (k : Nat) (h : k < xs.length) : nth (xs ++ ys) k = nth xs k := by
  rw [nth_eq _ _ (by simp; omega), nth_eq _ _ h, List.getElem_append_left h]
theorem nth_map (f : Int → Int) (xs : List Int) (k : Nat) (h : k < xs.length) : nth (xs.map f) k = f (nth xs k) := by
  rw [nth_eq _ _ (by simpa using h), nth_eq _ _ h, List.getElem_map]
theorem ext_nth (xs ys : List Int) (hl : xs.length = ys.length) (h : ∀ k, k < xs.length → nth xs k = nth ys k) : xs = ys := by
  apply List.ext_getElem hl
  intro k h1 h2
  have := h k h1
  rwa [nth_eq _ _ h1, nth_eq _ _ h2] at this

/-- a fold over 0 .. n-1 -/
def iter {σ : Type} (step : Nat → σ → σ) (init : σ) : Nat → σ
  | 0 => init
  | k + 1 => step k (iter step init k)
theorem iter_inv {σ : Type} {step : Nat → σ → σ} {init : σ} (I : Nat → σ → Prop) (h0 : I 0 init) (n : Nat) (h : ∀ k s, k < n → I k s → I (k + 1) (step k s)) : ∀ k, k ≤ n → I k (iter step init k)
  | 0, _ => h0
  | k + 1, hk => h k _ (by omega) (iter_inv I h0 n h k (by omega))
theorem iter_congr {σ : Type} {s t : Nat → σ → σ} {a : σ} (n : Nat) (h : ∀ k x, k < n → s k x = t k x) : ∀ k, k ≤ n → iter s a k = iter t a k
  | 0, _ => rfl
  | k + 1, hk => by show s k (iter s a k) = t k (iter t a k); rw [iter_congr n h k (by omega), h _ _ (by omega)]
/-- every k below n -/
def allN (p : Nat → Bool) : Nat → Bool
  | 0 => true
  | k + 1 => allN p k && p k
theorem allN_iff (p : Nat → Bool) (n : Nat) : allN p n = true ↔ ∀ k, k < n → p k = true := by
  induction n with
  | zero => simp [allN]
  | succ n ih =>
    simp only [allN, Bool.and_eq_true, ih]
    constructor
    · intro ⟨h1, h2⟩ k hk
      by_cases e : k = n
      · subst e; exact h2
      · exact h1 k (by omega)
    · intro h; exact ⟨fun k hk => h k (by omega), h n (by omega)⟩
theorem allN_false {p : Nat → Bool} {n k : Nat} (hk : k < n) (hp : p k = false) : allN p n = false := by
  cases h : allN p n
  · rfl
  · rw [(allN_iff p n).1 h k hk] at hp; cases hp
theorem allN_ex {p : Nat → Bool} {n : Nat} (h : allN p n = false) : ∃ k, k < n ∧ p k = false := by
  refine Classical.byContradiction fun hc => ?_
  rw [(allN_iff p n).2 fun k hk => by cases hp : p k; exact absurd ⟨k, hk, hp⟩ hc; rfl] at h
  cases h
theorem allN_congr {p q : Nat → Bool} {n : Nat} (h : ∀ k, k < n → p k = q k) : allN p n = allN q n := by
  induction n with
  | zero => rfl
  | succ n ih => simp only [allN]; rw [ih fun k hk => h k (by omega), h n (by omega)]

/-- the sum of a list -/
def isum (xs : List Int) : Int := iter (fun k s => s + nth xs k) 0 xs.length
def isumTo (xs : List Int) (k : Nat) : Int := iter (fun k s => s + nth xs k) 0 k
theorem isumTo_succ (xs : List Int) (k : Nat) : isumTo xs (k + 1) = isumTo xs k + nth xs k := rfl
theorem isumTo_bd (xs : List Int) (M : Int) (hM : 0 ≤ M) (n : Nat) (h : ∀ k, k < n → 0 ≤ nth xs k ∧ nth xs k ≤ M) (k : Nat) (hk : k ≤ n) : 0 ≤ isumTo xs k ∧ isumTo xs k ≤ M * k := by
  induction k with
  | zero => simp [isumTo, iter]
  | succ k ih =>
    have e : M * ((k + 1 : Nat) : Int) = M * k + M := by rw [Int.natCast_succ, Int.mul_add, Int.mul_one]
    have := ih (by omega); have := h k (by omega)
    rw [isumTo_succ]; omega

/-- the greatest number that divides all numbers of a list -/
def gcdTo (xs : List Int) (k : Nat) : Int := iter (fun k d => (Int.gcd d (nth xs k) : Int)) 0 k
def gcdL (xs : List Int) : Int := gcdTo xs xs.length
theorem gcdTo_succ (xs : List Int) (k : Nat) : gcdTo xs (k + 1) = (Int.gcd (gcdTo xs k) (nth xs k) : Int) := rfl
theorem gcdTo_nonneg (xs : List Int) (k : Nat) : 0 ≤ gcdTo xs k := by
  cases k with
  | zero => simp [gcdTo, iter]
  | succ k => rw [gcdTo_succ]; omega
theorem gcd_step (d x : Int) : Int.gcd x (d.tmod x) = Int.gcd d x := by
  unfold Int.gcd
  rw [Int.natAbs_tmod, Nat.gcd_comm d.natAbs, Nat.gcd_rec x.natAbs d.natAbs, Nat.gcd_comm]
theorem gcd_step' (d x : Int) (hd : 0 ≤ d) (hx : 0 ≤ x) : Int.gcd x (d % x) = Int.gcd d x := by
  have := gcd_step d x; rwa [Int.tmod_eq_emod_of_nonneg hd] at this
theorem tmod_bd (d x : Int) (h : x ≠ 0) : (d.tmod x).natAbs < x.natAbs := by
  rw [Int.natAbs_tmod]; exact Nat.mod_lt _ (by omega)
theorem gcd_abs (d x : Int) : Int.gcd (d.natAbs : Int) x = Int.gcd d x := by simp [Int.gcd]
theorem gcd_abs2 (d x : Int) : Int.gcd (d.natAbs : Int) (x.natAbs : Int) = Int.gcd d x := by simp [Int.gcd]
theorem gcd_le (d x M : Int) (h1 : 0 ≤ d) (h2 : d ≤ M) (h3 : -M ≤ x) (h4 : x ≤ M) : (Int.gcd d x : Int) ≤ M := by
  by_cases h : d = 0
  · subst h; simp [Int.gcd]; omega
  · have : Int.gcd d x ≤ d.natAbs := Nat.le_of_dvd (by omega) (Nat.gcd_dvd_left _ _)
    omega
theorem gcdTo_le (xs : List Int) (M : Int) (hM : 0 ≤ M) (n : Nat) (h : ∀ k, k < n → -M ≤ nth xs k ∧ nth xs k ≤ M) : gcdTo xs n ≤ M := by
  induction n with
  | zero => simpa [gcdTo, iter] using hM
  | succ n ih => rw [gcdTo_succ]; exact gcd_le _ _ _ (gcdTo_nonneg _ _) (ih fun k hk => h k (by omega)) (h n (by omega)).1 (h n (by omega)).2
/-- the greatest divisor divides -/
theorem gcdTo_dvd (xs : List Int) (n : Nat) : ∀ k, k < n → gcdTo xs n ∣ nth xs k := by
  induction n with
  | zero => intro k hk; omega
  | succ n ih =>
    intro k hk
    rw [gcdTo_succ]
    by_cases e : k = n
    · subst e; exact Int.gcd_dvd_right _ _
    · exact Int.dvd_trans (Int.gcd_dvd_left _ _) (ih k (by omega))

def okSize (s : Int) : Bool := decide (1 ≤ s) && decide (s ≤ 4)
theorem okSize_iff {s : Int} : okSize s = true ↔ s = 1 ∨ s = 2 ∨ s = 3 ∨ s = 4 := by
  unfold okSize; simp only [Bool.and_eq_true, decide_eq_true_eq]; omega
theorem not_okSize {s : Int} (h : okSize s = false) : s < 1 ∨ 4 < s := by
  unfold okSize at h; simp only [Bool.and_eq_false_iff, decide_eq_false_iff_not] at h; omega
/-- so many sets has a question -/
def nsets (s : Int) : Nat := 2 ^ s.toNat
theorem nsets_cases {s : Int} (h : okSize s = true) : (s = 1 ∧ nsets s = 2) ∨ (s = 2 ∧ nsets s = 4) ∨ (s = 3 ∧ nsets s = 8) ∨ (s = 4 ∧ nsets s = 16) := by
  rcases okSize_iff.1 h with rfl | rfl | rfl | rfl <;> simp [nsets]
theorem nsets_le {s : Int} (h : okSize s = true) : 2 ≤ nsets s ∧ nsets s ≤ 16 := by
  rcases nsets_cases h with h | h | h | h <;> omega
theorem shl_size {s : Int} (h : okSize s = true) : wrap64 (2 ^ s.toNat) = (nsets s : Int) := by
  rw [IntWalk.wrap64_in]
  · simp [nsets]
  · rcases okSize_iff.1 h with rfl | rfl | rfl | rfl <;> decide
def inB (lo hi x : Int) : Bool := decide (lo ≤ x) && decide (x ≤ hi)
theorem inB_iff {lo hi x : Int} : inB lo hi x = true ↔ lo ≤ x ∧ x ≤ hi := by simp [inB]
theorem inB_false {lo hi x : Int} : inB lo hi x = false ↔ x < lo ∨ hi < x := by simp [inB]; omega
/-- the sum of a list whose numbers are all from 0 to 'most', -1 else -/
def sumIn (most : Int) (xs : List Int) : Int := if allN (fun k => inB 0 most (nth xs k)) xs.length then isum xs else -1
/-- is this a set of a question's answers? -/
def setOk (s a : Int) : Bool := okSize s && inB 0 ((nsets s : Int) - 1) a
/-- is this a mass? -/
def massOk (s : Int) (xs : List Int) : Bool :=
  okSize s && (xs.length == nsets s) && allN (fun k => inB 0 1000000 (nth xs k)) xs.length && inB 1 1000000 (isum xs) && (gcdL xs == 1)

/-- what a function returns that returns a mass and whether there is one -/
structure MR where
  size : Int
  parts : List Int
  ok : Bool
def MR.no : MR := ⟨0, [], false⟩
/-- the mass of parts in lowest terms, if it is valid -/
def mkMass (s : Int) (xs : List Int) : MR :=
  if gcdL xs = 0 then MR.no else if massOk s (xs.map (· / gcdL xs)) then ⟨s, xs.map (· / gcdL xs), true⟩ else MR.no

/-- a fraction -/
def fracOk (num den : Int) : Bool := inB (-1000000000) 1000000000 num && inB 1 1000000000 den && (Int.gcd num den == 1)
def shareOk (num den : Int) : Bool := fracOk num den && inB 0 den num
end Go.Proofs.YtefmlbahmakboaaGreatDoor
