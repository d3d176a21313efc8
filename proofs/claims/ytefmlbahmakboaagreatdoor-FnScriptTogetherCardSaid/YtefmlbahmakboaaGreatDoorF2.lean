/- Plain: sums over two places, flows from sets to sets within them, and when a search that is stuck shows that no flow fills all. No program. Plain: when one mass is a specialization of another one, by sums over sets. No program. Plain: a search for a way, step by step. No program. -/
import Derived.Test.YtefmlbahmakboaaGreatDoorP0
import Derived.Test.YtefmlbahmakboaaGreatDoorM1
set_option linter.unusedSimpArgs false
set_option linter.unusedVariables false
namespace Go.Proofs.YtefmlbahmakboaaGreatDoor
open Go.RowKit
/-- a sum -/
def sumI (f : Nat → Int) : Nat → Int
  | 0 => 0
  | n + 1 => sumI f n + f n
theorem sumI_congr {f g : Nat → Int} {n : Nat} (h : ∀ k, k < n → f k = g k) : sumI f n = sumI g n := by
  induction n with
  | zero => rfl
  | succ n ih => show sumI f n + f n = sumI g n + g n; rw [ih fun k hk => h k (by omega), h n (by omega)]
theorem sumI_zero {f : Nat → Int} {n : Nat} (h : ∀ k, k < n → f k = 0) : sumI f n = 0 := by
  induction n with
  | zero => rfl
  | succ n ih => show sumI f n + f n = 0; rw [ih fun k hk => h k (by omega), h n (by omega)]; rfl
theorem sumI_add (f g : Nat → Int) (n : Nat) : sumI (fun k => f k + g k) n = sumI f n + sumI g n := by
  induction n with
  | zero => rfl
  | succ n ih => show sumI _ n + (f n + g n) = (sumI f n + f n) + (sumI g n + g n); rw [ih]; omega
theorem sumI_mul (c : Int) (f : Nat → Int) (n : Nat) : sumI (fun k => c * f k) n = c * sumI f n := by
  induction n with
  | zero => simp [sumI]
  | succ n ih => show sumI _ n + c * f n = c * (sumI f n + f n); rw [ih, Int.mul_add]
theorem sumI_nn {f : Nat → Int} {n : Nat} (h : ∀ k, k < n → 0 ≤ f k) : 0 ≤ sumI f n := by
  induction n with
  | zero => exact Int.le_refl _
  | succ n ih => have h1 := ih fun k hk => h k (by omega); have h2 := h n (by omega); show 0 ≤ sumI f n + f n; omega
theorem sumI_le {f g : Nat → Int} {n : Nat} (h : ∀ k, k < n → f k ≤ g k) : sumI f n ≤ sumI g n := by
  induction n with
  | zero => exact Int.le_refl _
  | succ n ih => have h1 := ih fun k hk => h k (by omega); have h2 := h n (by omega); show sumI f n + f n ≤ sumI g n + g n; omega
theorem sumI_lt {f g : Nat → Int} {n j : Nat} (h : ∀ k, k < n → f k ≤ g k) (hj : j < n) (hl : f j < g j) : sumI f n < sumI g n := by
  induction n with
  | zero => omega
  | succ n ih =>
    show sumI f n + f n < sumI g n + g n
    by_cases hn : j = n
    · subst hn; have h1 := sumI_le (n := j) fun k hk => h k (by omega); omega
    · have h1 := ih (fun k hk => h k (by omega)) (by omega); have h2 := h n (by omega); omega
theorem sumI_swap (f : Nat → Nat → Int) (m n : Nat) : sumI (fun i => sumI (fun j => f i j) n) m = sumI (fun j => sumI (fun i => f i j) m) n := by
  induction m with
  | zero => symm; exact sumI_zero fun k _ => rfl
  | succ m ih => show sumI _ m + sumI (fun j => f m j) n = _; rw [ih, ← sumI_add]; rfl
theorem sumI_at {n j : Nat} (c : Int) (hj : j < n) : sumI (fun k => if k = j then c else 0) n = c := by
  induction n with
  | zero => omega
  | succ n ih =>
    show sumI _ n + (if n = j then c else 0) = c
    by_cases hn : n = j
    · subst hn; rw [sumI_zero fun k hk => if_neg (by omega), if_pos rfl]; omega
    · rw [ih (by omega), if_neg hn]; omega
/-- one place of a sum turned -/
theorem sumI_turn {f g : Nat → Int} {n j : Nat} (hj : j < n) (h : ∀ k, k < n → k ≠ j → g k = f k) : sumI g n = sumI f n + (g j - f j) := by
  have e : sumI g n = sumI (fun k => f k + (if k = j then g j - f j else 0)) n := sumI_congr fun k hk => by
    by_cases hkj : k = j
    · subst hkj; rw [if_pos rfl]; omega
    · rw [if_neg hkj, h k hk hkj]; omega
  rw [e, sumI_add, sumI_at _ hj]
theorem sumI_one_le {f : Nat → Int} {n j : Nat} (h : ∀ k, k < n → 0 ≤ f k) (hj : j < n) : f j ≤ sumI f n := by
  have e := sumI_turn (f := fun k => if k = j then 0 else f k) (g := f) (n := n) hj (fun k _ hkj => (if_neg hkj).symm)
  have h0 : 0 ≤ sumI (fun k => if k = j then 0 else f k) n := sumI_nn fun k hk => by
    by_cases hkj : k = j
    · rw [if_pos hkj]; omega
    · rw [if_neg hkj]; exact h k hk
  simp only [if_pos rfl] at e
  simp at e
  omega
/-! flows -/
/-- what goes, what is left of each giver, what each getter is still due -/
structure Flow (sub : Nat → Nat → Bool) (N : Nat) (L D : Nat → Int) (fl : Nat → Nat → Int) (lf du : Nat → Int) : Prop where
  nn : ∀ b a, b < N → a < N → 0 ≤ fl b a
  sup : ∀ b a, b < N → a < N → fl b a ≠ 0 → sub a b = true
  row : ∀ b, b < N → sumI (fl b) N + lf b = L b
  col : ∀ a, a < N → sumI (fun b => fl b a) N + du a = D a
  lf0 : ∀ b, b < N → 0 ≤ lf b
  du0 : ∀ a, a < N → 0 ≤ du a
/-- the sets that some givers reach have room for what these give -/
def Hall (sub : Nat → Nat → Bool) (N : Nat) (L D : Nat → Int) : Prop :=
  ∀ S T : Nat → Bool, (∀ b a, b < N → a < N → S b = true → sub a b = true → T a = true) → sumI (fun b => if S b then L b else 0) N ≤ sumI (fun a => if T a then D a else 0) N
theorem hall_of_flow {sub : Nat → Nat → Bool} {N : Nat} {L D : Nat → Int} {fl : Nat → Nat → Int} {lf du : Nat → Int} (h : Flow sub N L D fl lf du) (hl : ∀ b, b < N → lf b = 0) : Hall sub N L D := by
  intro S T hc
  have e1 : sumI (fun b => if S b then L b else 0) N = sumI (fun b => sumI (fun a => if S b then fl b a else 0) N) N := sumI_congr fun b hb => by
    by_cases hS : S b = true
    · simp only [hS, if_true]; rw [← h.row b hb, hl b hb, Int.add_zero]
    · simp only [Bool.not_eq_true] at hS; simp [hS]; exact (sumI_zero fun k _ => rfl).symm
  rw [e1, sumI_swap]
  refine sumI_le fun a ha => ?_
  by_cases hT : T a = true
  · simp only [hT, if_true]
    have h1 : sumI (fun b => if S b then fl b a else 0) N ≤ sumI (fun b => fl b a) N := sumI_le fun b hb => by
      split
      · exact Int.le_refl _
      · exact h.nn b a hb ha
    have h2 := h.col a ha; have h3 := h.du0 a ha; omega
  · rw [if_neg hT]
    refine Int.le_of_eq (sumI_zero fun b hb => ?_)
    by_cases hS : S b = true
    · rw [if_pos hS]
      refine Classical.byContradiction fun hne => hT (hc b a hb ha hS (h.sup b a hb ha hne))
    · rw [if_neg hS]
/-- a search that is stuck: no flow fills all -/
theorem stuck {sub : Nat → Nat → Bool} {N : Nat} {L D : Nat → Int} {fl : Nat → Nat → Int} {lf du : Nat → Int} (h : Flow sub N L D fl lf du) (S T : Nat → Bool) (hc : ∀ b a, b < N → a < N → S b = true → sub a b = true → T a = true)
    (hb : ∀ b a, b < N → a < N → T a = true → 0 < fl b a → S b = true) (hd : ∀ a, a < N → T a = true → du a = 0) {r : Nat} (hr : r < N) (hrS : S r = true) (hrl : 0 < lf r) : ¬ Hall sub N L D := by
  intro hH
  have h1 := hH S T hc
  have e1 : sumI (fun b => sumI (fun a => if S b then fl b a else 0) N) N < sumI (fun b => if S b then L b else 0) N := by
    refine sumI_lt (j := r) (fun b hb => ?_) hr ?_
    · by_cases hS : S b = true
      · simp only [hS, if_true]; have := h.row b hb; have := h.lf0 b hb; have e : sumI (fun a => fl b a) N = sumI (fl b) N := rfl; omega
      · simp only [Bool.not_eq_true] at hS; simp [hS]; exact Int.le_of_eq (sumI_zero fun k _ => rfl)
    · simp only [hrS, if_true]; have := h.row r hr; have e : sumI (fun a => fl r a) N = sumI (fl r) N := rfl; omega
  have e2 : sumI (fun a => sumI (fun b => if S b then fl b a else 0) N) N = sumI (fun a => if T a then D a else 0) N := sumI_congr fun a ha => by
    by_cases hT : T a = true
    · rw [if_pos hT, ← h.col a ha, hd a ha hT, Int.add_zero]
      refine sumI_congr fun b hbN => ?_
      by_cases hS : S b = true
      · rw [if_pos hS]
      · rw [if_neg hS]
        have h0 := h.nn b a hbN ha
        refine Classical.byContradiction fun hne => hS (hb b a hbN ha hT (by omega))
    · rw [if_neg hT]
      refine sumI_zero fun b hbN => ?_
      by_cases hS : S b = true
      · rw [if_pos hS]
        refine Classical.byContradiction fun hne => hT (hc b a hbN ha hS (h.sup b a hbN ha hne))
      · rw [if_neg hS]
  rw [sumI_swap, e2] at e1
  omega
theorem flow_full {sub : Nat → Nat → Bool} {N : Nat} {L D : Nat → Int} {fl : Nat → Nat → Int} {lf du : Nat → Int} (h : Flow sub N L D fl lf du) (hs : sumI L N = sumI D N) (hl : ∀ b, b < N → lf b = 0) : ∀ a, a < N → du a = 0 := by
  have e1 : sumI L N = sumI (fun b => sumI (fl b) N) N := sumI_congr fun b hb => by rw [← h.row b hb, hl b hb, Int.add_zero]
  have e2 : sumI D N = sumI (fun a => sumI (fun b => fl b a) N) N + sumI du N := by rw [← sumI_add]; exact sumI_congr fun a ha => (h.col a ha).symm
  have e3 := sumI_swap fl N N
  intro a ha
  have h1 := sumI_one_le (f := du) h.du0 ha
  have h2 := h.du0 a ha
  have e4 : sumI (fun b => sumI (fl b) N) N = sumI (fun a => sumI (fun b => fl b a) N) N := e3
  omega
/-! the ways that a search finds -/
/-- gv: who leads to a getter (-1: nobody); gt: which getter leads to a giver; the ranks go down along a way -/
def Way (sub : Nat → Nat → Bool) (N from_ : Nat) (fl : Nat → Nat → Int) (gv gt : Nat → Int) (rk : Nat → Nat) : Prop :=
  ∀ a, a < N → 0 ≤ gv a → (gv a).toNat < N ∧ gv a < N ∧ sub a (gv a).toNat = true ∧
    ((gv a).toNat ≠ from_ → 0 ≤ gt (gv a).toNat ∧ gt (gv a).toNat < N ∧ 0 ≤ gv (gt (gv a).toNat).toNat ∧ 0 < fl (gv a).toNat (gt (gv a).toNat).toNat ∧ rk (gt (gv a).toNat).toNat < rk a)
/-- at least so much goes back all along the way -/
inductive Ge (from_ : Nat) (fl : Nat → Nat → Int) (gv gt : Nat → Int) (q : Int) : Nat → Prop
  | stop (a : Nat) : (gv a).toNat = from_ → Ge from_ fl gv gt q a
  | step (a : Nat) : (gv a).toNat ≠ from_ → q ≤ fl (gv a).toNat (gt (gv a).toNat).toNat → Ge from_ fl gv gt q (gt (gv a).toNat).toNat → Ge from_ fl gv gt q a
theorem Ge.mono {from_ : Nat} {fl : Nat → Nat → Int} {gv gt : Nat → Int} {q q' : Int} {a : Nat} (h : Ge from_ fl gv gt q a) (hq : q' ≤ q) : Ge from_ fl gv gt q' a := by
  induction h with
  | stop a h1 => exact .stop a h1
  | step a h1 h2 _ ih => exact .step a h1 (by omega) ih
theorem Ge.upd {sub : Nat → Nat → Bool} {N from_ : Nat} {fl fl0 fl' : Nat → Nat → Int} {gv gt : Nat → Int} {rk : Nat → Nat} {q : Int} (hw : Way sub N from_ fl0 gv gt rk) {a : Nat} (h : Ge from_ fl gv gt q a) :
    a < N → 0 ≤ gv a → (∀ a', a' < N → 0 ≤ gv a' → rk a' ≤ rk a → (gv a').toNat ≠ from_ → fl (gv a').toNat (gt (gv a').toNat).toNat ≤ fl' (gv a').toNat (gt (gv a').toNat).toNat) → Ge from_ fl' gv gt q a := by
  induction h with
  | stop a h1 => exact fun _ _ _ => .stop a h1
  | step a h1 h2 _ ih =>
    intro ha h0 hle
    obtain ⟨_, _, _, hs⟩ := hw a ha h0
    obtain ⟨k0, k1, k2, _, k4⟩ := hs h1
    refine .step a h1 ?_ (ih (by omega) k2 fun a' ha' h0' hr => hle a' ha' h0' (by omega))
    have := hle a ha h0 (Nat.le_refl _) h1; omega
theorem Way.init (sub : Nat → Nat → Bool) (N from_ : Nat) (fl : Nat → Nat → Int) (gt : Nat → Int) (rk : Nat → Nat) {gv : Nat → Int} (h : ∀ a, a < N → gv a = -1) : Way sub N from_ fl gv gt rk := fun a ha h0 => by
  rw [h a ha] at h0; omega
/-- a getter more -/
theorem Way.getter {sub : Nat → Nat → Bool} {N from_ : Nat} {fl : Nat → Nat → Int} {gv gt : Nat → Int} {rk : Nat → Nat} (hw : Way sub N from_ fl gv gt rk) {gv' : Nat → Int} {a b : Nat} (ha : a < N) (hb : b < N) (h0 : gv a < 0) (hs : sub a b = true)
    (hbr : b ≠ from_ → 0 ≤ gt b ∧ gt b < N ∧ 0 ≤ gv (gt b).toNat ∧ 0 < fl b (gt b).toNat) (e1 : gv' a = b) (e2 : ∀ k, k ≠ a → gv' k = gv k) :
    Way sub N from_ fl gv' gt (fun k => if k = a then rk (gt b).toNat + 1 else rk k) := by
  intro k hk hk0
  by_cases hka : k = a
  · subst hka
    rw [e1]
    refine ⟨by simpa using hb, by omega, by simpa using hs, fun hne => ?_⟩
    simp only [Int.toNat_natCast] at hne ⊢
    obtain ⟨k0, k1, k2, k3⟩ := hbr hne
    have hna : (gt b).toNat ≠ k := by intro e; rw [e] at k2; omega
    refine ⟨k0, k1, by rw [e2 _ hna]; exact k2, k3, ?_⟩
    rw [if_neg hna]; simp
  · rw [e2 k hka] at hk0 ⊢
    obtain ⟨k1, k2, k3, k4⟩ := hw k hk hk0
    refine ⟨k1, k2, k3, fun hne => ?_⟩
    obtain ⟨m0, m1, m2, m3, m4⟩ := k4 hne
    have hna : (gt (gv k).toNat).toNat ≠ a := by intro e; rw [e] at m2; omega
    refine ⟨m0, m1, by rw [e2 _ hna]; exact m2, m3, ?_⟩
    simp only [if_neg hna, if_neg hka]; exact m4
/-- a giver more -/
theorem Way.giver {sub : Nat → Nat → Bool} {N from_ : Nat} {fl : Nat → Nat → Int} {gv gt : Nat → Int} {rk : Nat → Nat} (hw : Way sub N from_ fl gv gt rk) {gt' : Nat → Int} {b : Nat} (h0 : gt b < 0) (e2 : ∀ k, k ≠ b → gt' k = gt k) : Way sub N from_ fl gv gt' rk := by
  intro k hk hk0
  obtain ⟨k1, k2, k3, k4⟩ := hw k hk hk0
  refine ⟨k1, k2, k3, fun hne => ?_⟩
  have hnb : (gv k).toNat ≠ b := by intro e; have := (k4 hne).1; rw [e] at this; omega
  rw [e2 _ hnb]; exact k4 hne
/-! a push along a way -/
def updF (fl : Nat → Nat → Int) (b a : Nat) (x : Int) : Nat → Nat → Int := fun b' a' => if b' = b ∧ a' = a then x else fl b' a'
theorem updF_same (fl : Nat → Nat → Int) (b a : Nat) (x : Int) : updF fl b a x b a = x := if_pos ⟨rfl, rfl⟩
theorem updF_other {fl : Nat → Nat → Int} {b a b' a' : Nat} (x : Int) (h : b' ≠ b ∨ a' ≠ a) : updF fl b a x b' a' = fl b' a' := if_neg fun e => h.elim (fun h => h e.1) (fun h => h e.2)
theorem sumI_row {fl : Nat → Nat → Int} {N b a : Nat} (x : Int) (ha : a < N) (b' : Nat) : sumI (updF fl b a x b') N = sumI (fl b') N + (if b' = b then x - fl b a else 0) := by
  by_cases h : b' = b
  · subst h
    rw [sumI_turn (f := fl b') (g := updF fl b' a x b') ha fun k _ hk => updF_other x (Or.inr hk), if_pos rfl, updF_same]
  · rw [if_neg h, Int.add_zero]; exact sumI_congr fun k _ => updF_other x (Or.inl h)
theorem sumI_col {fl : Nat → Nat → Int} {N b a : Nat} (x : Int) (hb : b < N) (a' : Nat) : sumI (fun b' => updF fl b a x b' a') N = sumI (fun b' => fl b' a') N + (if a' = a then x - fl b a else 0) := by
  by_cases h : a' = a
  · subst h
    rw [sumI_turn (f := fun b' => fl b' a') (g := fun b' => updF fl b a' x b' a') hb fun k _ hk => updF_other x (Or.inl hk), if_pos rfl, updF_same]
  · rw [if_neg h, Int.add_zero]; exact sumI_congr fun k _ => updF_other x (Or.inr h)
/-- on the way from the end back to cur: what has been pushed so far -/
structure Pushed (sub : Nat → Nat → Bool) (N from_ end_ : Nat) (fl : Nat → Nat → Int) (gv gt : Nat → Int) (q : Int) (cur : Nat) (f : Nat → Nat → Int) : Prop where
  nn : ∀ b a, b < N → a < N → 0 ≤ f b a
  sup : ∀ b a, b < N → a < N → f b a ≠ 0 → sub a b = true
  row : ∀ b, b < N → sumI (f b) N = sumI (fl b) N
  col : ∀ a, a < N → sumI (fun b => f b a) N = sumI (fun b => fl b a) N + (if a = end_ then q else 0) - (if a = cur then q else 0)
  ge : Ge from_ f gv gt q cur
  cur0 : cur < N ∧ 0 ≤ gv cur
theorem Pushed.init {sub : Nat → Nat → Bool} {N from_ end_ : Nat} {L D : Nat → Int} {fl : Nat → Nat → Int} {lf du : Nat → Int} {gv gt : Nat → Int} {q : Int} (h : Flow sub N L D fl lf du) (hg : Ge from_ fl gv gt q end_) (he : end_ < N) (h0 : 0 ≤ gv end_) : Pushed sub N from_ end_ fl gv gt q end_ fl :=
  ⟨h.nn, h.sup, fun _ _ => rfl, fun a _ => by split <;> omega, hg, he, h0⟩
theorem Pushed.step {sub : Nat → Nat → Bool} {N from_ end_ : Nat} {fl : Nat → Nat → Int} {gv gt : Nat → Int} {rk : Nat → Nat} {q : Int} {cur : Nat} {f : Nat → Nat → Int} (h : Pushed sub N from_ end_ fl gv gt q cur f) (hw : Way sub N from_ fl gv gt rk) (hq : 0 ≤ q) {b c : Nat} (eb : gv cur = (b : Int)) (hne : b ≠ from_) (ec : gt b = (c : Int)) :
    b < N ∧ c < N ∧ c ≠ cur ∧ q ≤ f b c ∧ rk c < rk cur ∧ Pushed sub N from_ end_ fl gv gt q c (updF (updF f b cur (f b cur + q)) b c (f b c - q)) := by
  obtain ⟨hc, h0⟩ := h.cur0
  obtain ⟨k1, k2, k3, k4⟩ := hw cur hc h0
  rw [eb] at k1 k2 k3 k4
  simp only [Int.toNat_natCast] at k1 k3 k4
  obtain ⟨m0, m1, m2, m3, m4⟩ := k4 hne
  rw [ec] at m0 m1 m2 m3 m4
  simp only [Int.toNat_natCast] at m2 m3 m4
  have hcN : c < N := by omega
  have hcc : c ≠ cur := by intro e; rw [e] at m4; omega
  have hge : q ≤ f b c ∧ Ge from_ f gv gt q c := by
    cases h.ge with
    | stop _ h1 => rw [eb] at h1; simp at h1; exact absurd h1 hne
    | step _ h1 h2 h3 => rw [eb] at h2 h3; simp only [Int.toNat_natCast] at h2 h3; rw [ec] at h2 h3; simp only [Int.toNat_natCast] at h2 h3; exact ⟨h2, h3⟩
  have ebc : updF f b cur (f b cur + q) b c = f b c := updF_other _ (Or.inr hcc)
  refine ⟨k1, hcN, hcc, hge.1, m4, ⟨?_, ?_, ?_, ?_, ?_, hcN, m2⟩⟩
  · intro b' a' hb' ha'
    by_cases e1 : b' = b ∧ a' = c
    · rw [e1.1, e1.2, updF_same]; omega
    · rw [updF_other _ (by by_cases e : b' = b; exact Or.inr fun e2 => e1 ⟨e, e2⟩; exact Or.inl e)]
      by_cases e2 : b' = b ∧ a' = cur
      · rw [e2.1, e2.2, updF_same]; have := h.nn b cur k1 hc; omega
      · rw [updF_other _ (by by_cases e : b' = b; exact Or.inr fun e3 => e2 ⟨e, e3⟩; exact Or.inl e)]; exact h.nn b' a' hb' ha'
  · intro b' a' hb' ha' hn
    by_cases e2 : b' = b ∧ a' = cur
    · rw [e2.1, e2.2]; exact k3
    · by_cases e1 : b' = b ∧ a' = c
      · refine h.sup b' a' hb' ha' ?_
        rw [e1.1, e1.2] at hn ⊢; rw [updF_same] at hn; intro e; omega
      · rw [updF_other _ (by by_cases e : b' = b; exact Or.inr fun e3 => e1 ⟨e, e3⟩; exact Or.inl e), updF_other _ (by by_cases e : b' = b; exact Or.inr fun e3 => e2 ⟨e, e3⟩; exact Or.inl e)] at hn
        exact h.sup b' a' hb' ha' hn
  · intro b' hb'
    rw [sumI_row _ hcN, sumI_row _ hc, ebc, h.row b' hb']
    split <;> omega
  · intro a' ha'
    rw [sumI_col _ k1, sumI_col _ k1, ebc, h.col a' ha']
    by_cases e1 : a' = cur
    · have e2 : ¬ a' = c := by omega
      rw [if_pos e1, if_pos e1, if_neg e2, if_neg e2]; omega
    · rw [if_neg e1, if_neg e1]; split <;> split <;> omega
  · refine Ge.upd hw hge.2 hcN m2 fun a' ha' h0' hr hn' => ?_
    obtain ⟨_, _, _, p4⟩ := hw a' ha' h0'
    have hbb : (gv a').toNat ≠ b := by
      intro e; have := (p4 hn').2.2.2.2; rw [e, ec] at this; simp only [Int.toNat_natCast] at this; omega
    rw [updF_other _ (Or.inl hbb), updF_other _ (Or.inl hbb)]; exact Int.le_refl _
theorem Pushed.last {sub : Nat → Nat → Bool} {N from_ end_ : Nat} {fl : Nat → Nat → Int} {gv gt : Nat → Int} {rk : Nat → Nat} {q : Int} {cur : Nat} {f : Nat → Nat → Int} {L D : Nat → Int} {lf du : Nat → Int} (h : Pushed sub N from_ end_ fl gv gt q cur f) (hF : Flow sub N L D fl lf du) (hw : Way sub N from_ fl gv gt rk) (hq : 0 ≤ q) (eb : gv cur = (from_ : Int)) (hql : q ≤ lf from_) (hqd : q ≤ du end_)
    {lf' du' : Nat → Int} (el : ∀ b, lf' b = if b = from_ then lf b - q else lf b) (ed : ∀ a, du' a = if a = end_ then du a - q else du a) :
    from_ < N ∧ Flow sub N L D (updF f from_ cur (f from_ cur + q)) lf' du' := by
  obtain ⟨hc, h0⟩ := h.cur0
  obtain ⟨k1, k2, k3, k4⟩ := hw cur hc h0
  rw [eb] at k1 k2 k3
  simp only [Int.toNat_natCast] at k1 k3
  refine ⟨k1, ?_, ?_, ?_, ?_, ?_, ?_⟩
  · intro b' a' hb' ha'
    by_cases e2 : b' = from_ ∧ a' = cur
    · rw [e2.1, e2.2, updF_same]; have := h.nn from_ cur k1 hc; omega
    · rw [updF_other _ (by by_cases e : b' = from_; exact Or.inr fun e3 => e2 ⟨e, e3⟩; exact Or.inl e)]; exact h.nn b' a' hb' ha'
  · intro b' a' hb' ha' hn
    by_cases e2 : b' = from_ ∧ a' = cur
    · rw [e2.1, e2.2]; exact k3
    · rw [updF_other _ (by by_cases e : b' = from_; exact Or.inr fun e3 => e2 ⟨e, e3⟩; exact Or.inl e)] at hn; exact h.sup b' a' hb' ha' hn
  · intro b' hb'
    rw [sumI_row _ hc, h.row b' hb', el, ← hF.row b' hb']
    split
    · subst b'; omega
    · omega
  · intro a' ha'
    rw [sumI_col _ k1, h.col a' ha', ed, ← hF.col a' ha']
    split <;> split <;> omega
  · intro b' hb'; rw [el]; split
    · subst b'; omega
    · exact hF.lf0 b' hb'
  · intro a' ha'; rw [ed]; split
    · subst a'; omega
    · exact hF.du0 a' ha'
/-- is a part of b? -/
def subN (a b : Nat) : Bool := decide (a &&& b = a)
def pI (p : Nat → Bool) (b : Nat) : Int := if p b then 1 else 0
theorem sumI_dot (g : Nat → Int) (xs : List Int) (N : Nat) : dot g xs N = sumI (fun k => g k * nth xs k) N := by
  induction N with
  | zero => rfl
  | succ n ih => rw [dot_succ, ih]; rfl
theorem dot_le (g h : Nat → Int) (xs : List Int) (n : Nat) (hx : ∀ j, j < n → 0 ≤ nth xs j) (e : ∀ j, j < n → nth xs j ≠ 0 → g j ≤ h j) : dot g xs n ≤ dot h xs n := by
  rw [sumI_dot, sumI_dot]
  refine sumI_le fun k hk => ?_
  by_cases h0 : nth xs k = 0
  · rw [h0]; simp
  · exact Int.mul_le_mul_of_nonneg_right (e k hk h0) (hx k hk)
theorem sumI_sel (p : Nat → Bool) (xs : List Int) (w : Int) (N : Nat) : sumI (fun b => if p b then nth xs b * w else 0) N = w * dot (pI p) xs N := by
  rw [sumI_dot, ← sumI_mul]
  refine sumI_congr fun k _ => ?_
  unfold pI
  split
  · rw [Int.one_mul, Int.mul_comm]
  · simp
/-- the criterion, by sums -/
def HallD (sub : Nat → Nat → Bool) (N : Nat) (xs ys : List Int) (wm wn : Int) : Prop :=
  ∀ S T : Nat → Bool, (∀ b a, b < N → a < N → S b = true → sub a b = true → T a = true) → wm * dot (pI S) ys N ≤ wn * dot (pI T) xs N
theorem hall_iff (sub : Nat → Nat → Bool) (N : Nat) (xs ys : List Int) (wm wn : Int) : Hall sub N (fun b => nth ys b * wm) (fun a => nth xs a * wn) ↔ HallD sub N xs ys wm wn := by
  unfold Hall HallD
  constructor
  · intro h S T hc; have := h S T hc; rw [sumI_sel, sumI_sel] at this; exact this
  · intro h S T hc; have := h S T hc; rw [sumI_sel, sumI_sel]; exact this
theorem pI_le {p q : Bool} (h : p = true → q = true) : (if p then (1 : Int) else 0) ≤ if q then 1 else 0 := by
  cases p
  · cases q <;> simp
  · rw [h rfl]; exact Int.le_refl _
theorem le_of_scaled {c a b : Int} (hc : 0 < c) (h : c * a ≤ c * b) : a ≤ b := Int.le_of_mul_le_mul_left h hc
/-- each getter has its giver above -/
theorem hall_up {sub : Nat → Nat → Bool} {N : Nat} {xs ys : List Int} {φ : Nat → Nat} {k c : Int} (hx : ∀ j, j < N → 0 ≤ nth xs j) (hk : 0 < k) (hc : 0 ≤ c) (h : ∀ g, k * dot g ys N = c * dot (fun a => g (φ a)) xs N)
    (hφ : ∀ a, a < N → φ a < N ∧ sub a (φ a) = true) : HallD sub N xs ys (dot (fun _ => 1) xs N) (dot (fun _ => 1) ys N) := by
  intro S T hcl
  have h1 := h (pI S)
  have h2 := h (fun _ => 1)
  have hw : 0 ≤ dot (fun _ => 1) xs N := by rw [sumI_dot]; exact sumI_nn fun j hj => by have := hx j hj; omega
  have h3 : dot (fun a => pI S (φ a)) xs N ≤ dot (pI T) xs N := dot_le _ _ _ _ hx fun j hj _ => pI_le fun e => hcl (φ j) j (hφ j hj).1 hj e (hφ j hj).2
  have h4 : dot (fun _ => 1) xs N * (c * dot (fun a => pI S (φ a)) xs N) ≤ dot (fun _ => 1) xs N * (c * dot (pI T) xs N) := Int.mul_le_mul_of_nonneg_left (Int.mul_le_mul_of_nonneg_left h3 hc) hw
  refine le_of_scaled hk ?_
  have e1 : k * (dot (fun _ => 1) xs N * dot (pI S) ys N) = dot (fun _ => 1) xs N * (k * dot (pI S) ys N) := by rw [← Int.mul_assoc, ← Int.mul_assoc, Int.mul_comm k]
  have e2 : k * (dot (fun _ => 1) ys N * dot (pI T) xs N) = dot (fun _ => 1) xs N * (c * dot (pI T) xs N) := by rw [← Int.mul_assoc, h2, ← Int.mul_assoc, Int.mul_comm c]
  rw [e1, e2, h1]
  exact h4
/-- each giver has its getter below -/
theorem hall_down {sub : Nat → Nat → Bool} {N : Nat} {xs ys : List Int} {ψ : Nat → Nat} {k c : Int} (hy : ∀ j, j < N → 0 ≤ nth ys j) (hk : 0 < k) (hc : 0 ≤ c) (h : ∀ g, k * dot g xs N = c * dot (fun b => g (ψ b)) ys N)
    (hψ : ∀ b, b < N → nth ys b ≠ 0 → ψ b < N ∧ sub (ψ b) b = true) : HallD sub N xs ys (dot (fun _ => 1) xs N) (dot (fun _ => 1) ys N) := by
  intro S T hcl
  have h1 := h (pI T)
  have h2 := h (fun _ => 1)
  have hw : 0 ≤ dot (fun _ => 1) ys N := by rw [sumI_dot]; exact sumI_nn fun j hj => by have := hy j hj; omega
  have h3 : dot (pI S) ys N ≤ dot (fun b => pI T (ψ b)) ys N := dot_le _ _ _ _ hy fun j hj hn => pI_le fun e => hcl j (ψ j) hj (hψ j hj hn).1 e (hψ j hj hn).2
  have h4 : dot (fun _ => 1) ys N * (c * dot (pI S) ys N) ≤ dot (fun _ => 1) ys N * (c * dot (fun b => pI T (ψ b)) ys N) := Int.mul_le_mul_of_nonneg_left (Int.mul_le_mul_of_nonneg_left h3 hc) hw
  refine le_of_scaled hk ?_
  have e1 : k * (dot (fun _ => 1) xs N * dot (pI S) ys N) = dot (fun _ => 1) ys N * (c * dot (pI S) ys N) := by rw [← Int.mul_assoc, h2, ← Int.mul_assoc, Int.mul_comm c]
  have e2 : k * (dot (fun _ => 1) ys N * dot (pI T) xs N) = dot (fun _ => 1) ys N * (k * dot (pI T) xs N) := by rw [← Int.mul_assoc, ← Int.mul_assoc, Int.mul_comm k]
  rw [e1, e2, h1]
  exact h4
/-! chances -/
/-- the union of the sets told -/
def orS (S : Nat → Bool) : Nat → Nat
  | 0 => 0
  | n + 1 => if S n then orS S n ||| n else orS S n
theorem orS_bit (S : Nat → Bool) (j : Nat) : ∀ n, (orS S n).testBit j = true → ∃ b, b < n ∧ S b = true ∧ b.testBit j = true
  | 0, h => by simp [orS] at h
  | n + 1, h => by
    unfold orS at h
    split at h
    · next hS =>
      rw [Nat.testBit_or, Bool.or_eq_true] at h
      rcases h with h | h
      · obtain ⟨b, h1, h2⟩ := orS_bit S j n h; exact ⟨b, by omega, h2⟩
      · exact ⟨n, by omega, hS, h⟩
    · obtain ⟨b, h1, h2⟩ := orS_bit S j n h; exact ⟨b, by omega, h2⟩
theorem orS_in (S : Nat → Bool) : ∀ n b, b < n → S b = true → ∀ j, b.testBit j = true → (orS S n).testBit j = true
  | 0, _, h, _, _, _ => by omega
  | n + 1, b, h, hS, j, hj => by
    unfold orS
    by_cases hb : b = n
    · subst hb; rw [if_pos hS, Nat.testBit_or, hj, Bool.or_true]
    · have := orS_in S n b (by omega) hS j hj
      split
      · rw [Nat.testBit_or, this, Bool.true_or]
      · exact this
theorem orS_lt (S : Nat → Bool) (k : Nat) : ∀ n, n ≤ 2 ^ k → orS S n < 2 ^ k
  | 0, _ => by simp [orS]; exact Nat.two_pow_pos k
  | n + 1, h => by
    have := orS_lt S k n (by omega)
    unfold orS
    split
    · exact Nat.or_lt_two_pow this (by omega)
    · exact this
theorem subN_iff {a b : Nat} : subN a b = true ↔ ∀ j, a.testBit j = true → b.testBit j = true := by
  unfold subN
  rw [decide_eq_true_iff]
  constructor
  · intro h j hj; rw [← h, Nat.testBit_and, Bool.and_eq_true] at hj; exact hj.2
  · intro h
    refine Nat.eq_of_testBit_eq fun j => ?_
    rw [Nat.testBit_and]
    by_cases hj : a.testBit j = true
    · rw [hj, h j hj]; rfl
    · simp only [Bool.not_eq_true] at hj; rw [hj]; rfl
theorem subN_pow (j b : Nat) : subN (2 ^ j) b = b.testBit j := by
  rw [Bool.eq_iff_iff, subN_iff]
  constructor
  · intro h; exact h j (by rw [Nat.testBit_two_pow]; simp)
  · intro h i hi; rw [Nat.testBit_two_pow] at hi; simp at hi; rw [← hi]; exact h
/-- xs is a chance that gives each set at least what ys believes: then it is a specialization of ys -/
theorem hall_chance {k : Nat} {xs ys : List Int} {wm wn : Int} (hm : 0 ≤ wm) (hn : 0 ≤ wn) (hx : ∀ j, j < 2 ^ k → 0 ≤ nth xs j) (hy : ∀ j, j < 2 ^ k → 0 ≤ nth ys j) (hc : ∀ a, a < 2 ^ k → nth xs a ≠ 0 → ∃ j, a = 2 ^ j)
    (h : ∀ a, a < 2 ^ k → wm * dot (pI fun b => subN b a) ys (2 ^ k) ≤ wn * dot (pI fun b => subN b a) xs (2 ^ k)) : HallD subN (2 ^ k) xs ys wm wn := by
  intro S T hcl
  have h1 := h (orS S (2 ^ k)) (orS_lt S k _ (Nat.le_refl _))
  have h2 : dot (pI S) ys (2 ^ k) ≤ dot (pI fun b => subN b (orS S (2 ^ k))) ys (2 ^ k) := dot_le _ _ _ _ hy fun b hb _ => pI_le fun e => subN_iff.2 fun j hj => orS_in S _ b hb e j hj
  have h3 : dot (pI fun b => subN b (orS S (2 ^ k))) xs (2 ^ k) ≤ dot (pI T) xs (2 ^ k) := dot_le _ _ _ _ hx fun a ha hne => pI_le fun e => by
    obtain ⟨j, rfl⟩ := hc a ha hne
    change subN (2 ^ j) (orS S (2 ^ k)) = true at e
    rw [subN_pow] at e
    obtain ⟨b, hb, hS, hbj⟩ := orS_bit S j _ e
    exact hcl b (2 ^ j) hb ha hS (by rw [subN_pow]; exact hbj)
  exact Int.le_trans (Int.mul_le_mul_of_nonneg_left h2 hm) (Int.le_trans h1 (Int.mul_le_mul_of_nonneg_left h3 hn))
theorem chance_of_hall {k : Nat} {xs ys : List Int} {wm wn : Int} (h : HallD subN (2 ^ k) xs ys wm wn) (a : Nat) : wm * dot (pI fun b => subN b a) ys (2 ^ k) ≤ wn * dot (pI fun b => subN b a) xs (2 ^ k) :=
  h _ _ fun b c _ _ h1 h2 => subN_iff.2 fun j hj => subN_iff.1 h1 j (subN_iff.1 h2 j hj)
/-- a search: gv who leads to a getter, gt which getter leads to a giver, qs the queue; X the pairs not yet looked at, Y the gifts not yet looked at -/
structure Bfs (N from_ : Nat) (fl : Nat → Nat → Int) (du : Nat → Int) (gv gt qs : List Int) (rk : Nat → Nat) (X Y : Nat → Nat → Prop) : Prop where
  lg : gv.length = N
  lt : gt.length = N
  way : Way subN N from_ fl (nth gv) (nth gt) rk
  gm : ∀ a, a < N → -1 ≤ nth gv a
  tm : ∀ b, b < N → -1 ≤ nth gt b
  tb : ∀ b, b < N → 0 ≤ nth gt b → nth gt b < N ∧ 0 ≤ nth gv (nth gt b).toNat ∧ 0 < fl b (nth gt b).toNat
  q : ∀ x, x ∈ qs → ∃ b : Nat, b < N ∧ x = (b : Int) ∧ (b = from_ ∨ 0 ≤ nth gt b)
  cl : ∀ b, b < N → (b = from_ ∨ 0 ≤ nth gt b) → (b : Int) ∈ qs ∨ ∀ a, a < N → subN a b = true → ¬ X b a → 0 ≤ nth gv a
  du : ∀ a, a < N → 0 ≤ nth gv a → du a ≤ 0
  bk : ∀ a, a < N → 0 ≤ nth gv a → ∀ b, b < N → 0 < fl b a → ¬ Y b a → (b = from_ ∨ 0 ≤ nth gt b)
def XF : Nat → Nat → Prop := fun _ _ => False
def XM (b0 k : Nat) : Nat → Nat → Prop := fun b a => b = b0 ∧ k ≤ a
def YM (a0 k : Nat) : Nat → Nat → Prop := fun b a => a = a0 ∧ k ≤ b
theorem Bfs.start {N from_ : Nat} (fl : Nat → Nat → Int) (du : Nat → Int) {gv gt : List Int} (h1 : gv.length = N) (h2 : gt.length = N) (e1 : ∀ k, k < N → nth gv k = -1) (e2 : ∀ k, k < N → nth gt k = -1) (hf : from_ < N) :
    Bfs N from_ fl du gv gt [(from_ : Int)] (fun _ => 0) XF XF :=
  ⟨h1, h2, Way.init _ _ _ _ _ _ e1, fun a ha => by rw [e1 a ha]; omega, fun a ha => by rw [e2 a ha]; omega, fun b hb h => by rw [e2 b hb] at h; omega, fun x hx => by simp at hx; exact ⟨from_, hf, hx, Or.inl rfl⟩,
    fun b hb h => by
      rcases h with h | h
      · subst h; exact Or.inl (by simp)
      · rw [e2 b hb] at h; omega, fun a ha h => by rw [e1 a ha] at h; omega, fun a ha h => by rw [e1 a ha] at h; omega⟩
theorem Bfs.pop {N from_ : Nat} {fl : Nat → Nat → Int} {du : Nat → Int} {gv gt qs : List Int} {rk : Nat → Nat} {x : Int} (h : Bfs N from_ fl du gv gt (x :: qs) rk XF XF) :
    ∃ b0 : Nat, b0 < N ∧ x = (b0 : Int) ∧ (b0 = from_ ∨ 0 ≤ nth gt b0) ∧ Bfs N from_ fl du gv gt qs rk (XM b0 0) XF := by
  obtain ⟨b0, h1, rfl, h3⟩ := h.q x (by simp)
  refine ⟨b0, h1, rfl, h3, h.lg, h.lt, h.way, h.gm, h.tm, h.tb, fun y hy => h.q y (List.mem_cons_of_mem _ hy), fun b hb hS => ?_, h.du, h.bk⟩
  by_cases e : b = b0
  · exact Or.inr fun a _ _ hx => absurd ⟨e, Nat.zero_le _⟩ hx
  · rcases h.cl b hb hS with h4 | h4
    · rcases List.mem_cons.1 h4 with h5 | h5
      · exact absurd (by omega) e
      · exact Or.inl h5
    · exact Or.inr fun a ha hs _ => h4 a ha hs id
theorem Bfs.skip {N from_ : Nat} {fl : Nat → Nat → Int} {du : Nat → Int} {gv gt qs : List Int} {rk : Nat → Nat} {b0 k : Nat} (h : Bfs N from_ fl du gv gt qs rk (XM b0 k) XF) (hk : subN k b0 = true → 0 ≤ nth gv k) : Bfs N from_ fl du gv gt qs rk (XM b0 (k + 1)) XF := by
  refine ⟨h.lg, h.lt, h.way, h.gm, h.tm, h.tb, h.q, fun b hb hS => ?_, h.du, h.bk⟩
  rcases h.cl b hb hS with h4 | h4
  · exact Or.inl h4
  · refine Or.inr fun a ha hs hx => ?_
    by_cases e : b = b0 ∧ a = k
    · rw [e.2]; rw [e.1, e.2] at hs; exact hk hs
    · exact h4 a ha hs fun hx2 => hx ⟨hx2.1, by have := hx2.2; have : a ≠ k := fun e2 => e ⟨hx2.1, e2⟩; omega⟩
theorem Bfs.pass {N from_ : Nat} {fl : Nat → Nat → Int} {du : Nat → Int} {gv gt qs : List Int} {rk : Nat → Nat} {b0 : Nat} (h : Bfs N from_ fl du gv gt qs rk (XM b0 N) XF) : Bfs N from_ fl du gv gt qs rk XF XF :=
  ⟨h.lg, h.lt, h.way, h.gm, h.tm, h.tb, h.q, fun b hb hS => (h.cl b hb hS).imp id fun h4 a ha hs _ => h4 a ha hs fun hx => by have := hx.2; omega, h.du, h.bk⟩
theorem Bfs.led {N from_ : Nat} {fl : Nat → Nat → Int} {du : Nat → Int} {gv gt qs : List Int} {rk : Nat → Nat} {b0 k : Nat} {X Y : Nat → Nat → Prop} (h : Bfs N from_ fl du gv gt qs rk X Y) (hb0 : b0 < N) (hS : b0 = from_ ∨ 0 ≤ nth gt b0) (hk : k < N) (h0 : nth gv k < 0) (hs : subN k b0 = true) :
    Way subN N from_ fl (nth (gv.set k (b0 : Int))) (nth gt) (fun j => if j = k then rk (nth gt b0).toNat + 1 else rk j) ∧ nth (gv.set k (b0 : Int)) k = b0 ∧ (∀ j, j ≠ k → nth (gv.set k (b0 : Int)) j = nth gv j) := by
  have e1 : nth (gv.set k (b0 : Int)) k = b0 := by rw [nth_set, if_pos ⟨rfl, by rw [h.lg]; exact hk⟩]
  have e2 : ∀ j, j ≠ k → nth (gv.set k (b0 : Int)) j = nth gv j := fun j hj => by rw [nth_set, if_neg fun e => hj e.1.symm]
  refine ⟨h.way.getter hk hb0 h0 hs (fun hne => ?_) e1 e2, e1, e2⟩
  rcases hS with hS | hS
  · exact absurd hS hne
  · obtain ⟨t1, t2, t3⟩ := h.tb b0 hb0 hS; exact ⟨hS, t1, t2, t3⟩
theorem Bfs.add {N from_ : Nat} {fl : Nat → Nat → Int} {du : Nat → Int} {gv gt qs : List Int} {rk : Nat → Nat} {b0 k : Nat} (h : Bfs N from_ fl du gv gt qs rk (XM b0 k) XF) (hb0 : b0 < N) (hS : b0 = from_ ∨ 0 ≤ nth gt b0) (hk : k < N) (h0 : nth gv k < 0) (hs : subN k b0 = true) (hd : du k ≤ 0) :
    Bfs N from_ fl du (gv.set k (b0 : Int)) gt qs (fun j => if j = k then rk (nth gt b0).toNat + 1 else rk j) (XM b0 (k + 1)) (YM k 0) := by
  obtain ⟨hw, e1, e2⟩ := h.led hb0 hS hk h0 hs
  have up : ∀ a, a < N → 0 ≤ nth gv a → 0 ≤ nth (gv.set k (b0 : Int)) a := fun a _ h1 => by
    by_cases e : a = k
    · rw [e, e1]; omega
    · rw [e2 a e]; exact h1
  refine ⟨by rw [List.length_set]; exact h.lg, h.lt, hw, fun a ha => ?_, h.tm, fun b hb ht => ?_, h.q, fun b hb hSb => ?_, fun a ha h1 => ?_, fun a ha h1 b hb hf hy => ?_⟩
  · by_cases e : a = k
    · rw [e, e1]; omega
    · rw [e2 a e]; exact h.gm a ha
  · obtain ⟨t1, t2, t3⟩ := h.tb b hb ht
    exact ⟨t1, up _ (by omega) t2, t3⟩
  · rcases h.cl b hb hSb with h4 | h4
    · exact Or.inl h4
    · refine Or.inr fun a ha hsub hx => ?_
      by_cases e : a = k
      · rw [e, e1]; omega
      · rw [e2 a e]; exact h4 a ha hsub fun hx2 => hx ⟨hx2.1, by have := hx2.2; omega⟩
  · by_cases e : a = k
    · rw [e]; exact hd
    · rw [e2 a e] at h1; exact h.du a ha h1
  · by_cases e : a = k
    · exact absurd ⟨e, Nat.zero_le _⟩ hy
    · rw [e2 a e] at h1; exact h.bk a ha h1 b hb hf id
theorem Bfs.bskip {N from_ : Nat} {fl : Nat → Nat → Int} {du : Nat → Int} {gv gt qs : List Int} {rk : Nat → Nat} {X : Nat → Nat → Prop} {a0 k : Nat} (h : Bfs N from_ fl du gv gt qs rk X (YM a0 k)) (hk : 0 < fl k a0 → k = from_ ∨ 0 ≤ nth gt k) : Bfs N from_ fl du gv gt qs rk X (YM a0 (k + 1)) := by
  refine ⟨h.lg, h.lt, h.way, h.gm, h.tm, h.tb, h.q, h.cl, h.du, fun a ha h1 b hb hf hy => ?_⟩
  by_cases e : a = a0 ∧ b = k
  · rw [e.2]; rw [e.1, e.2] at hf; exact hk hf
  · exact h.bk a ha h1 b hb hf fun hy2 => hy ⟨hy2.1, by have := hy2.2; have : b ≠ k := fun e2 => e ⟨hy2.1, e2⟩; omega⟩
theorem Bfs.bpass {N from_ : Nat} {fl : Nat → Nat → Int} {du : Nat → Int} {gv gt qs : List Int} {rk : Nat → Nat} {X : Nat → Nat → Prop} {a0 : Nat} (h : Bfs N from_ fl du gv gt qs rk X (YM a0 N)) : Bfs N from_ fl du gv gt qs rk X XF :=
  ⟨h.lg, h.lt, h.way, h.gm, h.tm, h.tb, h.q, h.cl, h.du, fun a ha h1 b hb hf _ => h.bk a ha h1 b hb hf fun hy => by have := hy.2; omega⟩
theorem Bfs.badd {N from_ : Nat} {fl : Nat → Nat → Int} {du : Nat → Int} {gv gt qs : List Int} {rk : Nat → Nat} {X : Nat → Nat → Prop} {a0 k : Nat} (h : Bfs N from_ fl du gv gt qs rk X (YM a0 k)) (hk : k < N) (ha0 : a0 < N) (hg0 : 0 ≤ nth gv a0) (h0 : nth gt k < 0) (hf : 0 < fl k a0) :
    Bfs N from_ fl du gv (gt.set k (a0 : Int)) (qs ++ [(k : Int)]) rk X (YM a0 (k + 1)) := by
  have e1 : nth (gt.set k (a0 : Int)) k = a0 := by rw [nth_set, if_pos ⟨rfl, by rw [h.lt]; exact hk⟩]
  have e2 : ∀ j, j ≠ k → nth (gt.set k (a0 : Int)) j = nth gt j := fun j hj => by rw [nth_set, if_neg fun e => hj e.1.symm]
  have up : ∀ b, 0 ≤ nth gt b → 0 ≤ nth (gt.set k (a0 : Int)) b := fun b h1 => by
    by_cases e : b = k
    · rw [e, e1]; omega
    · rw [e2 b e]; exact h1
  refine ⟨h.lg, by rw [List.length_set]; exact h.lt, h.way.giver h0 e2, h.gm, fun b hb => ?_, fun b hb ht => ?_, fun x hx => ?_, fun b hb hS => ?_, h.du, fun a ha h1 b hb hfb hy => ?_⟩
  · by_cases e : b = k
    · rw [e, e1]; omega
    · rw [e2 b e]; exact h.tm b hb
  · by_cases e : b = k
    · subst e; rw [e1]; simp; exact ⟨by omega, hg0, hf⟩
    · rw [e2 b e] at ht ⊢; exact h.tb b hb ht
  · rcases List.mem_append.1 hx with h1 | h1
    · obtain ⟨b, h2, h3, h4⟩ := h.q x h1
      exact ⟨b, h2, h3, h4.imp id (up b)⟩
    · simp at h1; exact ⟨k, hk, h1, Or.inr (by rw [e1]; omega)⟩
  · by_cases e : b = k
    · exact Or.inl (by rw [e]; simp)
    · rw [e2 b e] at hS
      exact (h.cl b hb hS).imp (fun h1 => List.mem_append_left _ h1) id
  · by_cases e : b = k
    · right; rw [e, e1]; omega
    · rw [e2 b e]
      refine h.bk a ha h1 b hb hfb fun hy2 => hy ⟨hy2.1, by have := hy2.2; omega⟩
/-- nothing more to look at: who is reached shows that no flow fills all -/
theorem Bfs.stuck {N from_ : Nat} {fl : Nat → Nat → Int} {L D lf du : Nat → Int} {gv gt : List Int} {rk : Nat → Nat} (h : Bfs N from_ fl du gv gt [] rk XF XF) (hF : Flow subN N L D fl lf du) (hf : from_ < N) (hl : 0 < lf from_) : ¬ Hall subN N L D := by
  refine Go.Proofs.YtefmlbahmakboaaGreatDoor.stuck hF (fun b => decide (b = from_ ∨ 0 ≤ nth gt b)) (fun a => decide (0 ≤ nth gv a)) (fun b a hb ha hS hs => ?_) (fun b a hb ha hT hfl => ?_) (fun a ha hT => ?_) hf (decide_eq_true (Or.inl rfl)) hl
  · rcases h.cl b hb (of_decide_eq_true hS) with h1 | h1
    · simp at h1
    · exact decide_eq_true (h1 a ha hs id)
  · exact decide_eq_true (h.bk a ha (of_decide_eq_true hT) b hb hfl id)
  · have := h.du a ha (of_decide_eq_true hT); have := hF.du0 a ha; omega
/-! how much there still is to do -/
/-- how many are not reached yet -/
def negs (l : List Int) : Nat := (l.filter fun x => decide (x < 0)).length
theorem negs_set : ∀ (l : List Int) (k : Nat) (v : Int), k < l.length → nth l k < 0 → 0 ≤ v → negs (l.set k v) + 1 = negs l
  | [], k, v, h, _, _ => by simp at h
  | x :: l, 0, v, _, h0, hv => by
    have hx : x < 0 := by simpa [nth] using h0
    simp [negs, hx, Int.not_lt.2 hv]
  | x :: l, k + 1, v, h, h0, hv => by
    have ih := negs_set l k v (by simpa using h) (by simpa [nth] using h0) hv
    unfold negs at ih ⊢
    rw [List.set_cons_succ, List.filter_cons, List.filter_cons]
    split
    · simp at ih ⊢; omega
    · exact ih
end Go.Proofs.YtefmlbahmakboaaGreatDoor
