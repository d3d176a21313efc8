/- Gains and acts: isNormal, areGains, areActs, ActsValid. Gains and acts: areGains, areActs, ActsValid; spec: l10Gains, ActsValid. -/
import Derived.Test.YtnbjhmghobljaaaW3
set_option linter.unusedSimpArgs false
set_option linter.unusedVariables false
namespace Go.Proofs.Ytnbjhmghobljaaa
open Go.RowKit
def nthL (xss : List (List Int)) (k : Nat) : List Int := xss.getD k []
/-- a slice of slices that reads as lists of integers -/
structure RowsAt (w : World) (ao : Option Addr) (n : Nat) (xss : List (List Int)) : Prop where
  len : xss.length = n
  cap : n ≤ 9223372036854775807
  cell : 0 < n → ∃ b off, ao = some ⟨b, off, none⟩ ∧ b < w.heap.size ∧ ∀ k, k < n → ∃ a' n' c', w.cell? ⟨b, off + k, none⟩ = some (.slice a' n' c') ∧ IntsAt w a' n' (nthL xss k)
theorem RowsAt.below {w w' : World} {ao n xss} (h : RowsAt w ao n xss) (hb : Below w.heap.size w w') : RowsAt w' ao n xss := by
  refine ⟨h.len, h.cap, fun hn => ?_⟩
  obtain ⟨b, off, rfl, hbs, hc⟩ := h.cell hn
  refine ⟨b, off, rfl, Nat.lt_of_lt_of_le hbs hb.size, fun k hk => ?_⟩
  obtain ⟨a', n', c', h1, h2⟩ := hc k hk
  exact ⟨a', n', c', (hb.cell (p := ⟨b, off + k, none⟩) hbs).trans h1, h2.below hb⟩
theorem RowsAt.at {w w' : World} {ao n xss} (h : RowsAt w ao n xss) (hb : Below w.heap.size w w') {k : Nat} (hk : k < n) :
    ∃ b off a' n' c', ao = some ⟨b, off, none⟩ ∧ b < w.heap.size ∧ b < w'.heap.size ∧ w'.cell? ⟨b, off + k, none⟩ = some (.slice a' n' c') ∧ IntsAt w' a' n' (nthL xss k) := by
  obtain ⟨b, off, e, hbs, hc⟩ := (h.below hb).cell (by omega)
  obtain ⟨b', off', e', hbs', _⟩ := h.cell (by omega)
  rw [e] at e'
  injection e' with e'
  injection e' with e1 e2
  subst e1 e2
  obtain ⟨a', n', c', h1, h2⟩ := hc k hk
  exact ⟨b, off, a', n', c', e, hbs', hbs, h1, h2⟩
def normalOk (s : Int) (xs : List Int) : Bool := massOk s xs && (nth xs 0 == 0)
def gainOk (xs : List Int) (k : Nat) : Bool := inB (-1000) 1000 (nth xs k)
def gainsOk (s : Int) (xs : List Int) : Bool := ((xs.length : Int) == s) && allN (gainOk xs) xs.length
def actsOk (s : Int) (xs : List Int) (acts : List (List Int)) : Bool := normalOk s xs && (inB 1 8 (acts.length : Int) && allN (fun k => gainsOk s (nthL acts k)) acts.length)
theorem isNormal_any (s : Int) (ao : Option Addr) (n c : Nat) (xs : List Int) (w : World) (hx : IntsAt w ao n xs) :
    Calls Try.prog 34 #[.agg #[.int .i64 s, .slice ao n c]] w fun e w' => e = .returned (.bool (normalOk s xs)) ∧ Below w.heap.size w w' := by
  cases hm : massOk s xs
  · go_enter Try.func34, Try.ntmps34
    go_wp2_with fail
    refine (isMass_any _ _ _ _ _ _ (hx.below (below_alloc w _))).mono ?_; rw [hm]; rintro e w1 ⟨rfl, hb1⟩
    obtain ⟨h10, h11, hB1⟩ := box2 hb1
    clear hb1
    go_wp2
    go_ret
    exact ⟨ret_bool (by simp [normalOk, hm]), hB1⟩
  · have hn : 0 < n := by
      have h1 : xs.length = nsets s := by simp only [massOk, Bool.and_eq_true, beq_iff_eq] at hm; exact hm.1.1.1.2
      have h2 : okSize s = true := by simp only [massOk, Bool.and_eq_true, beq_iff_eq] at hm; exact hm.1.1.1.1
      have := nsets_le h2; have := hx.len; omega
    obtain ⟨b, off, rfl, hbs, hc⟩ := hx.cell hn
    have hc0 := hc 0 hn
    rw [Nat.add_zero] at hc0
    have hcap := hx.cap
    have hn0 : (0 : Int) < (n : Int) := by omega
    go_enter Try.func34, Try.ntmps34
    go_wp2_with fail
    refine (isMass_any _ _ _ _ _ _ (hx.below (below_alloc w _))).mono ?_; rw [hm]; rintro e w1 ⟨rfl, hb1⟩
    obtain ⟨h10, h11, hB1⟩ := box2 hb1
    replace hc0 := keep hB1 hc0
    clear hb1
    go_wp2
    go_ret
    exact ⟨ret_bool (by simp [normalOk, hm]), hB1⟩
theorem IsNormal_any (s : Int) (ao : Option Addr) (n c : Nat) (xs : List Int) (w : World) (hx : IntsAt w ao n xs) :
    Calls Try.prog 37 #[.agg #[.int .i64 s, .slice ao n c]] w fun e w' => e = .returned (.bool (normalOk s xs)) ∧ Below w.heap.size w w' := by
  cases hm : massOk s xs
  · go_enter Try.func37, Try.ntmps37
    go_wp2_with fail
    refine (MassValid_any _ _ _ _ _ _ (hx.below (below_alloc w _))).mono ?_; rw [hm]; rintro e w1 ⟨rfl, hb1⟩
    obtain ⟨h10, h11, hB1⟩ := box2 hb1
    clear hb1
    go_wp2
    go_ret
    exact ⟨ret_bool (by simp [normalOk, hm]), hB1⟩
  · have hn : 0 < n := by
      have h1 : xs.length = nsets s := by simp only [massOk, Bool.and_eq_true, beq_iff_eq] at hm; exact hm.1.1.1.2
      have h2 : okSize s = true := by simp only [massOk, Bool.and_eq_true, beq_iff_eq] at hm; exact hm.1.1.1.1
      have := nsets_le h2; have := hx.len; omega
    obtain ⟨b, off, rfl, hbs, hc⟩ := hx.cell hn
    have hc0 := hc 0 hn
    rw [Nat.add_zero] at hc0
    have hcap := hx.cap
    have hn0 : (0 : Int) < (n : Int) := by omega
    go_enter Try.func37, Try.ntmps37
    go_wp2_with fail
    refine (MassValid_any _ _ _ _ _ _ (hx.below (below_alloc w _))).mono ?_; rw [hm]; rintro e w1 ⟨rfl, hb1⟩
    obtain ⟨h10, h11, hB1⟩ := box2 hb1
    replace hc0 := keep hB1 hc0
    clear hb1
    go_wp2
    go_ret
    exact ⟨ret_bool (by simp [normalOk, hm]), hB1⟩
theorem allN_step (p : Nat → Bool) (k : Nat) : allN p (k + 1) = (allN p k && p k) := rfl
theorem RowsAt.vals {w : World} {ao n xss} (h : RowsAt w ao n xss) : ∃ vals : Nat → Value, ∀ k, k < n → (∃ b off, ao = some ⟨b, off, none⟩ ∧ b < w.heap.size ∧ w.cell? ⟨b, off + k, none⟩ = some (vals k)) ∧ ∃ a' n' c', vals k = .slice a' n' c' ∧ IntsAt w a' n' (nthL xss k) := by
  by_cases h0 : 0 < n
  · obtain ⟨b, off, e, hbs, hc⟩ := h.cell h0
    refine ⟨fun k => (w.cell? ⟨b, off + k, none⟩).getD undef, fun k hk => ?_⟩
    obtain ⟨a', n', c', h1, h2⟩ := hc k hk
    exact ⟨⟨b, off, e, hbs, by show w.cell? _ = some ((w.cell? ⟨b, off + k, none⟩).getD undef); rw [h1]; rfl⟩, a', n', c', by show (w.cell? ⟨b, off + k, none⟩).getD undef = _; rw [h1]; rfl, h2⟩
  · exact ⟨fun _ => undef, fun k hk => by omega⟩
end Go.Proofs.Ytnbjhmghobljaaa
