/- Orders of a question's answers: isOrder, l1Moves; masses moved along an order. -/
import Derived.Test.YtefmlbahmakboaaGreatDoorS2
set_option linter.unusedSimpArgs false
set_option linter.unusedVariables false
namespace Go.Proofs.YtefmlbahmakboaaGreatDoor
open Go.RowKit
/-- the set of the first k numbers of a list -/
def seenTo (xs : List Int) (k : Nat) : Nat := iter (fun j out => out ||| 2 ^ (nth xs j).toNat) 0 k
def ordI (s : Int) (xs : List Int) : Bool := allN (fun k => inB 0 (s - 1) (nth xs k)) xs.length && (((xs.length : Int) == s) && ((seenTo xs xs.length : Int) == (nsets s : Int) - 1))
def ordNew (s : Int) (xs : List Int) (k : Nat) : Bool := inB 0 (s - 1) (nth xs k) && !(hasB (seenTo xs k) (nth xs k).toNat)
def ordS (s : Int) (xs : List Int) : Bool := allN (ordNew s xs) xs.length && ((xs.length : Int) == s)
theorem seenTo_lt (xs : List Int) (M n : Nat) (h : ∀ x, x < n → 0 ≤ nth xs x ∧ nth xs x < M) (k : Nat) (hk : k ≤ n) : seenTo xs k < 2 ^ M := by
  induction k with
  | zero => exact Nat.two_pow_pos M
  | succ k ih =>
    have h1 := ih (by omega)
    have h2 := h k (by omega)
    exact Nat.or_lt_two_pow h1 (Nat.pow_lt_pow_right (by decide) (by omega))
theorem ord1 : ∀ a : Fin 1, ordI 1 [(a.val : Int)] = ordS 1 [(a.val : Int)] ∧ (ordS 1 [(a.val : Int)] = true → (∀ x y : Fin 2, imgTo x.val [(a.val : Int)] 1 = imgTo y.val [(a.val : Int)] 1 → x = y) ∧ ∀ y : Fin 2, (List.range 2).any (fun x => imgTo x [(a.val : Int)] 1 == y.val) = true) := by decide +kernel
theorem ord2 : ∀ a b : Fin 2, ordI 2 [(a.val : Int), b.val] = ordS 2 [(a.val : Int), b.val] ∧ (ordS 2 [(a.val : Int), b.val] = true → (∀ x y : Fin 4, imgTo x.val [(a.val : Int), b.val] 2 = imgTo y.val [(a.val : Int), b.val] 2 → x = y) ∧ ∀ y : Fin 4, (List.range 4).any (fun x => imgTo x [(a.val : Int), b.val] 2 == y.val) = true) := by decide +kernel
theorem ord3 : ∀ a b c : Fin 3, ordI 3 [(a.val : Int), b.val, c.val] = ordS 3 [(a.val : Int), b.val, c.val] ∧ (ordS 3 [(a.val : Int), b.val, c.val] = true → (∀ x y : Fin 8, imgTo x.val [(a.val : Int), b.val, c.val] 3 = imgTo y.val [(a.val : Int), b.val, c.val] 3 → x = y) ∧ ∀ y : Fin 8, (List.range 8).any (fun x => imgTo x [(a.val : Int), b.val, c.val] 3 == y.val) = true) := by decide +kernel
theorem ord4 : ∀ a b c d : Fin 4, ordI 4 [(a.val : Int), b.val, c.val, d.val] = ordS 4 [(a.val : Int), b.val, c.val, d.val] ∧ (ordS 4 [(a.val : Int), b.val, c.val, d.val] = true → (∀ x y : Fin 16, imgTo x.val [(a.val : Int), b.val, c.val, d.val] 4 = imgTo y.val [(a.val : Int), b.val, c.val, d.val] 4 → x = y) ∧ ∀ y : Fin 16, (List.range 16).any (fun x => imgTo x [(a.val : Int), b.val, c.val, d.val] 4 == y.val) = true) := by decide +kernel
theorem fin_of {x : Int} {n : Nat} (h : 0 ≤ x ∧ x ≤ (n : Int) - 1) : ∃ a : Fin n, x = (a.val : Int) := ⟨⟨x.toNat, by omega⟩, by simp; omega⟩
theorem any_range {N : Nat} {p : Nat → Bool} (h : (List.range N).any p = true) : ∃ a, a < N ∧ p a = true := by
  obtain ⟨a, ha, hp⟩ := List.any_eq_true.1 h
  exact ⟨a, List.mem_range.1 ha, hp⟩
theorem ord_facts {s : Int} {xs : List Int} (hs : okSize s = true) : ordI s xs = ordS s xs ∧ (ordS s xs = true → (∀ x y, x < nsets s → y < nsets s → imgTo x xs xs.length = imgTo y xs xs.length → x = y) ∧ ∀ y, y < nsets s → ∃ x, x < nsets s ∧ imgTo x xs xs.length = y) := by
  cases ha : allN (fun k => inB 0 (s - 1) (nth xs k)) xs.length
  · have hb : allN (ordNew s xs) xs.length = false := by
      obtain ⟨k, hk, hbad⟩ := allN_ex ha
      exact allN_false hk (by show (inB 0 (s - 1) (nth xs k) && _) = false; rw [hbad]; rfl)
    have h1 : ordI s xs = false := by unfold ordI; rw [ha]; rfl
    have h2 : ordS s xs = false := by unfold ordS; rw [hb]; rfl
    rw [h1, h2]; exact ⟨rfl, fun h => by cases h⟩
  by_cases hl : (xs.length : Int) = s
  · have hr : ∀ k, k < xs.length → 0 ≤ nth xs k ∧ nth xs k ≤ s - 1 := fun k hk => inB_iff.1 ((allN_iff _ _).1 ha k hk)
    clear ha
    rcases okSize_iff.1 hs with rfl | rfl | rfl | rfl
    · match xs, hl, hr with
      | [a], _, hr =>
        obtain ⟨A, ea⟩ := fin_of (n := 1) (hr 0 (by simp)); change a = _ at ea
        subst ea
        refine ⟨(ord1 A).1, fun h => ⟨fun x y hx hy e => by have := ((ord1 A).2 h).1 ⟨x, hx⟩ ⟨y, hy⟩ e; exact congrArg Fin.val this, fun y hy => ?_⟩⟩
        obtain ⟨x, hx, e⟩ := any_range (((ord1 A).2 h).2 ⟨y, hy⟩)
        exact ⟨x, hx, by simpa using e⟩
    · match xs, hl, hr with
      | [a, b], _, hr =>
        obtain ⟨A, ea⟩ := fin_of (n := 2) (hr 0 (by simp)); change a = _ at ea
        obtain ⟨B, eb⟩ := fin_of (n := 2) (hr 1 (by simp)); change b = _ at eb
        subst ea eb
        refine ⟨(ord2 A B).1, fun h => ⟨fun x y hx hy e => by have := ((ord2 A B).2 h).1 ⟨x, hx⟩ ⟨y, hy⟩ e; exact congrArg Fin.val this, fun y hy => ?_⟩⟩
        obtain ⟨x, hx, e⟩ := any_range (((ord2 A B).2 h).2 ⟨y, hy⟩)
        exact ⟨x, hx, by simpa using e⟩
    · match xs, hl, hr with
      | [a, b, c], _, hr =>
        obtain ⟨A, ea⟩ := fin_of (n := 3) (hr 0 (by simp)); change a = _ at ea
        obtain ⟨B, eb⟩ := fin_of (n := 3) (hr 1 (by simp)); change b = _ at eb
        obtain ⟨C, ec⟩ := fin_of (n := 3) (hr 2 (by simp)); change c = _ at ec
        subst ea eb ec
        refine ⟨(ord3 A B C).1, fun h => ⟨fun x y hx hy e => by have := ((ord3 A B C).2 h).1 ⟨x, hx⟩ ⟨y, hy⟩ e; exact congrArg Fin.val this, fun y hy => ?_⟩⟩
        obtain ⟨x, hx, e⟩ := any_range (((ord3 A B C).2 h).2 ⟨y, hy⟩)
        exact ⟨x, hx, by simpa using e⟩
    · match xs, hl, hr with
      | [a, b, c, d], _, hr =>
        obtain ⟨A, ea⟩ := fin_of (n := 4) (hr 0 (by simp)); change a = _ at ea
        obtain ⟨B, eb⟩ := fin_of (n := 4) (hr 1 (by simp)); change b = _ at eb
        obtain ⟨C, ec⟩ := fin_of (n := 4) (hr 2 (by simp)); change c = _ at ec
        obtain ⟨D, ed⟩ := fin_of (n := 4) (hr 3 (by simp)); change d = _ at ed
        subst ea eb ec ed
        refine ⟨(ord4 A B C D).1, fun h => ⟨fun x y hx hy e => by have := ((ord4 A B C D).2 h).1 ⟨x, hx⟩ ⟨y, hy⟩ e; exact congrArg Fin.val this, fun y hy => ?_⟩⟩
        obtain ⟨x, hx, e⟩ := any_range (((ord4 A B C D).2 h).2 ⟨y, hy⟩)
        exact ⟨x, hx, by simpa using e⟩
  · have hl' : ((xs.length : Int) == s) = false := by simpa using hl
    have h1 : ordI s xs = false := by unfold ordI; rw [hl']; simp
    have h2 : ordS s xs = false := by unfold ordS; rw [hl']; simp
    rw [h1, h2]; exact ⟨rfl, fun h => by cases h⟩
/-- a mass whose answers are exchanged -/
def moveM (s : Int) (xs to : List Int) : MR := if massOk s xs && ordS s to then ⟨s, mapTo (fun a => imgTo a to to.length) xs (nsets s) xs.length, true⟩ else MR.no
theorem isumTo_set (l : List Int) (i : Nat) (v : Int) (n : Nat) (hn : n ≤ l.length) : isumTo (l.set i v) n = isumTo l n + (if i < n then v - nth l i else 0) := by
  induction n with
  | zero => simp [isumTo, iter]
  | succ n ih =>
    rw [isumTo_succ, isumTo_succ, ih (by omega), nth_set]
    by_cases h : i = n
    · subst h; simp; omega
    · by_cases h2 : i < n
      · rw [if_pos h2, if_neg (by omega), if_pos (by omega)]; omega
      · rw [if_neg h2, if_neg (by omega), if_neg (by omega)]; omega
theorem mapTo_sum (T : Nat → Nat) (xs : List Int) (N n : Nat) (hT : ∀ a, a < n → T a < N) (k : Nat) (hk : k ≤ n) : isum (mapTo T xs N k) = isumTo xs k := by
  have e : ∀ k, isum (mapTo T xs N k) = isumTo (mapTo T xs N k) N := fun k => by unfold isum; rw [mapTo_len]; rfl
  rw [e]
  induction k with
  | zero =>
    show isumTo (List.replicate N 0) N = 0
    have : ∀ m, isumTo (List.replicate N 0) m = 0 := fun m => by
      induction m with
      | zero => rfl
      | succ m ih => rw [isumTo_succ, ih, nth_replicate]; rfl
    exact this N
  | succ k ih =>
    show isumTo ((mapTo T xs N k).set (T k) (nth (mapTo T xs N k) (T k) + nth xs k)) N = _
    rw [isumTo_set _ _ _ _ (by rw [mapTo_len]; omega), ih (by omega), if_pos (hT k (by omega)), isumTo_succ]; omega
theorem mapTo_nth (T : Nat → Nat) (xs : List Int) (N n : Nat) (hT : ∀ a, a < n → T a < N) (hi : ∀ a b, a < n → b < n → T a = T b → a = b) (k : Nat) (hk : k ≤ n) (a : Nat) (ha : a < n) : nth (mapTo T xs N k) (T a) = if a < k then nth xs a else 0 := by
  induction k with
  | zero => show nth (List.replicate N 0) (T a) = _; rw [nth_replicate, if_neg (by omega)]
  | succ k ih =>
    show nth ((mapTo T xs N k).set (T k) (nth (mapTo T xs N k) (T k) + nth xs k)) (T a) = _
    rw [nth_set, mapTo_len]
    by_cases e : a = k
    · subst e
      rw [if_pos ⟨rfl, hT a ha⟩, ih (by omega), if_neg (by omega), if_pos (by omega)]; omega
    · rw [if_neg (fun h => e (hi k a (by omega) ha h.1).symm), ih (by omega)]
      by_cases h : a < k
      · rw [if_pos h, if_pos (by omega)]
      · rw [if_neg h, if_neg (by omega)]
theorem dvd_gcdTo (xs : List Int) (d : Int) (n : Nat) (h : ∀ k, k < n → d ∣ nth xs k) : d ∣ gcdTo xs n := by
  induction n with
  | zero => exact ⟨0, by simp [gcdTo, iter]⟩
  | succ n ih => rw [gcdTo_succ]; exact Int.dvd_coe_gcd (ih fun k hk => h k (by omega)) (h n (by omega))
theorem map_div_one (l : List Int) : l.map (· / 1) = l := by simp
/-- parts that were exchanged are those of a mass -/
theorem mapTo_massOk {s : Int} {xs : List Int} (hm : massOk s xs = true) (T : Nat → Nat) (hT : ∀ a, a < nsets s → T a < nsets s) (hi : ∀ a b, a < nsets s → b < nsets s → T a = T b → a = b) (hsurj : ∀ j, j < nsets s → ∃ a, a < nsets s ∧ T a = j) :
    massOk s (mapTo T xs (nsets s) xs.length) = true := by
  obtain ⟨h1, h2, h3, h4, h5, h6, h7⟩ := massOk_facts hm
  have hg : ∀ a, a < nsets s → nth (mapTo T xs (nsets s) xs.length) (T a) = nth xs a := fun a ha => by
    rw [mapTo_nth T xs (nsets s) (nsets s) hT hi _ (by omega) a ha, if_pos (by omega)]
  have hsum : isum (mapTo T xs (nsets s) xs.length) = isum xs := by rw [mapTo_sum T xs (nsets s) xs.length (fun a ha => hT a (by omega)) _ (Nat.le_refl _)]; rfl
  have hgcd : gcdL (mapTo T xs (nsets s) xs.length) = 1 := by
    have hd : gcdL (mapTo T xs (nsets s) xs.length) ∣ gcdL xs := by
      refine dvd_gcdTo xs _ _ fun k hk => ?_
      rw [← hg k (by omega)]
      exact gcdTo_dvd _ _ _ (by rw [mapTo_len]; exact hT k (by omega))
    rw [h7] at hd
    have h0 := gcdTo_nonneg (mapTo T xs (nsets s) xs.length) (mapTo T xs (nsets s) xs.length).length
    exact Int.eq_one_of_dvd_one h0 hd
  simp only [massOk, Bool.and_eq_true, beq_iff_eq]
  refine ⟨⟨⟨⟨h1, by rw [mapTo_len]⟩, (allN_iff _ _).2 fun k hk => ?_⟩, by rw [hsum]; exact inB_iff.2 ⟨h5, h6⟩⟩, hgcd⟩
  rw [mapTo_len] at hk
  obtain ⟨a, ha, rfl⟩ := hsurj k hk
  show inB 0 1000000 (nth _ (T a)) = true
  rw [hg a ha]
  exact inB_iff.2 (h4 a (by omega))
theorem mkMass_of_ok {s : Int} {xs : List Int} (hm : massOk s xs = true) : mkMass s xs = ⟨s, xs, true⟩ := by
  obtain ⟨h1, h2, h3, h4, h5, h6, h7⟩ := massOk_facts hm
  unfold mkMass
  rw [h7, map_div_one, if_neg (by decide), if_pos hm]
theorem imgTo_lt_nsets {s : Int} {to : List Int} (hs : okSize s = true) (ho : ordS s to = true) (a : Nat) : imgTo a to to.length < nsets s := by
  simp only [ordS, Bool.and_eq_true, beq_iff_eq] at ho
  refine imgTo_lt a to s.toNat to.length (fun x hx => ?_) _ (Nat.le_refl _)
  have := (allN_iff _ _).1 ho.1 x hx
  simp only [ordNew, Bool.and_eq_true] at this
  have h2 := inB_iff.1 this.1
  have := okSize_iff.1 hs
  omega
theorem moveM_eq {s : Int} {xs to : List Int} (hm : massOk s xs = true) (ho : ordS s to = true) : mkMass s (mapTo (fun a => imgTo a to to.length) xs (nsets s) xs.length) = moveM s xs to := by
  obtain ⟨h1, _⟩ := massOk_facts hm
  rw [mkMass_of_ok (mapTo_massOk hm _ (fun a _ => imgTo_lt_nsets h1 ho a) (fun a b ha hb => ((ord_facts h1).2 ho).1 a b ha hb) ((ord_facts h1).2 ho).2)]
  unfold moveM; rw [hm, ho]; rfl
end Go.Proofs.YtefmlbahmakboaaGreatDoor
