/- Contracts of the laws' helpers: sizes and copies of arguments. What the laws' walks share. What the laws' walks share: one end for all orders of a region that copies several arguments. -/
import Derived.Test.YtchjnjmlambpjaaL1
set_option linter.unusedSimpArgs false
set_option linter.unusedVariables false
namespace Go.Proofs.Ytchjnjmlambpjaa
open Go.RowKit
/-- what a size leaves of a budget -/
def leaves (left : Int) (n : Nat) : Int := if left - (n : Int) < 0 then -1 else left - (n : Int)
theorem szIntS_any (ao : Option Addr) (n c : Nat) (left : Int) (w : World) (h0 : 0 ≤ left) (h1 : left ≤ 1000000000000) (hn : n ≤ 9223372036854775807) :
    Calls Try.prog 62 #[.slice ao n c, .int .i64 left] w fun e w' => e = .returned (.int .i64 (leaves left n)) ∧ w = w' := by
  by_cases h : left - (n : Int) < 0
  · have hl : leaves left n = -1 := by simp [leaves, h]
    have HL := hid hl; clear hl
    go_enter Try.func62, Try.ntmps62
    go_wp2
    go_ret
    exact ⟨by rw [HL.out]; rfl, rfl⟩
  · have hl : leaves left n = left - (n : Int) := by simp [leaves, h]
    have HL := hid hl; clear hl
    go_enter Try.func62, Try.ntmps62
    go_wp2
    go_ret
    exact ⟨by rw [HL.out]; rfl, rfl⟩
theorem szMass_any (s : Int) (ao : Option Addr) (n c : Nat) (left : Int) (w : World) (h0 : 0 ≤ left) (h1 : left ≤ 1000000000000) (hn : n ≤ 9223372036854775807) :
    Calls Try.prog 12 #[.agg #[.int .i64 s, .slice ao n c], .int .i64 left] w fun e w' => e = .returned (.int .i64 (leaves left n)) ∧ Below w.heap.size w w' := by
  by_cases h : left - (n : Int) < 0
  · have hl : leaves left n = -1 := by simp [leaves, h]
    go_enter Try.func12, Try.ntmps12
    go_wp2_with (go_at_call 62; refine (szIntS_any _ _ _ _ _ h0 h1 hn).mono ?_; rw [hl]; rintro e w1 ⟨rfl, rfl⟩)
    go_ret
    exact ⟨by rw [hl]; rfl, below_alloc w _⟩
  · have hl : leaves left n = left - (n : Int) := by simp [leaves, h]
    go_enter Try.func12, Try.ntmps12
    go_wp2_with (go_at_call 62; refine (szIntS_any _ _ _ _ _ h0 h1 hn).mono ?_; rw [hl]; rintro e w1 ⟨rfl, rfl⟩)
    go_ret
    exact ⟨by rw [hl]; rfl, below_alloc w _⟩
/-- copied up to i -/
def copied (xs : List Int) (i : Nat) : List Int := iter (fun j l => l.set j (nth xs j)) (List.replicate xs.length 0) i
theorem copied_len (xs : List Int) (i : Nat) : (copied xs i).length = xs.length := by
  induction i with
  | zero => simp [copied, iter]
  | succ i ih => simp only [copied, iter, List.length_set] at *; exact ih
theorem copied_nth (xs : List Int) (i j : Nat) (hj : j < xs.length) : nth (copied xs i) j = if j < i then nth xs j else 0 := by
  induction i with
  | zero => simp [copied, iter, nth_replicate]
  | succ i ih =>
    show nth ((copied xs i).set i (nth xs i)) j = _
    rw [nth_set, ih, copied_len]
    by_cases e : i = j
    · subst e; simp [hj]
    · rw [if_neg (by omega)]; by_cases h : j < i
      · rw [if_pos h, if_pos (by omega)]
      · rw [if_neg h, if_neg (by omega)]
theorem copied_all (xs : List Int) : copied xs xs.length = xs := by
  apply ext_nth
  · rw [copied_len]
  · intro j hj
    rw [copied_len] at hj
    rw [copied_nth _ _ _ hj, if_pos hj]
theorem toIntS_any (ao : Option Addr) (n c : Nat) (xs : List Int) (w : World) (hx : IntsAt w ao n xs) (hn : n ≤ 100000000) :
    Calls Try.prog 22 #[.slice ao n c] w fun e w' => ∃ v, e = .returned v ∧ Row w' w.heap.size v xs ∧ Below w.heap.size w w' := by
  have HLen := hid hx.len
  go_enter Try.func22, Try.ntmps22
  go_wp2_with (at_make; refine wpList_make_ints rfl _ _ rfl n _ _ rfl rfl rfl rfl (by omega) ?_; intro w2 hrow hb2 hz2)
  go_loopw [4] (fun i wr => ∃ k : Nat, k ≤ n ∧ i = .int .i64 k ∧ Row wr w.heap.size (.slice (some ⟨w.heap.size, 0, none⟩) n n) (copied xs k) ∧ Below w.heap.size w wr) (fun i _ => n - (intOf i).toNat)
  case atStart => exact ⟨0, by omega, rfl, by show Row _ _ _ (List.replicate xs.length 0); rw [HLen.out]; exact hrow, hb2⟩
  case round =>
    obtain ⟨k, hk, rfl, hr, hB⟩ := hrel
    by_cases hlt : k < n
    · obtain ⟨b, off, rfl, hbs, hbs', hck⟩ := hx.at hB hlt
      obtain ⟨hcr, hfr, _⟩ := hr.cellAt hlt
      have hk0 : (0 : Int) ≤ (k : Int) := by omega
      have hk1 : (k : Int) < (n : Int) := by omega
      go_wp2
      go_roundw
      case rel => first | exact ⟨k + 1, by omega, by go_num, (hr.store hlt _).1, hB.setCell (by simp) _⟩ | exact ⟨_, ⟨k + 1, by omega, by go_num, (hr.store hlt _).1, hB.setCell (by simp) _⟩, rfl⟩ | exact ⟨_, _, ⟨k + 1, by omega, by go_num, (hr.store hlt _).1, hB.setCell (by simp) _⟩, rfl, rfl⟩ | exact ⟨_, _, _, ⟨k + 1, by omega, by go_num, (hr.store hlt _).1, hB.setCell (by simp) _⟩, rfl, rfl, rfl⟩ | exact ⟨_, _, _, _, ⟨k + 1, by omega, by go_num, (hr.store hlt _).1, hB.setCell (by simp) _⟩, rfl, rfl, rfl, rfl⟩ | exact ⟨_, _, _, _, _, ⟨k + 1, by omega, by go_num, (hr.store hlt _).1, hB.setCell (by simp) _⟩, rfl, rfl, rfl, rfl, rfl⟩
      case measure => simp [intOf]; omega
    · have hkn : k = n := by omega
      have HK := hid hkn
      clear hkn
      go_wp2
      go_ret
      refine ⟨_, rfl, ?_, hB⟩
      have hc := copied_all xs
      rw [HLen.out, ← HK.out] at hc
      rw [← hc]; exact hr
theorem toMass_any (s : Int) (ao : Option Addr) (n c : Nat) (xs : List Int) (w : World) (hx : IntsAt w ao n xs) (hn : n ≤ 100000000) :
    Calls Try.prog 14 #[.agg #[.int .i64 s, .slice ao n c]] w fun e w' => ∃ v, e = .returned (.agg #[.int .i64 s, v]) ∧ Row w' w.heap.size v xs ∧ Below w.heap.size w w' := by
  go_enter Try.func14, Try.ntmps14
  go_wp2_with fail
  refine (toIntS_any _ _ _ _ _ (hx.below (by (repeat (first | exact Below.refl _ _ | assumption | refine Below.alloc ?_ (by simp <;> omega) _ | refine Below.setCell ?_ (by simp <;> omega) _ | refine Below.drew ?_ | refine below_drewN ?_)))) hn).mono ?_; rintro e w1 ⟨v, rfl, hr1, hb1⟩
  obtain ⟨ao1, n1, c1, rfl, hi1⟩ := hr1.ints
  obtain ⟨h10, h11, f20, f21⟩ := boxG (w.heap.size + 1 + 1) hb1 (by simp)
  have g10 := keep hb1 (a := ⟨w.heap.size + 1, 0, none⟩) (v := .int .i64 0) (by simp)
  have g11 := keep hb1 (a := ⟨w.heap.size + 1, 1, none⟩) (v := .slice none 0 0) (by simp)
  have e20 := keepF hb1 (a := ⟨w.heap.size + 1, 0, none⟩) (v := .int .i64 0) (by simp) (by simp)
  have e21 := keepF hb1 (a := ⟨w.heap.size + 1, 1, none⟩) (v := .slice none 0 0) (by simp) (by simp)
  have hB1 : Below w.heap.size w w1 := (((below_alloc w _).alloc (by simp) _).alloc (by simp <;> omega) _).trans (hb1.mono (by simp <;> omega))
  replace hr1 : Row w1 (w.heap.size + 1 + 1 + 1) (.slice ao1 n1 c1) xs := by simpa using hr1
  clear hb1
  go_wp2
  refine bodyPost_ret (v := .agg #[.int .i64 s, .slice ao1 n1 c1]) (by simp [results, Try.results14, go_sem, g10, g11]) rfl ⟨_, rfl, ?_, ?_⟩
  · exact (((hr1.setBelow (by simp; try omega) _).setBelow (by simp; try omega) _).setBelow (by simp; try omega) _).mono (by omega)
  · (repeat (first | exact Below.refl _ _ | assumption | refine Below.alloc ?_ (by simp <;> omega) _ | refine Below.setCell ?_ (by simp <;> omega) _ | refine Below.drew ?_ | refine below_drewN ?_))
theorem Row.apart {w w' : World} {base : Nat} {v u : Value} {xs : List Int} (h : Row w base v xs) (hg : w.grownBy w' u.ownBlock) (hne : ∀ b, v.ownBlock = some b → ∀ b2, u.ownBlock = some b2 → b ≠ b2) : Row w' base v xs := by
  refine h.grown hg ?_
  cases hv : v.ownBlock with
  | none => exact .inl rfl
  | some b => exact .inr fun e => hne b hv b e.symm rfl
/-- a region that draws its order, of five operations that yield, the third a value that may differ from order to order: one end for all orders -/
theorem wp_region_join {id : Nat} {ops : Array Oper} {a : Act} {w : World} {Q : Exit → Act → World → Prop} (d0 d1 d2 d3 d4 : Tmp) (x0 x1 : Value)
    (h : (Code.region id ops true).wp Try.prog (fun x a' w' => match x with | .normal => ∃ v, a' = (((((a.put (some d0) x0).put (some d1) x1).put (some d2) v).put (some d3) (.bool true)).put (some d4) (.bool false)) ∧ Below w.heap.size w w' | _ => False) a w)
    (hK : ∀ v w', Below w.heap.size w w' → Q .normal (((((a.put (some d0) x0).put (some d1) x1).put (some d2) v).put (some d3) (.bool true)).put (some d4) (.bool false)) w') : (Code.region id ops true).wp Try.prog Q a w :=
  Code.wp_mono (fun e a' w' h => by
    cases e with
    | normal => obtain ⟨v, rfl, hb⟩ := h; exact hK v w' hb
    | _ => exact h.elim) h
/-- a region that draws its order: one end for all orders, told by F -/
theorem wp_region_joinF {ι : Type} {id : Nat} {ops : Array Oper} {a : Act} {w : World} {Q : Exit → Act → World → Prop} (F : Act → ι → Act) (R : ι → World → Prop)
    (h : (Code.region id ops true).wp Try.prog (fun x a' w' => match x with | .normal => ∃ i, a' = F a i ∧ R i w' | _ => False) a w)
    (hK : ∀ i w', R i w' → Q .normal (F a i) w') : (Code.region id ops true).wp Try.prog Q a w :=
  Code.wp_mono (fun e a' w' h => by
    cases e with
    | normal => obtain ⟨i, rfl, hb⟩ := h; exact hK i w' hb
    | _ => exact h.elim) h
theorem Row.setOther {w : World} {base : Nat} {v : Value} {xs : List Int} (h : Row w base v xs) {a : Addr} (ha : v.ownBlock ≠ some a.block) (u : Value) : Row (w.setCell a u) base v xs :=
  ownsRow_setCell_other h (fun e => ha e) u
theorem heap_drew (w : World) : w.drew.heap.size = w.heap.size := rfl
theorem undrew {w w' : World} (h : Below w.drew.heap.size w.drew w') : Below w.heap.size w w' := chain (drew_below w) h
end Go.Proofs.Ytchjnjmlambpjaa
