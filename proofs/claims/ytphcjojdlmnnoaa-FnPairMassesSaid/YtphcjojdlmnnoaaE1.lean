/- Contracts that the laws by draws call: equality of masses, sure masses. -/
import Derived.Test.YtphcjojdlmnnoaaD4
import Derived.Test.YtphcjojdlmnnoaaW3
set_option linter.unusedSimpArgs false
set_option linter.unusedVariables false
namespace Go.Proofs.Ytphcjojdlmnnoaa
open Go.RowKit
/-- are two lists the same? -/
def eqList (xs ys : List Int) : Bool := decide (xs = ys)
set_option maxHeartbeats 1000000 in
theorem weSame_eq (ao bo : Option Addr) (n m c d : Nat) (xs ys : List Int) (w : World) (hx : IntsAt w ao n xs) (hy : IntsAt w bo m ys) (he : xs = ys) :
    Calls Try.prog 46 #[.slice ao n c, .slice bo m d] w fun e w' => e = .returned (.bool true) ∧ Below w.heap.size w w' := by
  obtain rfl : n = m := by rw [← hx.len, ← hy.len, he]
  have hcap := hx.cap
  go_enter Try.func46, Try.ntmps46
  go_wp2
  go_loopw [5] (fun i wr => ∃ k : Nat, k ≤ n ∧ i = .int .i64 k ∧ Below w.heap.size w wr) (fun i _ => n - (intOf i).toNat)
  case atStart => exact ⟨0, by omega, rfl, Below.refl _ _⟩
  case round =>
    obtain ⟨k, hk, rfl, hB⟩ := hrel
    by_cases hlt : k < n
    · obtain ⟨b, off, rfl, hbs, hbs', hck⟩ := hx.at hB hlt
      obtain ⟨b2, off2, rfl, hbs2, hbs2', hck2⟩ := hy.at hB hlt
      rw [← he] at hck2
      have hlt1 : (k : Int) < (n : Int) := by omega
      have hk0 : (0 : Int) ≤ (k : Int) := by omega
      go_wp2
      refine wp_region_ov (by kernel_rfl) (by kernel_rfl) ?_
      repeat (first | go_big_quiet_step ((fail)) | quiet_step ((fail)))
      refine wpQuiet_nil ?_
      intro _ hw_ov
      obtain ⟨x_ov, hw_ov2⟩ := hw_ov
      subst hw_ov2
      obtain ⟨w3, hw_ov3, hb3⟩ := ov_gen _ x_ov
      rw [hw_ov3]
      clear hw_ov3 x_ov
      have HB3 := hid (chain hB hb3)
      clear hb3
      go_wp2
      go_roundw
      case rel => first | exact ⟨k + 1, by omega, by go_num, HB3.out⟩ | exact ⟨_, ⟨k + 1, by omega, by go_num, HB3.out⟩, rfl⟩ | exact ⟨_, _, ⟨k + 1, by omega, by go_num, HB3.out⟩, rfl, rfl⟩ | exact ⟨_, _, _, ⟨k + 1, by omega, by go_num, HB3.out⟩, rfl, rfl, rfl⟩ | exact ⟨_, _, _, _, ⟨k + 1, by omega, by go_num, HB3.out⟩, rfl, rfl, rfl, rfl⟩ | exact ⟨_, _, _, _, _, ⟨k + 1, by omega, by go_num, HB3.out⟩, rfl, rfl, rfl, rfl, rfl⟩
      case measure => simp [intOf]; omega
    · have hkn : k = n := by omega
      subst hkn
      go_wp2
      go_ret
      exact ⟨rfl, hB⟩
theorem weEqual_eq (s t : Int) (ao bo : Option Addr) (n m c d : Nat) (xs ys : List Int) (w : World) (hx : IntsAt w ao n xs) (hy : IntsAt w bo m ys) (hs : s = t) (he : xs = ys) :
    Calls Try.prog 11 #[.agg #[.int .i64 s, .slice ao n c], .agg #[.int .i64 t, .slice bo m d]] w fun e w' => e = .returned (.bool true) ∧ Below w.heap.size w w' := by
  have HE := hid he
  clear he
  subst hs
  go_enter Try.func11, Try.ntmps11
  go_wp2_with fail
  refine (weSame_eq _ _ _ _ _ _ xs ys _ (hx.below (by (repeat (first | exact Below.refl _ _ | assumption | refine Below.alloc ?_ (by first | omega | (simp <;> omega)) _ | refine Below.setCell ?_ (by first | omega | (simp <;> omega)) _ | refine Below.drew ?_ | refine below_drewN ?_)))) (hy.below (by (repeat (first | exact Below.refl _ _ | assumption | refine Below.alloc ?_ (by first | omega | (simp <;> omega)) _ | refine Below.setCell ?_ (by first | omega | (simp <;> omega)) _ | refine Below.drew ?_ | refine below_drewN ?_)))) HE.out).mono ?_; rintro e w1 ⟨rfl, hb1⟩
  go_wp2
  go_ret
  exact ⟨rfl, Below.trans (by (repeat (first | exact Below.refl _ _ | assumption | refine Below.alloc ?_ (by first | omega | (simp <;> omega)) _ | refine Below.setCell ?_ (by first | omega | (simp <;> omega)) _ | refine Below.drew ?_ | refine below_drewN ?_))) (hb1.mono (by simp <;> omega))⟩
set_option maxHeartbeats 400000 in
theorem sureMass_any (s : Int) (a : Nat) (w : World) (hs : okSize s = true) (ha : a < nsets s) :
    Calls Try.prog 49 #[.int .i64 s, .int .i64 a] w fun e w' => (∃ v, e = .returned (.agg #[.int .i64 s, v]) ∧ Row w' w.heap.size v (sureP s a)) ∧ Below w.heap.size w w' := by
  have hs0 : 1 ≤ s ∧ s ≤ 4 := by rcases okSize_iff.1 hs with h | h | h | h <;> omega
  have hsh := shl_size hs
  have hsn := nsets_le hs
  go_enter Try.func49, Try.ntmps49
  go_wp2_with (at_make; refine wpList_make_intsG (w.heap.size + 1) (by simp) rfl _ _ rfl (nsets s) _ _ rfl rfl hsh hsh (by omega) ?_; intro w1 hrow hb hz; (have c0 := (hrow.cellAt ha).1); (have d0 := (hrow.cellAt ha).2.1); obtain ⟨h10, h11, f20, f21, hB1⟩ := box2f hb; (have hlt : w.heap.size < w1.heap.size := by omega))
  obtain ⟨w4, hw4, hr4, hg4⟩ := store_gen hrow ha 1
  rw [hw4]
  replace f20 := keepGF hg4 h10 (by omega) f20
  replace f21 := keepGF hg4 h11 (by omega) f21
  replace h10 := keepG hg4 h10 (by omega)
  replace h11 := keepG hg4 h11 (by omega)
  have hlt4 : w.heap.size < w4.heap.size := Nat.lt_of_lt_of_le hlt hg4.size
  have hB4 := belowG hB1 hB1.size hg4 (by omega)
  clear hw4 hg4 hrow c0 d0 hB1 hb hlt
  refine bodyPost_ret (v := .agg #[.int .i64 s, .slice (some ⟨w.heap.size + 1, 0, none⟩) (nsets s) (nsets s)]) (by simp [results, Try.results49, go_sem, h10, h11, f20, f21, hlt4, World.cell?_alloc_lt]) rfl ⟨⟨_, rfl, ?_⟩, ?_⟩
  · refine Row.mono (base := w.heap.size + 1) ?_ (by omega)
    show Row _ _ _ ((List.replicate (nsets s) 0).set a 1)
    (repeat (first | exact hr4 | (refine Row.setBelow ?_ ?_ _; rotate_left; focus (first | (omega) | (simp; done) | (simp; omega))) | (refine Row.setOther ?_ ?_ _; rotate_left; focus (intro h_own; have h_own2 := own_eq h_own; first | (omega) | (simp at h_own2; omega))) | refine Row.below ?_ (below_alloc _ _)))
  · (repeat (first | exact Below.refl _ _ | assumption | refine Below.alloc ?_ (by first | omega | (simp <;> omega)) _ | refine Below.setCell ?_ (by first | omega | (simp <;> omega)) _ | refine Below.drew ?_ | refine below_drewN ?_))
/-- the mass that is sure of a set -/
def sureM (s a : Int) : MR := if setOk s a then ⟨s, sureP s a.toNat, true⟩ else MR.no
theorem SureMass_any (s a : Int) (w : World) :
    Calls Try.prog 12 #[.int .i64 s, .int .i64 a] w fun e w' => RetM (sureM s a) w.heap.size e w' ∧ Below w.heap.size w w' := by
  cases hs : okSize s
  · have HR : Hid (sureM s a = MR.no) := by show sureM s a = _; simp [sureM, setOk, hs]
    rw [HR.out]
    go_enter Try.func12, Try.ntmps12
    go_wp2_with (first | (go_at_call 47; refine (isSize_any _ _).mono ?_; rintro e w' ⟨rfl, rfl⟩))
    refine bodyPost_ret (v := .tuple #[.agg #[.int .i64 0, .slice none 0 0], .bool false]) (by simp [results, Try.results12, go_sem]) rfl ⟨?_, ?_⟩
    · exact RetM.no _ _
    · (repeat (first | exact Below.refl _ _ | assumption | refine Below.alloc ?_ (by first | omega | (simp <;> omega)) _ | refine Below.setCell ?_ (by first | omega | (simp <;> omega)) _ | refine Below.drew ?_ | refine below_drewN ?_))
  · cases ha : inB 0 ((nsets s : Int) - 1) a
    · have HR : Hid (sureM s a = MR.no) := by show sureM s a = _; simp [sureM, setOk, ha]
      rw [HR.out]
      go_enter Try.func12, Try.ntmps12
      go_wp2_with (first | (go_at_call 47; refine (isSize_any _ _).mono ?_; rintro e w' ⟨rfl, rfl⟩) | (go_at_call 48; refine (isSetOf_any _ _ _ hs).mono ?_; rintro e w' ⟨rfl, rfl⟩))
      refine bodyPost_ret (v := .tuple #[.agg #[.int .i64 0, .slice none 0 0], .bool false]) (by simp [results, Try.results12, go_sem]) rfl ⟨?_, ?_⟩
      · exact RetM.no _ _
      · (repeat (first | exact Below.refl _ _ | assumption | refine Below.alloc ?_ (by first | omega | (simp <;> omega)) _ | refine Below.setCell ?_ (by first | omega | (simp <;> omega)) _ | refine Below.drew ?_ | refine below_drewN ?_))
    · have h2 := inB_iff.1 ha
      obtain ⟨k, rfl⟩ : ∃ k : Nat, a = (k : Int) := ⟨a.toNat, by omega⟩
      have hk : k < nsets s := by omega
      have HR : Hid (sureM s k = ⟨s, sureP s k, true⟩) := by show sureM s k = _; simp [sureM, setOk, hs, ha]
      rw [HR.out]
      go_enter Try.func12, Try.ntmps12
      go_wp2_with (first | (go_at_call 47; refine (isSize_any _ _).mono ?_; rintro e w' ⟨rfl, rfl⟩) | (go_at_call 48; refine (isSetOf_any _ _ _ hs).mono ?_; rintro e w' ⟨rfl, rfl⟩))
      refine (sureMass_any s k _ hs hk).mono ?_; rintro e w1 ⟨⟨v, rfl, hr⟩, hb⟩
      obtain ⟨a1, n1, c1, rfl, hi⟩ := hr.ints
      obtain ⟨h10, h11, f20, f21, hB1⟩ := box2f hb
      clear hb
      go_wp2
      refine bodyPost_ret (v := .tuple #[.agg #[.int .i64 s, .slice a1 n1 c1], .bool true]) (by simp [results, Try.results12, go_sem, h10, h11, f20, f21]) rfl ⟨?_, ?_⟩
      · exact ⟨_, rfl, (((hr.mono (base' := w.heap.size + 1) (by simp)).setBelow (by simp) _).setBelow (by simp) _).mono (by omega)⟩
      · (repeat (first | exact Below.refl _ _ | assumption | refine Below.alloc ?_ (by first | omega | (simp <;> omega)) _ | refine Below.setCell ?_ (by first | omega | (simp <;> omega)) _ | refine Below.drew ?_ | refine below_drewN ?_))
theorem NoEvidence_any (s : Int) (w : World) :
    Calls Try.prog 15 #[.int .i64 s] w fun e w' => RetM (sureM s ((nsets s : Int) - 1)) w.heap.size e w' ∧ Below w.heap.size w w' := by
  cases hs : okSize s
  · have HR : Hid (sureM s ((nsets s : Int) - 1) = MR.no) := by show sureM s _ = _; simp [sureM, setOk, hs]
    rw [HR.out]
    go_enter Try.func15, Try.ntmps15
    go_wp2_with (first | (go_at_call 47; refine (isSize_any _ _).mono ?_; rintro e w' ⟨rfl, rfl⟩))
    refine bodyPost_ret (v := .tuple #[.agg #[.int .i64 0, .slice none 0 0], .bool false]) (by simp [results, Try.results15, go_sem]) rfl ⟨?_, ?_⟩
    · exact RetM.no _ _
    · (repeat (first | exact Below.refl _ _ | assumption | refine Below.alloc ?_ (by first | omega | (simp <;> omega)) _ | refine Below.setCell ?_ (by first | omega | (simp <;> omega)) _ | refine Below.drew ?_ | refine below_drewN ?_))
  · have hsn := nsets_le hs
    obtain ⟨k, hk, hkn⟩ : ∃ k : Nat, (nsets s : Int) - 1 = (k : Int) ∧ k < nsets s := ⟨nsets s - 1, by omega, by omega⟩
    have HR : Hid (sureM s ((nsets s : Int) - 1) = ⟨s, sureP s k, true⟩) := by
      show sureM s _ = _
      rw [hk]
      have : inB 0 ((nsets s : Int) - 1) k = true := inB_iff.2 (by omega)
      simp [sureM, setOk, hs, this]
    rw [HR.out]
    go_enter Try.func15, Try.ntmps15
    go_wp2_with (first | (go_at_call 47; refine (isSize_any _ _).mono ?_; rintro e w' ⟨rfl, rfl⟩) | (go_at_call 43; refine (fullSet_any _ _ hs).mono ?_; rintro e w' ⟨rfl, rfl⟩))
    refine (sureMass_any s k _ hs hkn).mono ?_; rintro e w1 ⟨⟨v, rfl, hr⟩, hb⟩
    obtain ⟨a1, n1, c1, rfl, hi⟩ := hr.ints
    obtain ⟨h10, h11, f20, f21, hB1⟩ := box2f hb
    clear hb
    go_wp2
    refine bodyPost_ret (v := .tuple #[.agg #[.int .i64 s, .slice a1 n1 c1], .bool true]) (by simp [results, Try.results15, go_sem, h10, h11, f20, f21]) rfl ⟨?_, ?_⟩
    · exact ⟨_, rfl, (((hr.mono (base' := w.heap.size + 1) (by simp)).setBelow (by simp) _).setBelow (by simp) _).mono (by omega)⟩
    · (repeat (first | exact Below.refl _ _ | assumption | refine Below.alloc ?_ (by first | omega | (simp <;> omega)) _ | refine Below.setCell ?_ (by first | omega | (simp <;> omega)) _ | refine Below.drew ?_ | refine below_drewN ?_))
end Go.Proofs.Ytphcjojdlmnnoaa
