/- Contracts that the laws by draws call: equality of masses, sure masses. Contracts that the laws by draws call: wholes, masses that are made. Contracts that the laws by draws call: equality of any two masses. -/
import Derived.Test.YtefmlbahmakboaaGreatDoorD4
import Derived.Test.YtefmlbahmakboaaGreatDoorW3
set_option linter.unusedSimpArgs false
set_option linter.unusedVariables false
namespace Go.Proofs.YtefmlbahmakboaaGreatDoor
open Go.RowKit
/-- are two lists the same? -/
def eqList (xs ys : List Int) : Bool := decide (xs = ys)
set_option maxHeartbeats 1000000 in
theorem weSame_eq (ao bo : Option Addr) (n m c d : Nat) (xs ys : List Int) (w : World) (hx : IntsAt w ao n xs) (hy : IntsAt w bo m ys) (he : xs = ys) :
    Calls Tryz.prog 41 #[.slice ao n c, .slice bo m d] w fun e w' => e = .returned (.bool true) ∧ Below w.heap.size w w' := by
  obtain rfl : n = m := by rw [← hx.len, ← hy.len, he]
  have hcap := hx.cap
  go_enter Tryz.func41, Tryz.ntmps41
  go_wp2
  go_loopw [5] (fun i wr => ∃ k : Nat, k ≤ n ∧ i = .int .i64 k ∧ Below w.heap.size w wr) (fun i _ => n - (intOf i).toNat)
  case atStart => exact ⟨0, by omega, rfl, Below.refl _ _⟩
  case round =>
    obtain ⟨k, hk, rfl, hB⟩ := hrel
    by_cases hlt : k < n
    · obtain ⟨b, off, rfl, hbs, hbs', hck⟩ := hx.at hB hlt
      obtain ⟨b2, off2, rfl, hbs2, hbs2', hck2⟩ := hy.at hB hlt
      rw [← he] at hck2
      have hlt1 : (k : Int) < (n : Int) := by omega
      have hk0 : (0 : Int) ≤ (k : Int) := by omega
      go_wp2
      refine wp_region_ov (by kernel_rfl) (by kernel_rfl) ?_
      repeat (first | go_big_quiet_step ((fail)) | quiet_step ((fail)))
      refine wpQuiet_nil ?_
      intro _ hw_ov
      obtain ⟨x_ov, hw_ov2⟩ := hw_ov
      subst hw_ov2
      obtain ⟨w3, hw_ov3, hb3⟩ := ov_gen _ x_ov
      rw [hw_ov3]
      clear hw_ov3 x_ov
      have HB3 := hid (chain hB hb3)
      clear hb3
      go_wp2
      go_roundw
      case rel => first | exact ⟨k + 1, by omega, by go_num, HB3.out⟩ | exact ⟨_, ⟨k + 1, by omega, by go_num, HB3.out⟩, rfl⟩ | exact ⟨_, _, ⟨k + 1, by omega, by go_num, HB3.out⟩, rfl, rfl⟩ | exact ⟨_, _, _, ⟨k + 1, by omega, by go_num, HB3.out⟩, rfl, rfl, rfl⟩ | exact ⟨_, _, _, _, ⟨k + 1, by omega, by go_num, HB3.out⟩, rfl, rfl, rfl, rfl⟩ | exact ⟨_, _, _, _, _, ⟨k + 1, by omega, by go_num, HB3.out⟩, rfl, rfl, rfl, rfl, rfl⟩
      case measure => simp [intOf]; omega
    · have hkn : k = n := by omega
      subst hkn
      go_wp2
      go_ret
      exact ⟨rfl, hB⟩
theorem weEqual_eq (s t : Int) (ao bo : Option Addr) (n m c d : Nat) (xs ys : List Int) (w : World) (hx : IntsAt w ao n xs) (hy : IntsAt w bo m ys) (hs : s = t) (he : xs = ys) :
    Calls Tryz.prog 8 #[.agg #[.int .i64 s, .slice ao n c], .agg #[.int .i64 t, .slice bo m d]] w fun e w' => e = .returned (.bool true) ∧ Below w.heap.size w w' := by
  have HE := hid he
  clear he
  subst hs
  go_enter Tryz.func8, Tryz.ntmps8
  go_wp2_with fail
  refine (weSame_eq _ _ _ _ _ _ xs ys _ (hx.below (by (repeat (first | exact Below.refl _ _ | assumption | refine Below.alloc ?_ (by first | omega | (simp <;> omega)) _ | refine Below.setCell ?_ (by first | omega | (simp <;> omega)) _ | refine Below.drew ?_ | refine below_drewN ?_)))) (hy.below (by (repeat (first | exact Below.refl _ _ | assumption | refine Below.alloc ?_ (by first | omega | (simp <;> omega)) _ | refine Below.setCell ?_ (by first | omega | (simp <;> omega)) _ | refine Below.drew ?_ | refine below_drewN ?_)))) HE.out).mono ?_; rintro e w1 ⟨rfl, hb1⟩
  go_wp2
  go_ret
  exact ⟨rfl, Below.trans (by (repeat (first | exact Below.refl _ _ | assumption | refine Below.alloc ?_ (by first | omega | (simp <;> omega)) _ | refine Below.setCell ?_ (by first | omega | (simp <;> omega)) _ | refine Below.drew ?_ | refine below_drewN ?_))) (hb1.mono (by simp <;> omega))⟩
set_option maxHeartbeats 400000 in
theorem sureMass_any (s : Int) (a : Nat) (w : World) (hs : okSize s = true) (ha : a < nsets s) :
    Calls Tryz.prog 56 #[.int .i64 s, .int .i64 a] w fun e w' => (∃ v, e = .returned (.agg #[.int .i64 s, v]) ∧ Row w' w.heap.size v (sureP s a)) ∧ Below w.heap.size w w' := by
  have hs0 : 1 ≤ s ∧ s ≤ 4 := by rcases okSize_iff.1 hs with h | h | h | h <;> omega
  have hsh := shl_size hs
  have hsn := nsets_le hs
  go_enter Tryz.func56, Tryz.ntmps56
  go_wp2_with (at_make; refine wpList_make_intsG (w.heap.size + 1) (by simp) rfl _ _ rfl (nsets s) _ _ rfl rfl hsh hsh (by omega) ?_; intro w1 hrow hb hz; (have c0 := (hrow.cellAt ha).1); (have d0 := (hrow.cellAt ha).2.1); obtain ⟨h10, h11, f20, f21, hB1⟩ := box2f hb; (have hlt : w.heap.size < w1.heap.size := by omega))
  obtain ⟨w4, hw4, hr4, hg4⟩ := store_gen hrow ha 1
  rw [hw4]
  replace f20 := keepGF hg4 h10 (by omega) f20
  replace f21 := keepGF hg4 h11 (by omega) f21
  replace h10 := keepG hg4 h10 (by omega)
  replace h11 := keepG hg4 h11 (by omega)
  have hlt4 : w.heap.size < w4.heap.size := Nat.lt_of_lt_of_le hlt hg4.size
  have hB4 := belowG hB1 hB1.size hg4 (by omega)
  clear hw4 hg4 hrow c0 d0 hB1 hb hlt
  refine bodyPost_ret (v := .agg #[.int .i64 s, .slice (some ⟨w.heap.size + 1, 0, none⟩) (nsets s) (nsets s)]) (by simp [results, Tryz.results56, go_sem, h10, h11, f20, f21, hlt4, World.cell?_alloc_lt]) rfl ⟨⟨_, rfl, ?_⟩, ?_⟩
  · refine Row.mono (base := w.heap.size + 1) ?_ (by omega)
    show Row _ _ _ ((List.replicate (nsets s) 0).set a 1)
    (repeat (first | exact hr4 | (refine Row.setBelow ?_ ?_ _; rotate_left; focus (first | (omega) | (simp; done) | (simp; omega))) | (refine Row.setOther ?_ ?_ _; rotate_left; focus (intro h_own; have h_own2 := own_eq h_own; first | (omega) | (simp at h_own2; omega))) | refine Row.below ?_ (below_alloc _ _)))
  · (repeat (first | exact Below.refl _ _ | assumption | refine Below.alloc ?_ (by first | omega | (simp <;> omega)) _ | refine Below.setCell ?_ (by first | omega | (simp <;> omega)) _ | refine Below.drew ?_ | refine below_drewN ?_))
/-- the mass that is sure of a set -/
def sureM (s a : Int) : MR := if setOk s a then ⟨s, sureP s a.toNat, true⟩ else MR.no
def wholeM (s : Int) (xs : List Int) : Int := if massOk s xs then isum xs else -1
theorem eqList_at {xs ys : List Int} {k : Nat} (h1 : k < xs.length) (h2 : nth xs k ≠ nth ys k) : eqList xs ys = false := by
  unfold eqList; rw [decide_eq_false_iff_not]; rintro rfl; exact h2 rfl
theorem eqList_len {xs ys : List Int} (h : xs.length ≠ ys.length) : eqList xs ys = false := by
  unfold eqList; rw [decide_eq_false_iff_not]; rintro rfl; exact h rfl
theorem eqList_same (xs : List Int) : eqList xs xs = true := by unfold eqList; exact decide_eq_true rfl
theorem ne_at {xs ys : List Int} (hl : xs.length = ys.length) (h : xs ≠ ys) : ∃ k, k < xs.length ∧ nth xs k ≠ nth ys k := by
  refine Classical.byContradiction fun hc => h (ext_nth xs ys hl fun k hk => ?_)
  refine Classical.byContradiction fun h2 => hc ⟨k, hk, h2⟩
set_option maxHeartbeats 2000000 in
theorem weSame_any (ao bo : Option Addr) (n m c d : Nat) (xs ys : List Int) (w : World) (hx : IntsAt w ao n xs) (hy : IntsAt w bo m ys) :
    Calls Tryz.prog 41 #[.slice ao n c, .slice bo m d] w fun e w' => e = .returned (.bool (eqList xs ys)) ∧ Below w.heap.size w w' := by
  by_cases he : xs = ys
  · rw [he, eqList_same]
    exact weSame_eq ao bo n m c d xs ys w hx hy he
  · have hcap := hx.cap
    have hcap2 := hy.cap
    have HLx := hid hx.len
    have HLy := hid hy.len
    by_cases hd : ∃ k, k < n ∧ k < m ∧ nth xs k ≠ nth ys k
    · obtain ⟨k0, hk1, hk2, hk3⟩ := hd
      have HR : Hid (eqList xs ys = false) := eqList_at (by rw [HLx.out]; exact hk1) hk3
      rw [HR.out]
      have HK := hid hk3
      clear hk3 he
      go_enter Tryz.func41, Tryz.ntmps41
      go_wp2
      go_loopw [5] (fun i wr => ∃ k : Nat, k ≤ k0 ∧ i = .int .i64 k ∧ Below w.heap.size w wr) (fun i _ => n - (intOf i).toNat)
      case atStart => exact ⟨0, by omega, rfl, Below.refl _ _⟩
      case round =>
        obtain ⟨k, hk, rfl, hB⟩ := hrel
        have hkn : k < n := by omega
        have hkm : k < m := by omega
        obtain ⟨b, off, rfl, hbs, hbs', hck⟩ := hx.at hB hkn
        obtain ⟨b2, off2, rfl, hbs2, hbs2', hck2⟩ := hy.at hB hkm
        have hlt1 : (k : Int) < (n : Int) := by omega
        have hlt2 : (k : Int) < (m : Int) := by omega
        have hk0 : (0 : Int) ≤ (k : Int) := by omega
        by_cases hs : nth xs k = nth ys k
        · have hkk : k ≠ k0 := by rintro rfl; exact HK.out hs
          have HS := hid hs
          rw [← hs] at hck2
          clear hs
          go_wp2
          refine wp_region_ov (by kernel_rfl) (by kernel_rfl) ?_
          repeat (first | go_big_quiet_step ((fail)) | quiet_step ((fail)))
          refine wpQuiet_nil ?_
          intro _ hw_ov
          obtain ⟨x_ov, hw_ov2⟩ := hw_ov
          subst hw_ov2
          obtain ⟨w3, hw_ov3, hb3⟩ := ov_gen _ x_ov
          rw [hw_ov3]
          clear hw_ov3 x_ov
          have HB3 := hid (chain hB hb3)
          clear hb3
          go_wp2
          go_roundw
          case rel => first | exact ⟨k + 1, by omega, by go_num, HB3.out⟩ | exact ⟨_, ⟨k + 1, by omega, by go_num, HB3.out⟩, rfl⟩ | exact ⟨_, _, ⟨k + 1, by omega, by go_num, HB3.out⟩, rfl, rfl⟩ | exact ⟨_, _, _, ⟨k + 1, by omega, by go_num, HB3.out⟩, rfl, rfl, rfl⟩ | exact ⟨_, _, _, _, ⟨k + 1, by omega, by go_num, HB3.out⟩, rfl, rfl, rfl, rfl⟩ | exact ⟨_, _, _, _, _, ⟨k + 1, by omega, by go_num, HB3.out⟩, rfl, rfl, rfl, rfl, rfl⟩
          case measure => simp [intOf]; omega
        · have hne : (nth xs k != nth ys k) = true := by simpa using hs
          have hne2 : (nth xs k == nth ys k) = false := by simpa using hs
          go_wp2
          refine wp_region_ov (by kernel_rfl) (by kernel_rfl) ?_
          repeat (first | go_big_quiet_step ((fail)) | quiet_step ((fail)))
          refine wpQuiet_nil ?_
          intro _ hw_ov
          obtain ⟨x_ov, hw_ov2⟩ := hw_ov
          subst hw_ov2
          obtain ⟨w3, hw_ov3, hb3⟩ := ov_gen _ x_ov
          rw [hw_ov3]
          clear hw_ov3 x_ov
          have HB3 := hid (chain hB hb3)
          clear hb3
          go_wp2
          go_ret
          exact ⟨rfl, HB3.out⟩
    · have hnm : n ≠ m := by
        intro e
        obtain ⟨k, h1, h2⟩ := ne_at (by rw [HLx.out, HLy.out]; exact e) he
        exact hd ⟨k, by rw [← HLx.out]; exact h1, by rw [← e, ← HLx.out]; exact h1, h2⟩
      have HA : Hid (∀ k, k < n → k < m → nth xs k = nth ys k) := fun k h1 h2 => Classical.byContradiction fun h3 => hd ⟨k, h1, h2, h3⟩
      have HR : Hid (eqList xs ys = false) := eqList_len (by rw [HLx.out, HLy.out]; exact hnm)
      rw [HR.out]
      have hq : ((n : Int) == (m : Int)) = false := by simpa using (show ¬ (n : Int) = (m : Int) by omega)
      clear hd he
      go_enter Tryz.func41, Tryz.ntmps41
      go_wp2
      go_loopw [5] (fun i wr => ∃ k : Nat, k ≤ n ∧ k ≤ m ∧ i = .int .i64 k ∧ Below w.heap.size w wr) (fun i _ => n - (intOf i).toNat)
      case atStart => exact ⟨0, by omega, by omega, rfl, Below.refl _ _⟩
      case round =>
        obtain ⟨k, hk, hkm, rfl, hB⟩ := hrel
        by_cases h1 : k < n
        · have hlt1 : (k : Int) < (n : Int) := by omega
          by_cases h2 : k < m
          · obtain ⟨b, off, rfl, hbs, hbs', hck⟩ := hx.at hB h1
            obtain ⟨b2, off2, rfl, hbs2, hbs2', hck2⟩ := hy.at hB h2
            rw [← HA.out k h1 h2] at hck2
            have hlt2 : (k : Int) < (m : Int) := by omega
            have hk0 : (0 : Int) ≤ (k : Int) := by omega
            go_wp2
            refine wp_region_ov (by kernel_rfl) (by kernel_rfl) ?_
            repeat (first | go_big_quiet_step ((fail)) | quiet_step ((fail)))
            refine wpQuiet_nil ?_
            intro _ hw_ov
            obtain ⟨x_ov, hw_ov2⟩ := hw_ov
            subst hw_ov2
            obtain ⟨w3, hw_ov3, hb3⟩ := ov_gen _ x_ov
            rw [hw_ov3]
            clear hw_ov3 x_ov
            have HB3 := hid (chain hB hb3)
            clear hb3
            go_wp2
            go_roundw
            case rel => first | exact ⟨k + 1, by omega, by omega, by go_num, HB3.out⟩ | exact ⟨_, ⟨k + 1, by omega, by omega, by go_num, HB3.out⟩, rfl⟩ | exact ⟨_, _, ⟨k + 1, by omega, by omega, by go_num, HB3.out⟩, rfl, rfl⟩ | exact ⟨_, _, _, ⟨k + 1, by omega, by omega, by go_num, HB3.out⟩, rfl, rfl, rfl⟩ | exact ⟨_, _, _, _, ⟨k + 1, by omega, by omega, by go_num, HB3.out⟩, rfl, rfl, rfl, rfl⟩ | exact ⟨_, _, _, _, _, ⟨k + 1, by omega, by omega, by go_num, HB3.out⟩, rfl, rfl, rfl, rfl, rfl⟩
            case measure => simp [intOf]; omega
          · have hge : (m : Int) ≤ (k : Int) := by omega
            go_wp2
            go_ret
            exact ⟨rfl, hB⟩
        · have hge : (n : Int) ≤ (k : Int) := by omega
          go_wp2
          go_ret
          exact ⟨rfl, hB⟩
/-- are two masses the same? -/
def eqMM (s t : Int) (xs ys : List Int) : Bool := decide (s = t) && eqList xs ys
theorem weEqual_any (s t : Int) (ao bo : Option Addr) (n m c d : Nat) (xs ys : List Int) (w : World) (hx : IntsAt w ao n xs) (hy : IntsAt w bo m ys) :
    Calls Tryz.prog 8 #[.agg #[.int .i64 s, .slice ao n c], .agg #[.int .i64 t, .slice bo m d]] w fun e w' => e = .returned (.bool (eqMM s t xs ys)) ∧ Below w.heap.size w w' := by
  by_cases hs : s = t
  · have HR : Hid (eqMM s t xs ys = eqList xs ys) := by show eqMM s t xs ys = _; unfold eqMM; rw [decide_eq_true hs, Bool.true_and]
    rw [HR.out]
    subst hs
    go_enter Tryz.func8, Tryz.ntmps8
    go_wp2_with fail
    refine (weSame_any _ _ _ _ _ _ xs ys _ (hx.below (by (repeat (first | exact Below.refl _ _ | assumption | refine Below.alloc ?_ (by first | omega | (simp <;> omega)) _ | refine Below.setCell ?_ (by first | omega | (simp <;> omega)) _ | refine Below.drew ?_ | refine below_drewN ?_)))) (hy.below (by (repeat (first | exact Below.refl _ _ | assumption | refine Below.alloc ?_ (by first | omega | (simp <;> omega)) _ | refine Below.setCell ?_ (by first | omega | (simp <;> omega)) _ | refine Below.drew ?_ | refine below_drewN ?_))))).mono ?_; rintro e w1 ⟨rfl, hb1⟩
    go_wp2
    go_ret
    exact ⟨rfl, Below.trans (by (repeat (first | exact Below.refl _ _ | assumption | refine Below.alloc ?_ (by first | omega | (simp <;> omega)) _ | refine Below.setCell ?_ (by first | omega | (simp <;> omega)) _ | refine Below.drew ?_ | refine below_drewN ?_))) (hb1.mono (by simp <;> omega))⟩
  · have HR : Hid (eqMM s t xs ys = false) := by show eqMM s t xs ys = _; unfold eqMM; rw [decide_eq_false hs, Bool.false_and]
    rw [HR.out]
    have hq : (s == t) = false := by simpa using hs
    go_enter Tryz.func8, Tryz.ntmps8
    go_wp2
    go_ret
    exact ⟨rfl, by (repeat (first | exact Below.refl _ _ | assumption | refine Below.alloc ?_ (by first | omega | (simp <;> omega)) _ | refine Below.setCell ?_ (by first | omega | (simp <;> omega)) _ | refine Below.drew ?_ | refine below_drewN ?_))⟩
end Go.Proofs.YtefmlbahmakboaaGreatDoor
