/- Sets shared evenly: OnesCount, sharedPart, l4Even, l12Shared. -/
import Derived.Test.YtefmlbahmakboaaGreatDoorW13
set_option linter.unusedSimpArgs false
set_option linter.unusedVariables false
namespace Go.Proofs.YtefmlbahmakboaaGreatDoor
open Go.RowKit
theorem OnesCount64_any (a : Nat) (w : World) (ha : a < 16) :
    Calls Tryz.prog 182 #[.int .u64 a] w fun e w' => e = .returned (.int .i64 (cnt a)) ∧ w = w' := by
  have h : a = 0 ∨ a = 1 ∨ a = 2 ∨ a = 3 ∨ a = 4 ∨ a = 5 ∨ a = 6 ∨ a = 7 ∨ a = 8 ∨ a = 9 ∨ a = 10 ∨ a = 11 ∨ a = 12 ∨ a = 13 ∨ a = 14 ∨ a = 15 := by omega
  clear ha
  rcases h with rfl | rfl | rfl | rfl | rfl | rfl | rfl | rfl | rfl | rfl | rfl | rfl | rfl | rfl | rfl | rfl
  all_goals
    go_enter Tryz.func182, Tryz.ntmps182
    go_wp2
    go_ret
    exact ⟨ret_int (by decide +kernel), rfl⟩
theorem OnesCount_any (a : Nat) (w : World) (ha : a < 16) :
    Calls Tryz.prog 120 #[.int .u64 a] w fun e w' => e = .returned (.int .i64 (cnt a)) ∧ w = w' := by
  go_enter Tryz.func120, Tryz.ntmps120
  go_wp2_with (first | (go_at_call 182; refine (OnesCount64_any a _ ha).mono ?_; rintro e w' ⟨rfl, rfl⟩))
  go_ret
  exact ⟨rfl, rfl⟩
theorem and_nat (a b : Nat) (ha : a < 1000000000) (hb : b < 1000000000) : bits BinOp.and IntKind.i64 (a : Int) (b : Int) = ((a &&& b : Nat) : Int) := by
  have h1 : ∀ n : Nat, (BitVec.ofInt 64 ((n : Nat) : Int)) = BitVec.ofNat 64 n := fun n => by rw [BitVec.ofInt_natCast]
  show IntKind.i64.wrap ((((BitVec.ofInt 64 (a : Int)) &&& (BitVec.ofInt 64 (b : Int))).toNat : Nat) : Int) = _
  rw [h1, h1]
  have h3 : (BitVec.ofNat 64 a &&& BitVec.ofNat 64 b).toNat = (a &&& b) := by
    rw [BitVec.toNat_and, BitVec.toNat_ofNat, BitVec.toNat_ofNat, Nat.mod_eq_of_lt (by omega), Nat.mod_eq_of_lt (by omega)]
  rw [h3]
  apply IntWalk.i64_in
  have : a &&& b ≤ a := Nat.and_le_left
  omega
theorem cnt_posF : ∀ b : Fin 16, b.val = 0 ∨ (cnt b.val = 1 ∨ cnt b.val = 2 ∨ cnt b.val = 3 ∨ cnt b.val = 4) := by decide
theorem cnt_pos (b : Nat) (h : b < 16) (h0 : b ≠ 0) : cnt b = 1 ∨ cnt b = 2 ∨ cnt b = 3 ∨ cnt b = 4 := (cnt_posF ⟨b, h⟩).resolve_left h0
theorem cnt_leF : ∀ b : Fin 16, cnt b.val ≤ 4 := by decide
theorem cnt_le (b : Nat) (h : b < 16) : cnt b ≤ 4 := cnt_leF ⟨b, h⟩
/-- what set a has of set b's part, twelve times, if b's part is shared evenly -/
def evenP (x : Int) (a b : Nat) : Int := x * ((12 * cnt (b &&& a) / cnt b : Nat) : Int)
def evenTo (xs : List Int) (a k : Nat) : Int := iter (fun b t => t + if b = 0 then 0 else evenP (nth xs b) a b) 0 k
theorem quo12 (x : Int) (h0 : 0 ≤ x) (c d : Nat) (hd : d = 1 ∨ d = 2 ∨ d = 3 ∨ d = 4) : x * (c : Int) * 12 / (d : Int) = x * ((12 * c / d : Nat) : Int) := by
  obtain ⟨e, he⟩ : ∃ e : Nat, 12 = d * e := by
    rcases hd with rfl | rfl | rfl | rfl
    · exact ⟨12, rfl⟩
    · exact ⟨6, rfl⟩
    · exact ⟨4, rfl⟩
    · exact ⟨3, rfl⟩
  have hd0 : (d : Int) ≠ 0 := by omega
  have hdn : 0 < d := by omega
  have h1 : 12 * c / d = e * c := by rw [he, Nat.mul_assoc, Nat.mul_div_cancel_left _ hdn]
  rw [h1]
  have h2 : x * (c : Int) * 12 = (d : Int) * (x * ((e * c : Nat) : Int)) := by
    have : (12 : Int) = (d : Int) * (e : Int) := by exact_mod_cast he
    rw [this]; push_cast; ac_rfl
  rw [h2, Int.mul_ediv_cancel_left _ hd0]
theorem evenP_bd (x : Int) (a b : Nat) (h0 : 0 ≤ x) (h1 : x ≤ 1000000) (hb : b < 16) : 0 ≤ evenP x a b ∧ evenP x a b ≤ 48000000 := by
  unfold evenP
  have h2 : 12 * cnt (b &&& a) / cnt b ≤ 48 := by
    have h3 : cnt (b &&& a) ≤ 4 := cnt_le _ (Nat.lt_of_le_of_lt Nat.and_le_left hb)
    exact Nat.le_trans (Nat.div_le_self _ _) (by omega)
  have h4 : (0 : Int) ≤ ((12 * cnt (b &&& a) / cnt b : Nat) : Int) := Int.natCast_nonneg _
  have h5 : ((12 * cnt (b &&& a) / cnt b : Nat) : Int) ≤ 48 := by exact_mod_cast h2
  generalize ((12 * cnt (b &&& a) / cnt b : Nat) : Int) = q at *
  refine ⟨Int.mul_nonneg h0 h4, ?_⟩
  have := Int.mul_le_mul h1 h5 h4 (by omega)
  omega
theorem evenTo_bd (xs : List Int) (a n : Nat) (hn : n ≤ 16) (h : ∀ k, k < n → 0 ≤ nth xs k ∧ nth xs k ≤ 1000000) (k : Nat) (hk : k ≤ n) : 0 ≤ evenTo xs a k ∧ evenTo xs a k ≤ 48000000 * (k : Int) := by
  induction k with
  | zero => exact ⟨by simp [evenTo, iter], by simp [evenTo, iter]⟩
  | succ k ih =>
    have h1 := ih (by omega)
    have h2 := h k (by omega)
    have h3 := evenP_bd (nth xs k) a k h2.1 h2.2 (by omega)
    show 0 ≤ evenTo xs a k + (if k = 0 then 0 else evenP (nth xs k) a k) ∧ evenTo xs a k + (if k = 0 then 0 else evenP (nth xs k) a k) ≤ _
    push_cast
    split <;> omega
set_option maxHeartbeats 1000000 in
theorem sharedPart_any (s : Int) (ao : Option Addr) (n c : Nat) (a : Nat) (xs : List Int) (w : World) (hx : IntsAt w ao n xs) (hn : n ≤ 16) (ha : a < 16) (hxb : ∀ k, k < n → 0 ≤ nth xs k ∧ nth xs k ≤ 1000000) :
    Calls Tryz.prog 74 #[.agg #[.int .i64 s, .slice ao n c], .int .i64 a] w fun e w' => e = .returned (.int .i64 (evenTo xs a n)) ∧ Below w.heap.size w w' := by
  have hBa := below_alloc w (.cells #[.int .i64 s, .slice ao n c] 25)
  have HXB := hid hxb
  have HEB := hid (evenTo_bd xs a n hn hxb)
  clear hxb
  go_enter Tryz.func74, Tryz.ntmps74
  go_wp2
  go_loop [5, 6, 7, 11] (fun t _ _ i => ∃ k : Nat, k ≤ n ∧ i = .int .i64 k ∧ t = .int .i64 (evenTo xs a k)) (fun _ _ _ i => n - (intOf i).toNat)
  case atStart => exact ⟨0, by omega, rfl, rfl⟩
  case round =>
    obtain ⟨k, hk, rfl, rfl⟩ := hrel
    by_cases hlt : k < n
    · obtain ⟨b, off, rfl, hbs, hbs', hck⟩ := hx.at hBa hlt
      have hp := HXB.out k hlt
      have he := HEB.out k hk
      have HN : Hid (evenTo xs a (k + 1) = evenTo xs a k + if k = 0 then 0 else evenP (nth xs k) a k) := rfl
      have hk16 : (k : Int) ≤ 16 := by omega
      by_cases hk0 : k = 0
      · have HK := hid hk0
        have hk0f : ((k : Int) != 0) = false := by simp [hk0]
        clear hk0
        go_wp2
        go_round
        case rel => first | exact ⟨k + 1, by omega, by go_num, by rw [HN.out, if_pos HK.out, Int.add_zero]⟩ | exact ⟨_, ⟨k + 1, by omega, by go_num, by rw [HN.out, if_pos HK.out, Int.add_zero]⟩, rfl⟩ | exact ⟨_, _, ⟨k + 1, by omega, by go_num, by rw [HN.out, if_pos HK.out, Int.add_zero]⟩, rfl, rfl⟩ | exact ⟨_, _, _, ⟨k + 1, by omega, by go_num, by rw [HN.out, if_pos HK.out, Int.add_zero]⟩, rfl, rfl, rfl⟩ | exact ⟨_, _, _, _, ⟨k + 1, by omega, by go_num, by rw [HN.out, if_pos HK.out, Int.add_zero]⟩, rfl, rfl, rfl, rfl⟩ | exact ⟨_, _, _, _, _, ⟨k + 1, by omega, by go_num, by rw [HN.out, if_pos HK.out, Int.add_zero]⟩, rfl, rfl, rfl, rfl, rfl⟩
        case measure => simp [intOf]; omega
      · have hand := and_nat k a (by omega) (by omega)
        have hc1 := cnt_pos k (by omega) hk0
        have hka : k &&& a < 16 := Nat.lt_of_le_of_lt Nat.and_le_left (by omega)
        have hc2 := cnt_le (k &&& a) hka
        have HQ := hid (quo12 (nth xs k) hp.1 (cnt (k &&& a)) (cnt k) hc1)
        obtain ⟨r, HR⟩ : ∃ r : Nat, Hid (k &&& a = r) := ⟨_, rfl⟩
        rw [HR.out] at hand hka hc2
        obtain ⟨p, HP⟩ : ∃ p : Nat, Hid (cnt r = p) := ⟨_, rfl⟩
        obtain ⟨q, HQ2⟩ : ∃ q : Nat, Hid (cnt k = q) := ⟨_, rfl⟩
        rw [HP.out] at hc2
        have hq4 : 1 ≤ q ∧ q ≤ 4 := by rw [← HQ2.out]; omega
        have hm1 : 0 ≤ nth xs k * (p : Int) := Int.mul_nonneg hp.1 (by omega)
        have hm2 : nth xs k * (p : Int) ≤ 4000000 := by
          have := Int.mul_le_mul hp.2 (show (p : Int) ≤ 4 by omega) (by omega) (by omega)
          omega
        have hqz : ¬ (q : Int) = 0 := by omega
        have hqz2 : ((q : Int) == 0) = false := by simp; omega
        have hev := evenP_bd (nth xs k) a k hp.1 hp.2 (by omega)
        have hPE : Hid (nth xs k * (p : Int) * 12 / (q : Int) = evenP (nth xs k) a k) := by
          rw [Hid, ← HP.out, ← HQ2.out, ← HR.out]; exact HQ.out
        have hpe0 := hPE.out
        have hk0' : ((k : Int) != 0) = true := by simp; omega
        have hk0p : 0 < k := by omega
        have hu : IntKind.u64.wrap (k : Int) = (k : Int) := by rw [IntWalk.u64_in]; omega
        have hur : IntKind.u64.wrap (r : Int) = (r : Int) := by rw [IntWalk.u64_in]; omega
        have HKK := hid hk0
        clear hc1 hk0
        go_wp2_with (first | (go_at_call 120; refine (OnesCount_any _ _ (by omega)).mono ?_; (first | rw [HP.out] | rw [HQ2.out]); rintro e w' ⟨rfl, rfl⟩))
        go_round
        case rel => first | exact ⟨k + 1, by omega, by go_num, by rw [HN.out, if_neg HKK.out]⟩ | exact ⟨_, ⟨k + 1, by omega, by go_num, by rw [HN.out, if_neg HKK.out]⟩, rfl⟩ | exact ⟨_, _, ⟨k + 1, by omega, by go_num, by rw [HN.out, if_neg HKK.out]⟩, rfl, rfl⟩ | exact ⟨_, _, _, ⟨k + 1, by omega, by go_num, by rw [HN.out, if_neg HKK.out]⟩, rfl, rfl, rfl⟩ | exact ⟨_, _, _, _, ⟨k + 1, by omega, by go_num, by rw [HN.out, if_neg HKK.out]⟩, rfl, rfl, rfl, rfl⟩ | exact ⟨_, _, _, _, _, ⟨k + 1, by omega, by go_num, by rw [HN.out, if_neg HKK.out]⟩, rfl, rfl, rfl, rfl, rfl⟩
        case measure => simp [intOf]; omega
    · have hkn : k = n := by omega
      subst hkn
      go_wp2
      go_ret
      exact ⟨rfl, hBa⟩
end Go.Proofs.YtefmlbahmakboaaGreatDoor
