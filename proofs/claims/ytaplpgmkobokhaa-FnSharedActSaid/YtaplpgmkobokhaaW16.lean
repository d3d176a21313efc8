/- The act of the shared chance: l4Even, l12Shared, SharedAct both. -/
import Derived.Test.YtaplpgmkobokhaaW15
import Derived.Test.YtaplpgmkobokhaaW11
set_option linter.unusedSimpArgs false
set_option linter.unusedVariables false
namespace Go.Proofs.Ytaplpgmkobokhaa
open Go.RowKit
def shTo (xs gs : List Int) (k : Nat) : Int := iter (fun x t => t + nth gs x * evenTo xs (2 ^ x) xs.length) 0 k
theorem mul_bd2 (g e : Int) (h0 : -1000 ≤ g) (h1 : g ≤ 1000) (h2 : 0 ≤ e) (h3 : e ≤ 768000000) : -768000000000 ≤ g * e ∧ g * e ≤ 768000000000 := by
  have e1 : g * e ≤ 1000 * e := Int.mul_le_mul_of_nonneg_right h1 h2
  have e2 : (-1000) * e ≤ g * e := Int.mul_le_mul_of_nonneg_right h0 h2
  omega
theorem shTo_bd {s : Int} {n m : Nat} {xs gs : List Int} (h : MG s n m xs gs) (k : Nat) (hk : k ≤ m) : -768000000000 * (k : Int) ≤ shTo xs gs k ∧ shTo xs gs k ≤ 768000000000 * (k : Int) := by
  induction k with
  | zero => exact ⟨by simp [shTo, iter], by simp [shTo, iter]⟩
  | succ k ih =>
    have h1 := ih (by omega)
    have h2 := h.gb1 k (by omega)
    have h3 := evenTo_bd xs (2 ^ k) n h.n16 h.xb n (Nat.le_refl _)
    have hn := h.n16
    have h4 := mul_bd2 (nth gs k) (evenTo xs (2 ^ k) xs.length) h2.1 h2.2 (by rw [h.xlen]; omega) (by rw [h.xlen]; omega)
    show _ ≤ shTo xs gs k + nth gs k * evenTo xs (2 ^ k) xs.length ∧ shTo xs gs k + nth gs k * evenTo xs (2 ^ k) xs.length ≤ _
    push_cast
    omega
theorem pow_lt16 (k : Nat) (h : k < 4) : 2 ^ k < 16 := by
  match k, h with
  | 0, _ => decide
  | 1, _ => decide
  | 2, _ => decide
  | 3, _ => decide
set_option maxHeartbeats 1000000 in
theorem l4Even_any (s : Int) (ao : Option Addr) (n c : Nat) (a : Nat) (xs : List Int) (w : World) (hx : IntsAt w ao n xs) (hn : n ≤ 16) (hn1 : 1 ≤ n) (ha : a < 16) (hxb : ∀ k, k < n → 0 ≤ nth xs k ∧ nth xs k ≤ 1000000) :
    Calls Try.prog 42 #[.agg #[.int .i64 s, .slice ao n c], .int .i64 a] w fun e w' => e = .returned (.int .i64 (evenTo xs a n)) ∧ Below w.heap.size w w' := by
  have hB1 := below_alloc w (.cells #[.int .i64 s, .slice ao n c] 25)
  have HXB := hid hxb
  have HEB := hid (evenTo_bd xs a n hn hxb)
  have hcap := hx.cap
  clear hxb
  have HST : Hid (evenTo xs a 1 = 0) := rfl
  obtain ⟨W, HW⟩ : ∃ W, Hid (w.alloc (.cells #[.int .i64 s, .slice ao n c] 25) = W) := ⟨_, rfl⟩
  have hp1 : W.cell? ⟨w.heap.size, 1, none⟩ = some (.slice ao n c) := by rw [← HW.out]; simp
  rw [HW.out] at hB1
  go_enter Try.func42, Try.ntmps42
  go_wp2
  rw [HW.out]
  go_loopw [5, 6] (fun t i wr => ∃ k : Nat, 1 ≤ k ∧ k ≤ n ∧ i = .int .i64 k ∧ t = .int .i64 (evenTo xs a k) ∧ Below W.heap.size W wr) (fun _ i _ => n - (intOf i).toNat)
  case atStart => exact ⟨1, by omega, hn1, rfl, by rw [HST.out], Below.refl _ _⟩
  case round =>
    obtain ⟨k, hk1, hk, rfl, rfl, hBr⟩ := hrel
    have hB := chain hB1 hBr
    have hq1 := keep hBr hp1
    by_cases hlt : k < n
    · obtain ⟨b, off, rfl, hbs, hbs', hck⟩ := hx.at hB hlt
      have hp := HXB.out k hlt
      have he := HEB.out k hk
      have HN : Hid (evenTo xs a (k + 1) = evenTo xs a k + evenP (nth xs k) a k) := by show evenTo xs a k + (if k = 0 then 0 else evenP (nth xs k) a k) = _; rw [if_neg (by omega)]
      have hk16 : (k : Int) ≤ 16 := by omega
      have hand := and_nat a k (by omega) (by omega)
      have hc1 := cnt_pos k (by omega) (by omega)
      have hka : a &&& k < 16 := Nat.lt_of_le_of_lt Nat.and_le_left (by omega)
      have hc2 := cnt_le (a &&& k) hka
      have HQ := hid (quo12 (nth xs k) hp.1 (cnt (a &&& k)) (cnt k) hc1)
      obtain ⟨r, HR⟩ : ∃ r : Nat, Hid (a &&& k = r) := ⟨_, rfl⟩
      have HR2 : Hid (k &&& a = r) := by rw [Hid, Nat.and_comm]; exact HR.out
      rw [HR.out] at hand hka hc2
      obtain ⟨p, HP⟩ : ∃ p : Nat, Hid (cnt r = p) := ⟨_, rfl⟩
      obtain ⟨q, HQ2⟩ : ∃ q : Nat, Hid (cnt k = q) := ⟨_, rfl⟩
      rw [HP.out] at hc2
      have hq4 : 1 ≤ q ∧ q ≤ 4 := by rw [← HQ2.out]; omega
      have hm1 : 0 ≤ 12 * nth xs k * (p : Int) := Int.mul_nonneg (by omega) (by omega)
      have hm2 : 12 * nth xs k * (p : Int) ≤ 48000000 := by
        have := Int.mul_le_mul (show 12 * nth xs k ≤ 12000000 by omega) (show (p : Int) ≤ 4 by omega) (by omega) (by omega)
        omega
      have hqz : ¬ (q : Int) = 0 := by omega
      have hqz2 : ((q : Int) == 0) = false := by simp; omega
      have hev := evenP_bd (nth xs k) a k hp.1 hp.2 (by omega)
      have hPE : Hid (12 * nth xs k * (p : Int) / (q : Int) = evenP (nth xs k) a k) := by
        have e1 : 12 * nth xs k * (p : Int) = nth xs k * (p : Int) * 12 := by rw [Int.mul_comm 12, Int.mul_assoc, Int.mul_comm 12, ← Int.mul_assoc]
        show _ = nth xs k * ((12 * cnt (k &&& a) / cnt k : Nat) : Int)
        rw [e1, HR2.out, ← HP.out, ← HQ2.out, ← HR.out]; exact HQ.out
      have hpe0 := hPE.out
      have hk0 : (0 : Int) ≤ (k : Int) := by omega
      have hkn : (k : Int) < (n : Int) := by omega
      clear hc1
      have HC1 : Hid (∀ w', Calls Try.prog 84 #[.int .i64 (r : Int)] w' fun e w'' => e = .returned (.int .i64 (p : Int)) ∧ w' = w'') := fun w' => by rw [← HP.out]; exact l1Count_any r _ (by omega)
      have HC2 : Hid (∀ w', Calls Try.prog 84 #[.int .i64 (k : Int)] w' fun e w'' => e = .returned (.int .i64 (q : Int)) ∧ w' = w'') := fun w' => by rw [← HQ2.out]; exact l1Count_any k _ (by omega)
      go_wp2
      refine wp_region_ov (by kernel_rfl) (by kernel_rfl) ?_
      repeat (first | go_big_quiet_step ((go_at_call 84; first | (with_reducible exact ov_same (HC1.out _)) | (with_reducible exact ov_same (HC2.out _)))) | quiet_step ((go_at_call 84; first | (with_reducible exact ov_same (HC1.out _)) | (with_reducible exact ov_same (HC2.out _)))))
      refine wpQuiet_nil ?_
      intro _ hw_ov
      obtain ⟨x_ov, hw_ov2⟩ := hw_ov
      subst hw_ov2
      obtain ⟨w3, hw_ov3, hb3⟩ := ov_gen _ x_ov
      rw [hw_ov3]
      clear hw_ov3 x_ov
      have HB3 := hid (chain hBr hb3)
      clear hb3
      go_wp2
      go_roundw
      case rel => first | exact ⟨k + 1, by omega, by omega, by go_num, by rw [HN.out], HB3.out⟩ | exact ⟨_, ⟨k + 1, by omega, by omega, by go_num, by rw [HN.out], HB3.out⟩, rfl⟩ | exact ⟨_, _, ⟨k + 1, by omega, by omega, by go_num, by rw [HN.out], HB3.out⟩, rfl, rfl⟩ | exact ⟨_, _, _, ⟨k + 1, by omega, by omega, by go_num, by rw [HN.out], HB3.out⟩, rfl, rfl, rfl⟩ | exact ⟨_, _, _, _, ⟨k + 1, by omega, by omega, by go_num, by rw [HN.out], HB3.out⟩, rfl, rfl, rfl, rfl⟩ | exact ⟨_, _, _, _, _, ⟨k + 1, by omega, by omega, by go_num, by rw [HN.out], HB3.out⟩, rfl, rfl, rfl, rfl, rfl⟩
      case measure => simp [intOf]; omega
    · have hkn : k = n := by omega
      have HK := hid hkn
      clear hkn
      go_wp2
      go_ret
      exact ⟨ret_int (by rw [← HK.out]), hB⟩
end Go.Proofs.Ytaplpgmkobokhaa
