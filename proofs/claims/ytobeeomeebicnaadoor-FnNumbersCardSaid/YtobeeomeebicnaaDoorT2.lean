/- spec.l14Dec: the decimal text of every int. -/
import Derived.Test.YtobeeomeebicnaaDoorT1
import Derived.Test.YtobeeomeebicnaaDoorB0
import Derived.Laws.IdiomStrings
set_option linter.unusedSimpArgs false
set_option linter.unusedVariables false
namespace Go.Proofs.YtobeeomeebicnaaDoor
open Go.RowKit
theorem conv1 (W : World) (x : Int) (h0 : 0 ≤ x) (h1 : x < 256) :
    (convert 31 9 (.slice (some ⟨W.heap.size, 0, none⟩) 1 1)).run Tryd.prog (W.alloc (.cells #[.int .u8 x] 5)) = .ok (.string (bs [UInt8.ofNat x.toNat])) (W.alloc (.cells #[.int .u8 x] 5)) := by
  refine run_convert_bytes_back (W.alloc (.cells #[.int .u8 x] 5)) 31 9 5 ⟨W.heap.size, 0, none⟩ 1 [UInt8.ofNat x.toNat] Tryd.underlying31 Tryd.underlying5 Tryd.underlying9 (fun j hj => ?_)
  obtain rfl : j = 0 := by simpa using hj
  have e : (⟨W.heap.size, 0, none⟩ : Addr).add 0 = ⟨W.heap.size, 0, none⟩ := rfl
  rw [e]
  have : ((UInt8.ofNat x.toNat).toNat : Int) = x := by
    simp [UInt8.toNat_ofNat']; omega
  simp [World.cell?_alloc_new, this]
  omega
set_option maxRecDepth 100000 in
set_option maxHeartbeats 400000 in
theorem l14Dec_nn (n : Int) (h0 : 0 ≤ n) (h1 : n ≤ 9223372036854775807) (w : World) :
    Calls Tryd.prog 17 #[.int .i64 n] w fun e w' => e = .returned (.string (bs (Lib.itoa n))) ∧ Below w.heap.size w w' := by
  have HN := hid (itoa_nn n h0)
  go_enter Tryd.func17, Tryd.ntmps17
  go_wp2
  go_loopw [0, 3] (fun t s wr => Below w.heap.size w wr ∧ ∃ (m : Int) (l : List UInt8), t = .int .i64 m ∧ s = .string (bs l) ∧ 0 ≤ m ∧ m ≤ 9223372036854775807 ∧ Lib.decDigits m.toNat ++ l = Lib.decDigits n.toNat) (fun t _ _ => (intOf t).toNat)
  case atStart => exact ⟨Below.refl _ _, n, [], rfl, rfl, h0, h1, by simp⟩
  case round =>
    obtain ⟨hB, m, l, rfl, rfl, hm0, hm1, hd⟩ := hrel
    have hB2 := hB
    have hl21 : l.length ≤ 21 := by
      have h2 := congrArg List.length hd
      have h3 := Lib.itoa_length_le n (by omega) h1
      rw [HN.out] at h3; simp at h2; omega
    have HD := hid hd; clear hd
    by_cases hlt : m > 9
    · have kc := conv1 wr (48 + m % 10) (by omega) (by omega)
      have kz : ¬ 9223372036854775807 < (bs [UInt8.ofNat (48 + m % 10).toNat]).size + (bs l).size := by rw [bs_size, bs_size]; simp; omega
      have HS := hid (dec_step m.toNat (by omega) l)
      go_wp2
      go_roundw
      case rel => first | exact ⟨hB.alloc hB.size _, m / 10, UInt8.ofNat (48 + m % 10).toNat :: l, by go_num, by rw [bs_append]; rfl, by omega, by omega, by rw [← HD.out, HS.out, show (48 + m % 10).toNat = 48 + m.toNat % 10 by omega, show (m / 10).toNat = m.toNat / 10 by omega]⟩ | exact ⟨_, ⟨hB.alloc hB.size _, m / 10, UInt8.ofNat (48 + m % 10).toNat :: l, by go_num, by rw [bs_append]; rfl, by omega, by omega, by rw [← HD.out, HS.out, show (48 + m % 10).toNat = 48 + m.toNat % 10 by omega, show (m / 10).toNat = m.toNat / 10 by omega]⟩, rfl⟩ | exact ⟨_, _, ⟨hB.alloc hB.size _, m / 10, UInt8.ofNat (48 + m % 10).toNat :: l, by go_num, by rw [bs_append]; rfl, by omega, by omega, by rw [← HD.out, HS.out, show (48 + m % 10).toNat = 48 + m.toNat % 10 by omega, show (m / 10).toNat = m.toNat / 10 by omega]⟩, rfl, rfl⟩ | exact ⟨_, _, _, ⟨hB.alloc hB.size _, m / 10, UInt8.ofNat (48 + m % 10).toNat :: l, by go_num, by rw [bs_append]; rfl, by omega, by omega, by rw [← HD.out, HS.out, show (48 + m % 10).toNat = 48 + m.toNat % 10 by omega, show (m / 10).toNat = m.toNat / 10 by omega]⟩, rfl, rfl, rfl⟩ | exact ⟨_, _, _, _, ⟨hB.alloc hB.size _, m / 10, UInt8.ofNat (48 + m % 10).toNat :: l, by go_num, by rw [bs_append]; rfl, by omega, by omega, by rw [← HD.out, HS.out, show (48 + m % 10).toNat = 48 + m.toNat % 10 by omega, show (m / 10).toNat = m.toNat / 10 by omega]⟩, rfl, rfl, rfl, rfl⟩ | exact ⟨_, _, _, _, _, ⟨hB.alloc hB.size _, m / 10, UInt8.ofNat (48 + m % 10).toNat :: l, by go_num, by rw [bs_append]; rfl, by omega, by omega, by rw [← HD.out, HS.out, show (48 + m % 10).toNat = 48 + m.toNat % 10 by omega, show (m / 10).toNat = m.toNat / 10 by omega]⟩, rfl, rfl, rfl, rfl, rfl⟩
      case measure => simp [intOf]; omega
    · have kc := conv1 wr (48 + m) (by omega) (by omega)
      have kz : ¬ 9223372036854775807 < (bs [UInt8.ofNat (48 + m).toNat]).size + (bs l).size := by rw [bs_size, bs_size]; simp; omega
      have HS := hid (dec_last m.toNat (by omega) l)
      go_wp2
      go_ret
      refine ⟨?_, hB.alloc hB.size _⟩
      rw [bs_append, HN.out, ← HD.out, HS.out, show (48 + m).toNat = 48 + m.toNat by omega]
      rfl
set_option maxRecDepth 100000 in
set_option maxHeartbeats 400000 in
theorem l14Dec_any (n : Int) (h0 : -9223372036854775808 ≤ n) (h1 : n ≤ 9223372036854775807) (w : World) :
    Calls Tryd.prog 17 #[.int .i64 n] w fun e w' => e = .returned (.string (bs (Lib.itoa n))) ∧ Below w.heap.size w w' := by
  by_cases hn : 0 ≤ n
  · exact l14Dec_nn n hn h1 w
  by_cases hm : n < -9223372036854775807
  · obtain rfl : n = -9223372036854775808 := by omega
    have HN := hid itoa_min
    go_enter Tryd.func17, Tryd.ntmps17
    go_wp2
    go_ret
    refine ⟨?_, Below.refl _ _⟩
    rw [HN.out]; rfl
  · have HN := hid (itoa_ng n (by omega))
    have HP := hid (itoa_nn (-n) (by omega))
    have kz : ¬ 9223372036854775807 < (ByteArray.mk #[45]).size + (bs (Lib.itoa (-n))).size := by
      have := Lib.itoa_length_le (-n) (by omega) (by omega)
      rw [bs_size]; simp [ByteArray.size]; omega
    go_enter Tryd.func17, Tryd.ntmps17
    go_wp2_with (go_at_call 17; refine (l14Dec_nn (-n) (by omega) (by omega) _).mono ?_; rintro e w1 ⟨rfl, hb1⟩)
    go_ret
    refine ⟨?_, hb1⟩
    rw [HN.out, HP.out]
    rfl
end Go.Proofs.YtobeeomeebicnaaDoor
