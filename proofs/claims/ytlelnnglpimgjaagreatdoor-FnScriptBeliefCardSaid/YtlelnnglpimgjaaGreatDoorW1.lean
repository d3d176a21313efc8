/- Contracts of the program's small functions on numbers, sizes and masses. -/
import Derived.Test.YtlelnnglpimgjaaGreatDoorB0
set_option linter.unusedSimpArgs false
set_option linter.unusedVariables false
namespace Go.Proofs.YtlelnnglpimgjaaGreatDoor
open Go.RowKit
theorem isSize_any (n : Int) (w : World) :
    Calls Tryz.prog 50 #[.int .i64 n] w fun e w' => e = .returned (.bool (okSize n)) ∧ w = w' := by
  unfold okSize
  go_enter Tryz.func50, Tryz.ntmps50
  go_wp2
  all_goals go_ret
  all_goals simp [*]
  omega
theorem isPart_any (n : Int) (w : World) :
    Calls Tryz.prog 188 #[.int .i64 n] w fun e w' => e = .returned (.bool (inB (-1000000000) 1000000000 n)) ∧ w = w' := by
  unfold inB
  go_enter Tryz.func188, Tryz.ntmps188
  go_wp2
  all_goals go_ret
  all_goals simp [*]
  omega
set_option maxHeartbeats 400000 in
theorem divisorOf_any (ao : Option Addr) (n c : Nat) (xs : List Int) (w : World) (hx : IntsAt w ao n xs) (hb : ∀ k, k < n → -4000000000000000000 ≤ nth xs k ∧ nth xs k ≤ 4000000000000000000) :
    Calls Tryz.prog 101 #[.slice ao n c] w fun e w' => e = .returned (.int .i64 (gcdL xs)) ∧ Below w.heap.size w w' := by
  have hcap := hx.cap
  have HL := hid hx.len
  go_enter Tryz.func101, Tryz.ntmps101
  go_wp2
  go_loopw [3, 5, 8] (fun d u i wr => Below w.heap.size w wr ∧ ∃ (k : Nat) (d' : Int), k ≤ n ∧ i = .int .i64 k ∧ d = .int .i64 d' ∧ (d'.natAbs : Int) = gcdTo xs k ∧ -4000000000000000000 ≤ d' ∧ d' ≤ 4000000000000000000) (fun _ _ i _ => n - (intOf i).toNat)
  case atStart => exact ⟨Below.refl _ _, 0, 0, by omega, rfl, rfl, rfl, by omega, by omega⟩
  case round =>
    obtain ⟨hB, k, d, hk, rfl, rfl, hg, hd1, hd2⟩ := hrel
    have HG := hid hg; clear hg
    by_cases hlt : k < n
    · obtain ⟨b, off, rfl, hbs0, hbs, hck⟩ := hx.at hB hlt
      have hxb := hb k hlt
      clear hb
      go_wp2
      obtain ⟨wo, rfl⟩ : ∃ wo : World, wo = wr := ⟨_, rfl⟩
      go_loopw [3, 5] (fun d u w1 => Below w.heap.size w w1 ∧ ∃ (d' x' : Int), d = .int .i64 d' ∧ u = .int .i64 x' ∧ (Int.gcd d' x' : Int) = gcdTo xs (k+1) ∧ -4000000000000000000 ≤ d' ∧ d' ≤ 4000000000000000000 ∧ -4000000000000000000 ≤ x' ∧ x' ≤ 4000000000000000000) (fun _ u _ => (intOf u).natAbs)
      case atStart => exact ⟨hB, d, _, rfl, rfl, by rw [gcdTo_succ, ← HG.out, gcd_abs], by omega, by omega, by omega, by omega⟩
      case round =>
        obtain ⟨hB2, d2, x2, rfl, rfl, hg2, h1, h2, h3, h4⟩ := hrel
        have HG2 := hid hg2; clear hg2
        by_cases hx0 : x2 = 0
        · subst hx0
          go_wp2
          go_roundw
          case rel => first | exact ⟨hB2, k+1, d2, by omega, by go_num, rfl, by rw [← HG2.out]; simp [Int.gcd], by omega, by omega⟩ | exact ⟨_, ⟨hB2, k+1, d2, by omega, by go_num, rfl, by rw [← HG2.out]; simp [Int.gcd], by omega, by omega⟩, rfl⟩ | exact ⟨_, _, ⟨hB2, k+1, d2, by omega, by go_num, rfl, by rw [← HG2.out]; simp [Int.gcd], by omega, by omega⟩, rfl, rfl⟩ | exact ⟨_, _, _, ⟨hB2, k+1, d2, by omega, by go_num, rfl, by rw [← HG2.out]; simp [Int.gcd], by omega, by omega⟩, rfl, rfl, rfl⟩ | exact ⟨_, _, _, _, ⟨hB2, k+1, d2, by omega, by go_num, rfl, by rw [← HG2.out]; simp [Int.gcd], by omega, by omega⟩, rfl, rfl, rfl, rfl⟩ | exact ⟨_, _, _, _, _, ⟨hB2, k+1, d2, by omega, by go_num, rfl, by rw [← HG2.out]; simp [Int.gcd], by omega, by omega⟩, rfl, rfl, rfl, rfl, rfl⟩
          case measure => simp [intOf]; omega
        · have hb1 : (x2 != 0) = true := by simpa using hx0
          have hb2 : (x2 == 0) = false := by simpa using hx0
          have HM := hid (tmod_bd d2 x2 hx0)
          have HS := hid (gcd_step d2 x2)
          have hr1 : -4000000000000000000 ≤ d2.tmod x2 := by have := HM.out; omega
          have hr2 : d2.tmod x2 ≤ 4000000000000000000 := by have := HM.out; omega
          go_wp2
          go_quiet (fail)
          go_wp2
          go_roundw
          case rel => first | exact ⟨below_drewN hB2, x2, d2.tmod x2, rfl, rfl, by rw [HS.out]; exact HG2.out, by omega, by omega, by omega, by omega⟩ | exact ⟨_, ⟨below_drewN hB2, x2, d2.tmod x2, rfl, rfl, by rw [HS.out]; exact HG2.out, by omega, by omega, by omega, by omega⟩, rfl⟩ | exact ⟨_, _, ⟨below_drewN hB2, x2, d2.tmod x2, rfl, rfl, by rw [HS.out]; exact HG2.out, by omega, by omega, by omega, by omega⟩, rfl, rfl⟩ | exact ⟨_, _, _, ⟨below_drewN hB2, x2, d2.tmod x2, rfl, rfl, by rw [HS.out]; exact HG2.out, by omega, by omega, by omega, by omega⟩, rfl, rfl, rfl⟩ | exact ⟨_, _, _, _, ⟨below_drewN hB2, x2, d2.tmod x2, rfl, rfl, by rw [HS.out]; exact HG2.out, by omega, by omega, by omega, by omega⟩, rfl, rfl, rfl, rfl⟩ | exact ⟨_, _, _, _, _, ⟨below_drewN hB2, x2, d2.tmod x2, rfl, rfl, by rw [HS.out]; exact HG2.out, by omega, by omega, by omega, by omega⟩, rfl, rfl, rfl, rfl, rfl⟩
          case measure => show (d2.tmod x2).natAbs < x2.natAbs; exact HM.out
    · have hkn : k = n := by omega
      have HE : Hid (gcdL xs = d.natAbs) := by show gcdTo xs xs.length = _; rw [HL.out, ← hkn]; exact HG.out.symm
      clear hkn
      go_wp2
      all_goals go_ret
      all_goals refine ⟨ret_int ?_, hB⟩
      all_goals rw [HE.out]
      all_goals omega
theorem wholeOf_any (s : Int) (ao : Option Addr) (n c : Nat) (xs : List Int) (w : World) (hx : IntsAt w ao n xs) (hb : ∀ k, k < n → 0 ≤ nth xs k ∧ nth xs k ≤ 1000000000000000) (hn : n ≤ 16) :
    Calls Tryz.prog 63 #[.agg #[.int .i64 s, .slice ao n c]] w fun e w' => e = .returned (.int .i64 (isum xs)) ∧ Below w.heap.size w w' := by
  have hcap := hx.cap
  have HL := hid hx.len
  go_enter Tryz.func63, Tryz.ntmps63
  go_wp2
  go_loop [3, 5, 9] (fun s u i => ∃ k : Nat, k ≤ n ∧ i = .int .i64 k ∧ s = .int .i64 (isumTo xs k)) (fun _ _ i => n - (intOf i).toNat)
  case atStart => exact ⟨0, by omega, rfl, rfl⟩
  case round =>
    obtain ⟨k, hk, rfl, rfl⟩ := hrel
    have hbd := isumTo_bd xs 1000000000000000 (by omega) n hb k hk
    by_cases hlt : k < n
    · obtain ⟨b, off, rfl, hbs, _, hck⟩ := hx.at (Below.refl _ _) hlt
      have hxb := hb k hlt
      clear hb
      go_wp2
      go_round
      case rel => first | exact ⟨k + 1, by omega, by go_num, rfl⟩ | exact ⟨_, ⟨k + 1, by omega, by go_num, rfl⟩, rfl⟩ | exact ⟨_, _, ⟨k + 1, by omega, by go_num, rfl⟩, rfl, rfl⟩ | exact ⟨_, _, _, ⟨k + 1, by omega, by go_num, rfl⟩, rfl, rfl, rfl⟩ | exact ⟨_, _, _, _, ⟨k + 1, by omega, by go_num, rfl⟩, rfl, rfl, rfl, rfl⟩ | exact ⟨_, _, _, _, _, ⟨k + 1, by omega, by go_num, rfl⟩, rfl, rfl, rfl, rfl, rfl⟩
      case measure => simp [intOf]; omega
    · have hkn : k = n := by omega
      have HE : Hid (isum xs = isumTo xs k) := by show isumTo xs xs.length = _; rw [HL.out, hkn]
      clear hkn
      go_wp2
      go_ret
      exact ⟨ret_int HE.out.symm, (Below.refl _ _).alloc (Nat.le_refl _) _⟩
theorem massOk_size {s : Int} {xs : List Int} (h : okSize s = false) : massOk s xs = false := by simp [massOk, h]
theorem massOk_len {s : Int} {xs : List Int} (h : xs.length ≠ nsets s) : massOk s xs = false := by simp [massOk, h]
theorem massOk_bad {s : Int} {xs : List Int} {k : Nat} (hk : k < xs.length) (h : inB 0 1000000 (nth xs k) = false) : massOk s xs = false := by
  simp only [massOk]; rw [allN_false (p := fun k => inB 0 1000000 (nth xs k)) hk h]; simp
theorem massOk_rest {s : Int} {xs : List Int} (h1 : okSize s = true) (h2 : xs.length = nsets s) (h3 : ∀ k, k < xs.length → inB 0 1000000 (nth xs k) = true) :
    massOk s xs = (inB 1 1000000 (isum xs) && (gcdL xs == 1)) := by
  simp only [massOk]; rw [(allN_iff _ _).2 h3, h1, h2]; simp

set_option maxHeartbeats 1000000 in
theorem isMass_any (s : Int) (ao : Option Addr) (n c : Nat) (xs : List Int) (w : World) (hx : IntsAt w ao n xs) :
    Calls Tryz.prog 41 #[.agg #[.int .i64 s, .slice ao n c]] w fun e w' => e = .returned (.bool (massOk s xs)) ∧ Below w.heap.size w w' := by
  have hcap := hx.cap
  have HL := hid hx.len
  by_cases hs : okSize s = true
  · have hsn := nsets_le hs
    have hs0 : 1 ≤ s ∧ s ≤ 4 := by rcases okSize_iff.1 hs with h | h | h | h <;> omega
    have hsh := shl_size hs
    by_cases hl : n = nsets s
    · have hne : ((n : Int) != (nsets s : Int)) = false := by rw [hl]; simp
      have hn16 : n ≤ 16 := by omega
      have hn2 : 2 ≤ n := by omega
      by_cases hall : ∀ k, k < n → inB 0 1000000 (nth xs k) = true
      · have HM : Hid (massOk s xs = (inB 1 1000000 (isum xs) && (gcdL xs == 1))) := massOk_rest hs (by rw [hx.len]; exact hl) (fun k hk => hall k (by rw [← hx.len]; exact hk))
        have hall' : ∀ k, k < n → 0 ≤ nth xs k ∧ nth xs k ≤ 1000000 := fun k hk => inB_iff.1 (hall k hk)
        have HA := hid hall'
        clear hall' hall hl hsn
        rw [HM.out]
        go_enter Tryz.func41, Tryz.ntmps41
        go_wp2
        refine wp_region_ov (by kernel_rfl) (by kernel_rfl) ?_
        repeat (first | go_big_quiet_step ((go_at_call 50; exact ov_same (isSize_any _ _))) | quiet_step ((go_at_call 50; exact ov_same (isSize_any _ _))))
        refine wpQuiet_nil ?_
        intro _ hw_ov
        obtain ⟨x_ov, hw_ov2⟩ := hw_ov
        subst hw_ov2
        obtain ⟨w1, hw_ov3, hb1⟩ := ov_gen _ x_ov
        rw [hw_ov3]
        clear hw_ov3 x_ov
        obtain ⟨h10, h11, hB1⟩ := box2 hb1
        clear hb1
        go_wp2
        go_loop [2, 4, 22] (fun _ u i => ∃ k : Nat, k ≤ n ∧ i = .int .i64 k) (fun _ _ i => n - (intOf i).toNat)
        case atStart => exact ⟨0, by omega, rfl⟩
        case round =>
          obtain ⟨k, hk, rfl⟩ := hrel
          by_cases hlt : k < n
          · obtain ⟨b, off, rfl, hbs, _, hck⟩ := hx.at hB1 hlt
            have hxb := HA.out k hlt
            go_wp2
            go_round
            case rel => first | exact ⟨k + 1, by omega, by go_num⟩ | exact ⟨_, ⟨k + 1, by omega, by go_num⟩, rfl⟩ | exact ⟨_, _, ⟨k + 1, by omega, by go_num⟩, rfl, rfl⟩ | exact ⟨_, _, _, ⟨k + 1, by omega, by go_num⟩, rfl, rfl, rfl⟩ | exact ⟨_, _, _, _, ⟨k + 1, by omega, by go_num⟩, rfl, rfl, rfl, rfl⟩ | exact ⟨_, _, _, _, _, ⟨k + 1, by omega, by go_num⟩, rfl, rfl, rfl, rfl, rfl⟩
            case measure => simp [intOf]; omega
          · go_wp2_with fail
            refine (wholeOf_any _ _ _ _ _ _ (hx.below hB1) (fun k hk => by have := HA.out k hk; omega) hn16).mono ?_; rintro e w2 ⟨rfl, hb2⟩
            replace h10 := keep hb2 h10
            replace h11 := keep hb2 h11
            have hB2 := chain hB1 hb2
            clear hb2
            have HD := hid (fun k (hk : k < n) => (by have := HA.out k hk; omega : -4000000000000000000 ≤ nth xs k ∧ nth xs k ≤ 4000000000000000000))
            by_cases hS : inB 1 1000000 (isum xs) = true
            · have hS1 := inB_iff.1 hS
              go_wp2_with fail
              refine (divisorOf_any _ _ _ _ _ (hx.below hB2) HD.out).mono ?_; rintro e w3 ⟨rfl, hb3⟩
              go_wp2
              go_ret
              exact ⟨ret_bool (by rw [hS]; rfl), chain hB2 hb3⟩
            · have hS' : inB 1 1000000 (isum xs) = false := by simpa using hS
              rcases inB_false.1 hS' with hS1 | hS1
              all_goals
                go_wp2
                go_ret
                exact ⟨ret_bool (by simp [hS']), hB2⟩
      · have HE : ∃ k0, k0 < n ∧ inB 0 1000000 (nth xs k0) = false := by
          refine Classical.byContradiction fun hc => hall fun k hk => ?_
          cases h : inB 0 1000000 (nth xs k)
          · exact absurd ⟨k, hk, h⟩ hc
          · rfl
        obtain ⟨k0, hk0, hbad⟩ := HE
        rw [massOk_bad (by rw [hx.len]; exact hk0) hbad]
        have HB := hid (inB_false.1 hbad)
        clear hall hbad hl hsn
        go_enter Tryz.func41, Tryz.ntmps41
        go_wp2
        refine wp_region_ov (by kernel_rfl) (by kernel_rfl) ?_
        repeat (first | go_big_quiet_step ((go_at_call 50; exact ov_same (isSize_any _ _))) | quiet_step ((go_at_call 50; exact ov_same (isSize_any _ _))))
        refine wpQuiet_nil ?_
        intro _ hw_ov
        obtain ⟨x_ov, hw_ov2⟩ := hw_ov
        subst hw_ov2
        obtain ⟨w1, hw_ov3, hb1⟩ := ov_gen _ x_ov
        rw [hw_ov3]
        clear hw_ov3 x_ov
        obtain ⟨h10, h11, hB1⟩ := box2 hb1
        clear hb1
        go_wp2
        go_loop [2, 4, 22] (fun _ u i => ∃ k : Nat, k ≤ k0 ∧ i = .int .i64 k) (fun _ _ i => n - (intOf i).toNat)
        case atStart => exact ⟨0, by omega, rfl⟩
        case round =>
          obtain ⟨k, hk, rfl⟩ := hrel
          have hlt : k < n := by omega
          obtain ⟨b, off, rfl, hbs, _, hck⟩ := hx.at hB1 hlt
          by_cases hxb : inB 0 1000000 (nth xs k) = true
          · have hxb' := inB_iff.1 hxb
            have hne : k ≠ k0 := by rintro rfl; have := HB.out; omega
            go_wp2
            go_round
            case rel => first | exact ⟨k + 1, by omega, by go_num⟩ | exact ⟨_, ⟨k + 1, by omega, by go_num⟩, rfl⟩ | exact ⟨_, _, ⟨k + 1, by omega, by go_num⟩, rfl, rfl⟩ | exact ⟨_, _, _, ⟨k + 1, by omega, by go_num⟩, rfl, rfl, rfl⟩ | exact ⟨_, _, _, _, ⟨k + 1, by omega, by go_num⟩, rfl, rfl, rfl, rfl⟩ | exact ⟨_, _, _, _, _, ⟨k + 1, by omega, by go_num⟩, rfl, rfl, rfl, rfl, rfl⟩
            case measure => simp [intOf]; omega
          · have hxb' : inB 0 1000000 (nth xs k) = false := by simpa using hxb
            rcases inB_false.1 hxb' with hS1 | hS1
            all_goals
              go_wp2
              go_ret
              exact ⟨rfl, hB1⟩
    · rw [massOk_len (by rw [hx.len]; exact hl)]
      have hne : ((n : Int) != (nsets s : Int)) = true := by simpa using (show ¬ (n : Int) = (nsets s : Int) by omega)
      clear hsn hl
      go_enter Tryz.func41, Tryz.ntmps41
      go_wp2
      refine wp_region_ov (by kernel_rfl) (by kernel_rfl) ?_
      repeat (first | go_big_quiet_step ((go_at_call 50; exact ov_same (isSize_any _ _))) | quiet_step ((go_at_call 50; exact ov_same (isSize_any _ _))))
      refine wpQuiet_nil ?_
      intro _ hw_ov
      obtain ⟨x_ov, hw_ov2⟩ := hw_ov
      subst hw_ov2
      obtain ⟨w1, hw_ov3, hb1⟩ := ov_gen _ x_ov
      rw [hw_ov3]
      clear hw_ov3 x_ov
      go_wp2
      go_ret
      exact ⟨rfl, (below_alloc w _).trans (hb1.mono (by simp))⟩
  · have hs' : okSize s = false := by simpa using hs
    rw [massOk_size hs']
    clear hs
    go_enter Tryz.func41, Tryz.ntmps41
    go_wp2
    refine wp_region_ov (by kernel_rfl) (by kernel_rfl) ?_
    repeat (first | go_big_quiet_step ((go_at_call 50; exact ov_same (isSize_any _ _))) | quiet_step ((go_at_call 50; exact ov_same (isSize_any _ _))))
    refine wpQuiet_nil ?_
    intro _ hw_ov
    obtain ⟨x_ov, hw_ov2⟩ := hw_ov
    subst hw_ov2
    obtain ⟨w1, hw_ov3, hb1⟩ := ov_gen _ x_ov
    rw [hw_ov3]
    clear hw_ov3 x_ov
    go_wp2
    go_ret
    exact ⟨rfl, (Below.refl _ _).trans ((below_alloc w _).trans (hb1.mono (by simp)))⟩
end Go.Proofs.YtlelnnglpimgjaaGreatDoor
