/- Contracts of the program's small functions on numbers, sizes and masses. Contracts of the reference's small functions on numbers, sizes and masses. Masses in lowest terms: makeMass, l3Made. Contracts of the laws' helpers: copies, comparison, marks. Fractions in lowest terms: lowest, l2Made. -/
import Derived.Test.YtefmlbahmakboaaGreatDoorB0
set_option linter.unusedSimpArgs false
set_option linter.unusedVariables false
namespace Go.Proofs.YtefmlbahmakboaaGreatDoor
open Go.RowKit
theorem isSize_any (n : Int) (w : World) :
    Calls Tryz.prog 88 #[.int .i64 n] w fun e w' => e = .returned (.bool (okSize n)) ∧ w = w' := by
  unfold okSize
  go_enter Tryz.func88, Tryz.ntmps88
  go_wp2
  all_goals go_ret
  all_goals simp [*]
  omega
theorem isPart_any (n : Int) (w : World) :
    Calls Tryz.prog 133 #[.int .i64 n] w fun e w' => e = .returned (.bool (inB (-1000000000) 1000000000 n)) ∧ w = w' := by
  unfold inB
  go_enter Tryz.func133, Tryz.ntmps133
  go_wp2
  all_goals go_ret
  all_goals simp [*]
  omega
set_option maxHeartbeats 400000 in
theorem divisorOf_any (ao : Option Addr) (n c : Nat) (xs : List Int) (w : World) (hx : IntsAt w ao n xs) (hb : ∀ k, k < n → -4000000000000000000 ≤ nth xs k ∧ nth xs k ≤ 4000000000000000000) :
    Calls Tryz.prog 89 #[.slice ao n c] w fun e w' => e = .returned (.int .i64 (gcdL xs)) ∧ Below w.heap.size w w' := by
  have hcap := hx.cap
  have HL := hid hx.len
  go_enter Tryz.func89, Tryz.ntmps89
  go_wp2
  go_loopw [3, 5, 8] (fun d u i wr => Below w.heap.size w wr ∧ ∃ (k : Nat) (d' : Int), k ≤ n ∧ i = .int .i64 k ∧ d = .int .i64 d' ∧ (d'.natAbs : Int) = gcdTo xs k ∧ -4000000000000000000 ≤ d' ∧ d' ≤ 4000000000000000000) (fun _ _ i _ => n - (intOf i).toNat)
  case atStart => exact ⟨Below.refl _ _, 0, 0, by omega, rfl, rfl, rfl, by omega, by omega⟩
  case round =>
    obtain ⟨hB, k, d, hk, rfl, rfl, hg, hd1, hd2⟩ := hrel
    have HG := hid hg; clear hg
    by_cases hlt : k < n
    · obtain ⟨b, off, rfl, hbs0, hbs, hck⟩ := hx.at hB hlt
      have hxb := hb k hlt
      clear hb
      go_wp2
      obtain ⟨wo, rfl⟩ : ∃ wo : World, wo = wr := ⟨_, rfl⟩
      go_loopw [3, 5] (fun d u w1 => Below w.heap.size w w1 ∧ ∃ (d' x' : Int), d = .int .i64 d' ∧ u = .int .i64 x' ∧ (Int.gcd d' x' : Int) = gcdTo xs (k+1) ∧ -4000000000000000000 ≤ d' ∧ d' ≤ 4000000000000000000 ∧ -4000000000000000000 ≤ x' ∧ x' ≤ 4000000000000000000) (fun _ u _ => (intOf u).natAbs)
      case atStart => exact ⟨hB, d, _, rfl, rfl, by rw [gcdTo_succ, ← HG.out, gcd_abs], by omega, by omega, by omega, by omega⟩
      case round =>
        obtain ⟨hB2, d2, x2, rfl, rfl, hg2, h1, h2, h3, h4⟩ := hrel
        have HG2 := hid hg2; clear hg2
        by_cases hx0 : x2 = 0
        · subst hx0
          go_wp2
          go_roundw
          case rel => first | exact ⟨hB2, k+1, d2, by omega, by go_num, rfl, by rw [← HG2.out]; simp [Int.gcd], by omega, by omega⟩ | exact ⟨_, ⟨hB2, k+1, d2, by omega, by go_num, rfl, by rw [← HG2.out]; simp [Int.gcd], by omega, by omega⟩, rfl⟩ | exact ⟨_, _, ⟨hB2, k+1, d2, by omega, by go_num, rfl, by rw [← HG2.out]; simp [Int.gcd], by omega, by omega⟩, rfl, rfl⟩ | exact ⟨_, _, _, ⟨hB2, k+1, d2, by omega, by go_num, rfl, by rw [← HG2.out]; simp [Int.gcd], by omega, by omega⟩, rfl, rfl, rfl⟩ | exact ⟨_, _, _, _, ⟨hB2, k+1, d2, by omega, by go_num, rfl, by rw [← HG2.out]; simp [Int.gcd], by omega, by omega⟩, rfl, rfl, rfl, rfl⟩ | exact ⟨_, _, _, _, _, ⟨hB2, k+1, d2, by omega, by go_num, rfl, by rw [← HG2.out]; simp [Int.gcd], by omega, by omega⟩, rfl, rfl, rfl, rfl, rfl⟩
          case measure => simp [intOf]; omega
        · have hb1 : (x2 != 0) = true := by simpa using hx0
          have hb2 : (x2 == 0) = false := by simpa using hx0
          have HM := hid (tmod_bd d2 x2 hx0)
          have HS := hid (gcd_step d2 x2)
          have hr1 : -4000000000000000000 ≤ d2.tmod x2 := by have := HM.out; omega
          have hr2 : d2.tmod x2 ≤ 4000000000000000000 := by have := HM.out; omega
          go_wp2
          go_quiet (fail)
          go_wp2
          go_roundw
          case rel => first | exact ⟨below_drewN hB2, x2, d2.tmod x2, rfl, rfl, by rw [HS.out]; exact HG2.out, by omega, by omega, by omega, by omega⟩ | exact ⟨_, ⟨below_drewN hB2, x2, d2.tmod x2, rfl, rfl, by rw [HS.out]; exact HG2.out, by omega, by omega, by omega, by omega⟩, rfl⟩ | exact ⟨_, _, ⟨below_drewN hB2, x2, d2.tmod x2, rfl, rfl, by rw [HS.out]; exact HG2.out, by omega, by omega, by omega, by omega⟩, rfl, rfl⟩ | exact ⟨_, _, _, ⟨below_drewN hB2, x2, d2.tmod x2, rfl, rfl, by rw [HS.out]; exact HG2.out, by omega, by omega, by omega, by omega⟩, rfl, rfl, rfl⟩ | exact ⟨_, _, _, _, ⟨below_drewN hB2, x2, d2.tmod x2, rfl, rfl, by rw [HS.out]; exact HG2.out, by omega, by omega, by omega, by omega⟩, rfl, rfl, rfl, rfl⟩ | exact ⟨_, _, _, _, _, ⟨below_drewN hB2, x2, d2.tmod x2, rfl, rfl, by rw [HS.out]; exact HG2.out, by omega, by omega, by omega, by omega⟩, rfl, rfl, rfl, rfl, rfl⟩
          case measure => show (d2.tmod x2).natAbs < x2.natAbs; exact HM.out
    · have hkn : k = n := by omega
      have HE : Hid (gcdL xs = d.natAbs) := by show gcdTo xs xs.length = _; rw [HL.out, ← hkn]; exact HG.out.symm
      clear hkn
      go_wp2
      all_goals go_ret
      all_goals refine ⟨ret_int ?_, hB⟩
      all_goals rw [HE.out]
      all_goals omega
theorem wholeOf_any (s : Int) (ao : Option Addr) (n c : Nat) (xs : List Int) (w : World) (hx : IntsAt w ao n xs) (hb : ∀ k, k < n → 0 ≤ nth xs k ∧ nth xs k ≤ 1000000000000000) (hn : n ≤ 16) :
    Calls Tryz.prog 48 #[.agg #[.int .i64 s, .slice ao n c]] w fun e w' => e = .returned (.int .i64 (isum xs)) ∧ Below w.heap.size w w' := by
  have hcap := hx.cap
  have HL := hid hx.len
  go_enter Tryz.func48, Tryz.ntmps48
  go_wp2
  go_loop [3, 5, 9] (fun s u i => ∃ k : Nat, k ≤ n ∧ i = .int .i64 k ∧ s = .int .i64 (isumTo xs k)) (fun _ _ i => n - (intOf i).toNat)
  case atStart => exact ⟨0, by omega, rfl, rfl⟩
  case round =>
    obtain ⟨k, hk, rfl, rfl⟩ := hrel
    have hbd := isumTo_bd xs 1000000000000000 (by omega) n hb k hk
    by_cases hlt : k < n
    · obtain ⟨b, off, rfl, hbs, _, hck⟩ := hx.at (Below.refl _ _) hlt
      have hxb := hb k hlt
      clear hb
      go_wp2
      go_round
      case rel => first | exact ⟨k + 1, by omega, by go_num, rfl⟩ | exact ⟨_, ⟨k + 1, by omega, by go_num, rfl⟩, rfl⟩ | exact ⟨_, _, ⟨k + 1, by omega, by go_num, rfl⟩, rfl, rfl⟩ | exact ⟨_, _, _, ⟨k + 1, by omega, by go_num, rfl⟩, rfl, rfl, rfl⟩ | exact ⟨_, _, _, _, ⟨k + 1, by omega, by go_num, rfl⟩, rfl, rfl, rfl, rfl⟩ | exact ⟨_, _, _, _, _, ⟨k + 1, by omega, by go_num, rfl⟩, rfl, rfl, rfl, rfl, rfl⟩
      case measure => simp [intOf]; omega
    · have hkn : k = n := by omega
      have HE : Hid (isum xs = isumTo xs k) := by show isumTo xs xs.length = _; rw [HL.out, hkn]
      clear hkn
      go_wp2
      go_ret
      exact ⟨ret_int HE.out.symm, (Below.refl _ _).alloc (Nat.le_refl _) _⟩
theorem massOk_size {s : Int} {xs : List Int} (h : okSize s = false) : massOk s xs = false := by simp [massOk, h]
theorem massOk_len {s : Int} {xs : List Int} (h : xs.length ≠ nsets s) : massOk s xs = false := by simp [massOk, h]
theorem massOk_bad {s : Int} {xs : List Int} {k : Nat} (hk : k < xs.length) (h : inB 0 1000000 (nth xs k) = false) : massOk s xs = false := by
  simp only [massOk]; rw [allN_false (p := fun k => inB 0 1000000 (nth xs k)) hk h]; simp
theorem massOk_rest {s : Int} {xs : List Int} (h1 : okSize s = true) (h2 : xs.length = nsets s) (h3 : ∀ k, k < xs.length → inB 0 1000000 (nth xs k) = true) :
    massOk s xs = (inB 1 1000000 (isum xs) && (gcdL xs == 1)) := by
  simp only [massOk]; rw [(allN_iff _ _).2 h3, h1, h2]; simp

set_option maxHeartbeats 1000000 in
theorem isMass_any (s : Int) (ao : Option Addr) (n c : Nat) (xs : List Int) (w : World) (hx : IntsAt w ao n xs) :
    Calls Tryz.prog 42 #[.agg #[.int .i64 s, .slice ao n c]] w fun e w' => e = .returned (.bool (massOk s xs)) ∧ Below w.heap.size w w' := by
  have hcap := hx.cap
  have HL := hid hx.len
  by_cases hs : okSize s = true
  · have hsn := nsets_le hs
    have hs0 : 1 ≤ s ∧ s ≤ 4 := by rcases okSize_iff.1 hs with h | h | h | h <;> omega
    have hsh := shl_size hs
    by_cases hl : n = nsets s
    · have hne : ((n : Int) != (nsets s : Int)) = false := by rw [hl]; simp
      have hn16 : n ≤ 16 := by omega
      have hn2 : 2 ≤ n := by omega
      by_cases hall : ∀ k, k < n → inB 0 1000000 (nth xs k) = true
      · have HM : Hid (massOk s xs = (inB 1 1000000 (isum xs) && (gcdL xs == 1))) := massOk_rest hs (by rw [hx.len]; exact hl) (fun k hk => hall k (by rw [← hx.len]; exact hk))
        have hall' : ∀ k, k < n → 0 ≤ nth xs k ∧ nth xs k ≤ 1000000 := fun k hk => inB_iff.1 (hall k hk)
        have HA := hid hall'
        clear hall' hall hl hsn
        rw [HM.out]
        go_enter Tryz.func42, Tryz.ntmps42
        go_wp2
        refine wp_region_ov (by kernel_rfl) (by kernel_rfl) ?_
        repeat (first | go_big_quiet_step ((go_at_call 88; exact ov_same (isSize_any _ _))) | quiet_step ((go_at_call 88; exact ov_same (isSize_any _ _))))
        refine wpQuiet_nil ?_
        intro _ hw_ov
        obtain ⟨x_ov, hw_ov2⟩ := hw_ov
        subst hw_ov2
        obtain ⟨w1, hw_ov3, hb1⟩ := ov_gen _ x_ov
        rw [hw_ov3]
        clear hw_ov3 x_ov
        obtain ⟨h10, h11, hB1⟩ := box2 hb1
        clear hb1
        go_wp2
        go_loop [2, 4, 22] (fun _ u i => ∃ k : Nat, k ≤ n ∧ i = .int .i64 k) (fun _ _ i => n - (intOf i).toNat)
        case atStart => exact ⟨0, by omega, rfl⟩
        case round =>
          obtain ⟨k, hk, rfl⟩ := hrel
          by_cases hlt : k < n
          · obtain ⟨b, off, rfl, hbs, _, hck⟩ := hx.at hB1 hlt
            have hxb := HA.out k hlt
            go_wp2
            go_round
            case rel => first | exact ⟨k + 1, by omega, by go_num⟩ | exact ⟨_, ⟨k + 1, by omega, by go_num⟩, rfl⟩ | exact ⟨_, _, ⟨k + 1, by omega, by go_num⟩, rfl, rfl⟩ | exact ⟨_, _, _, ⟨k + 1, by omega, by go_num⟩, rfl, rfl, rfl⟩ | exact ⟨_, _, _, _, ⟨k + 1, by omega, by go_num⟩, rfl, rfl, rfl, rfl⟩ | exact ⟨_, _, _, _, _, ⟨k + 1, by omega, by go_num⟩, rfl, rfl, rfl, rfl, rfl⟩
            case measure => simp [intOf]; omega
          · go_wp2_with fail
            refine (wholeOf_any _ _ _ _ _ _ (hx.below hB1) (fun k hk => by have := HA.out k hk; omega) hn16).mono ?_; rintro e w2 ⟨rfl, hb2⟩
            replace h10 := keep hb2 h10
            replace h11 := keep hb2 h11
            have hB2 := chain hB1 hb2
            clear hb2
            have HD := hid (fun k (hk : k < n) => (by have := HA.out k hk; omega : -4000000000000000000 ≤ nth xs k ∧ nth xs k ≤ 4000000000000000000))
            by_cases hS : inB 1 1000000 (isum xs) = true
            · have hS1 := inB_iff.1 hS
              go_wp2_with fail
              refine (divisorOf_any _ _ _ _ _ (hx.below hB2) HD.out).mono ?_; rintro e w3 ⟨rfl, hb3⟩
              go_wp2
              go_ret
              exact ⟨ret_bool (by rw [hS]; rfl), chain hB2 hb3⟩
            · have hS' : inB 1 1000000 (isum xs) = false := by simpa using hS
              rcases inB_false.1 hS' with hS1 | hS1
              all_goals
                go_wp2
                go_ret
                exact ⟨ret_bool (by simp [hS']), hB2⟩
      · have HE : ∃ k0, k0 < n ∧ inB 0 1000000 (nth xs k0) = false := by
          refine Classical.byContradiction fun hc => hall fun k hk => ?_
          cases h : inB 0 1000000 (nth xs k)
          · exact absurd ⟨k, hk, h⟩ hc
          · rfl
        obtain ⟨k0, hk0, hbad⟩ := HE
        rw [massOk_bad (by rw [hx.len]; exact hk0) hbad]
        have HB := hid (inB_false.1 hbad)
        clear hall hbad hl hsn
        go_enter Tryz.func42, Tryz.ntmps42
        go_wp2
        refine wp_region_ov (by kernel_rfl) (by kernel_rfl) ?_
        repeat (first | go_big_quiet_step ((go_at_call 88; exact ov_same (isSize_any _ _))) | quiet_step ((go_at_call 88; exact ov_same (isSize_any _ _))))
        refine wpQuiet_nil ?_
        intro _ hw_ov
        obtain ⟨x_ov, hw_ov2⟩ := hw_ov
        subst hw_ov2
        obtain ⟨w1, hw_ov3, hb1⟩ := ov_gen _ x_ov
        rw [hw_ov3]
        clear hw_ov3 x_ov
        obtain ⟨h10, h11, hB1⟩ := box2 hb1
        clear hb1
        go_wp2
        go_loop [2, 4, 22] (fun _ u i => ∃ k : Nat, k ≤ k0 ∧ i = .int .i64 k) (fun _ _ i => n - (intOf i).toNat)
        case atStart => exact ⟨0, by omega, rfl⟩
        case round =>
          obtain ⟨k, hk, rfl⟩ := hrel
          have hlt : k < n := by omega
          obtain ⟨b, off, rfl, hbs, _, hck⟩ := hx.at hB1 hlt
          by_cases hxb : inB 0 1000000 (nth xs k) = true
          · have hxb' := inB_iff.1 hxb
            have hne : k ≠ k0 := by rintro rfl; have := HB.out; omega
            go_wp2
            go_round
            case rel => first | exact ⟨k + 1, by omega, by go_num⟩ | exact ⟨_, ⟨k + 1, by omega, by go_num⟩, rfl⟩ | exact ⟨_, _, ⟨k + 1, by omega, by go_num⟩, rfl, rfl⟩ | exact ⟨_, _, _, ⟨k + 1, by omega, by go_num⟩, rfl, rfl, rfl⟩ | exact ⟨_, _, _, _, ⟨k + 1, by omega, by go_num⟩, rfl, rfl, rfl, rfl⟩ | exact ⟨_, _, _, _, _, ⟨k + 1, by omega, by go_num⟩, rfl, rfl, rfl, rfl, rfl⟩
            case measure => simp [intOf]; omega
          · have hxb' : inB 0 1000000 (nth xs k) = false := by simpa using hxb
            rcases inB_false.1 hxb' with hS1 | hS1
            all_goals
              go_wp2
              go_ret
              exact ⟨rfl, hB1⟩
    · rw [massOk_len (by rw [hx.len]; exact hl)]
      have hne : ((n : Int) != (nsets s : Int)) = true := by simpa using (show ¬ (n : Int) = (nsets s : Int) by omega)
      clear hsn hl
      go_enter Tryz.func42, Tryz.ntmps42
      go_wp2
      refine wp_region_ov (by kernel_rfl) (by kernel_rfl) ?_
      repeat (first | go_big_quiet_step ((go_at_call 88; exact ov_same (isSize_any _ _))) | quiet_step ((go_at_call 88; exact ov_same (isSize_any _ _))))
      refine wpQuiet_nil ?_
      intro _ hw_ov
      obtain ⟨x_ov, hw_ov2⟩ := hw_ov
      subst hw_ov2
      obtain ⟨w1, hw_ov3, hb1⟩ := ov_gen _ x_ov
      rw [hw_ov3]
      clear hw_ov3 x_ov
      go_wp2
      go_ret
      exact ⟨rfl, (below_alloc w _).trans (hb1.mono (by simp))⟩
  · have hs' : okSize s = false := by simpa using hs
    rw [massOk_size hs']
    clear hs
    go_enter Tryz.func42, Tryz.ntmps42
    go_wp2
    refine wp_region_ov (by kernel_rfl) (by kernel_rfl) ?_
    repeat (first | go_big_quiet_step ((go_at_call 88; exact ov_same (isSize_any _ _))) | quiet_step ((go_at_call 88; exact ov_same (isSize_any _ _))))
    refine wpQuiet_nil ?_
    intro _ hw_ov
    obtain ⟨x_ov, hw_ov2⟩ := hw_ov
    subst hw_ov2
    obtain ⟨w1, hw_ov3, hb1⟩ := ov_gen _ x_ov
    rw [hw_ov3]
    clear hw_ov3 x_ov
    go_wp2
    go_ret
    exact ⟨rfl, (Below.refl _ _).trans ((below_alloc w _).trans (hb1.mono (by simp)))⟩
theorem l1In_any (n lo hi : Int) (w : World) :
    Calls Tryz.prog 115 #[.int .i64 n, .int .i64 lo, .int .i64 hi] w fun e w' => e = .returned (.bool (inB lo hi n)) ∧ w = w' := by
  unfold inB
  go_enter Tryz.func115, Tryz.ntmps115
  go_wp2
  all_goals go_ret
  all_goals simp [*]
  omega
theorem SizeValid_any (n : Int) (w : World) :
    Calls Tryz.prog 128 #[.int .i64 n] w fun e w' => e = .returned (.bool (okSize n)) ∧ w = w' := by
  have HE : Hid (okSize n = inB 1 4 n) := rfl
  rw [HE.out]
  go_enter Tryz.func128, Tryz.ntmps128
  go_wp2_with (go_at_call 115; refine (l1In_any _ _ _ _).mono ?_; rintro e w' ⟨rfl, rfl⟩)
  go_ret
  exact ⟨rfl, rfl⟩
theorem isSetOf_any (s a : Int) (w : World) (hs : okSize s = true) :
    Calls Tryz.prog 159 #[.int .i64 s, .int .i64 a] w fun e w' => e = .returned (.bool (inB 0 ((nsets s : Int) - 1) a)) ∧ w = w' := by
  have hs0 : 1 ≤ s ∧ s ≤ 4 := by rcases okSize_iff.1 hs with h | h | h | h <;> omega
  have hsh := shl_size hs
  have hsn := nsets_le hs
  go_enter Tryz.func159, Tryz.ntmps159
  go_wp2
  all_goals go_ret
  all_goals refine ⟨ret_bool ?_, rfl⟩
  all_goals simp [inB, *]
  all_goals omega
theorem fullSet_any (s : Int) (w : World) (hs : okSize s = true) :
    Calls Tryz.prog 198 #[.int .i64 s] w fun e w' => e = .returned (.int .i64 ((nsets s : Int) - 1)) ∧ w = w' := by
  have hs0 : 1 ≤ s ∧ s ≤ 4 := by rcases okSize_iff.1 hs with h | h | h | h <;> omega
  have hsh := shl_size hs
  have hsn := nsets_le hs
  go_enter Tryz.func198, Tryz.ntmps198
  go_wp2
  go_ret
  exact ⟨rfl, rfl⟩
set_option maxHeartbeats 400000 in
theorem l2Divisor_any (a b : Int) (w : World) (ha : -4000000000000000000 ≤ a ∧ a ≤ 4000000000000000000) (hb : -4000000000000000000 ≤ b ∧ b ≤ 4000000000000000000) :
    Calls Tryz.prog 186 #[.int .i64 a, .int .i64 b] w fun e w' => e = .returned (.int .i64 (Int.gcd a b)) ∧ w = w' := by
  go_enter Tryz.func186, Tryz.ntmps186
  go_wp2
  all_goals
    go_loop [0, 1, 5] (fun x y t => ∃ x' y' : Int, x = .int .i64 x' ∧ y = .int .i64 y' ∧ 0 ≤ x' ∧ x' ≤ 4000000000000000000 ∧ 0 ≤ y' ∧ y' ≤ 4000000000000000000 ∧ Int.gcd x' y' = Int.gcd a b) (fun _ y _ => (intOf y).toNat)
    case atStart => exact ⟨_, _, rfl, rfl, by omega, by omega, by omega, by omega, by simp [Int.gcd]⟩
    case round =>
      obtain ⟨x, y, rfl, rfl, hx0, hx1, hy0, hy1, hg⟩ := hrel
      have HG := hid hg; clear hg
      by_cases h0 : 0 < y
      · have hb2 : (y == 0) = false := by simpa using (show ¬ y = 0 by omega)
        have hm0 : 0 ≤ x % y := Int.emod_nonneg _ (by omega)
        have hm1 : x % y < y := Int.emod_lt_of_pos _ h0
        have HS := hid (gcd_step' x y hx0 hy0)
        go_wp2
        go_round
        case rel => first | exact ⟨_, _, rfl, rfl, by omega, by omega, by omega, by omega, by rw [HS.out]; exact HG.out⟩ | exact ⟨_, ⟨_, _, rfl, rfl, by omega, by omega, by omega, by omega, by rw [HS.out]; exact HG.out⟩, rfl⟩ | exact ⟨_, _, ⟨_, _, rfl, rfl, by omega, by omega, by omega, by omega, by rw [HS.out]; exact HG.out⟩, rfl, rfl⟩ | exact ⟨_, _, _, ⟨_, _, rfl, rfl, by omega, by omega, by omega, by omega, by rw [HS.out]; exact HG.out⟩, rfl, rfl, rfl⟩ | exact ⟨_, _, _, _, ⟨_, _, rfl, rfl, by omega, by omega, by omega, by omega, by rw [HS.out]; exact HG.out⟩, rfl, rfl, rfl, rfl⟩ | exact ⟨_, _, _, _, _, ⟨_, _, rfl, rfl, by omega, by omega, by omega, by omega, by rw [HS.out]; exact HG.out⟩, rfl, rfl, rfl, rfl, rfl⟩
        case measure => simp [intOf]; omega
      · go_wp2
        go_ret
        exact ⟨ret_int (by rw [← HG.out, show y = 0 by omega]; simp [Int.gcd]; omega), rfl⟩
theorem gcdL_two (a b : Int) : gcdL [a, b] = Int.gcd a b := by simp [gcdL, gcdTo, iter, nth, Int.gcd]
theorem fracOk_num {num den : Int} (h : inB (-1000000000) 1000000000 num = false) : fracOk num den = false := by simp [fracOk, h]
theorem fracOk_den {num den : Int} (h : inB 1 1000000000 den = false) : fracOk num den = false := by simp [fracOk, h]
theorem fracOk_rest {num den : Int} (h1 : inB (-1000000000) 1000000000 num = true) (h2 : inB 1 1000000000 den = true) : fracOk num den = ((Int.gcd num den : Int) == 1) := by
  simp only [fracOk, h1, h2, Bool.true_and]; rw [Bool.eq_iff_iff]; simp; omega
set_option maxHeartbeats 400000 in
theorem isFraction_any (num den : Int) (w : World) :
    Calls Tryz.prog 90 #[.agg #[.int .i64 num, .int .i64 den]] w fun e w' => e = .returned (.bool (fracOk num den)) ∧ Below w.heap.size w w' := by
  by_cases hn : inB (-1000000000) 1000000000 num = true
  · by_cases hd : inB 1 1000000000 den = true
    · have hn' := inB_iff.1 hn
      have hd' := inB_iff.1 hd
      rw [fracOk_rest hn hd]
      have HD : Hid (∀ k, k < 2 → -4000000000000000000 ≤ nth [num, den] k ∧ nth [num, den] k ≤ 4000000000000000000) := by
        intro k hk
        have : k = 0 ∨ k = 1 := by omega
        rcases this with rfl | rfl
        · show -4000000000000000000 ≤ num ∧ num ≤ _; omega
        · show -4000000000000000000 ≤ den ∧ den ≤ _; omega
      go_enter Tryz.func90, Tryz.ntmps90
      go_wp2_with (first | (go_at_call 133; refine (isPart_any _ _).mono ?_; rintro e w' ⟨rfl, rfl⟩) | (go_at_call 89; fail))
      refine (divisorOf_any _ _ _ [num, den] _ (ints_lit _ _ _ _ _ _ (by simp) rfl rfl (by simp)) HD.out).mono ?_; rintro e w1 ⟨rfl, hb1⟩
      go_wp2
      go_ret
      exact ⟨ret_bool (by rw [gcdL_two]), (below_alloc w _).trans (((below_alloc _ _).trans (hb1.mono (by simp))).mono (by simp))⟩
    · have hd' : inB 1 1000000000 den = false := by simpa using hd
      clear hd
      rw [fracOk_den hd']
      rcases inB_false.1 hd' with hdd | hdd
      all_goals
        go_enter Tryz.func90, Tryz.ntmps90
        go_wp2_with (first | (go_at_call 133; refine (isPart_any _ _).mono ?_; rintro e w' ⟨rfl, rfl⟩))
        go_ret
        exact ⟨rfl, below_alloc w _⟩
  · have hn' : inB (-1000000000) 1000000000 num = false := by simpa using hn
    clear hn
    rw [fracOk_num hn']
    go_enter Tryz.func90, Tryz.ntmps90
    go_wp2_with (first | (go_at_call 133; refine (isPart_any _ _).mono ?_; rintro e w' ⟨rfl, rfl⟩))
    go_ret
    exact ⟨rfl, below_alloc w _⟩
theorem isShare_any (num den : Int) (w : World) :
    Calls Tryz.prog 221 #[.agg #[.int .i64 num, .int .i64 den]] w fun e w' => e = .returned (.bool (shareOk num den)) ∧ Below w.heap.size w w' := by
  go_enter Tryz.func221, Tryz.ntmps221
  go_wp2_with fail
  refine (isFraction_any _ _ _).mono ?_; rintro e w1 ⟨rfl, hb1⟩
  obtain ⟨h10, h11, hB1⟩ := box2 hb1
  clear hb1
  cases hf : fracOk num den
  · go_wp2
    go_ret
    exact ⟨ret_bool (by simp [shareOk, hf]), hB1⟩
  · go_wp2
    all_goals go_ret
    all_goals refine ⟨ret_bool ?_, hB1⟩
    all_goals simp [shareOk, hf, inB, *]
    omega
set_option maxHeartbeats 400000 in
theorem l3Sum_any (ao : Option Addr) (n c : Nat) (xs : List Int) (most : Int) (w : World) (hx : IntsAt w ao n xs) (hn : n ≤ 16) (hm0 : 0 ≤ most) (hm : most ≤ 1000000000) :
    Calls Tryz.prog 129 #[.slice ao n c, .int .i64 most] w fun e w' => e = .returned (.int .i64 (sumIn most xs)) ∧ w = w' := by
  have hcap := hx.cap
  have HL := hid hx.len
  cases ha : allN (fun k => inB 0 most (nth xs k)) xs.length
  · obtain ⟨k0, hk0, hbad⟩ := allN_ex ha
    have HE : Hid (sumIn most xs = -1) := by simp [Hid, sumIn, ha]
    rw [HE.out]
    rw [HL.out] at hk0
    have HB := hid hbad
    clear hbad ha
    go_enter Tryz.func129, Tryz.ntmps129
    go_wp2
    go_loop [4, 5, 6] (fun _ s i => ∃ k : Nat, k ≤ k0 ∧ i = .int .i64 k ∧ s = .int .i64 (isumTo xs k) ∧ 0 ≤ isumTo xs k ∧ isumTo xs k ≤ 1000000000 * k) (fun _ _ i => n - (intOf i).toNat)
    case atStart => exact ⟨0, by omega, rfl, rfl, by simp [isumTo, iter], by simp [isumTo, iter]⟩
    case round =>
      obtain ⟨k, hk, rfl, rfl, hs0, hs1⟩ := hrel
      have hlt : k < n := by omega
      obtain ⟨b, off, rfl, hbs, _, hck⟩ := hx.at (Below.refl _ _) hlt
      cases hxb : inB 0 most (nth xs k)
      · go_wp2_with (go_at_call 115; refine (l1In_any _ _ _ _).mono ?_; rintro e w' ⟨rfl, rfl⟩)
        go_ret
        exact ⟨rfl, rfl⟩
      · have hxb' := inB_iff.1 hxb
        have hne : k ≠ k0 := by rintro rfl; have := HB.out; rw [hxb] at this; cases this
        have HS := hid (isumTo_succ xs k)
        go_wp2_with (go_at_call 115; refine (l1In_any _ _ _ _).mono ?_; rintro e w' ⟨rfl, rfl⟩)
        go_round
        case rel => first | exact ⟨k + 1, by omega, by go_num, rfl, by rw [HS.out]; omega, by rw [HS.out]; omega⟩ | exact ⟨_, ⟨k + 1, by omega, by go_num, rfl, by rw [HS.out]; omega, by rw [HS.out]; omega⟩, rfl⟩ | exact ⟨_, _, ⟨k + 1, by omega, by go_num, rfl, by rw [HS.out]; omega, by rw [HS.out]; omega⟩, rfl, rfl⟩ | exact ⟨_, _, _, ⟨k + 1, by omega, by go_num, rfl, by rw [HS.out]; omega, by rw [HS.out]; omega⟩, rfl, rfl, rfl⟩ | exact ⟨_, _, _, _, ⟨k + 1, by omega, by go_num, rfl, by rw [HS.out]; omega, by rw [HS.out]; omega⟩, rfl, rfl, rfl, rfl⟩ | exact ⟨_, _, _, _, _, ⟨k + 1, by omega, by go_num, rfl, by rw [HS.out]; omega, by rw [HS.out]; omega⟩, rfl, rfl, rfl, rfl, rfl⟩
        case measure => simp [intOf]; omega
  · have HA := hid ((allN_iff _ _).1 ha)
    have HE : Hid (sumIn most xs = isum xs) := by simp [Hid, sumIn, ha]
    rw [HE.out]
    clear ha
    go_enter Tryz.func129, Tryz.ntmps129
    go_wp2
    go_loop [4, 5, 6] (fun _ s i => ∃ k : Nat, k ≤ n ∧ i = .int .i64 k ∧ s = .int .i64 (isumTo xs k) ∧ 0 ≤ isumTo xs k ∧ isumTo xs k ≤ 1000000000 * k) (fun _ _ i => n - (intOf i).toNat)
    case atStart => exact ⟨0, by omega, rfl, rfl, by simp [isumTo, iter], by simp [isumTo, iter]⟩
    case round =>
      obtain ⟨k, hk, rfl, rfl, hs0, hs1⟩ := hrel
      by_cases hlt : k < n
      · obtain ⟨b, off, rfl, hbs, _, hck⟩ := hx.at (Below.refl _ _) hlt
        have hxb := HA.out k (by rw [HL.out]; exact hlt)
        have hxb' := inB_iff.1 hxb
        have HS := hid (isumTo_succ xs k)
        go_wp2_with (go_at_call 115; refine (l1In_any _ _ _ _).mono ?_; rintro e w' ⟨rfl, rfl⟩)
        go_round
        case rel => first | exact ⟨k + 1, by omega, by go_num, rfl, by rw [HS.out]; omega, by rw [HS.out]; omega⟩ | exact ⟨_, ⟨k + 1, by omega, by go_num, rfl, by rw [HS.out]; omega, by rw [HS.out]; omega⟩, rfl⟩ | exact ⟨_, _, ⟨k + 1, by omega, by go_num, rfl, by rw [HS.out]; omega, by rw [HS.out]; omega⟩, rfl, rfl⟩ | exact ⟨_, _, _, ⟨k + 1, by omega, by go_num, rfl, by rw [HS.out]; omega, by rw [HS.out]; omega⟩, rfl, rfl, rfl⟩ | exact ⟨_, _, _, _, ⟨k + 1, by omega, by go_num, rfl, by rw [HS.out]; omega, by rw [HS.out]; omega⟩, rfl, rfl, rfl, rfl⟩ | exact ⟨_, _, _, _, _, ⟨k + 1, by omega, by go_num, rfl, by rw [HS.out]; omega, by rw [HS.out]; omega⟩, rfl, rfl, rfl, rfl, rfl⟩
        case measure => simp [intOf]; omega
      · have hkn : k = n := by omega
        have HE : Hid (isum xs = isumTo xs k) := by show isumTo xs xs.length = _; rw [HL.out, hkn]
        clear hkn
        go_wp2
        go_ret
        exact ⟨ret_int HE.out.symm, rfl⟩
set_option maxHeartbeats 400000 in
theorem l3Lowest_any (ao : Option Addr) (n c : Nat) (xs : List Int) (w : World) (hx : IntsAt w ao n xs) (hb : ∀ k, k < n → -4000000000000000000 ≤ nth xs k ∧ nth xs k ≤ 4000000000000000000) :
    Calls Tryz.prog 130 #[.slice ao n c] w fun e w' => e = .returned (.int .i64 (gcdL xs)) ∧ w = w' := by
  have hcap := hx.cap
  have HL := hid hx.len
  go_enter Tryz.func130, Tryz.ntmps130
  go_wp2
  go_loop [3, 4] (fun d i => ∃ (k : Nat), k ≤ n ∧ i = .int .i64 k ∧ d = .int .i64 (gcdTo xs k) ∧ 0 ≤ gcdTo xs k ∧ gcdTo xs k ≤ 4000000000000000000) (fun _ i => n - (intOf i).toNat)
  case atStart => exact ⟨0, by omega, rfl, rfl, by simp [gcdTo, iter], by simp [gcdTo, iter]⟩
  case round =>
    obtain ⟨k, hk, rfl, rfl, hd1, hd2⟩ := hrel
    by_cases hlt : k < n
    · obtain ⟨b, off, rfl, hbs0, hbs, hck⟩ := hx.at (Below.refl _ _) hlt
      have hxb := hb k hlt
      have HS := hid (gcdTo_succ xs k)
      have HG := hid (gcd_le (gcdTo xs k) (nth xs k) 4000000000000000000 (by omega) (by omega) (by omega) (by omega))
      clear hb
      go_wp2_with (go_at_call 186; refine (l2Divisor_any _ _ _ (by omega) (by omega)).mono ?_; rintro e w' ⟨rfl, rfl⟩)
      go_round
      case rel => first | exact ⟨k + 1, by omega, by go_num, by rw [HS.out], by rw [HS.out]; omega, by rw [HS.out]; exact HG.out⟩ | exact ⟨_, ⟨k + 1, by omega, by go_num, by rw [HS.out], by rw [HS.out]; omega, by rw [HS.out]; exact HG.out⟩, rfl⟩ | exact ⟨_, _, ⟨k + 1, by omega, by go_num, by rw [HS.out], by rw [HS.out]; omega, by rw [HS.out]; exact HG.out⟩, rfl, rfl⟩ | exact ⟨_, _, _, ⟨k + 1, by omega, by go_num, by rw [HS.out], by rw [HS.out]; omega, by rw [HS.out]; exact HG.out⟩, rfl, rfl, rfl⟩ | exact ⟨_, _, _, _, ⟨k + 1, by omega, by go_num, by rw [HS.out], by rw [HS.out]; omega, by rw [HS.out]; exact HG.out⟩, rfl, rfl, rfl, rfl⟩ | exact ⟨_, _, _, _, _, ⟨k + 1, by omega, by go_num, by rw [HS.out], by rw [HS.out]; omega, by rw [HS.out]; exact HG.out⟩, rfl, rfl, rfl, rfl, rfl⟩
      case measure => simp [intOf]; omega
    · have hkn : k = n := by omega
      have HE : Hid (gcdL xs = gcdTo xs k) := by show gcdTo xs xs.length = _; rw [HL.out, hkn]
      clear hkn
      go_wp2
      go_ret
      exact ⟨ret_int HE.out.symm, rfl⟩
theorem inB_m1 : inB 1 1000000 (-1) = false := by decide
theorem massOk_sum {s : Int} {xs : List Int} (h1 : okSize s = true) (h2 : xs.length = nsets s) : massOk s xs = (inB 1 1000000 (sumIn 1000000 xs) && (gcdL xs == 1)) := by
  simp only [massOk, h1, h2, sumIn]
  cases h : allN (fun k => inB 0 1000000 (nth xs k)) (nsets s) <;> simp [h, inB_m1]
set_option maxHeartbeats 400000 in
theorem MassValid_any (s : Int) (ao : Option Addr) (n c : Nat) (xs : List Int) (w : World) (hx : IntsAt w ao n xs) :
    Calls Tryz.prog 82 #[.agg #[.int .i64 s, .slice ao n c]] w fun e w' => e = .returned (.bool (massOk s xs)) ∧ Below w.heap.size w w' := by
  have hcap := hx.cap
  have HL := hid hx.len
  by_cases hs : okSize s = true
  · have hsn := nsets_le hs
    have hs0 : 1 ≤ s ∧ s ≤ 4 := by rcases okSize_iff.1 hs with h | h | h | h <;> omega
    have hsh := shl_size hs
    by_cases hl : n = nsets s
    · have hne : ((n : Int) == (nsets s : Int)) = true := by rw [hl]; simp
      have hn16 : n ≤ 16 := by omega
      have HM := hid (massOk_sum hs (by rw [hx.len]; exact hl))
      rw [HM.out]
      clear hl
      cases hS : inB 1 1000000 (sumIn 1000000 xs)
      · go_enter Tryz.func82, Tryz.ntmps82
        go_wp2_with (first | (go_at_call 128; refine (SizeValid_any _ _).mono ?_; rintro e w' ⟨rfl, rfl⟩) | (go_at_call 129; refine (l3Sum_any _ _ _ _ _ _ (hx.below (below_alloc w _)) hn16 (by omega) (by omega)).mono ?_; rintro e w' ⟨rfl, rfl⟩) | (go_at_call 115; refine (l1In_any _ _ _ _).mono ?_; rintro e w' ⟨rfl, rfl⟩))
        go_ret
        exact ⟨rfl, below_alloc w _⟩
      · have HA : Hid (∀ k, k < n → -4000000000000000000 ≤ nth xs k ∧ nth xs k ≤ 4000000000000000000) := by
          intro k hk
          cases ha : allN (fun k => inB 0 1000000 (nth xs k)) xs.length
          · simp [sumIn, ha, inB_m1] at hS
          · have := inB_iff.1 ((allN_iff _ _).1 ha k (by rw [HL.out]; exact hk)); omega
        go_enter Tryz.func82, Tryz.ntmps82
        go_wp2_with (first | (go_at_call 128; refine (SizeValid_any _ _).mono ?_; rintro e w' ⟨rfl, rfl⟩) | (go_at_call 129; refine (l3Sum_any _ _ _ _ _ _ (hx.below (below_alloc w _)) hn16 (by omega) (by omega)).mono ?_; rintro e w' ⟨rfl, rfl⟩) | (go_at_call 115; refine (l1In_any _ _ _ _).mono ?_; rintro e w' ⟨rfl, rfl⟩) | (go_at_call 130; refine (l3Lowest_any _ _ _ _ _ (hx.below (below_alloc w _)) HA.out).mono ?_; rintro e w' ⟨rfl, rfl⟩))
        go_ret
        exact ⟨rfl, below_alloc w _⟩
    · have hne : ((n : Int) == (nsets s : Int)) = false := by simpa using (show ¬ (n : Int) = (nsets s : Int) by omega)
      rw [massOk_len (by rw [hx.len]; exact hl)]
      clear hl
      go_enter Tryz.func82, Tryz.ntmps82
      go_wp2_with (first | (go_at_call 128; refine (SizeValid_any _ _).mono ?_; rintro e w' ⟨rfl, rfl⟩))
      go_ret
      exact ⟨rfl, below_alloc w _⟩
  · have hs' : okSize s = false := by simpa using hs
    rw [massOk_size hs']
    clear hs
    go_enter Tryz.func82, Tryz.ntmps82
    go_wp2_with (first | (go_at_call 128; refine (SizeValid_any _ _).mono ?_; rintro e w' ⟨rfl, rfl⟩))
    go_ret
    exact ⟨rfl, below_alloc w _⟩
/-- a function that returns a mass and whether there is one has returned r, its parts in new memory -/
def RetM (r : MR) (base : Nat) (e : Ending) (w' : World) : Prop :=
  ∃ v, e = .returned (.tuple #[.agg #[.int .i64 r.size, v], .bool r.ok]) ∧ Row w' base v r.parts
theorem RetM.no (base : Nat) (w' : World) : RetM MR.no base (.returned (.tuple #[.agg #[.int .i64 0, .slice none 0 0], .bool false])) w' := ⟨_, rfl, Row.nil _ _⟩

theorem heap_set_known {w : World} {b i : Nat} {u : Value} {cs : Array Value} {t : TypeId} {fr : Nat × Nat} (h : w.heap[b]? = some (.cells cs t fr)) :
    (w.setCell ⟨b, i, none⟩ u).heap[b]? = some (.cells (cs.setIfInBounds i u) t fr) := by
  have hlt := lt_of_block h
  have h' : w.heap[b] = .cells cs t fr := by simpa [Array.getElem?_eq_getElem hlt] using h
  show (w.heap.modify b _)[b]? = _
  rw [Array.getElem?_eq_getElem (by simpa using hlt), Array.getElem_modify_self, h']
  simp
theorem cell_known {w : World} {b i : Nat} {cs : Array Value} {t : TypeId} {fr : Nat × Nat} (h : w.heap[b]? = some (.cells cs t fr)) : w.cell? ⟨b, i, none⟩ = cs[i]? := by simp [World.cell?, h]
theorem free_known {w : World} {b i : Nat} {cs : Array Value} {t : TypeId} (h : w.heap[b]? = some (.cells cs t (0, 0))) : w.frozen? ⟨b, i, none⟩ = false := by simp [World.frozen?, h]
theorem below_of_eq {w w' : World} (h : w = w') : Below w.heap.size w w' := by subst h; exact Below.refl _ _
theorem Row.setBelow {w : World} {base : Nat} {v : Value} {xs : List Int} (h : Row w base v xs) {a : Addr} (ha : a.block < base) (u : Value) : Row (w.setCell a u) base v xs :=
  ownsRow_setCell_other h (fun e => by have := (h.block _ e).1; omega) u
/-- a struct of two fields in block C, its slice field appended to -/
theorem field_step {w1 wr wa w' : World} {C base : Nat} {a v v' : Value} {t : TypeId} {xs ys : List Int} (hC : wr.heap[C]? = some (.cells #[a, v] t (0, 0))) (hcb : C < base)
    (hrow : Row wr base v xs) (hB : Below C w1 wr) (ha : Below wr.heap.size wr wa) (hr' : Row w' base v' ys) (hg : wa.grownBy w' v.ownBlock) :
    w'.cell? ⟨C, 1, none⟩ = some v ∧ w'.frozen? ⟨C, 1, none⟩ = false ∧ (w'.setCell ⟨C, 1, none⟩ v').heap[C]? = some (.cells #[a, v'] t (0, 0)) ∧ Row (w'.setCell ⟨C, 1, none⟩ v') base v' ys ∧ Below C w1 (w'.setCell ⟨C, 1, none⟩ v') ∧ C < w'.heap.size := by
  have hlt := lt_of_block hC
  have hne : some C ≠ v.ownBlock := by
    intro e
    have := (hrow.block C e.symm).1
    omega
  have h1 : wa.heap[C]? = some (.cells #[a, v] t (0, 0)) := by rw [ha.block C hlt]; exact hC
  have h2 : w'.heap[C]? = some (.cells #[a, v] t (0, 0)) := by rw [hg.block C (lt_of_block h1) hne]; exact h1
  refine ⟨by rw [cell_known h2]; rfl, free_known h2, by rw [heap_set_known h2]; rfl, ?_, ?_, lt_of_block h2⟩
  · refine ownsRow_setCell_other hr' ?_ _
    intro e
    have := (hr'.block C e).1
    omega
  · have h3 : Below C w1 wa := hB.trans (ha.mono (Nat.le_of_lt hlt))
    exact (h3.grown hg (Nat.le_of_lt (lt_of_block h1)) (fun k hk => by have := (hrow.block k hk).1; omega)).setCell (Nat.le_refl _) _
theorem mkMass_zero {s : Int} {xs : List Int} (h : gcdL xs = 0) : mkMass s xs = MR.no := by simp [mkMass, h]
theorem take_snoc (xs : List Int) (k : Nat) (d : Int) (h : k < xs.length) : (xs.map (· / d)).take (k + 1) = (xs.map (· / d)).take k ++ [nth xs k / d] := by
  rw [List.take_succ_eq_append_getElem (by simpa using h)]; simp [nth_eq _ _ h]
theorem quo_eq (x d : Int) (h0 : 0 ≤ x) (h1 : x ≤ 4000000000000000000) (hd : 1 ≤ d) : IntKind.i64.wrap (x.tdiv d) = x / d := by
  have h2 : 0 ≤ x / d := Int.ediv_nonneg h0 (by omega)
  have h3 : x / d ≤ x := Int.ediv_le_self _ h0
  rw [Int.tdiv_eq_ediv_of_nonneg h0]; exact IntWalk.i64_in _ (by omega)
set_option maxHeartbeats 1000000 in
theorem makeMass_any (s : Int) (ao : Option Addr) (n c : Nat) (xs : List Int) (w : World) (hx : IntsAt w ao n xs) (hn : n ≤ 16) (hb : ∀ k, k < n → 0 ≤ nth xs k ∧ nth xs k ≤ 4000000000000000000) :
    Calls Tryz.prog 43 #[.int .i64 s, .slice ao n c] w fun e w' => RetM (mkMass s xs) w.heap.size e w' ∧ Below w.heap.size w w' := by
  have hcap := hx.cap
  have HL := hid hx.len
  have HD := hid (fun k (hk : k < n) => (by have := hb k hk; omega : -4000000000000000000 ≤ nth xs k ∧ nth xs k ≤ 4000000000000000000))
  have HB := hid hb
  clear hb
  have hg0 := gcdTo_nonneg xs xs.length
  by_cases hz : gcdL xs = 0
  · rw [mkMass_zero hz]
    have HZ := hid hz
    clear hz hg0
    go_enter Tryz.func43, Tryz.ntmps43
    go_wp2_with fail
    refine (divisorOf_any _ _ _ _ _ (hx.below (below_alloc w _)) HD.out).mono ?_; rintro e w1 ⟨rfl, hb1⟩
    rw [HZ.out]
    obtain ⟨h10, h11, f10, f11, hB1⟩ := box2f hb1
    clear hb1
    go_wp2
    refine bodyPost_ret (v := .tuple #[.agg #[.int .i64 0, .slice none 0 0], .bool false]) (by simp [results, Tryz.results43, go_sem, h10, h11]) rfl ⟨RetM.no _ _, ?_⟩
    exact (hB1.setCell (Nat.le_refl _) _).setCell (Nat.le_refl _) _
  · have hg1 : 1 ≤ gcdL xs := by have : 0 ≤ gcdL xs := hg0; omega
    have hgm : gcdL xs ≤ 4000000000000000000 := by
      by_cases h0 : n = 0
      · exfalso; apply hz; show gcdTo xs xs.length = 0; rw [HL.out, h0]; rfl
      · refine gcdTo_le xs 4000000000000000000 (by omega) xs.length (fun k hk => ?_)
        have := HD.out k (by rw [← HL.out]; exact hk); omega
    have HZ := hid hz
    clear hz hg0
    obtain ⟨d, HDd⟩ : ∃ d, Hid (gcdL xs = d) := ⟨_, rfl⟩
    rw [HDd.out] at hg1 hgm
    have hd0 : (d == 0) = false := by simpa using (show ¬ d = 0 by omega)
    go_enter Tryz.func43, Tryz.ntmps43
    go_wp2_with fail
    refine (divisorOf_any _ _ _ _ _ (hx.below (below_alloc w _)) HD.out).mono ?_; rintro e w1 ⟨rfl, hb1⟩
    rw [HDd.out]
    obtain ⟨h10, h11, f10, f11, hB1⟩ := box2f hb1
    clear hb1
    go_wp2_with fail
    have HDk : Hid (∀ k, k < xs.length → (xs.map (· / d)).take (k + 1) = (xs.map (· / d)).take k ++ [nth xs k / d]) := fun k hk => take_snoc xs k d hk
    go_loopw [9, 19] (fun _ i wr => ∃ (k : Nat) (v : Value), k ≤ n ∧ i = .int .i64 k ∧ wr.heap[w1.heap.size]? = some (.cells #[.int .i64 s, v] 25 (0, 0)) ∧ Row wr (w1.heap.size + 1) v ((xs.map (· / d)).take k) ∧ Below w1.heap.size w1 wr) (fun _ i _ => n - (intOf i).toNat)
    case atStart => exact ⟨0, _, by omega, rfl, heap_alloc_new w1 _, Row.nil _ _, below_alloc w1 _⟩
    case round =>
      obtain ⟨k, v, hk, rfl, hC, hrow, hBr⟩ := hrel
      have hB := chain hB1 hBr
      have hc1 := cell_known (i := 1) hC
      have hf1 := free_known (i := 1) hC
      by_cases hlt : k < n
      · obtain ⟨b, off, rfl, hbs, hbs', hck⟩ := hx.at hB hlt
        have hxb := HB.out k hlt
        have hlen : ((xs.map (· / d)).take k).length = k := by rw [List.length_take, List.length_map, HL.out]; omega
        have HLn := hid hlen; clear hlen
        have hq : 0 ≤ nth xs k / d := Int.ediv_nonneg (by omega) (by omega)
        have hq2 : nth xs k / d ≤ nth xs k := Int.ediv_le_self _ (by omega)
        have hCs := lt_of_block hC
        have HC := hid hC; clear hC
        have hdz : ¬ d = 0 := by omega
        have hqe := quo_eq (nth xs k) d (by omega) (by omega) (by omega)
        have HDn := HDk.out k (by rw [HL.out]; exact hlt)
        have HDK := hid HDn; clear HDn
        go_wp2
        go_region_law ((refine step_append_int rfl _ _ rfl (w1.heap.size + 1) v _ k HLn.out rfl (hrow.below ?_) _ _ (nth xs k / d) rfl ?_ ?_ ?_ ?_; exact ((Below.refl _ _).drew.alloc (Nat.le_refl _) _); simp; omega; (simp; omega); intro g c' w' hrow' hgrow; obtain ⟨g1, g2, g3, g4, g5, g6⟩ := field_step HC.out (Nat.lt_succ_self _) hrow hBr ((Below.refl _ _).drew.alloc (Nat.le_refl _) _) hrow' hgrow))
        all_goals
          go_wp2
          go_roundw
          case rel => first | exact ⟨k + 1, _, by omega, by go_num, g3, by rw [HDK.out]; exact g4, g5⟩ | exact ⟨_, ⟨k + 1, _, by omega, by go_num, g3, by rw [HDK.out]; exact g4, g5⟩, rfl⟩ | exact ⟨_, _, ⟨k + 1, _, by omega, by go_num, g3, by rw [HDK.out]; exact g4, g5⟩, rfl, rfl⟩ | exact ⟨_, _, _, ⟨k + 1, _, by omega, by go_num, g3, by rw [HDK.out]; exact g4, g5⟩, rfl, rfl, rfl⟩ | exact ⟨_, _, _, _, ⟨k + 1, _, by omega, by go_num, g3, by rw [HDK.out]; exact g4, g5⟩, rfl, rfl, rfl, rfl⟩ | exact ⟨_, _, _, _, _, ⟨k + 1, _, by omega, by go_num, g3, by rw [HDK.out]; exact g4, g5⟩, rfl, rfl, rfl, rfl, rfl⟩
          case measure => simp [intOf]; omega
      · have hkn : k = n := by omega
        have hfull : (xs.map (· / d)).take k = xs.map (· / d) := List.take_of_length_le (by rw [List.length_map, HL.out]; omega)
        rw [hfull] at hrow
        clear hfull hkn
        obtain ⟨ao', n', c', rfl, hi⟩ := hrow.ints
        have HM : Hid (mkMass s xs = if massOk s (xs.map (· / d)) then ⟨s, xs.map (· / d), true⟩ else MR.no) := by
          show mkMass s xs = _; unfold mkMass; rw [if_neg HZ.out, HDd.out]
        have hc0 := cell_known (i := 0) hC
        have HC := hid hC; clear hC
        have g10 := keep hBr h10
        have g11 := keep hBr h11
        have gf10 := keepF hBr h10 f10
        have gf11 := keepF hBr h11 f11
        go_wp2_with fail
        refine (isMass_any _ _ _ _ _ _ hi).mono ?_; rintro e w2 ⟨rfl, hb2⟩
        replace g10 := keep hb2 g10
        replace g11 := keep hb2 g11
        replace gf10 := keepF hb2 (keep hBr h10) gf10
        replace gf11 := keepF hb2 (keep hBr h11) gf11
        have hD0 := keep hb2 hc0
        have hD1 := keep hb2 hc1
        have hB2 := chain hB hb2
        have hrow2 := hrow.below hb2
        clear hc0 hc1 h10 h11 f10 f11 hf1
        cases hm : massOk s (xs.map (· / d))
        · go_wp2
          refine bodyPost_ret (v := .tuple #[.agg #[.int .i64 0, .slice none 0 0], .bool false]) (by simp [results, Tryz.results43, go_sem, g10, g11]) rfl ⟨?_, (hB2.setCell (Nat.le_refl _) _).setCell (Nat.le_refl _) _⟩
          rw [HM.out, hm]
          exact RetM.no _ _
        · go_wp2
          refine bodyPost_ret (v := .tuple #[.agg #[.int .i64 s, .slice ao' n' c'], .bool true]) (by simp [results, Tryz.results43, go_sem, g10, g11]) rfl ⟨?_, (hB2.setCell (Nat.le_refl _) _).setCell (Nat.le_refl _) _⟩
          rw [HM.out, if_pos hm]
          exact ⟨_, rfl, ((hrow2.setBelow (by have := hB1.size; simp; omega) _).setBelow (by have := hB1.size; simp; omega) _).mono (by have := hB1.size; omega)⟩
set_option maxHeartbeats 1000000 in
theorem l3Made_any (s : Int) (ao : Option Addr) (n c : Nat) (xs : List Int) (w : World) (hx : IntsAt w ao n xs) (hn : n ≤ 16) (hb : ∀ k, k < n → 0 ≤ nth xs k ∧ nth xs k ≤ 4000000000000000000) :
    Calls Tryz.prog 87 #[.int .i64 s, .slice ao n c] w fun e w' => RetM (mkMass s xs) w.heap.size e w' ∧ Below w.heap.size w w' := by
  have hcap := hx.cap
  have HL := hid hx.len
  have HD := hid (fun k (hk : k < n) => (by have := hb k hk; omega : -4000000000000000000 ≤ nth xs k ∧ nth xs k ≤ 4000000000000000000))
  have HB := hid hb
  clear hb
  have hg0 := gcdTo_nonneg xs xs.length
  by_cases hz : gcdL xs = 0
  · rw [mkMass_zero hz]
    have HZ := hid hz
    clear hz hg0
    go_enter Tryz.func87, Tryz.ntmps87
    go_wp2_with fail
    refine (l3Lowest_any _ _ _ _ _ (hx.below (below_alloc w _)) HD.out).mono ?_; rintro e w1 ⟨rfl, hb1⟩; replace hb1 := below_of_eq hb1
    rw [HZ.out]
    obtain ⟨h10, h11, f10, f11, hB1⟩ := box2f hb1
    clear hb1
    go_wp2
    refine bodyPost_ret (v := .tuple #[.agg #[.int .i64 0, .slice none 0 0], .bool false]) (by simp [results, Tryz.results87, go_sem, h10, h11]) rfl ⟨RetM.no _ _, ?_⟩
    exact (hB1.setCell (Nat.le_refl _) _).setCell (Nat.le_refl _) _
  · have hg1 : 1 ≤ gcdL xs := by have : 0 ≤ gcdL xs := hg0; omega
    have hgm : gcdL xs ≤ 4000000000000000000 := by
      by_cases h0 : n = 0
      · exfalso; apply hz; show gcdTo xs xs.length = 0; rw [HL.out, h0]; rfl
      · refine gcdTo_le xs 4000000000000000000 (by omega) xs.length (fun k hk => ?_)
        have := HD.out k (by rw [← HL.out]; exact hk); omega
    have HZ := hid hz
    clear hz hg0
    obtain ⟨d, HDd⟩ : ∃ d, Hid (gcdL xs = d) := ⟨_, rfl⟩
    rw [HDd.out] at hg1 hgm
    have hd0 : (d == 0) = false := by simpa using (show ¬ d = 0 by omega)
    go_enter Tryz.func87, Tryz.ntmps87
    go_wp2_with fail
    refine (l3Lowest_any _ _ _ _ _ (hx.below (below_alloc w _)) HD.out).mono ?_; rintro e w1 ⟨rfl, hb1⟩; replace hb1 := below_of_eq hb1
    rw [HDd.out]
    obtain ⟨h10, h11, f10, f11, hB1⟩ := box2f hb1
    clear hb1
    go_wp2_with fail
    have HDk : Hid (∀ k, k < xs.length → (xs.map (· / d)).take (k + 1) = (xs.map (· / d)).take k ++ [nth xs k / d]) := fun k hk => take_snoc xs k d hk
    go_loopw [8] (fun i wr => ∃ (k : Nat) (v : Value), k ≤ n ∧ i = .int .i64 k ∧ wr.heap[w1.heap.size]? = some (.cells #[.int .i64 s, v] 25 (0, 0)) ∧ Row wr (w1.heap.size + 1) v ((xs.map (· / d)).take k) ∧ Below w1.heap.size w1 wr) (fun i _ => n - (intOf i).toNat)
    case atStart => exact ⟨0, _, by omega, rfl, heap_alloc_new w1 _, Row.nil _ _, below_alloc w1 _⟩
    case round =>
      obtain ⟨k, v, hk, rfl, hC, hrow, hBr⟩ := hrel
      have hB := chain hB1 hBr
      have hc1 := cell_known (i := 1) hC
      have hf1 := free_known (i := 1) hC
      by_cases hlt : k < n
      · obtain ⟨b, off, rfl, hbs, hbs', hck⟩ := hx.at hB hlt
        have hxb := HB.out k hlt
        have hlen : ((xs.map (· / d)).take k).length = k := by rw [List.length_take, List.length_map, HL.out]; omega
        have HLn := hid hlen; clear hlen
        have hq : 0 ≤ nth xs k / d := Int.ediv_nonneg (by omega) (by omega)
        have hq2 : nth xs k / d ≤ nth xs k := Int.ediv_le_self _ (by omega)
        have hCs := lt_of_block hC
        have HC := hid hC; clear hC
        have hdz : ¬ d = 0 := by omega
        have hqe := quo_eq (nth xs k) d (by omega) (by omega) (by omega)
        have HDn := HDk.out k (by rw [HL.out]; exact hlt)
        have HDK := hid HDn; clear HDn
        go_wp2
        go_region_law ((refine step_append_int rfl _ _ rfl (w1.heap.size + 1) v _ k HLn.out rfl (hrow.below ?_) _ _ (nth xs k / d) rfl ?_ ?_ ?_ ?_; exact ((Below.refl _ _).drew.alloc (Nat.le_refl _) _); simp; omega; (simp; omega); intro g c' w' hrow' hgrow; obtain ⟨g1, g2, g3, g4, g5, g6⟩ := field_step HC.out (Nat.lt_succ_self _) hrow hBr ((Below.refl _ _).drew.alloc (Nat.le_refl _) _) hrow' hgrow))
        all_goals
          go_wp2
          go_roundw
          case rel => first | exact ⟨k + 1, _, by omega, by go_num, g3, by rw [HDK.out]; exact g4, g5⟩ | exact ⟨_, ⟨k + 1, _, by omega, by go_num, g3, by rw [HDK.out]; exact g4, g5⟩, rfl⟩ | exact ⟨_, _, ⟨k + 1, _, by omega, by go_num, g3, by rw [HDK.out]; exact g4, g5⟩, rfl, rfl⟩ | exact ⟨_, _, _, ⟨k + 1, _, by omega, by go_num, g3, by rw [HDK.out]; exact g4, g5⟩, rfl, rfl, rfl⟩ | exact ⟨_, _, _, _, ⟨k + 1, _, by omega, by go_num, g3, by rw [HDK.out]; exact g4, g5⟩, rfl, rfl, rfl, rfl⟩ | exact ⟨_, _, _, _, _, ⟨k + 1, _, by omega, by go_num, g3, by rw [HDK.out]; exact g4, g5⟩, rfl, rfl, rfl, rfl, rfl⟩
          case measure => simp [intOf]; omega
      · have hkn : k = n := by omega
        have hfull : (xs.map (· / d)).take k = xs.map (· / d) := List.take_of_length_le (by rw [List.length_map, HL.out]; omega)
        rw [hfull] at hrow
        clear hfull hkn
        obtain ⟨ao', n', c', rfl, hi⟩ := hrow.ints
        have HM : Hid (mkMass s xs = if massOk s (xs.map (· / d)) then ⟨s, xs.map (· / d), true⟩ else MR.no) := by
          show mkMass s xs = _; unfold mkMass; rw [if_neg HZ.out, HDd.out]
        have hc0 := cell_known (i := 0) hC
        have HC := hid hC; clear hC
        have g10 := keep hBr h10
        have g11 := keep hBr h11
        have gf10 := keepF hBr h10 f10
        have gf11 := keepF hBr h11 f11
        go_wp2_with fail
        refine (MassValid_any _ _ _ _ _ _ hi).mono ?_; rintro e w2 ⟨rfl, hb2⟩
        replace g10 := keep hb2 g10
        replace g11 := keep hb2 g11
        replace gf10 := keepF hb2 (keep hBr h10) gf10
        replace gf11 := keepF hb2 (keep hBr h11) gf11
        have hD0 := keep hb2 hc0
        have hD1 := keep hb2 hc1
        have hB2 := chain hB hb2
        have hrow2 := hrow.below hb2
        clear hc0 hc1 h10 h11 f10 f11 hf1
        cases hm : massOk s (xs.map (· / d))
        · go_wp2
          refine bodyPost_ret (v := .tuple #[.agg #[.int .i64 0, .slice none 0 0], .bool false]) (by simp [results, Tryz.results87, go_sem, g10, g11]) rfl ⟨?_, (hB2.setCell (Nat.le_refl _) _).setCell (Nat.le_refl _) _⟩
          rw [HM.out, hm]
          exact RetM.no _ _
        · go_wp2
          refine bodyPost_ret (v := .tuple #[.agg #[.int .i64 s, .slice ao' n' c'], .bool true]) (by simp [results, Tryz.results87, go_sem, g10, g11]) rfl ⟨?_, (hB2.setCell (Nat.le_refl _) _).setCell (Nat.le_refl _) _⟩
          rw [HM.out, if_pos hm]
          exact ⟨_, rfl, ((hrow2.setBelow (by have := hB1.size; simp; omega) _).setBelow (by have := hB1.size; simp; omega) _).mono (by have := hB1.size; omega)⟩
theorem Row.cellAt {w : World} {base g n c k : Nat} {xs : List Int} (h : Row w base (.slice (some ⟨g, 0, none⟩) n c) xs) (hk : k < n) :
    w.cell? ⟨g, k, none⟩ = some (.int .i64 (nth xs k)) ∧ w.frozen? ⟨g, k, none⟩ = false ∧ xs.length = n := by
  have hl : xs.length = n := by
    rcases h.2 with ⟨h', _⟩ | ⟨g', cap', cur, h', _⟩
    · simp at h'
    · injection h' with _ e _; exact e.symm
  subst hl
  exact ⟨by rw [World.ownsRow.cellAt h k (by omega)]; simp [nth, hk], World.ownsRow.frozenAt h k, rfl⟩
theorem Row.store {w : World} {base g n c k : Nat} {xs : List Int} (h : Row w base (.slice (some ⟨g, 0, none⟩) n c) xs) (hk : k < n) (q : Int) :
    Row (w.setCell ⟨g, k, none⟩ (.int .i64 q)) base (.slice (some ⟨g, 0, none⟩) n c) (xs.set k q) ∧ w.grownBy (w.setCell ⟨g, k, none⟩ (.int .i64 q)) (some g) := by
  obtain ⟨_, _, hl⟩ := h.cellAt hk
  subst hl
  have := World.ownsRow.stored h k (.int .i64 q)
  refine ⟨?_, this.2⟩
  simp only [Row, List.map_set, List.length_set]; exact this.1
theorem boxG {W w1 : World} {a b : Value} {t : TypeId} (g : Nat) (hb : Below (W.alloc (.cells #[a, b] t)).heap.size (W.alloc (.cells #[a, b] t)) w1) (hg : W.heap.size = g) :
    w1.cell? ⟨g, 0, none⟩ = some a ∧ w1.cell? ⟨g, 1, none⟩ = some b ∧ w1.frozen? ⟨g, 0, none⟩ = false ∧ w1.frozen? ⟨g, 1, none⟩ = false := by
  subst hg; obtain ⟨h1, h2, h3, h4, _⟩ := box2f hb; exact ⟨h1, h2, h3, h4⟩
theorem store_gen {w : World} {base g n c k : Nat} {xs : List Int} (h : Row w base (.slice (some ⟨g, 0, none⟩) n c) xs) (hk : k < n) (q : Int) :
    ∃ w', w.setCell ⟨g, k, none⟩ (.int .i64 q) = w' ∧ Row w' base (.slice (some ⟨g, 0, none⟩) n c) (xs.set k q) ∧ w.grownBy w' (some g) := ⟨_, rfl, (h.store hk q).1, (h.store hk q).2⟩
theorem keepG {w1 w2 : World} {b o g : Nat} {v : Value} (hg : w1.grownBy w2 (some g)) (h : w1.cell? ⟨b, o, none⟩ = some v) (hne : b ≠ g) : w2.cell? ⟨b, o, none⟩ = some v := hg.cell h (by simpa using hne)
theorem keepGF {w1 w2 : World} {b o g : Nat} {v : Value} (hg : w1.grownBy w2 (some g)) (h : w1.cell? ⟨b, o, none⟩ = some v) (hne : b ≠ g) (hf : w1.frozen? ⟨b, o, none⟩ = false) : w2.frozen? ⟨b, o, none⟩ = false :=
  (World.frozen?_of_block (hg.block b (World.block_lt_of_cell? w1 ⟨b, o, none⟩ h) (by simpa using hne))).trans hf
theorem belowG {w w1 w2 : World} {B g : Nat} (hB : Below B w w1) (hs : B ≤ w1.heap.size) (hg : w1.grownBy w2 (some g)) (h : B ≤ g) : Below B w w2 := hB.grown hg hs (fun k e => by injection e with e; omega)
theorem Row.len {w : World} {base n c : Nat} {ao : Option Addr} {xs : List Int} (h : Row w base (.slice ao n c) xs) : xs.length = n := by
  rcases h.2 with ⟨h', h0⟩ | ⟨g', cap', cur, h', _⟩
  · injection h' with _ e _; omega
  · injection h' with _ e _; exact e.symm
theorem grownBy_trans {a b c : World} {row : Option Nat} (h : a.grownBy b row) (k : b.grownBy c row) : a.grownBy c row :=
  ⟨k.os.trans h.os, k.tape.trans h.tape, k.output.trans h.output, Nat.le_trans h.size k.size, fun i hi hn => (k.block i (Nat.lt_of_lt_of_le hi h.size) hn).trans (h.block i hi hn)⟩
theorem grownBy_refl (w : World) (row : Option Nat) : w.grownBy w row := ⟨rfl, rfl, rfl, Nat.le_refl _, fun _ _ _ => rfl⟩
theorem grownBy_below {a b : World} (h : Below a.heap.size a b) (row : Option Nat) : a.grownBy b row := ⟨h.os, h.tape, h.output, h.size, fun k hk _ => h.block k hk⟩
theorem below_grownBy {w a b : World} {B : Nat} {row : Option Nat} (h : Below B w a) (hB : B ≤ a.heap.size) (hg : a.grownBy b row) (hr : ∀ k, row = some k → B ≤ k) : Below B w b := h.grown hg hB hr
theorem IntsAt.grown {w w' : World} {ao : Option Addr} {n : Nat} {xs : List Int} {row : Option Nat} (h : IntsAt w ao n xs) (hg : w.grownBy w' row) (hne : ∀ b off, ao = some ⟨b, off, none⟩ → row ≠ some b) : IntsAt w' ao n xs := by
  refine ⟨h.len, h.cap, fun h0 => ?_⟩
  obtain ⟨b, off, e, h1, h2⟩ := h.cell h0
  exact ⟨b, off, e, Nat.lt_of_lt_of_le h1 hg.size, fun k hk => hg.cell (h2 k hk) (fun e2 => hne b off e e2.symm)⟩
/-- make([]int, n) -/
theorem wpList_make_ints {w : World} {ops : Array Oper} {rest : List Oper} {o : Oper} {a : Act} {Q : Exit → Act → World → Prop}
    (hg : o.guard = none) (l c : Operand) (hop : o.op = Op.makeSlice 23 l c) (n : Nat) (L C : Int) (hl : a.eval l = .int .i64 L) (hc : a.eval c = .int .i64 C) (hL : L = (n : Int)) (hC : C = (n : Int)) (hn : n ≤ 1000000000)
    (hK : ∀ w', Row w' w.heap.size (.slice (some ⟨w.heap.size, 0, none⟩) n n) (List.replicate n 0) → Below w.heap.size w w' → w.heap.size < w'.heap.size → wpList Tryz.prog ops Q rest (a.put o.dst (.slice (some ⟨w.heap.size, 0, none⟩) n n)) w') :
    wpList Tryz.prog ops Q (o :: rest) a w := by
  obtain ⟨i0, hi, hz0, hz1, hz2⟩ := info_parts info_int
  refine wpList_make_full w hg l c 23 hop w.heap.size 3 i0 (.int .i64 0) 1 Tryz.underlying23 hi hz0 hz1 .i64 .i64 L C n hl hc hL hC (by rw [hz2]; omega) (by unfold maxLen; omega) (Nat.le_refl _) fun w' h1 h2 => hK w' ?_ ?_ ?_
  · have e : (madeCells (Value.int IntKind.i64 0).cells (n * 1)).toList = (List.replicate n (0 : Int)).map (Value.int .i64) := by
      simp only [madeCells, Value.cells]
      apply List.ext_getElem
      · simp
      · intro i h1 h2; simp [Nat.mod_one]
    simp only [Row, List.length_replicate]
    rw [← e]; exact h1
  · exact ⟨h2.os, h2.tape, h2.output, h2.size, fun k hk => h2.block k hk (by simp)⟩
  · exact (World.ownsRow.lt h1 _ rfl).2
theorem nth_replicate (n k : Nat) : nth (List.replicate n 0) k = 0 := by
  by_cases h : k < n
  · rw [nth_eq _ _ (by simpa using h)]; simp
  · rw [nth_past _ _ (by simp; omega)]
/-- the numbers k, k + 1, .. -/
def marks (k : Int) (n : Nat) : List Int := (List.range n).map fun (i : Nat) => k + (i : Int)
theorem marks_len (k : Int) (n : Nat) : (marks k n).length = n := by simp [marks]
theorem marks_nth (k : Int) (n i : Nat) (h : i < n) : nth (marks k n) i = k + i := by rw [nth_eq _ _ (by simpa [marks] using h)]; simp [marks]
/-- marked up to i -/
def marked (k : Int) (xs : List Int) (i : Nat) : List Int := iter (fun j l => l.set j (k + (j : Int))) xs i
theorem marked_len (k : Int) (xs : List Int) (i : Nat) : (marked k xs i).length = xs.length := by
  induction i with
  | zero => rfl
  | succ i ih => simp only [marked, iter, List.length_set] at *; exact ih
theorem marked_nth (k : Int) (xs : List Int) (i j : Nat) (hj : j < xs.length) : nth (marked k xs i) j = if j < i then k + j else nth xs j := by
  induction i with
  | zero => simp [marked, iter]
  | succ i ih =>
    show nth ((marked k xs i).set i (k + (i : Int))) j = _
    rw [nth_set, ih, marked_len]
    by_cases e : i = j
    · subst e; simp [hj]
    · rw [if_neg (by omega)]; by_cases h : j < i
      · rw [if_pos h, if_pos (by omega)]
      · rw [if_neg h, if_neg (by omega)]
theorem marked_all (k : Int) (xs : List Int) : marked k xs xs.length = marks k xs.length := by
  apply ext_nth
  · rw [marked_len, marks_len]
  · intro j hj
    rw [marked_len] at hj
    rw [marked_nth _ _ _ _ hj, if_pos hj, marks_nth _ _ _ hj]
theorem below_grown {w a b : World} {row : Option Nat} (h : Below w.heap.size w a) (hg : a.grownBy b row) : w.grownBy b row :=
  ⟨hg.os.trans h.os, hg.tape.trans h.tape, hg.output.trans h.output, Nat.le_trans h.size hg.size, fun k hk hn => (hg.block k (Nat.lt_of_lt_of_le hk h.size) hn).trans (h.block k hk)⟩
/-- a fraction and whether there is one -/
structure FR where
  num : Int
  den : Int
  ok : Bool
def FR.no : FR := ⟨0, 0, false⟩
/-- the divisor by which a quotient is brought to lowest terms -/
def redD (num den : Int) : Int := if den < 0 then -(Int.gcd num den : Int) else (Int.gcd num den : Int)
/-- a quotient in lowest terms, if it is valid -/
def redF (num den : Int) : FR := if fracOk (num.tdiv (redD num den)) (den.tdiv (redD num den)) then ⟨num.tdiv (redD num den), den.tdiv (redD num den), true⟩ else FR.no
theorem tdiv_wrap (x d : Int) (h0 : -4000000000000000000 ≤ x) (h1 : x ≤ 4000000000000000000) : IntKind.i64.wrap (x.tdiv d) = x.tdiv d := by
  have h2 : (x.tdiv d).natAbs = x.natAbs / d.natAbs := Int.natAbs_tdiv x d
  have h3 : x.natAbs / d.natAbs ≤ x.natAbs := Nat.div_le_self _ _
  exact IntWalk.i64_in _ (by omega)
theorem gcd_pos_right (a b : Int) (h : b ≠ 0) : 1 ≤ Int.gcd a b := Nat.pos_of_ne_zero fun e => h (Int.gcd_eq_zero_iff.1 e).2
theorem redD_ne (num den : Int) (h : den ≠ 0) : redD num den ≠ 0 := by
  have := gcd_pos_right num den h
  unfold redD; split <;> omega
theorem gcd_bd (a b : Int) (h : b ≠ 0) (h1 : -4000000000000000000 ≤ b) (h2 : b ≤ 4000000000000000000) : (Int.gcd a b : Int) ≤ 4000000000000000000 := by
  have : Int.gcd a b ≤ b.natAbs := Nat.le_of_dvd (by omega) (Nat.gcd_dvd_right _ _)
  omega
set_option maxHeartbeats 1000000 in
theorem lowest_any (num den : Int) (w : World) (hd : den ≠ 0) (hn1 : -4000000000000000000 ≤ num) (hn2 : num ≤ 4000000000000000000) (hd1 : -4000000000000000000 ≤ den) (hd2 : den ≤ 4000000000000000000) :
    Calls Tryz.prog 47 #[.int .i64 num, .int .i64 den] w fun e w' => e = .returned (.tuple #[.agg #[.int .i64 (redF num den).num, .int .i64 (redF num den).den], .bool (redF num den).ok]) ∧ Below w.heap.size w w' := by
  have hg := gcd_pos_right num den hd
  have hg2 := gcd_bd num den hd hd1 hd2
  have hdn := redD_ne num den hd
  have hw1 := tdiv_wrap num (redD num den) hn1 hn2
  have hw2 := tdiv_wrap den (redD num den) hd1 hd2
  obtain ⟨g, HG⟩ : ∃ g : Nat, Hid (Int.gcd num den = g) := ⟨_, rfl⟩
  obtain ⟨q, HQ⟩ : ∃ q : Int, Hid (redD num den = q) := ⟨_, rfl⟩
  rw [HQ.out] at hw1 hw2 hdn
  rw [HG.out] at hg hg2
  obtain ⟨a, HA⟩ : ∃ a : Int, Hid (num.tdiv q = a) := ⟨_, rfl⟩
  obtain ⟨b, HB⟩ : ∃ b : Int, Hid (den.tdiv q = b) := ⟨_, rfl⟩
  have HR : Hid (redF num den = if fracOk a b then ⟨a, b, true⟩ else FR.no) := by show redF num den = _; unfold redF; rw [HQ.out, HA.out, HB.out]
  rw [HA.out] at hw1
  rw [HB.out] at hw2
  have HW1 : Hid (IntKind.i64.wrap (num.tdiv q) = a) := by rw [Hid, HA.out]; exact hw1
  have HW2 : Hid (IntKind.i64.wrap (den.tdiv q) = b) := by rw [Hid, HB.out]; exact hw2
  clear hw1 hw2
  have HDB : Hid (∀ k, k < 2 → -4000000000000000000 ≤ nth [num, den] k ∧ nth [num, den] k ≤ 4000000000000000000) := fun k hk => by
    match k, hk with
    | 0, _ => exact ⟨hn1, hn2⟩
    | 1, _ => exact ⟨hd1, hd2⟩
  by_cases hneg : den < 0
  all_goals
    first
      | (have HQQ : Hid (IntKind.i64.wrap (-(g : Int)) = q) := by rw [Hid, ← HQ.out, ← HG.out]; unfold redD; rw [if_pos hneg]; exact IntWalk.i64_in _ (by rw [HG.out]; omega))
      | (have HQQ : Hid ((g : Int) = q) := by rw [Hid, ← HQ.out, ← HG.out]; unfold redD; rw [if_neg hneg])
    have hqq := HQQ.out
    go_enter Tryz.func47, Tryz.ntmps47
    go_wp2_with fail
    refine (divisorOf_any _ _ _ [num, den] _ (ints_lit _ _ _ _ _ _ (by simp) rfl rfl (by simp)) HDB.out).mono ?_
    rw [gcdL_two, HG.out]; rintro e w1 ⟨rfl, hb1⟩
    have h10 := keep hb1 (a := ⟨w.heap.size, 0, none⟩) (v := .int .i64 0) (by simp)
    have h11 := keep hb1 (a := ⟨w.heap.size, 1, none⟩) (v := .int .i64 0) (by simp)
    have f20 := keepF hb1 (a := ⟨w.heap.size, 0, none⟩) (v := .int .i64 0) (by simp) (by simp)
    have f21 := keepF hb1 (a := ⟨w.heap.size, 1, none⟩) (v := .int .i64 0) (by simp) (by simp)
    have hB1 : Below w.heap.size w w1 := Below.trans (by (repeat (first | exact Below.refl _ _ | assumption | refine Below.alloc ?_ (by simp <;> omega) _ | refine Below.setCell ?_ (by simp <;> omega) _ | refine Below.drew ?_ | refine below_drewN ?_))) (hb1.mono (by simp <;> omega))
    clear hb1
    go_wp2
    have hz1 : w.heap.size < w1.heap.size := by have := World.block_lt_of_cell? w1 _ h10; simpa using this
    clear hqq
    first | rw [HQQ.out] | skip
    have hqa := HW1.out
    have hqb := HW2.out
    go_region_held3 (fun w' => True) (trivial) (fail)
    all_goals
      clear hqa hqb
      go_wp2_with fail
      refine (isFraction_any _ _ _).mono ?_; rintro e w2 ⟨rfl, hb2⟩
      have hp0 := keep hb2 (a := ⟨w1.heap.size, 0, none⟩) (v := .int .i64 a) (by simp)
      have hp1 := keep hb2 (a := ⟨w1.heap.size, 1, none⟩) (v := .int .i64 b) (by simp)
      have hd1 : Below w1.heap.size w1 w2 := Below.trans (by (repeat (first | exact Below.refl _ _ | assumption | refine Below.alloc ?_ (by simp <;> omega) _ | refine Below.setCell ?_ (by simp <;> omega) _ | refine Below.drew ?_ | refine below_drewN ?_))) (hb2.mono (by simp <;> omega))
      replace f20 := keepF hd1 h10 f20
      replace f21 := keepF hd1 h11 f21
      replace h10 := keep hd1 h10
      replace h11 := keep hd1 h11
      have hB2 := chain hB1 hd1
      clear hb2 hd1
      cases hf : fracOk a b
      · go_wp2
        refine bodyPost_ret (v := .tuple #[.agg #[.int .i64 0, .int .i64 0], .bool false]) (by simp [results, Tryz.results47, go_sem, h10, h11]) rfl ⟨by rw [HR.out, hf]; rfl, ?_⟩
        (repeat (first | exact Below.refl _ _ | assumption | refine Below.alloc ?_ (by simp <;> omega) _ | refine Below.setCell ?_ (by simp <;> omega) _ | refine Below.drew ?_ | refine below_drewN ?_))
      · go_wp2
        refine bodyPost_ret (v := .tuple #[.agg #[.int .i64 a, .int .i64 b], .bool true]) (by simp [results, Tryz.results47, go_sem, h10, h11]) rfl ⟨by rw [HR.out, hf]; rfl, ?_⟩
        (repeat (first | exact Below.refl _ _ | assumption | refine Below.alloc ?_ (by simp <;> omega) _ | refine Below.setCell ?_ (by simp <;> omega) _ | refine Below.drew ?_ | refine below_drewN ?_))
end Go.Proofs.YtefmlbahmakboaaGreatDoor
