/- The law FnNumbers: its walk. -/
import Derived.Test.YtobeeomeebicnaaDoorT11
import Derived.Test.YtobeeomeebicnaaDoorT9
import Derived.Test.YtobeeomeebicnaaDoorE1
import Derived.Test.YtobeeomeebicnaaDoorX31
set_option linter.unusedSimpArgs false
set_option linter.unusedVariables false
namespace Go.Proofs.YtobeeomeebicnaaDoor
open Go.RowKit
set_option maxRecDepth 100000 in
set_option maxHeartbeats 4000000 in
theorem FnNumbers_walk (ao : Option Addr) (n c : Nat) (bo : Option Addr) (m d : Nat) (w : World) (hx : n ≤ 1048576 → BytesIn w w.heap.size ao n) (hnc : n ≤ c) (hcap : n ≤ 9223372036854775807) (hy : m ≤ 1048576 → BytesIn w w.heap.size bo m) (hmd : m ≤ d) (hcap2 : m ≤ 9223372036854775807)
    (hP : Pow w) (hSE : ∃ tp p, w.var? Tryd.prog "strconv.ErrSyntax" = some #[.iface tp p]) (hRE : ∃ tp p, w.var? Tryd.prog "strconv.ErrRange" = some #[.iface tp p]) (hsh : w.ShapedOpen Tryd.prog) :
    Calls Tryd.prog 5 #[.slice ao n c, .slice bo m d] w fun e w' => e = .returned (.bool true) ∧ Below w.heap.size w w' := by
  have HV := hid (libV_of w hP hSE hRE hsh)
  clear hP hSE hRE hsh
  by_cases hn : 1048576 < n
  · go_enter Tryd.func5, Tryd.ntmps5
    go_wp2
    go_ret
    exact ⟨rfl, Below.refl _ _⟩
  by_cases hm : 1048576 < m
  · go_enter Tryd.func5, Tryd.ntmps5
    go_wp2
    go_ret
    exact ⟨rfl, Below.refl _ _⟩
  have HX := hid (hx (by omega))
  have HY := hid (hy (by omega))
  clear hx hy
  go_enter Tryd.func5, Tryd.ntmps5
  go_wp2_with fail
  refine (DrawFormatNumbers_any ao n c _ HX.out hnc).mono ?_; rintro e w1 ⟨⟨v1, xs, rfl, hr1, hdr⟩, hB1⟩
  have HD := hid hdr
  have HI := hid hdr.i64
  have hl4 : xs.length ≤ 4 := hdr.1
  clear hdr
  obtain ⟨k, hk⟩ : ∃ k, xs.length = k := ⟨_, rfl⟩
  rw [hk] at hl4
  have HK := hid hk
  obtain ⟨a1, n1, c1, rfl, hi1⟩ := hr1.ints
  obtain rfl : n1 = k := by rw [← hi1.len, hk]
  clear hr1 hk
  have hz1 := hB1.size
  have HP1 := hid (HV.out.1.below hB1)
  obtain ⟨T, hT⟩ : ∃ T, T = bs (numT xs) := ⟨_, rfl⟩
  have HT := hid hT
  go_wp2_with fail
  refine (implFormat_any a1 n1 c1 xs w1 hi1 HI.out (by omega) HP1.out).mono ?_; rw [← hT]; rintro e w2 ⟨rfl, hb2⟩
  have hB2 := hB1.trans (hb2.mono hz1)
  have hz2 := hb2.size
  replace hi1 := hi1.below hb2
  clear hb2
  go_wp2_with fail
  refine (specFormat_any a1 n1 c1 xs w2 hi1 HI.out (by omega)).mono ?_; rw [← hT]; rintro e w3 ⟨rfl, hb3⟩
  have hB3 := hB2.trans (hb3.mono (by omega))
  have hz3 := hb3.size
  replace hi1 := hi1.below hb3
  clear hb3 hT
  go_wp2
  go_loopw [7, 8] (fun f i wr => Below w3.heap.size w3 wr ∧ ∃ k : Nat, k ≤ n1 ∧ i = .int .i64 k ∧ f = .bool (fits xs k)) (fun _ i _ => n1 - (intOf i).toNat)
  case atStart => exact ⟨Below.refl _ _, 0, by omega, rfl, by rw [fits_zero, HK.out]⟩
  case round =>
    obtain ⟨hbr, k, hk, rfl, rfl⟩ := hrel
    have hzr := hbr.size
    by_cases hlt : k < n1
    · obtain ⟨b, off, rfl, hbs0, hbs, hck⟩ := hi1.at hbr hlt
      have HS := hid (fits_succ xs k (by rw [HK.out]; exact hlt))
      generalize hu : nth xs k = u at *
      clear hu
      cases hf : fits xs k with
      | false =>
        have HS2 : Hid (fits xs (k + 1) = false) := by show _ = _; rw [HS.out, hf]; rfl
        clear hf HS
        go_wp2
        go_roundw
        case rel => first | exact ⟨hbr, k + 1, by omega, by go_num, by rw [HS2.out]⟩ | exact ⟨_, ⟨hbr, k + 1, by omega, by go_num, by rw [HS2.out]⟩, rfl⟩ | exact ⟨_, _, ⟨hbr, k + 1, by omega, by go_num, by rw [HS2.out]⟩, rfl, rfl⟩ | exact ⟨_, _, _, ⟨hbr, k + 1, by omega, by go_num, by rw [HS2.out]⟩, rfl, rfl, rfl⟩ | exact ⟨_, _, _, _, ⟨hbr, k + 1, by omega, by go_num, by rw [HS2.out]⟩, rfl, rfl, rfl, rfl⟩ | exact ⟨_, _, _, _, _, ⟨hbr, k + 1, by omega, by go_num, by rw [HS2.out]⟩, rfl, rfl, rfl, rfl, rfl⟩
        case measure => simp [intOf]; omega
      | true =>
        by_cases hu1 : -1000000000 ≤ u
        · have HS2 : Hid (fits xs (k + 1) = decide (u ≤ 1000000000)) := by show _ = _; rw [HS.out, hf, decide_eq_true hu1]; rfl
          clear hf HS
          go_wp2
          go_roundw
          case rel => first | exact ⟨hbr, k + 1, by omega, by go_num, by rw [HS2.out]⟩ | exact ⟨_, ⟨hbr, k + 1, by omega, by go_num, by rw [HS2.out]⟩, rfl⟩ | exact ⟨_, _, ⟨hbr, k + 1, by omega, by go_num, by rw [HS2.out]⟩, rfl, rfl⟩ | exact ⟨_, _, _, ⟨hbr, k + 1, by omega, by go_num, by rw [HS2.out]⟩, rfl, rfl, rfl⟩ | exact ⟨_, _, _, _, ⟨hbr, k + 1, by omega, by go_num, by rw [HS2.out]⟩, rfl, rfl, rfl, rfl⟩ | exact ⟨_, _, _, _, _, ⟨hbr, k + 1, by omega, by go_num, by rw [HS2.out]⟩, rfl, rfl, rfl, rfl, rfl⟩
          case measure => simp [intOf]; omega
        · have HS2 : Hid (fits xs (k + 1) = false) := by show _ = _; rw [HS.out, hf, decide_eq_false hu1]; rfl
          clear hf HS
          go_wp2
          go_roundw
          case rel => first | exact ⟨hbr, k + 1, by omega, by go_num, by rw [HS2.out]⟩ | exact ⟨_, ⟨hbr, k + 1, by omega, by go_num, by rw [HS2.out]⟩, rfl⟩ | exact ⟨_, _, ⟨hbr, k + 1, by omega, by go_num, by rw [HS2.out]⟩, rfl, rfl⟩ | exact ⟨_, _, _, ⟨hbr, k + 1, by omega, by go_num, by rw [HS2.out]⟩, rfl, rfl, rfl⟩ | exact ⟨_, _, _, _, ⟨hbr, k + 1, by omega, by go_num, by rw [HS2.out]⟩, rfl, rfl, rfl, rfl⟩ | exact ⟨_, _, _, _, _, ⟨hbr, k + 1, by omega, by go_num, by rw [HS2.out]⟩, rfl, rfl, rfl, rfl, rfl⟩
          case measure => simp [intOf]; omega
    · obtain rfl : k = n1 := by omega
      replace hi1 := hi1.below hbr
      have hB4 := hB3.trans (hbr.mono (by omega))
      have HV4 := hid (HV.out.below hB4)
      obtain ⟨F, hF⟩ : ∃ F, F = fits xs k := ⟨_, rfl⟩
      have HPF : Hid (parseR T.data.toList = if F = true then some xs else none) := by
        show _ = _; rw [hF, HT.out, bs_data, ← HK.out]; exact parse_fits HD.out
      rw [← hF]
      have hTs : T.size ≤ 89 := by rw [HT.out, bs_size]; exact (numT_len HD.out).2
      have HX4 := hid (HY.out.on hB4 (by omega))
      cases hFc : F with
      | false =>
        rw [hFc] at HPF
        have hpr : parseR T.data.toList = none := by rw [HPF.out]; rfl
        have HQ := hid hpr
        clear hF hFc hpr
        go_wp2_with fail
        refine (implParse_any T _ (by omega) HV4.out).mono ?_; rw [HQ.out]; rintro e w5 ⟨⟨v5, rfl, hr5⟩, hb5⟩
        have hB5 := hB4.trans (hb5.mono (by omega))
        have hz5z := hB5.size
        obtain ⟨w6z, hw6z⟩ : ∃ q : World, q = w5 := ⟨_, rfl⟩
        rw [← hw6z] at hB5 hz5z ⊢
        clear hw6z
        go_wp2_with fail
        refine (DrawParseNumbers_any bo m d w6z (HY.out.on hB5 (by omega)) hmd).mono ?_; rintro e w7 ⟨⟨t, rfl, ht⟩, hb7⟩
        have hB7 := hB5.trans (hb7.mono (by omega))
        have hz7 := hB7.size
        have HV7 := hid (HV.out.below hB7)
        clear hb7
        obtain ⟨r, hr⟩ : ∃ r, r = parseR t.data.toList := ⟨_, rfl⟩
        have HR := hid hr
        clear hr
        go_wp2_with fail
        refine (implParse_any t _ (by omega) HV7.out).mono ?_; rw [← HR.out]; rintro e w8 ⟨⟨v8, rfl, hr8⟩, hb8⟩
        obtain ⟨a8, n8, c8, rfl, hi8⟩ := hr8.ints
        have hB8 := hB7.trans (hb8.mono (by omega))
        have hz8 := hB8.size
        clear hb8 hr8
        go_wp2_with fail
        refine (specParse_any t _ (by omega)).mono ?_; rw [← HR.out]; rintro e w9 ⟨⟨v9, rfl, hr9⟩, hb9⟩
        obtain ⟨a9, n9, c9, rfl, hi9⟩ := hr9.ints
        have hB9 := hB8.trans (hb9.mono (by omega))
        have hz9 := hB9.size
        replace hi8 := hi8.below hb9
        clear hb9 hr9
        have hbb : (r.isSome == r.isSome) = true := beq_self_eq_true _
        go_wp2_with fail
        refine (weSame_eq _ _ _ _ _ _ _ _ _ hi8 hi9 rfl).mono ?_; rintro e w10 ⟨rfl, hb10⟩
        have hB10 := hB9.trans (hb10.mono (by omega))
        have hz10 := hB10.size
        replace hi8 := hi8.below hb10
        have HV10 := hid (HV.out.1.below hB10)
        clear hb10
        cases r with
        | none =>
          go_wp2
          go_ret
          exact ⟨rfl, hB10⟩
        | some ys =>
          obtain ⟨e1, e2⟩ := parse_text HR.out.symm
          have HE := hid e1
          have hn8 : n8 ≤ 16 := by have := hi8.len; have := parseR_len t.data.toList; rw [← HR.out] at this; omega
          clear e1
          go_wp2_with fail
          refine (implFormat_any a8 n8 c8 ys _ hi8 e2 (by omega) HV10.out).mono ?_; rw [HE.out, show bs t.data.toList = t from rfl]; rintro e w11 ⟨rfl, hb11⟩
          go_wp2
          go_ret
          exact ⟨rfl, hB10.trans (hb11.mono (by omega))⟩
      | true =>
        rw [hFc] at HPF
        have hpr : parseR T.data.toList = some xs := by rw [HPF.out]; rfl
        have HQ := hid hpr
        clear hF hFc hpr
        go_wp2_with fail
        refine (implParse_any T _ (by omega) HV4.out).mono ?_; rw [HQ.out]; rintro e w5 ⟨⟨v5, rfl, hr5⟩, hb5⟩
        obtain ⟨a5, n5, c5, rfl, hi5⟩ := hr5.ints
        have hi15 := hi1.below hb5
        have hB5a := hB4.trans (hb5.mono (by omega))
        have hz5 := hB5a.size
        clear hb5
        go_wp2_with fail
        refine (weSame_eq _ _ _ _ _ _ xs xs _ hi5 hi15 rfl).mono ?_; rintro e w5b ⟨rfl, hb5b⟩
        have hB5 := hB5a.trans (hb5b.mono (by omega))
        have hz5z := hB5.size
        obtain ⟨w6z, hw6z⟩ : ∃ q : World, q = w5b := ⟨_, rfl⟩
        rw [← hw6z] at hB5 hz5z ⊢
        clear hw6z
        go_wp2_with fail
        refine (DrawParseNumbers_any bo m d w6z (HY.out.on hB5 (by omega)) hmd).mono ?_; rintro e w7 ⟨⟨t, rfl, ht⟩, hb7⟩
        have hB7 := hB5.trans (hb7.mono (by omega))
        have hz7 := hB7.size
        have HV7 := hid (HV.out.below hB7)
        clear hb7
        obtain ⟨r, hr⟩ : ∃ r, r = parseR t.data.toList := ⟨_, rfl⟩
        have HR := hid hr
        clear hr
        go_wp2_with fail
        refine (implParse_any t _ (by omega) HV7.out).mono ?_; rw [← HR.out]; rintro e w8 ⟨⟨v8, rfl, hr8⟩, hb8⟩
        obtain ⟨a8, n8, c8, rfl, hi8⟩ := hr8.ints
        have hB8 := hB7.trans (hb8.mono (by omega))
        have hz8 := hB8.size
        clear hb8 hr8
        go_wp2_with fail
        refine (specParse_any t _ (by omega)).mono ?_; rw [← HR.out]; rintro e w9 ⟨⟨v9, rfl, hr9⟩, hb9⟩
        obtain ⟨a9, n9, c9, rfl, hi9⟩ := hr9.ints
        have hB9 := hB8.trans (hb9.mono (by omega))
        have hz9 := hB9.size
        replace hi8 := hi8.below hb9
        clear hb9 hr9
        have hbb : (r.isSome == r.isSome) = true := beq_self_eq_true _
        go_wp2_with fail
        refine (weSame_eq _ _ _ _ _ _ _ _ _ hi8 hi9 rfl).mono ?_; rintro e w10 ⟨rfl, hb10⟩
        have hB10 := hB9.trans (hb10.mono (by omega))
        have hz10 := hB10.size
        replace hi8 := hi8.below hb10
        have HV10 := hid (HV.out.1.below hB10)
        clear hb10
        cases r with
        | none =>
          go_wp2
          go_ret
          exact ⟨rfl, hB10⟩
        | some ys =>
          obtain ⟨e1, e2⟩ := parse_text HR.out.symm
          have HE := hid e1
          have hn8 : n8 ≤ 16 := by have := hi8.len; have := parseR_len t.data.toList; rw [← HR.out] at this; omega
          clear e1
          go_wp2_with fail
          refine (implFormat_any a8 n8 c8 ys _ hi8 e2 (by omega) HV10.out).mono ?_; rw [HE.out, show bs t.data.toList = t from rfl]; rintro e w11 ⟨rfl, hb11⟩
          go_wp2
          go_ret
          exact ⟨rfl, hB10.trans (hb11.mono (by omega))⟩
end Go.Proofs.YtobeeomeebicnaaDoor
