/- The law that the program's ParseNumbers is the reference's: its walk. -/
import Derived.Test.YtobeeomeebicnaaDoorT9
import Derived.Test.YtobeeomeebicnaaDoorL2
set_option linter.unusedSimpArgs false
set_option linter.unusedVariables false
namespace Go.Proofs.YtobeeomeebicnaaDoor
open Go.RowKit
theorem libV_of (W : World) (hP : Pow W) (hSE : ∃ tp p, W.var? Tryd.prog "strconv.ErrSyntax" = some #[.iface tp p]) (hRE : ∃ tp p, W.var? Tryd.prog "strconv.ErrRange" = some #[.iface tp p]) (hsh : W.ShapedOpen Tryd.prog) : LibV W := by
  obtain ⟨m, hm⟩ := Tryd.laysM146.s1_3 W hsh
  exact ⟨hP, hSE, hRE, m, hm⟩
set_option maxRecDepth 100000 in
set_option maxHeartbeats 2000000 in
theorem FnExactParseNumbers_walk (s : ByteArray) (W : World) (hs : s.size ≤ maxLen) (hP : Pow W) (hSE : ∃ tp p, W.var? Tryd.prog "strconv.ErrSyntax" = some #[.iface tp p]) (hRE : ∃ tp p, W.var? Tryd.prog "strconv.ErrRange" = some #[.iface tp p]) (hsh : W.ShapedOpen Tryd.prog) :
    Calls Tryd.prog 4 #[.string s] W fun e w' => e = .returned (.bool true) ∧ Below W.heap.size W w' := by
  have hv := libV_of W hP hSE hRE hsh
  clear hP hSE hRE hsh
  by_cases hn : s.size ≤ 1048576
  · obtain ⟨r, hre⟩ : ∃ r, r = parseR s.data.toList := ⟨_, rfl⟩
    have hsp : ∀ w, Calls Tryd.prog 10 #[.string s] w fun e w' => RetN r w.heap.size e w' ∧ Below w.heap.size w w' := fun w => by rw [hre]; exact specParse_any s w hn
    have him : ∀ w, LibV w → Calls Tryd.prog 11 #[.string s] w fun e w' => RetN r w.heap.size e w' ∧ Below w.heap.size w w' := fun w h => by rw [hre]; exact implParse_any s w hn h
    have hrl : (r.getD []).length ≤ 16 := by rw [hre]; exact parseR_len _
    clear hre
    obtain ⟨b, hb⟩ : ∃ b, b = r.isSome := ⟨_, rfl⟩
    obtain ⟨xs, hxs⟩ : ∃ xs, xs = r.getD [] := ⟨_, rfl⟩
    unfold RetN at hsp him
    rw [← hb, ← hxs] at hsp him
    rw [← hxs] at hrl
    clear hb hxs r
    obtain ⟨m, hm⟩ : ∃ m, xs.length = m := ⟨_, rfl⟩
    rw [hm] at hrl
    have hbb : (b != b) = false := by simp
    have z0 : decide (1 + (m : Int) < 0) = false := by simp; omega
    go_enter Tryd.func4, Tryd.ntmps4
    go_wp2_with fail
    refine (hsp _).mono ?_; rintro e w1 ⟨⟨v1, rfl, hr1⟩, hb1⟩
    have hB1 := hb1
    have hz1 := hb1.size
    obtain ⟨o1, n1, c1, rfl, hi1⟩ := hr1.ints
    obtain rfl : n1 = m := by rw [← hi1.len, hm]
    have hbk1 := hr1.block
    go_wp2_with fail
    refine (him _ (hv.below hB1)).mono ?_; rintro e w2 ⟨⟨v2, rfl, hr2⟩, hb2⟩
    have hB2 := hB1.trans (hb2.mono hz1)
    have hz2 := hb2.size
    have hbk2 := hr2.block
    obtain ⟨o2, n2, c2, rfl, hi2⟩ := hr2.ints
    obtain rfl : n2 = n1 := by rw [← hi2.len, hm]
    replace hi1 := hi1.below hb2
    go_wp2_with fail
    refine (eqIntS_same _ _ _ _ _ xs _ hi2 hi1).mono ?_; rintro e w3 ⟨rfl, hb3⟩
    have hB3 := hB2.trans (hb3.mono (by omega))
    have hz3 := hb3.size
    replace hi1 := hi1.below hb3
    replace hr2 := hr2.below hb3
    go_wp2_with fail
    refine (markIntS_any _ xs n2 1 w1.heap.size _ hr2 hm (by omega) (by omega) (by omega)).mono ?_; rintro e w4 ⟨rfl, hr4, hg4⟩
    have hB4 := below_grownBy hB3 (by omega) hg4 (fun k e => by have := (hbk2 k e).1; omega)
    have hz4 := hg4.size
    replace hi1 := hi1.grown hg4 (fun b off e e2 => by
      have h1 := hbk1 b (by rw [e]; rfl)
      have h2 := hbk2 b e2
      omega)
    obtain ⟨o4, n4, c4, e4, hi4⟩ := hr4.ints
    injection e4 with e41 e42 e43
    subst e41 e42
    clear e43
    go_wp2_with fail
    refine (heldIntS_any _ _ _ 1 _ hi4 (by omega) (by omega) (by omega)).mono ?_; rintro e w5 ⟨rfl, rfl⟩
    go_wp2_with fail
    refine (him _ (hv.below hB4)).mono ?_; rintro e w6 ⟨⟨v6, rfl, hr6⟩, hb6⟩
    have hB6 := hB4.trans (hb6.mono (by omega))
    have hz6 := hb6.size
    obtain ⟨o6, n6, c6, rfl, hi6⟩ := hr6.ints
    obtain rfl : n6 = n2 := by rw [← hi6.len, hm]
    replace hi1 := hi1.below hb6
    replace hi4 := hi4.below hb6
    go_wp2_with fail
    refine (eqIntS_same _ _ _ _ _ xs _ hi6 hi1).mono ?_; rintro e w7 ⟨rfl, hb7⟩
    have hB7 := hB6.trans (hb7.mono (by omega))
    have hz7 := hb7.size
    replace hi4 := hi4.below hb7
    go_wp2_with fail
    refine (heldIntS_any _ _ _ 1 _ hi4 (by omega) (by omega) (by omega)).mono ?_; rintro e w8 ⟨rfl, rfl⟩
    go_wp2
    go_ret
    exact ⟨rfl, hB7⟩
  · go_enter Tryd.func4, Tryd.ntmps4
    go_wp2
    go_ret
    exact ⟨rfl, Below.refl _ _⟩
end Go.Proofs.YtobeeomeebicnaaDoor
