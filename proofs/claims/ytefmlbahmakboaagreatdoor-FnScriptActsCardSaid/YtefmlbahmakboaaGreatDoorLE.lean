/- Two lists of integers compared: slices.Equal, l10Same (cut out of S10). -/
import Derived.Test.YtefmlbahmakboaaGreatDoorW3
set_option linter.unusedSimpArgs false
set_option linter.unusedVariables false
namespace Go.Proofs.YtefmlbahmakboaaGreatDoor
open Go.RowKit
def sameL (xs ys : List Int) : Bool := (xs.length == ys.length) && allN (fun k => nth xs k == nth ys k) xs.length
theorem sameL_bad {xs ys : List Int} {k : Nat} (hk : k < xs.length) (h : nth xs k ≠ nth ys k) : sameL xs ys = false := by
  unfold sameL; rw [allN_false (p := fun k => nth xs k == nth ys k) hk (by simpa using h)]; simp
theorem sameL_all {xs ys : List Int} (hl : xs.length = ys.length) (h : ∀ k, k < xs.length → nth xs k = nth ys k) : sameL xs ys = true := by
  unfold sameL; rw [(allN_iff _ _).2 fun k hk => by simpa using h k hk, hl]; simp
theorem same_cases (xs ys : List Int) (n : Nat) (hn : xs.length = n) : (∀ k, k < n → nth xs k = nth ys k) ∨ ∃ k, k < n ∧ nth xs k ≠ nth ys k := by
  by_cases h : ∃ k, k < n ∧ nth xs k ≠ nth ys k
  · exact .inr h
  · exact .inl fun k hk => Classical.byContradiction fun hc => h ⟨k, hk, hc⟩
set_option maxHeartbeats 1000000 in
theorem EqualI_any (ao bo : Option Addr) (n c m d : Nat) (xs ys : List Int) (w : World) (hx : IntsAt w ao n xs) (hy : IntsAt w bo m ys) :
    Calls Tryz.prog 125 #[.slice ao n c, .slice bo m d] w fun e w' => e = .returned (.bool (sameL xs ys)) ∧ Below w.heap.size w w' := by
  have hcap := hx.cap
  have hcapy := hy.cap
  have hxl := hid hx.len
  have hyl := hid hy.len
  by_cases hl : n = m
  · subst hl
    have hne : ((n : Int) != (n : Int)) = false := by simp
    rcases same_cases xs ys n hx.len with hall | ⟨k0, hk0, hbad⟩
    · have HS : Hid (sameL xs ys = true) := sameL_all (by rw [hxl.out, hyl.out]) (fun k hk => hall k (by rw [← hxl.out]; exact hk))
      have HALL := hid hall; clear hall
      go_enter Tryz.func125, Tryz.ntmps125
      go_wp2
      go_loopw [5, 13] (fun _ i wr => ∃ k : Nat, k ≤ n ∧ i = .int .i64 k ∧ Below w.heap.size w wr) (fun _ i _ => n - (intOf i).toNat)
      case atStart => exact ⟨0, by omega, rfl, Below.refl _ _⟩
      case round =>
        obtain ⟨k, hk, rfl, hB⟩ := hrel
        by_cases hlt : k < n
        · obtain ⟨b, off, rfl, hbs, hbs', hck⟩ := hx.at hB hlt
          obtain ⟨b2, off2, rfl, hbs2, hbs2', hck2⟩ := hy.at hB hlt
          rw [← HALL.out k hlt] at hck2
          have hnn : ((nth xs k) != (nth xs k)) = false := by simp
          have hk0 : (0 : Int) ≤ (k : Int) := by omega
          have hk1 : (k : Int) < (n : Int) := by omega
          go_wp2
          refine wp_region_ov (by kernel_rfl) (by kernel_rfl) ?_
          repeat (first | go_big_quiet_step ((fail)) | quiet_step ((fail)))
          refine wpQuiet_nil ?_
          intro _ hw_ov
          obtain ⟨x_ov, hw_ov2⟩ := hw_ov
          subst hw_ov2
          obtain ⟨w3, hw_ov3, hb3⟩ := ov_gen _ x_ov
          rw [hw_ov3]
          clear hw_ov3 x_ov
          have HB3 := hid (chain hB hb3)
          clear hb3
          go_wp2
          go_roundw
          case rel => first | exact ⟨k + 1, by omega, by go_num, HB3.out⟩ | exact ⟨_, ⟨k + 1, by omega, by go_num, HB3.out⟩, rfl⟩ | exact ⟨_, _, ⟨k + 1, by omega, by go_num, HB3.out⟩, rfl, rfl⟩ | exact ⟨_, _, _, ⟨k + 1, by omega, by go_num, HB3.out⟩, rfl, rfl, rfl⟩ | exact ⟨_, _, _, _, ⟨k + 1, by omega, by go_num, HB3.out⟩, rfl, rfl, rfl, rfl⟩ | exact ⟨_, _, _, _, _, ⟨k + 1, by omega, by go_num, HB3.out⟩, rfl, rfl, rfl, rfl, rfl⟩
          case measure => simp [intOf]; omega
        · go_wp2
          go_ret
          exact ⟨ret_bool HS.out.symm, hB⟩
    · have HS : Hid (sameL xs ys = false) := sameL_bad (by rw [hxl.out]; exact hk0) hbad
      have HBAD := hid hbad; clear hbad
      go_enter Tryz.func125, Tryz.ntmps125
      go_wp2
      go_loopw [5, 13] (fun _ i wr => ∃ k : Nat, k ≤ k0 ∧ i = .int .i64 k ∧ Below w.heap.size w wr) (fun _ i _ => n - (intOf i).toNat)
      case atStart => exact ⟨0, by omega, rfl, Below.refl _ _⟩
      case round =>
        obtain ⟨k, hk, rfl, hB⟩ := hrel
        have hlt : k < n := by omega
        obtain ⟨b, off, rfl, hbs, hbs', hck⟩ := hx.at hB hlt
        obtain ⟨b2, off2, rfl, hbs2, hbs2', hck2⟩ := hy.at hB hlt
        have hk0' : (0 : Int) ≤ (k : Int) := by omega
        have hk1' : (k : Int) < (n : Int) := by omega
        cases hnn : ((nth xs k) != (nth ys k))
        · have hne : k ≠ k0 := by rintro rfl; exact HBAD.out (by simpa using hnn)
          go_wp2
          refine wp_region_ov (by kernel_rfl) (by kernel_rfl) ?_
          repeat (first | go_big_quiet_step ((fail)) | quiet_step ((fail)))
          refine wpQuiet_nil ?_
          intro _ hw_ov
          obtain ⟨x_ov, hw_ov2⟩ := hw_ov
          subst hw_ov2
          obtain ⟨w3, hw_ov3, hb3⟩ := ov_gen _ x_ov
          rw [hw_ov3]
          clear hw_ov3 x_ov
          have HB3 := hid (chain hB hb3)
          clear hb3
          go_wp2
          go_roundw
          case rel => first | exact ⟨k + 1, by omega, by go_num, HB3.out⟩ | exact ⟨_, ⟨k + 1, by omega, by go_num, HB3.out⟩, rfl⟩ | exact ⟨_, _, ⟨k + 1, by omega, by go_num, HB3.out⟩, rfl, rfl⟩ | exact ⟨_, _, _, ⟨k + 1, by omega, by go_num, HB3.out⟩, rfl, rfl, rfl⟩ | exact ⟨_, _, _, _, ⟨k + 1, by omega, by go_num, HB3.out⟩, rfl, rfl, rfl, rfl⟩ | exact ⟨_, _, _, _, _, ⟨k + 1, by omega, by go_num, HB3.out⟩, rfl, rfl, rfl, rfl, rfl⟩
          case measure => simp [intOf]; omega
        · go_wp2
          refine wp_region_ov (by kernel_rfl) (by kernel_rfl) ?_
          repeat (first | go_big_quiet_step ((fail)) | quiet_step ((fail)))
          refine wpQuiet_nil ?_
          intro _ hw_ov
          obtain ⟨x_ov, hw_ov2⟩ := hw_ov
          subst hw_ov2
          obtain ⟨w3, hw_ov3, hb3⟩ := ov_gen _ x_ov
          rw [hw_ov3]
          clear hw_ov3 x_ov
          go_wp2
          go_ret
          exact ⟨ret_bool HS.out.symm, chain hB hb3⟩
  · have HS : Hid (sameL xs ys = false) := by show sameL xs ys = false; unfold sameL; rw [hxl.out, hyl.out]; simp [hl]
    have hne : ((n : Int) != (m : Int)) = true := by simp; omega
    go_enter Tryz.func125, Tryz.ntmps125
    go_wp2
    go_ret
    exact ⟨ret_bool HS.out.symm, Below.refl _ _⟩
end Go.Proofs.YtefmlbahmakboaaGreatDoor
