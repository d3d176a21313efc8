/- Contracts that the laws by draws call: wholes, masses that are made. -/
import Derived.Test.YtphcjojdlmnnoaaE1
set_option linter.unusedSimpArgs false
set_option linter.unusedVariables false
namespace Go.Proofs.Ytphcjojdlmnnoaa
open Go.RowKit
def wholeM (s : Int) (xs : List Int) : Int := if massOk s xs then isum xs else -1
theorem WholeOf_any (s : Int) (ao : Option Addr) (n c : Nat) (xs : List Int) (w : World) (hx : IntsAt w ao n xs) :
    Calls Try.prog 24 #[.agg #[.int .i64 s, .slice ao n c]] w fun e w' => e = .returned (.int .i64 (wholeM s xs)) ∧ Below w.heap.size w w' := by
  cases hm : massOk s xs
  · have HR : Hid (wholeM s xs = -1) := by show wholeM s xs = _; simp [wholeM, hm]
    rw [HR.out]
    go_enter Try.func24, Try.ntmps24
    go_wp2_with fail
    refine (isMass_any _ _ _ _ xs _ (hx.below (below_alloc w _))).mono ?_; rw [hm]; rintro e w1 ⟨rfl, hb1⟩
    obtain ⟨_, _, hB1⟩ := box2 hb1
    clear hb1
    go_wp2
    go_ret
    exact ⟨rfl, hB1⟩
  · have HR : Hid (wholeM s xs = isum xs) := by show wholeM s xs = _; simp [wholeM, hm]
    obtain ⟨_, hl, h16, hb, _⟩ := massOk_facts hm
    have hl2 := hx.len
    have HB : Hid (∀ k, k < n → 0 ≤ nth xs k ∧ nth xs k ≤ 1000000000000000) := fun k hk => by have := hb k (by omega); omega
    have hn16 : n ≤ 16 := by omega
    clear hb
    rw [HR.out]
    go_enter Try.func24, Try.ntmps24
    go_wp2_with fail
    refine (isMass_any _ _ _ _ xs _ (hx.below (below_alloc w _))).mono ?_; rw [hm]; rintro e w1 ⟨rfl, hb1⟩
    obtain ⟨h10, h11, hB1⟩ := box2 hb1
    clear hb1
    go_wp2_with fail
    refine (wholeOf_any _ _ _ _ xs _ (hx.below hB1) HB.out hn16).mono ?_; rintro e w2 ⟨rfl, hb2⟩
    go_wp2
    go_ret
    exact ⟨rfl, chain hB1 hb2⟩
set_option maxHeartbeats 1000000 in
theorem MakeMass_good (s : Int) (ao : Option Addr) (n c : Nat) (xs : List Int) (w : World) (hx : IntsAt w ao n xs) (hs : okSize s = true) (hl : n = nsets s) (hb : ∀ k, k < n → 0 ≤ nth xs k ∧ nth xs k ≤ 1000000000) :
    Calls Try.prog 25 #[.int .i64 s, .slice ao n c] w fun e w' => RetM (mkMass s xs) w.heap.size e w' ∧ Below w.heap.size w w' := by
  have hs0 : 1 ≤ s ∧ s ≤ 4 := by rcases okSize_iff.1 hs with h | h | h | h <;> omega
  have hsh := shl_size hs
  have hsn := nsets_le hs
  have hcap := hx.cap
  have hne : ((n : Int) != (nsets s : Int)) = false := by rw [hl]; simp
  have HB := hid hb
  have hn16 : n ≤ 16 := by omega
  clear hb hl
  have hxx := hx.below (below_alloc w (.cells #[.int .i64 0, .slice none 0 0] 29))
  go_enter Try.func25, Try.ntmps25
  go_wp2_with (first | (go_at_call 47; refine (isSize_any _ _).mono ?_; rintro e w' ⟨rfl, rfl⟩))
  go_loop [7, 21] (fun _ i => ∃ k : Nat, k ≤ n ∧ i = .int .i64 k) (fun _ i => n - (intOf i).toNat)
  case atStart => exact ⟨0, by omega, rfl⟩
  case round =>
    obtain ⟨k, hk, rfl⟩ := hrel
    by_cases hlt : k < n
    · obtain ⟨b, off, rfl, hbs, _, hck⟩ := hx.at (Below.refl _ _) hlt
      have hxb := HB.out k hlt
      have hcka : (w.alloc (.cells #[.int .i64 0, .slice none 0 0] 29)).cell? ⟨b, off + k, none⟩ = some (.int .i64 (nth xs k)) := keep (below_alloc w _) hck
      go_wp2
      go_round
      case rel => first | exact ⟨k + 1, by omega, by go_num⟩ | exact ⟨_, ⟨k + 1, by omega, by go_num⟩, rfl⟩ | exact ⟨_, _, ⟨k + 1, by omega, by go_num⟩, rfl, rfl⟩ | exact ⟨_, _, _, ⟨k + 1, by omega, by go_num⟩, rfl, rfl, rfl⟩ | exact ⟨_, _, _, _, ⟨k + 1, by omega, by go_num⟩, rfl, rfl, rfl, rfl⟩ | exact ⟨_, _, _, _, _, ⟨k + 1, by omega, by go_num⟩, rfl, rfl, rfl, rfl, rfl⟩
      case measure => simp [intOf]; omega
    · go_wp2_with fail
      refine (makeMass_any s _ _ _ xs _ hxx hn16 (fun k hk => by have := HB.out k hk; omega)).mono ?_; rintro e w2 ⟨⟨v, rfl, hr⟩, hb⟩
      obtain ⟨a2, n2, c2, rfl, hi2⟩ := hr.ints
      obtain ⟨h10, h11, f20, f21, hB1⟩ := box2f hb
      clear hb
      go_wp2
      refine bodyPost_ret (v := .tuple #[.agg #[.int .i64 (mkMass s xs).size, .slice a2 n2 c2], .bool (mkMass s xs).ok]) (by simp [results, Try.results25, go_sem, h10, h11, f20, f21]) rfl ⟨?_, ?_⟩
      · exact ⟨_, rfl, (((hr.mono (base' := w.heap.size + 1) (by simp)).setBelow (by simp) _).setBelow (by simp) _).mono (by omega)⟩
      · (repeat (first | exact Below.refl _ _ | assumption | refine Below.alloc ?_ (by first | omega | (simp <;> omega)) _ | refine Below.setCell ?_ (by first | omega | (simp <;> omega)) _ | refine Below.drew ?_ | refine below_drewN ?_))
end Go.Proofs.Ytphcjojdlmnnoaa
