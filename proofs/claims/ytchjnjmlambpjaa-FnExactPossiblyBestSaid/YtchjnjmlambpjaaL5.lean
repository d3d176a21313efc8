/- Contracts of the laws' helpers: marks in slices of slices. -/
import Derived.Test.YtchjnjmlambpjaaL3
import Derived.Test.YtchjnjmlambpjaaL2
import Derived.Test.YtchjnjmlambpjaaX1
import Derived.Test.YtchjnjmlambpjaaSP
set_option linter.unusedSimpArgs false
set_option linter.unusedVariables false
namespace Go.Proofs.Ytchjnjmlambpjaa
open Go.RowKit
theorem Mat.grown {w w' : World} {B n : Nat} {vals : Nat → Value} {xss : List (List Int)} {row : Option Nat} (h : Mat w B n vals xss) (hg : w.grownBy w' row) (hne : ∀ b, row = some b → b < B) : Mat w' B n vals xss := by
  refine ⟨h.row.of_block (hg.block B h.row.lt (fun e => by have := hne B e.symm; omega)), fun k hk => (h.rows k hk).grown hg ?_, h.apart⟩
  cases hv : (vals k).ownBlock with
  | none => exact .inl rfl
  | some b =>
    refine .inr fun e => ?_
    have h1 := hne b e.symm
    have h2 := (h.rows k hk).block b hv
    omega
theorem Mat.hi {w : World} {B n : Nat} {vals : Nat → Value} {xss : List (List Int)} (h : Mat w B n vals xss) : ∀ k, k < n → ∀ b, (vals k).ownBlock = some b → b < w.heap.size := fun k hk b e => ((h.rows k hk).block b e).2
set_option maxHeartbeats 1000000 in
theorem markIntSS_any (B n c H : Nat) (vals : Nat → Value) (xss : List (List Int)) (q : Int) (w : World) (hm : Mat w B n vals xss) (hl : xss.length = n) (hH : ∀ k, k < n → ∀ b, (vals k).ownBlock = some b → b < H) (hn : n ≤ 100000000) (hr : ∀ k, k < n → (nthL xss k).length ≤ 100000000)
    (hq0 : 0 ≤ q) (hq : q + (totTo xss n : Int) ≤ 1000000000000) :
    Calls Try.prog 56 #[.slice (some ⟨B, 0, none⟩) n c, .int .i64 q] w fun e w' => e = .returned (.int .i64 (q + (totTo xss n : Int))) ∧ Span (B + 1) H w w' := by
  have HR := hid hr; clear hr
  have HH := hid hH; clear hH
  have HM := hid hm
  have HL := hid hl; clear hl
  have hBs := hm.row.lt
  go_enter Try.func56, Try.ntmps56
  go_wp2
  go_loopw [1, 5] (fun u i wr => ∃ k : Nat, k ≤ n ∧ i = .int .i64 k ∧ u = .int .i64 (q + (totTo xss k : Int)) ∧ (∀ j, k ≤ j → j < n → Row wr (B + 1) (vals j) (nthL xss j)) ∧ Span (B + 1) H w wr) (fun _ i _ => n - (intOf i).toNat)
  case atStart => exact ⟨0, by omega, rfl, by show _ = Value.int .i64 (q + ((0 : Nat) : Int)); simp, fun j _ hj => HM.out.rows j hj, Span.refl _ _ _⟩
  case round =>
    obtain ⟨k, hk, rfl, rfl, hrows, hS⟩ := hrel
    have hmono := totTo_mono xss hk
    by_cases hlt : k < n
    · have hrow := hrows k (Nat.le_refl _) hlt
      have hck := hS.keep (HM.out.row.cell hlt) (Or.inl (Nat.lt_succ_self B))
      obtain ⟨a1, n1, c1, e1, hi1⟩ := hrow.ints
      rw [e1] at hck hrow
      have hk0 : (0 : Int) ≤ (k : Int) := by omega
      have hk1 : (k : Int) < (n : Int) := by omega
      have HN : Hid (totTo xss (k + 1) = totTo xss k + n1) := by rw [Hid, totTo_succ, hi1.len]
      have HROWS := hid hrows; clear hrows
      have hn1 : n1 ≤ 100000000 := by have := HR.out k hlt; rw [hi1.len] at this; exact this
      have hcap := HM.out.row.lt
      go_wp2_with fail
      refine (markIntS_any _ (nthL xss k) n1 _ (B + 1) _ hrow hi1.len hn1 (by omega) (by omega)).mono ?_; rintro e w1 ⟨rfl, hr1, hg1⟩
      have HS1 := hid (hS.grown hg1 (fun b hb => by rw [← e1] at hb; exact ⟨((HROWS.out k (Nat.le_refl _) hlt).block b hb).1, HH.out k hlt b hb⟩))
      have HR1 : Hid (∀ j, k + 1 ≤ j → j < n → Row w1 (B + 1) (vals j) (nthL xss j)) := fun j hj hjn => by
        refine (HROWS.out j (by omega) hjn).grown hg1 ?_
        rw [← e1]
        cases hvb : (vals j).ownBlock with
        | none => exact .inl rfl
        | some b => exact .inr fun e => HM.out.apart k j (by omega) hjn b e.symm hvb
      clear hg1 hr1 hS hck hrow
      go_wp2
      go_roundw
      case rel => first | exact ⟨k + 1, by omega, by go_num, by rw [HN.out]; go_num, HR1.out, HS1.out⟩ | exact ⟨_, ⟨k + 1, by omega, by go_num, by rw [HN.out]; go_num, HR1.out, HS1.out⟩, rfl⟩ | exact ⟨_, _, ⟨k + 1, by omega, by go_num, by rw [HN.out]; go_num, HR1.out, HS1.out⟩, rfl, rfl⟩ | exact ⟨_, _, _, ⟨k + 1, by omega, by go_num, by rw [HN.out]; go_num, HR1.out, HS1.out⟩, rfl, rfl, rfl⟩ | exact ⟨_, _, _, _, ⟨k + 1, by omega, by go_num, by rw [HN.out]; go_num, HR1.out, HS1.out⟩, rfl, rfl, rfl, rfl⟩ | exact ⟨_, _, _, _, _, ⟨k + 1, by omega, by go_num, by rw [HN.out]; go_num, HR1.out, HS1.out⟩, rfl, rfl, rfl, rfl, rfl⟩
      case measure => simp [intOf]; omega
    · have hkn : k = n := by omega
      have HK := hid hkn
      clear hkn
      go_wp2
      go_ret
      exact ⟨ret_int (by rw [← HK.out]), hS⟩
end Go.Proofs.Ytchjnjmlambpjaa
