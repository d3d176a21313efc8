/- Contracts of the laws' helpers: marks in slices of slices. -/
import Derived.Test.YtmmlfjohknfbmaaL3
import Derived.Test.YtmmlfjohknfbmaaLK
import Derived.Test.YtmmlfjohknfbmaaX1
set_option linter.unusedSimpArgs false
set_option linter.unusedVariables false
namespace Go.Proofs.Ytmmlfjohknfbmaa
open Go.RowKit
/-- a world in which only blocks from lo to hi have changed, or are new -/
structure Span (lo hi : Nat) (w w' : World) : Prop where
  os : w'.os = w.os
  tape : w'.tape = w.tape
  output : w'.output = w.output
  size : w.heap.size ≤ w'.heap.size
  block : ∀ k, k < w.heap.size → (k < lo ∨ hi ≤ k) → w'.heap[k]? = w.heap[k]?
theorem Span.refl (lo hi : Nat) (w : World) : Span lo hi w w := ⟨rfl, rfl, rfl, Nat.le_refl _, fun _ _ _ => rfl⟩
theorem Span.grown {lo hi : Nat} {w a b : World} {row : Option Nat} (h : Span lo hi w a) (hg : a.grownBy b row) (hr : ∀ k, row = some k → lo ≤ k ∧ k < hi) : Span lo hi w b :=
  ⟨hg.os.trans h.os, hg.tape.trans h.tape, hg.output.trans h.output, Nat.le_trans h.size hg.size, fun k hk hc => (hg.block k (Nat.lt_of_lt_of_le hk h.size) (fun e => by have := hr k e.symm; omega)).trans (h.block k hk hc)⟩
theorem Span.keep {lo hi : Nat} {w w' : World} {b o : Nat} {v : Value} (h : Span lo hi w w') (hc : w.cell? ⟨b, o, none⟩ = some v) (hb : b < lo ∨ hi ≤ b) : w'.cell? ⟨b, o, none⟩ = some v := by
  have hlt := World.block_lt_of_cell? w ⟨b, o, none⟩ hc
  have he := h.block b hlt hb
  rw [← hc]
  unfold World.cell?
  simp only [he]
theorem Span.below {lo hi B : Nat} {w a b : World} (h : Below B w a) (hB : B ≤ a.heap.size) (hs : Span lo hi a b) (hlo : B ≤ lo) : Below B w b :=
  ⟨hs.os.trans h.os, hs.tape.trans h.tape, hs.output.trans h.output, Nat.le_trans h.size hs.size, fun k hk => (hs.block k (by omega) (by omega)).trans (h.block k hk)⟩
theorem Span.row {lo hi base : Nat} {w w' : World} {v : Value} {xs : List Int} (hs : Span lo hi w w') (h : Row w base v xs) (hb : ∀ k, v.ownBlock = some k → k < lo ∨ hi ≤ k) : Row w' base v xs := by
  refine ⟨h.1, ?_⟩
  rcases h.2 with h2 | ⟨g, cap, cur, hv, hg, hh, r⟩
  · exact .inl h2
  · refine .inr ⟨g, cap, cur, hv, hg, ?_, r⟩
    rw [hs.block g (lt_of_block hh) (hb g (by rw [hv]; rfl))]; exact hh
theorem Span.mono {lo hi hi2 : Nat} {w w' : World} (h : Span lo hi w w') (hl : hi ≤ hi2) : Span lo hi2 w w' := ⟨h.os, h.tape, h.output, h.size, fun k hk hc => h.block k hk (by omega)⟩
theorem Mat.grown {w w' : World} {B n : Nat} {vals : Nat → Value} {xss : List (List Int)} {row : Option Nat} (h : Mat w B n vals xss) (hg : w.grownBy w' row) (hne : ∀ b, row = some b → b < B) : Mat w' B n vals xss := by
  refine ⟨h.row.of_block (hg.block B h.row.lt (fun e => by have := hne B e.symm; omega)), fun k hk => (h.rows k hk).grown hg ?_, h.apart⟩
  cases hv : (vals k).ownBlock with
  | none => exact .inl rfl
  | some b =>
    refine .inr fun e => ?_
    have h1 := hne b e.symm
    have h2 := (h.rows k hk).block b hv
    omega
theorem Mat.hi {w : World} {B n : Nat} {vals : Nat → Value} {xss : List (List Int)} (h : Mat w B n vals xss) : ∀ k, k < n → ∀ b, (vals k).ownBlock = some b → b < w.heap.size := fun k hk b e => ((h.rows k hk).block b e).2
set_option maxHeartbeats 1000000 in
theorem markIntSS_any (B n c H : Nat) (vals : Nat → Value) (xss : List (List Int)) (q : Int) (w : World) (hm : Mat w B n vals xss) (hl : xss.length = n) (hH : ∀ k, k < n → ∀ b, (vals k).ownBlock = some b → b < H) (hn : n ≤ 100000000) (hr : ∀ k, k < n → (nthL xss k).length ≤ 100000000)
    (hq0 : 0 ≤ q) (hq : q + (totTo xss n : Int) ≤ 1000000000000) :
    Calls Try.prog 41 #[.slice (some ⟨B, 0, none⟩) n c, .int .i64 q] w fun e w' => e = .returned (.int .i64 (q + (totTo xss n : Int))) ∧ Span (B + 1) H w w' := by
  have HR := hid hr; clear hr
  have HH := hid hH; clear hH
  have HM := hid hm
  have HL := hid hl; clear hl
  have hBs := hm.row.lt
  go_enter Try.func41, Try.ntmps41
  go_wp2
  go_loopw [1, 5] (fun u i wr => ∃ k : Nat, k ≤ n ∧ i = .int .i64 k ∧ u = .int .i64 (q + (totTo xss k : Int)) ∧ (∀ j, k ≤ j → j < n → Row wr (B + 1) (vals j) (nthL xss j)) ∧ Span (B + 1) H w wr) (fun _ i _ => n - (intOf i).toNat)
  case atStart => exact ⟨0, by omega, rfl, by show _ = Value.int .i64 (q + ((0 : Nat) : Int)); simp, fun j _ hj => HM.out.rows j hj, Span.refl _ _ _⟩
  case round =>
    obtain ⟨k, hk, rfl, rfl, hrows, hS⟩ := hrel
    have hmono := totTo_mono xss hk
    by_cases hlt : k < n
    · have hrow := hrows k (Nat.le_refl _) hlt
      have hck := hS.keep (HM.out.row.cell hlt) (Or.inl (Nat.lt_succ_self B))
      obtain ⟨a1, n1, c1, e1, hi1⟩ := hrow.ints
      rw [e1] at hck hrow
      have hk0 : (0 : Int) ≤ (k : Int) := by omega
      have hk1 : (k : Int) < (n : Int) := by omega
      have HN : Hid (totTo xss (k + 1) = totTo xss k + n1) := by rw [Hid, totTo_succ, hi1.len]
      have HROWS := hid hrows; clear hrows
      have hn1 : n1 ≤ 100000000 := by have := HR.out k hlt; rw [hi1.len] at this; exact this
      have hcap := HM.out.row.lt
      go_wp2_with fail
      refine (markIntS_any _ (nthL xss k) n1 _ (B + 1) _ hrow hi1.len hn1 (by omega) (by omega)).mono ?_; rintro e w1 ⟨rfl, hr1, hg1⟩
      have HS1 := hid (hS.grown hg1 (fun b hb => by rw [← e1] at hb; exact ⟨((HROWS.out k (Nat.le_refl _) hlt).block b hb).1, HH.out k hlt b hb⟩))
      have HR1 : Hid (∀ j, k + 1 ≤ j → j < n → Row w1 (B + 1) (vals j) (nthL xss j)) := fun j hj hjn => by
        refine (HROWS.out j (by omega) hjn).grown hg1 ?_
        rw [← e1]
        cases hvb : (vals j).ownBlock with
        | none => exact .inl rfl
        | some b => exact .inr fun e => HM.out.apart k j (by omega) hjn b e.symm hvb
      clear hg1 hr1 hS hck hrow
      go_wp2
      go_roundw
      case rel => first | exact ⟨k + 1, by omega, by go_num, by rw [HN.out]; go_num, HR1.out, HS1.out⟩ | exact ⟨_, ⟨k + 1, by omega, by go_num, by rw [HN.out]; go_num, HR1.out, HS1.out⟩, rfl⟩ | exact ⟨_, _, ⟨k + 1, by omega, by go_num, by rw [HN.out]; go_num, HR1.out, HS1.out⟩, rfl, rfl⟩ | exact ⟨_, _, _, ⟨k + 1, by omega, by go_num, by rw [HN.out]; go_num, HR1.out, HS1.out⟩, rfl, rfl, rfl⟩ | exact ⟨_, _, _, _, ⟨k + 1, by omega, by go_num, by rw [HN.out]; go_num, HR1.out, HS1.out⟩, rfl, rfl, rfl, rfl⟩ | exact ⟨_, _, _, _, _, ⟨k + 1, by omega, by go_num, by rw [HN.out]; go_num, HR1.out, HS1.out⟩, rfl, rfl, rfl, rfl, rfl⟩
      case measure => simp [intOf]; omega
    · have hkn : k = n := by omega
      have HK := hid hkn
      clear hkn
      go_wp2
      go_ret
      exact ⟨ret_int (by rw [← HK.out]), hS⟩
end Go.Proofs.Ytmmlfjohknfbmaa
