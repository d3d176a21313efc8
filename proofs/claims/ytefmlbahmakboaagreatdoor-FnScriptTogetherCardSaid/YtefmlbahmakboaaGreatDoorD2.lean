/- Worlds in which only some blocks have changed. The reader of random bytes: that it draws some number, in bounds. What the reference's drawing functions draw: some value, in new memory. Two cells that are kept; boxes and rows under stores (printed by drawgen.py). -/
import Derived.Test.YtefmlbahmakboaaGreatDoorB0
import Derived.Test.YtefmlbahmakboaaGreatDoorW3
import Derived.Test.YtefmlbahmakboaaGreatDoorL2
set_option linter.unusedSimpArgs false
set_option linter.unusedVariables false
namespace Go.Proofs.YtefmlbahmakboaaGreatDoor
open Go.RowKit
/-- a world in which only blocks from lo to hi have changed, or are new -/
structure Span (lo hi : Nat) (w w' : World) : Prop where
  os : w'.os = w.os
  tape : w'.tape = w.tape
  output : w'.output = w.output
  size : w.heap.size ≤ w'.heap.size
  block : ∀ k, k < w.heap.size → (k < lo ∨ hi ≤ k) → w'.heap[k]? = w.heap[k]?
theorem Span.refl (lo hi : Nat) (w : World) : Span lo hi w w := ⟨rfl, rfl, rfl, Nat.le_refl _, fun _ _ _ => rfl⟩
theorem Span.grown {lo hi : Nat} {w a b : World} {row : Option Nat} (h : Span lo hi w a) (hg : a.grownBy b row) (hr : ∀ k, row = some k → lo ≤ k ∧ k < hi) : Span lo hi w b :=
  ⟨hg.os.trans h.os, hg.tape.trans h.tape, hg.output.trans h.output, Nat.le_trans h.size hg.size, fun k hk hc => (hg.block k (Nat.lt_of_lt_of_le hk h.size) (fun e => by have := hr k e.symm; omega)).trans (h.block k hk hc)⟩
theorem Span.keep {lo hi : Nat} {w w' : World} {b o : Nat} {v : Value} (h : Span lo hi w w') (hc : w.cell? ⟨b, o, none⟩ = some v) (hb : b < lo ∨ hi ≤ b) : w'.cell? ⟨b, o, none⟩ = some v := by
  have hlt := World.block_lt_of_cell? w ⟨b, o, none⟩ hc
  have he := h.block b hlt hb
  rw [← hc]
  unfold World.cell?
  simp only [he]
theorem Span.below {lo hi B : Nat} {w a b : World} (h : Below B w a) (hB : B ≤ a.heap.size) (hs : Span lo hi a b) (hlo : B ≤ lo) : Below B w b :=
  ⟨hs.os.trans h.os, hs.tape.trans h.tape, hs.output.trans h.output, Nat.le_trans h.size hs.size, fun k hk => (hs.block k (by omega) (by omega)).trans (h.block k hk)⟩
theorem Span.row {lo hi base : Nat} {w w' : World} {v : Value} {xs : List Int} (hs : Span lo hi w w') (h : Row w base v xs) (hb : ∀ k, v.ownBlock = some k → k < lo ∨ hi ≤ k) : Row w' base v xs := by
  refine ⟨h.1, ?_⟩
  rcases h.2 with h2 | ⟨g, cap, cur, hv, hg, hh, r⟩
  · exact .inl h2
  · refine .inr ⟨g, cap, cur, hv, hg, ?_, r⟩
    rw [hs.block g (lt_of_block hh) (hb g (by rw [hv]; rfl))]; exact hh
theorem Span.mono {lo hi hi2 : Nat} {w w' : World} (h : Span lo hi w w') (hl : hi ≤ hi2) : Span lo hi2 w w' := ⟨h.os, h.tape, h.output, h.size, fun k hk hc => h.block k hk (by omega)⟩
/-- a slice of at most 'top' bytes, below block R -/
structure BytesIn (w : World) (R : Nat) (ao : Option Addr) (n : Nat) : Prop where
  len : n ≤ 140737488351232
  cell : 0 < n → ∃ b off, ao = some ⟨b, off, none⟩ ∧ b < R ∧ ∀ k, k < n → ∃ v : Int, 0 ≤ v ∧ v ≤ 255 ∧ w.cell? ⟨b, off + k, none⟩ = some (.int .u8 v)
theorem cell_block {w w' : World} {b o : Nat} (h : w'.heap[b]? = w.heap[b]?) : w'.cell? ⟨b, o, none⟩ = w.cell? ⟨b, o, none⟩ := World.cell?_of_block (a := ⟨b, o, none⟩) h
theorem frozen_block {w w' : World} {b o : Nat} (h : w'.heap[b]? = w.heap[b]?) : w'.frozen? ⟨b, o, none⟩ = w.frozen? ⟨b, o, none⟩ := World.frozen?_of_block (a := ⟨b, o, none⟩) h
theorem BytesIn.of_block {w w' : World} {R : Nat} {ao : Option Addr} {n : Nat} (h : BytesIn w R ao n) (hb : ∀ k, k < R → w'.heap[k]? = w.heap[k]?) : BytesIn w' R ao n := by
  refine ⟨h.len, fun hn => ?_⟩
  obtain ⟨b, off, e, hbR, hc⟩ := h.cell hn
  refine ⟨b, off, e, hbR, fun k hk => ?_⟩
  obtain ⟨v, h0, h1, hv⟩ := hc k hk
  exact ⟨v, h0, h1, (cell_block (hb b hbR)).trans hv⟩
/-- the reader in block R has been asked at most P times -/
def Rd (w : World) (R P : Nat) : Prop :=
  R < w.heap.size ∧ ∃ (ao : Option Addr) (n c p : Nat), w.cell? ⟨R, 0, none⟩ = some (.slice ao n c) ∧ w.cell? ⟨R, 1, none⟩ = some (.int .i64 p) ∧ w.frozen? ⟨R, 1, none⟩ = false ∧ p ≤ P ∧ BytesIn w R ao n
theorem Rd.of_block {w w' : World} {R P : Nat} (h : Rd w R P) (hs : w.heap.size ≤ w'.heap.size) (hb : ∀ k, k ≤ R → w'.heap[k]? = w.heap[k]?) : Rd w' R P := by
  obtain ⟨hR, ao, n, c, p, h0, h1, h2, h3, h4⟩ := h
  exact ⟨Nat.lt_of_lt_of_le hR hs, ao, n, c, p, (cell_block (hb R (Nat.le_refl _))).trans h0, (cell_block (hb R (Nat.le_refl _))).trans h1, (frozen_block (hb R (Nat.le_refl _))).trans h2, h3, h4.of_block fun k hk => hb k (by omega)⟩
theorem Rd.below {w w' : World} {R P B : Nat} (h : Rd w R P) (hb : Below B w w') (hB : R < B) : Rd w' R P := h.of_block hb.size fun k hk => hb.block k (by omega)
theorem Rd.mono {w : World} {R P Q : Nat} (h : Rd w R P) (hq : P ≤ Q) : Rd w R Q := by
  obtain ⟨hR, ao, n, c, p, h0, h1, h2, h3, h4⟩ := h
  exact ⟨hR, ao, n, c, p, h0, h1, h2, by omega, h4⟩
/-- what a step of the reader leaves: some value that 'ok' holds of, the reader asked at most P times, other blocks as they were -/
def Drew (R P : Nat) (w : World) (ok : Value → World → Prop) (e : Ending) (w' : World) : Prop := ∃ v, e = .returned v ∧ ok v w' ∧ Rd w' R P ∧ Span R (R + 1) w w'
theorem Span.trans {lo hi : Nat} {a b c : World} (h : Span lo hi a b) (k : Span lo hi b c) : Span lo hi a c :=
  ⟨k.os.trans h.os, k.tape.trans h.tape, k.output.trans h.output, Nat.le_trans h.size k.size, fun i hi hc => (k.block i (Nat.lt_of_lt_of_le hi h.size) hc).trans (h.block i hi hc)⟩
theorem Span.of_below {lo hi : Nat} {a b : World} (h : Below a.heap.size a b) : Span lo hi a b := ⟨h.os, h.tape, h.output, h.size, fun k hk _ => h.block k hk⟩
theorem Span.set {lo hi : Nat} {w : World} {b o : Nat} {v : Value} (h : lo ≤ b ∧ b < hi) : Span lo hi w (w.setCell ⟨b, o, none⟩ v) :=
  ⟨rfl, rfl, rfl, by simp [World.setCell], fun k hk hc => Below.heap_setCell _ _ _ _ (by show k ≠ b; omega)⟩
theorem xor_nat (a b : Nat) (ha : a < 1099511627776) (hb : b < 1099511627776) : ∃ y : Nat, bits BinOp.xor IntKind.i64 (a : Int) (b : Int) = (y : Int) ∧ y < 1099511627776 := by
  have h1 : ∀ n : Nat, (BitVec.ofInt 64 ((n : Nat) : Int)) = BitVec.ofNat 64 n := fun n => by rw [BitVec.ofInt_natCast]
  have hx : a ^^^ b < 2 ^ 40 := Nat.xor_lt_two_pow (by omega) (by omega)
  refine ⟨a ^^^ b, ?_, by omega⟩
  show IntKind.i64.wrap ((((BitVec.ofInt 64 (a : Int)) ^^^ (BitVec.ofInt 64 (b : Int))).toNat : Nat) : Int) = _
  rw [h1, h1]
  have h3 : (BitVec.ofNat 64 a ^^^ BitVec.ofNat 64 b).toNat = (a ^^^ b) := by
    rw [BitVec.toNat_xor, BitVec.toNat_ofNat, BitVec.toNat_ofNat, Nat.mod_eq_of_lt (by omega), Nat.mod_eq_of_lt (by omega)]
  rw [h3]
  apply IntWalk.i64_in
  omega
theorem mix_pos (x n : Int) (h0 : 0 ≤ x) (h1 : x < 1099511627776) (hn : ¬ n < 1) : 0 ≤ (bits BinOp.xor IntKind.i64 x (x / 64)).tmod n ∧ (bits BinOp.xor IntKind.i64 x (x / 64)).tmod n < n := by
  obtain ⟨y, hy, _⟩ := xor_nat x.toNat (x.toNat / 64) (by omega) (by omega)
  have e1 : ((x.toNat : Nat) : Int) = x := by omega
  have e2 : ((x.toNat / 64 : Nat) : Int) = x / 64 := by omega
  rw [e1, e2] at hy
  rw [hy, Int.tmod_eq_emod_of_nonneg (by omega)]
  exact ⟨Int.emod_nonneg _ (by omega), Int.emod_lt_of_pos _ (by omega)⟩
/-- what pick returns -/
def Picks (n : Int) (v : Value) (_ : World) : Prop := ∃ x : Int, v = .int .i64 x ∧ 0 ≤ x ∧ (x < n ∨ n < 1 ∧ x = 0)
theorem Rd.tick {w : World} {R P m c p : Nat} {ao : Option Addr} (hR : R < w.heap.size) (h0 : w.cell? ⟨R, 0, none⟩ = some (.slice ao m c)) (h1 : w.cell? ⟨R, 1, none⟩ = some (.int .i64 p)) (hf : w.frozen? ⟨R, 1, none⟩ = false) (hp : p ≤ P) (hb : BytesIn w R ao m) :
    Rd (w.setCell ⟨R, 1, none⟩ (.int .i64 (p + 1))) R (P + 1) ∧ Span R (R + 1) w (w.setCell ⟨R, 1, none⟩ (.int .i64 (p + 1))) := by
  refine ⟨⟨by simp [World.setCell]; exact hR, ao, m, c, p + 1, (by go_simp), ?_, (by go_simp), by omega, hb.of_block fun k hk => Below.heap_setCell _ _ _ _ (by show k ≠ R; omega)⟩, Span.set (by omega)⟩
  go_simp
set_option maxHeartbeats 1000000 in
theorem pick_any (R P : Nat) (n : Int) (w : World) (hr : Rd w R P) (hP : P ≤ 1000000000) (hn : n ≤ 1000000000000) :
    Calls Tryz.prog 83 #[.pointer (some ⟨R, 0, none⟩), .int .i64 n] w (Drew R (P + 1) w (Picks n)) := by
  obtain ⟨hR, ao, m, c, p, h0, h1, hf, hp, hby⟩ := hr
  have HT := hid (Rd.tick hR h0 h1 hf hp hby)
  have hlen := hby.len
  by_cases hn1 : n < 1
  · go_enter Tryz.func83, Tryz.ntmps83
    go_wp2
    go_ret
    exact ⟨_, rfl, ⟨0, rfl, by omega, .inr ⟨hn1, rfl⟩⟩, HT.out.1, HT.out.2⟩
  · by_cases hm : m = 0
    · subst hm
      go_enter Tryz.func83, Tryz.ntmps83
      go_wp2
      go_ret
      exact ⟨_, rfl, ⟨0, rfl, by omega, .inl (by omega)⟩, HT.out.1, HT.out.2⟩
    · obtain ⟨b, off, rfl, hbR, hc⟩ := hby.cell (by omega)
      have hne : ¬ b = R := by omega
      have hne' : ¬ R = b := by omega
      have HC := hid hc
      clear hc
      have hm0 : (0 : Int) < (m : Int) := by omega
      have hm1 : ((m : Int) == 0) = false := by simpa using (show ¬ (m : Int) = 0 by omega)
      by_cases hlt : p < m
      · obtain ⟨v, hv0, hv1, hcv⟩ := HC.out p hlt
        have hr0 : 0 ≤ v % n := Int.emod_nonneg _ (by omega)
        have hr1 : v % n < n := Int.emod_lt_of_pos _ (by omega)
        go_enter Tryz.func83, Tryz.ntmps83
        go_wp2
        go_ret
        exact ⟨_, rfl, ⟨_, rfl, by omega, .inl (by omega)⟩, HT.out.1, HT.out.2⟩
      · have hj1 : p % m < m := Nat.mod_lt _ (by omega)
        have hj2 : (p * 7 + 3) % m < m := Nat.mod_lt _ (by omega)
        have he1 : (p : Int) % (m : Int) = ((p % m : Nat) : Int) := by simp
        have he2 : ((p : Int) * 7 + 3) % (m : Int) = (((p * 7 + 3) % m : Nat) : Int) := by simp
        have hq0 : (0 : Int) ≤ (p : Int) / (m : Int) := Int.ediv_nonneg (by omega) (by omega)
        have hq1 : (p : Int) / (m : Int) ≤ (p : Int) := Int.ediv_le_self _ (by omega)
        have HX : Hid (∀ v1 v2 : Int, 0 ≤ v1 → v1 ≤ 255 → 0 ≤ v2 → v2 ≤ 255 → 0 ≤ v1 * 131 + v2 * 1117 + (p : Int) * 29 + (p : Int) / (m : Int) * 53 ∧ v1 * 131 + v2 * 1117 + (p : Int) * 29 + (p : Int) / (m : Int) * 53 < 1099511627776) := fun v1 v2 _ _ _ _ => by omega
        generalize p % m = j1 at *
        generalize (p * 7 + 3) % m = j2 at *
        obtain ⟨v1, hv0, hv1, hcv1⟩ := HC.out _ hj1
        obtain ⟨v2, hv2, hv3, hcv2⟩ := HC.out _ hj2
        go_enter Tryz.func83, Tryz.ntmps83
        go_wp2
        refine wp_region_ov (by kernel_rfl) (by kernel_rfl) ?_
        repeat (first | go_big_quiet_step ((fail)) | quiet_step ((fail)))
        refine wpQuiet_nil ?_
        intro _ hw_ov
        obtain ⟨x_ov, hw_ov2⟩ := hw_ov
        subst hw_ov2
        obtain ⟨w1, hw_ov3, hb1⟩ := ov_gen _ x_ov
        rw [hw_ov3]
        clear hw_ov3 x_ov
        go_wp2
        go_ret
        have hx := HX.out v1 v2 hv0 hv1 hv2 hv3
        have hy := mix_pos _ n hx.1 hx.2 (by omega)
        refine ⟨_, rfl, ⟨_, rfl, ?_, ?_⟩, ?_, ?_⟩
        · exact hy.1
        · exact .inl hy.2
        · exact HT.out.1.of_block hb1.size fun k hk => hb1.block k (by have := HT.out.1.1; omega)
        · exact HT.out.2.trans (Span.of_below hb1)
theorem Rd.on {w w' : World} {R P : Nat} (h : Rd w R P) (hb : Below w.heap.size w w') : Rd w' R P := h.below hb h.1
theorem BytesIn.take {w : World} {R : Nat} {ao : Option Addr} {n m : Nat} (h : BytesIn w R ao n) (hm : m ≤ n) : BytesIn w R ao m := by
  refine ⟨by have := h.len; omega, fun h0 => ?_⟩
  obtain ⟨b, off, e, hb, hc⟩ := h.cell (by omega)
  exact ⟨b, off, e, hb, fun k hk => hc k (by omega)⟩
theorem ints_span {w w' : World} {g o n lo hi : Nat} {xs : List Int} (hx : IntsAt w (some ⟨g, o, none⟩) n xs) (hs : Span lo hi w w') (hg : g < lo ∨ hi ≤ g) : IntsAt w' (some ⟨g, o, none⟩) n xs := by
  refine ⟨hx.len, hx.cap, fun hn => ?_⟩
  obtain ⟨b, off, e, hb, hc⟩ := hx.cell hn
  injection e with e; injection e with e1 e2
  subst e1 e2
  exact ⟨g, o, rfl, Nat.lt_of_lt_of_le hb hs.size, fun k hk => hs.keep (hc k hk) hg⟩
theorem Span.keepF {lo hi : Nat} {w w' : World} {b o : Nat} (h : Span lo hi w w') (hc : b < w.heap.size ∧ w.frozen? ⟨b, o, none⟩ = false) (hb : b < lo ∨ hi ≤ b) : b < w'.heap.size ∧ w'.frozen? ⟨b, o, none⟩ = false :=
  ⟨Nat.lt_of_lt_of_le hc.1 h.size, (frozen_block (h.block b hc.1 hb)).trans hc.2⟩
/-- a box of two cells that was laid just before a step of the reader -/
theorem boxS {lo hi : Nat} {w w1 : World} {a b : Value} {t : TypeId} (hs : Span lo hi (w.alloc (.cells #[a, b] t)) w1) (h : hi ≤ w.heap.size) :
    w1.cell? ⟨w.heap.size, 0, none⟩ = some a ∧ w1.cell? ⟨w.heap.size, 1, none⟩ = some b ∧ (w.heap.size < w1.heap.size ∧ w1.frozen? ⟨w.heap.size, 0, none⟩ = false) ∧ (w.heap.size < w1.heap.size ∧ w1.frozen? ⟨w.heap.size, 1, none⟩ = false) ∧ Span lo hi w w1 :=
  ⟨hs.keep (by simp) (.inr h), hs.keep (by simp) (.inr h), hs.keepF ⟨by simp, by simp⟩ (.inr h), hs.keepF ⟨by simp, by simp⟩ (.inr h), (Span.of_below (below_alloc w _)).trans hs⟩
theorem Span.belowKeepF {B : Nat} {w w' : World} {b o : Nat} (h : Below B w w') (hc : b < w.heap.size ∧ w.frozen? ⟨b, o, none⟩ = false) (hb : b < B) : b < w'.heap.size ∧ w'.frozen? ⟨b, o, none⟩ = false :=
  ⟨Nat.lt_of_lt_of_le hc.1 h.size, (frozen_block (h.block b hb)).trans hc.2⟩
theorem ints_cell0 {w : World} {g m j : Nat} {ys : List Int} (hy : IntsAt w (some ⟨g, 0, none⟩) m ys) (hj : j < m) : w.cell? ⟨g, j, none⟩ = some (.int .i64 (nth ys j)) := by
  obtain ⟨b, off, e, hb, hc⟩ := hy.cell (by omega)
  injection e with e; injection e with e1 e2
  subst e1 e2
  have := hc j hj
  rwa [Nat.zero_add] at this
theorem addr_add (g j : Nat) : (⟨g, 0, none⟩ : Addr).add j = ⟨g, j, none⟩ := by unfold Addr.add; split <;> simp_all
theorem l14Open_any (ao : Option Addr) (n c : Nat) (w : World) (hx : BytesIn w w.heap.size ao n) (hnc : n ≤ c) :
    Calls Tryz.prog 34 #[.slice ao n c] w fun e w' => e = .returned (.pointer (some ⟨w.heap.size, 0, none⟩)) ∧ Rd w' w.heap.size 0 ∧ Below w.heap.size w w' := by
  have hlen := hx.len
  have HX := hid hx
  clear hx
  by_cases hn : 2000 < n
  · have hc2 : 2000 ≤ c := by omega
    go_enter Tryz.func34, Tryz.ntmps34
    go_wp2
    go_ret
    exact ⟨rfl, ⟨by simp, ao, 2000, c, 0, by simp, by simp, by simp, Nat.le_refl _, (HX.out.take (by omega)).of_block fun k hk => (below_alloc w _).block k hk⟩, below_alloc w _⟩
  · go_enter Tryz.func34, Tryz.ntmps34
    go_wp2
    go_ret
    exact ⟨rfl, ⟨by simp, ao, n, c, 0, by simp, by simp, by simp, Nat.le_refl _, HX.out.of_block fun k hk => (below_alloc w _).block k hk⟩, below_alloc w _⟩
def NumOf (xs : List Int) (v : Value) (_ : World) : Prop := ∃ i, i < xs.length ∧ v = .int .i64 (nth xs i)
set_option maxHeartbeats 400000 in
theorem num_any (R P g n c : Nat) (xs : List Int) (w : World) (hr : Rd w R P) (hP : P ≤ 1000000000) (hx : IntsAt w (some ⟨g, 0, none⟩) n xs) (hg : g ≠ R) (hn : 0 < n) (hn2 : n ≤ 1000) :
    Calls Tryz.prog 131 #[.pointer (some ⟨R, 0, none⟩), .slice (some ⟨g, 0, none⟩) n c] w (Drew R (P + 1) w (NumOf xs)) := by
  have HL := hid hx.len
  go_enter Tryz.func131, Tryz.ntmps131
  go_wp2_with fail
  refine (pick_any R P _ _ hr hP (by omega)).mono ?_; rintro e w1 ⟨v, rfl, ⟨x, rfl, hx0, hx1⟩, hrd, hsp⟩
  obtain ⟨i, rfl⟩ : ∃ i : Nat, x = (i : Int) := ⟨x.toNat, by omega⟩
  have hin : i < n := by omega
  have hi0 : (0 : Int) ≤ (i : Int) := by omega
  have hi1 : (i : Int) < (n : Int) := by omega
  obtain ⟨b, off, e, hb, hb', hck⟩ := (ints_span hx hsp (by omega)).at (Below.refl _ _) hin
  injection e with e; injection e with e1 e2
  subst e1 e2
  rw [Nat.zero_add] at hck
  go_wp2
  go_ret
  exact ⟨_, rfl, ⟨i, by rw [HL.out]; exact hin, rfl⟩, hrd, hsp⟩
theorem Span.on {lo hi : Nat} {w a b : World} (h : Span lo hi w a) (hb : Below w.heap.size a b) : Span lo hi w b :=
  ⟨hb.os.trans h.os, hb.tape.trans h.tape, hb.output.trans h.output, Nat.le_trans h.size hb.size, fun k hk hc => (hb.block k hk).trans (h.block k hk hc)⟩
def AnyFrac (v : Value) (_ : World) : Prop := ∃ a b : Int, v = .agg #[.int .i64 a, .int .i64 b]
/-- a box of two cells -/
structure Bx (w : World) (b : Nat) (v0 v1 : Value) : Prop where
  c0 : w.cell? ⟨b, 0, none⟩ = some v0
  c1 : w.cell? ⟨b, 1, none⟩ = some v1
  f0 : w.frozen? ⟨b, 0, none⟩ = false
  f1 : w.frozen? ⟨b, 1, none⟩ = false
  lt : b < w.heap.size
theorem Bx.of_block {w w' : World} {b : Nat} {v0 v1 : Value} (h : Bx w b v0 v1) (hb : w'.heap[b]? = w.heap[b]?) (hs : w.heap.size ≤ w'.heap.size) : Bx w' b v0 v1 :=
  ⟨(cell_block hb).trans h.c0, (cell_block hb).trans h.c1, (frozen_block hb).trans h.f0, (frozen_block hb).trans h.f1, Nat.lt_of_lt_of_le h.lt hs⟩
theorem Bx.below {w w' : World} {b : Nat} {v0 v1 : Value} (h : Bx w b v0 v1) (hb : Below w.heap.size w w') : Bx w' b v0 v1 := h.of_block (hb.block b h.lt) hb.size
theorem Bx.span {lo hi : Nat} {w w' : World} {b : Nat} {v0 v1 : Value} (h : Bx w b v0 v1) (hs : Span lo hi w w') (hb : b < lo ∨ hi ≤ b) : Bx w' b v0 v1 := h.of_block (hs.block b h.lt hb) hs.size
theorem Bx.grown {w w' : World} {b g : Nat} {v0 v1 : Value} (h : Bx w b v0 v1) (hg : w.grownBy w' (some g)) (hb : b ≠ g) : Bx w' b v0 v1 := h.of_block (hg.block b h.lt (by simpa using hb)) hg.size
theorem Bx.mk2 {w : World} {B : Nat} {v0 v1 : Value} {t : TypeId} (hB : w.heap.size = B) : Bx (w.alloc (.cells #[v0, v1] t)) B v0 v1 := by
  subst hB; exact ⟨by simp, by simp, by simp, by simp, by simp⟩
theorem Rd.grown {w w' : World} {R P g : Nat} (h : Rd w R P) (hg : w.grownBy w' (some g)) (hR : R < g) : Rd w' R P :=
  h.of_block hg.size fun k hk => hg.block k (by have := h.1; omega) (by simp; omega)
theorem Span.grownOn {lo hi g : Nat} {w a b : World} (h : Span lo hi w a) (hg : a.grownBy b (some g)) (hw : w.heap.size ≤ g) : Span lo hi w b :=
  ⟨hg.os.trans h.os, hg.tape.trans h.tape, hg.output.trans h.output, Nat.le_trans h.size hg.size, fun k hk hc => (hg.block k (Nat.lt_of_lt_of_le hk h.size) (by simp; omega)).trans (h.block k hk hc)⟩
theorem own_eq {g n c b : Nat} (e : (Value.slice (some ⟨g, 0, none⟩) n c).ownBlock = some b) : b = g := by
  have e' : some g = some b := e
  injection e' with e'; exact e'.symm
/-- a drawn mass of a question: valid, its parts in memory of the call's own -/
def DrawnMass (s : Int) (base : Nat) (v : Value) (w' : World) : Prop := ∃ p xs, v = .agg #[.int .i64 s, p] ∧ Row w' base p xs ∧ xs.length = nsets s ∧ massOk s xs = true
def DrawnAny (base : Nat) (v : Value) (w' : World) : Prop := ∃ s, okSize s = true ∧ DrawnMass s base v w'
/-- some mass, not always valid -/
def SomeMass (base : Nat) (v : Value) (w' : World) : Prop := ∃ s p xs, v = .agg #[.int .i64 s, p] ∧ Row w' base p xs ∧ xs.length ≤ 17
/-- parts that were drawn -/
def Small (M : Int) (N : Nat) (ps : List Int) : Prop := ∀ j, j < N → 0 ≤ nth ps j ∧ nth ps j ≤ M
theorem Small.zero (N n : Nat) : Small 0 N (List.replicate n 0) := fun j _ => by rw [nth_replicate]; omega
theorem Small.set {M q : Int} {N i : Nat} {ps : List Int} (h : Small M N ps) (h0 : 0 ≤ q) (h1 : q ≤ M) : Small M N (ps.set i q) := fun j hj => by
  rw [nth_set]; split
  · omega
  · exact h j hj
theorem Small.mono {M M' : Int} {N : Nat} {ps : List Int} (h : Small M N ps) (hm : M ≤ M') : Small M' N ps := fun j hj => by have := h j hj; omega
/-- two cells below B are kept -/
theorem kept2_alloc {b i j B : Nat} {u v : Value} {w : World} (hb : b < B) (h : w.cell? ⟨b, i, none⟩ = some u ∧ w.cell? ⟨b, j, none⟩ = some v ∧ B ≤ w.heap.size) (o : Obj) : (w.alloc o).cell? ⟨b, i, none⟩ = some u ∧ (w.alloc o).cell? ⟨b, j, none⟩ = some v ∧ B ≤ (w.alloc o).heap.size := by
  obtain ⟨h1, h2, h3⟩ := h
  refine ⟨?_, ?_, by simp; omega⟩
  · rw [World.cell?_alloc_lt _ _ _ (by show b < _; omega)]; exact h1
  · rw [World.cell?_alloc_lt _ _ _ (by show b < _; omega)]; exact h2
theorem kept2_set {b i j B : Nat} {u v : Value} {w : World} (h : w.cell? ⟨b, i, none⟩ = some u ∧ w.cell? ⟨b, j, none⟩ = some v ∧ B ≤ w.heap.size) (a : Addr) (z : Value) (ha : a.block ≠ b) : (w.setCell a z).cell? ⟨b, i, none⟩ = some u ∧ (w.setCell a z).cell? ⟨b, j, none⟩ = some v ∧ B ≤ (w.setCell a z).heap.size := by
  obtain ⟨h1, h2, h3⟩ := h
  refine ⟨?_, ?_, by simp; omega⟩
  · rw [World.cell?_setCell_other _ _ _ _ (by rintro rfl; exact ha rfl)]; exact h1
  · rw [World.cell?_setCell_other _ _ _ _ (by rintro rfl; exact ha rfl)]; exact h2
theorem kept2_drew {b i j B : Nat} {u v : Value} {w : World} (h : w.cell? ⟨b, i, none⟩ = some u ∧ w.cell? ⟨b, j, none⟩ = some v ∧ B ≤ w.heap.size) : w.drew.cell? ⟨b, i, none⟩ = some u ∧ w.drew.cell? ⟨b, j, none⟩ = some v ∧ B ≤ w.drew.heap.size := h
theorem kept2_span {lo hi b i j B : Nat} {u v : Value} {w w' : World} (h : w.cell? ⟨b, i, none⟩ = some u ∧ w.cell? ⟨b, j, none⟩ = some v ∧ B ≤ w.heap.size) (ht : Span lo hi w w') (hx : b < lo ∨ hi ≤ b) : w'.cell? ⟨b, i, none⟩ = some u ∧ w'.cell? ⟨b, j, none⟩ = some v ∧ B ≤ w'.heap.size := ⟨ht.keep h.1 hx, ht.keep h.2.1 hx, Nat.le_trans h.2.2 ht.size⟩
theorem kept2_below {b i j B : Nat} {u v : Value} {w w' : World} (h : w.cell? ⟨b, i, none⟩ = some u ∧ w.cell? ⟨b, j, none⟩ = some v ∧ B ≤ w.heap.size) (ht : Below w.heap.size w w') : w'.cell? ⟨b, i, none⟩ = some u ∧ w'.cell? ⟨b, j, none⟩ = some v ∧ B ≤ w'.heap.size := ⟨keep ht h.1, keep ht h.2.1, Nat.le_trans h.2.2 ht.size⟩
theorem Row.view {w : World} {base n c : Nat} {a : Option Addr} {xs : List Int} (h : Row w base (.slice a n c) xs) : IntsAt w a n xs := by
  obtain ⟨ao, n2, c2, e, hi⟩ := h.ints
  injection e with e1 e2 e3
  subst e1 e2 e3
  exact hi
theorem World.setCell2_other (w : World) (b k : Nat) (u v : Value) (h : k ≠ b) : ((w.setCell ⟨b, 0, none⟩ u).setCell ⟨b, 1, none⟩ v).heap[k]? = w.heap[k]? := by
  simp only [World.setCell, Array.getElem?_modify]
  rw [if_neg (fun e => h e.symm), if_neg (fun e => h e.symm)]
theorem Row.put2 {w : World} {base b : Nat} {v x y : Value} {xs : List Int} (h : Row w base v xs) (hb : ∀ k, v.ownBlock = some k → k ≠ b) : Row ((w.setCell ⟨b, 0, none⟩ x).setCell ⟨b, 1, none⟩ y) base v xs :=
  (h.setOther (a := ⟨b, 0, none⟩) (fun e => hb _ e rfl) x).setOther (a := ⟨b, 1, none⟩) (fun e => hb _ e rfl) y
theorem Bx.put2 {w : World} {b : Nat} {u0 u1 : Value} (h : Bx w b u0 u1) (v0 v1 : Value) : Bx ((w.setCell ⟨b, 0, none⟩ v0).setCell ⟨b, 1, none⟩ v1) b v0 v1 :=
  ⟨(World.cell?_setCell_other _ _ _ _ (by simp)).trans (World.cell?_setCell_same _ _ _ h.c0), World.cell?_setCell_same _ _ _ ((World.cell?_setCell_other _ _ _ _ (by simp)).trans h.c1), by simp [h.f0], by simp [h.f1], by simp; exact h.lt⟩
end Go.Proofs.YtefmlbahmakboaaGreatDoor
