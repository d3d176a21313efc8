/- Is one mass a specialization of another one? Exactly if the criterion by sums holds. -/
import Derived.Test.YtefmlbahmakboaaGreatDoorF9
import Derived.Test.YtefmlbahmakboaaGreatDoorF4
set_option linter.unusedSimpArgs false
set_option linter.unusedVariables false
namespace Go.Proofs.YtefmlbahmakboaaGreatDoor
open Go.RowKit
def L4 (xs ys : List Int) (k : Nat) (i : Nat) (l : List Value) : Prop := l.length = k ∧ (i = 2 → l = (List.range k).map fun b => .int .i64 (nth ys b * isum xs)) ∧ (i = 3 → l = (List.range k).map fun b => .int .i64 (nth xs b * isum ys))
theorem prod12 {a b : Int} (h0 : 0 ≤ a) (h1 : a ≤ 1000000) (h2 : 1 ≤ b) (h3 : b ≤ 1000000) : 0 ≤ a * b ∧ a * b ≤ 1000000000000 ∧ IntKind.i64.wrap (a * b) = a * b := by
  have k1 : 0 ≤ a * b := Int.mul_nonneg h0 (by omega)
  have k2 : a * b ≤ 1000000 * 1000000 := Int.mul_le_mul h1 h3 (by omega) (by omega)
  exact ⟨k1, by omega, IntWalk.i64_in _ (by omega)⟩
theorem own_below {w w' : World} {base size n : Nat} {e : TypeId} {v : Value} {vals : List Value} (h : w.ownsRow base e size v n vals) (hb : Below w.heap.size w w') : w'.ownsRow base e size v n vals := own_same h fun k e => hb.block k (World.ownsRow.lt h k e).2
theorem keepR {w1 w2 : World} {row : Option Nat} {b o : Nat} {x : Value} (hg : w1.grownBy w2 row) (h : w1.cell? ⟨b, o, none⟩ = some x) (hne : ∀ g, row = some g → b ≠ g) : w2.cell? ⟨b, o, none⟩ = some x :=
  (cell_block (hg.block b (World.block_lt_of_cell? w1 ⟨b, o, none⟩ h) fun e => hne b e.symm rfl)).trans h
theorem keepRF {w1 w2 : World} {row : Option Nat} {b o : Nat} {x : Value} (hg : w1.grownBy w2 row) (h : w1.cell? ⟨b, o, none⟩ = some x) (hf : w1.frozen? ⟨b, o, none⟩ = false) (hne : ∀ g, row = some g → b ≠ g) : w2.frozen? ⟨b, o, none⟩ = false :=
  (frozen_block (hg.block b (World.block_lt_of_cell? w1 ⟨b, o, none⟩ h) fun e => hne b e.symm rfl)).trans hf
theorem one_at (w : World) (x : Value) (t : TypeId) : ∀ j u, [x][j]? = some u → (w.alloc (.cells #[x] t)).cell? ((⟨w.heap.size, 0, none⟩ : Addr).add j) = some u := by
  intro j u hj
  match j, hj with
  | 0, hj => simp at hj; subst hj; simp [Addr.add]
theorem Bl.apart {w : World} {base V N : Nat} {v : Nat → Value} {xs : Nat → List Value} {tag : Nat → Nat} (h : Bl w base V N v xs tag) {i : Nat} (hi : i < 4) : ∀ g, (v i).ownBlock = some g → V ≠ g := fun g hg e => by
  have h1 := h.t i hi g hg
  rw [← e, h.t0] at h1; omega
theorem four_new (w : World) (z : Value) (t : TypeId) (i : Nat) (hi : i < 4) : (w.alloc (.cells #[z, z, z, z] t)).cell? ⟨w.heap.size, i, none⟩ = some z ∧ (w.alloc (.cells #[z, z, z, z] t)).frozen? ⟨w.heap.size, i, none⟩ = false := by
  match i, hi with
  | 0, _ => exact ⟨by simp, by simp⟩
  | 1, _ => exact ⟨by simp, by simp⟩
  | 2, _ => exact ⟨by simp, by simp⟩
  | 3, _ => exact ⟨by simp, by simp⟩
theorem range_snoc {α : Type} (f : Nat → α) (k : Nat) : (List.range (k + 1)).map f = (List.range k).map f ++ [f k] := by rw [List.range_succ, List.map_append]; rfl
set_option maxRecDepth 100000 in
set_option maxHeartbeats 100000000 in
theorem newMoves_any (s : Int) (ao bo : Option Addr) (n c m d : Nat) (xs ys : List Int) (w : World) (hx : IntsAt w ao n xs) (hy : IntsAt w bo m ys) (hmx : massOk s xs = true) (hmy : massOk s ys = true) :
    Calls Tryz.prog 54 #[.agg #[.int .i64 s, .slice ao n c], .agg #[.int .i64 s, .slice bo m d]] w
      fun e w' => (∃ p r, e = .returned (.tuple #[p, .bool r]) ∧ (r = true ↔ HallD subN n xs ys (isum xs) (isum ys))) ∧ Below w.heap.size w w' := by
  obtain ⟨hs, hlx, h16, hbx, hx1, hx2, _⟩ := massOk_facts hmx
  obtain ⟨_, hly, _, hby, hy1, hy2, _⟩ := massOk_facts hmy
  have hn2 := (nsets_le hs).1
  have HLX := hid hx.len
  have HLY := hid hy.len
  obtain rfl : m = n := by rw [← hx.len, ← hy.len, hlx, hly]
  have hn0 : 0 < m := by have := hx.len; omega
  have hn16 : m ≤ 16 := by have := hx.len; omega
  have HBX : Hid (∀ k, k < m → 0 ≤ nth xs k ∧ nth xs k ≤ 1000000) := fun k hk => hbx k (by have := hx.len; omega)
  have HBY : Hid (∀ k, k < m → 0 ≤ nth ys k ∧ nth ys k ≤ 1000000) := fun k hk => hby k (by have := hy.len; omega)
  obtain ⟨i1, hi1, hz10, hz11, hz12⟩ := info_parts info_ints
  obtain ⟨i2, hi2, hz20, hz21, hz22⟩ := info_parts info_bools
  obtain ⟨i3, hi3, hz30, hz31, hz32⟩ := info_parts info_int
  have HI1 := hid hi1; have HI2 := hid hi2; have HI3 := hid hi3
  have HZ1 := hid (And.intro hz10 (And.intro hz11 hz12)); have HZ2 := hid (And.intro hz20 (And.intro hz21 hz22)); have HZ3 := hid (And.intro hz30 (And.intro hz31 hz32))
  obtain ⟨wm, hwm⟩ : ∃ q, isum xs = q := ⟨_, rfl⟩
  obtain ⟨wn, hwn⟩ : ∃ q, isum ys = q := ⟨_, rfl⟩
  have HWM := hid hwm
  have HWN := hid hwn
  rw [hwm] at hx1 hx2
  rw [hwn] at hy1 hy2
  clear hbx hby hlx hly hmx hmy h16 hn2 hs hi1 hi2 hi3 hz10 hz11 hz12 hz20 hz21 hz22 hz30 hz31 hz32 hwm hwn
  obtain ⟨xb, xo, rfl, hxl, hxc⟩ := hx.cell hn0
  obtain ⟨yb, yo, rfl, hyl, hyc⟩ := hy.cell hn0
  have HC3 : Hid (∀ k, k < m → w.cell? ⟨xb, xo + k, none⟩ = some (.int .i64 (nth xs k))) := hxc
  have HC2 : Hid (∀ k, k < m → w.cell? ⟨yb, yo + k, none⟩ = some (.int .i64 (nth ys k))) := hyc
  have HWX : Hid (∀ w', IntsAt w' (some ⟨xb, xo, none⟩) m xs → Calls Tryz.prog 48 #[.agg #[.int .i64 s, .slice (some ⟨xb, xo, none⟩) m c]] w' fun e w'' => e = .returned (.int .i64 wm) ∧ Below w'.heap.size w' w'') := fun w' h1 => by rw [← HWM.out]; exact wholeOf_any _ _ _ _ xs w' h1 (fun k hk => by have := HBX.out k hk; omega) hn16
  have HWY : Hid (∀ w', IntsAt w' (some ⟨yb, yo, none⟩) m ys → Calls Tryz.prog 48 #[.agg #[.int .i64 s, .slice (some ⟨yb, yo, none⟩) m d]] w' fun e w'' => e = .returned (.int .i64 wn) ∧ Below w'.heap.size w' w'') := fun w' h1 => by rw [← HWN.out]; exact wholeOf_any _ _ _ _ ys w' h1 (fun k hk => by have := HBY.out k hk; omega) hn16
  clear hxc hyc
  go_enter Tryz.func54, Tryz.ntmps54
  go_wp2
  obtain ⟨V, hV⟩ : ∃ V, w.heap.size + 1 + 1 = V := ⟨_, rfl⟩
  rw [hV]
  obtain ⟨B, hBe⟩ : ∃ B, w.heap.size + 1 = B := ⟨_, rfl⟩
  rw [hBe]
  obtain ⟨W0, hW0⟩ : ∃ W, ((w.alloc (.cells #[.int .i64 s, .slice (some ⟨xb, xo, none⟩) m c] 25)).alloc (.cells #[.int .i64 s, .slice (some ⟨yb, yo, none⟩) m d] 25)).alloc (.cells #[.slice none 0 0, .slice none 0 0, .slice none 0 0, .slice none 0 0] 106) = W := ⟨_, rfl⟩
  rw [hW0]
  have hB0 : Below w.heap.size w W0 := by rw [← hW0]; (repeat (first | exact Below.refl _ _ | assumption | refine Below.alloc ?_ (by first | omega | (simp <;> omega)) _ | refine Below.setCell ?_ (by first | omega | (simp <;> omega)) _ | refine Below.drew ?_ | refine below_drewN ?_))
  have m0 : W0.cell? ⟨w.heap.size, 0, none⟩ = some (.int .i64 s) := by rw [← hW0]; simp
  have m1 : W0.cell? ⟨w.heap.size, 1, none⟩ = some (.slice (some ⟨xb, xo, none⟩) m c) := by rw [← hW0]; simp
  have n0 : W0.cell? ⟨B, 0, none⟩ = some (.int .i64 s) := by rw [← hW0, ← hBe]; simp
  have n1 : W0.cell? ⟨B, 1, none⟩ = some (.slice (some ⟨yb, yo, none⟩) m d) := by rw [← hW0, ← hBe]; simp
  have hz0 : W0.heap.size = V + 1 := by rw [← hW0, ← hV]; simp
  have hBL0 : Bl W0 V V m (fun _ => .slice none 0 0) (fun _ => []) (fun _ => 0) := by
    refine ⟨⟨Nat.le_refl _, by omega⟩, fun i hi => ?_, fun i hi => World.ownsRow_nil _ _ _ _, rfl, fun i hi g hg => by simp [Value.ownBlock] at hg, fun i hi b u hu => by simp at hu⟩
    have h4 := four_new ((w.alloc (.cells #[.int .i64 s, .slice (some ⟨xb, xo, none⟩) m c] 25)).alloc (.cells #[.int .i64 s, .slice (some ⟨yb, yo, none⟩) m d] 25)) (.slice none 0 0) 106 i hi
    rw [hW0, show ((w.alloc (.cells #[.int .i64 s, .slice (some ⟨xb, xo, none⟩) m c] 25)).alloc (.cells #[.int .i64 s, .slice (some ⟨yb, yo, none⟩) m d] 25)).heap.size = V by rw [← hV]; simp] at h4
    exact h4
  have HB0 := hid hB0
  have hAV : w.heap.size < V := by omega
  have hBV : B < V := by omega
  clear hW0 hBe hV hB0
  go_loopw [8, 16] (fun _ i wr => Below V W0 wr ∧ ∃ (k : Nat) (v : Nat → Value) (l : Nat → List Value) (tag : Nat → Nat), k ≤ m ∧ i = .int .i64 k ∧ Bl wr V V m v l tag ∧ Hid (∀ i, i < 4 → L4 xs ys k i (l i))) (fun _ i _ => m - (intOf i).toNat)
  case atStart => exact ⟨Below.refl _ _, 0, _, _, _, by omega, rfl, hBL0, fun i _ => ⟨rfl, fun _ => rfl, fun _ => rfl⟩⟩
  case round =>
    clear hBL0
    obtain ⟨hBr, k, v, l, tag, hk, rfl, hbl, HL⟩ := hrel
    have hzr := hBr.size
    by_cases hlt : k < m
    · have hk0 : (0 : Int) ≤ (k : Int) := by omega
      have hk1 : (k : Int) < (m : Int) := by omega
      have hBw : Below w.heap.size w wr := HB0.out.trans (hBr.mono (by omega))
      have hbl0 := hbl
      obtain ⟨s0, hs0⟩ : ∃ x, x = v := ⟨_, rfl⟩
      obtain ⟨l0, hl0⟩ : ∃ x, x = l := ⟨_, rfl⟩
      rw [← hs0, ← hl0] at hbl0
      rw [← hl0] at HL
      clear hbl hs0 hl0 v l
      have hBr0 := hBr
      have HLN0 := hid (HL.out 0 (by omega))
      obtain ⟨c0, f0⟩ := hbl0.c 0 (by omega)
      have own0 : wr.ownsRow V 23 1 (s0 0) (l0 0).length (l0 0) := hbl0.own 0 (by omega)
      rw [HLN0.out.1] at own0
      have HAP0 := hid (hbl0.apart (i := 0) (by omega))
      have HBL0 := hid hbl0
      obtain ⟨v0, hv0⟩ : ∃ x, s0 0 = x := ⟨_, rfl⟩
      rw [hv0] at c0 own0 HAP0
      have HV0 := hid hv0
      have HOWN0 := hid own0
      clear own0 hv0 hbl0
      go_wp2
      refine wp_region_joinF (ι := Value × Value × Value) (fun a i => (Act.put (Act.put (Act.put (Act.put (Act.put (Act.put (Act.put (Act.put (Act.put (Act.put (Act.put a (some 19) (.pointer (some ⟨V, 0, none⟩))) (some 20) (.pointer (some ⟨V, 0, none⟩))) (some 21) (.pointer (some ⟨V, 0, none⟩))) (some 22) (.pointer (some ⟨V, 0, none⟩))) (some 23) (v0)) (some 24) (.int .i64 m)) (some 25) (i.1)) (some 26) (i.2.1)) (some 27) (i.2.2)) (some 28) (.pointer (some ⟨V, 0, none⟩))) (some 29) (.pointer (some ⟨V, 0, none⟩)))) (fun _ W => ∃ (vq : Nat → Value) (lq : Nat → List Value) (tagq : Nat → Nat), Bl W V V m vq lq tagq ∧ Below V W0 W ∧ Hid ((lq 0).length = k + 1 ∧ ∀ j, j ≠ 0 → lq j = l0 j)) ?_ ?_
      · obtain ⟨wa, hmk, hra, hba, hza⟩ := run_make_ints wr.drew m (by omega)
        have ka := keep (undrew hba) c0
        have fa := keepF (undrew hba) c0 f0
        have hrz := rowZ_ints hra
        have h9 : wr.heap.size < wa.heap.size := hza
        have hAB : Below wr.heap.size wr (wa.alloc (.cells #[.slice (some ⟨wr.heap.size, 0, none⟩) m m] 23)) := Below.trans (undrew hba) ((below_alloc wa _).mono (Nat.le_of_lt hza))
        have hza2 : (wa.alloc (.cells #[.slice (some ⟨wr.heap.size, 0, none⟩) m m] 23)).heap.size = wa.heap.size + 1 := by simp
        have HAB := hid hAB; have HA2 := hid hza2; have HRZ := hid hrz
        clear hAB hza2 hrz
        go_region_law (refine step_append_lies _ rfl _ _ 42 rfl V 23 i1 (.slice none 0 0) 1 24 Tryz.underlying42 HI1.out HZ1.out.1 HZ1.out.2.1 HZ1.out.2.2 rfl (by decide) v0 k (l0 0) rfl (own_below HOWN0.out (Below.trans (undrew hba) ((below_alloc wa _).mono (Nat.le_of_lt hza)))) ⟨wa.heap.size, 0, none⟩ 1 1 [.slice (some ⟨wr.heap.size, 0, none⟩) m m] rfl rfl (one_at wa _ _) (fun u hu => by simp at hu; subst hu; rfl) (by decide) (by unfold maxLen; omega) (by omega) (by have h9 : wr.heap.size < wa.heap.size := hza; simp; omega) _ rfl ?_; intro g cap wb h1 h2 h3 h4; have kb := keepR h2 (keep (below_alloc wa _) ka) HAP0.out; have fb := keepRF h2 (keep (below_alloc wa _) ka) (keepF (below_alloc wa _) ka fa) HAP0.out)
        all_goals (refine ⟨(.slice (some ⟨wr.heap.size, 0, none⟩) m m, .slice (some ⟨wa.heap.size, 0, none⟩) 1 1, .slice (some ⟨g, 0, none⟩) (k + 1) cap), ?_, ?_⟩)
        all_goals first | (simp [Act.put]; done) | (obtain ⟨tag3, hb3⟩ := HBL0.out.put HAB.out (i := 0) (by omega) (u := .slice (some ⟨wr.heap.size, 0, none⟩) m m) (g := g) (cap := cap) (w2 := wb) (by rw [HLN0.out.1]; exact h1) (by rw [HV0.out]; exact h2) (by rw [HV0.out]; exact h3) (fun _ => ⟨wr.heap.size, rfl, Nat.le_refl _, (by rw [HA2.out]; omega), RowZ.same HRZ.out ((below_alloc wa _).block _ hza)⟩); rw [HLN0.out.1] at hb3; have hown := HOWN0.out; have hBb : Below V W0 wb := below_grownBy (hBr0.trans (HAB.out.mono (by omega))) (by rw [HA2.out]; omega) h2 (fun b e => (World.ownsRow.lt hown b e).1); exact ⟨_, _, _, hb3, Below.setCell hBb (show V ≤ V from Nat.le_refl _) _, ⟨by rw [updV_same, List.length_append, HLN0.out.1]; rfl, fun j hj => updV_other hj⟩⟩)
      · rintro _ W1 ⟨s1, l1, tag1, hbl1, hBr1, HL1⟩
        have hzr1 := hBr1.size
        have HLN1 : Hid (L4 xs ys k 1 (l1 1)) := by rw [HL1.out.2 1 (by omega)]; exact HL.out 1 (by omega)
        clear c0 f0
        obtain ⟨c1, f1⟩ := hbl1.c 1 (by omega)
        have own1 : W1.ownsRow V 107 1 (s1 1) (l1 1).length (l1 1) := hbl1.own 1 (by omega)
        rw [HLN1.out.1] at own1
        have HAP1 := hid (hbl1.apart (i := 1) (by omega))
        have HBL1 := hid hbl1
        obtain ⟨v1, hv1⟩ : ∃ x, s1 1 = x := ⟨_, rfl⟩
        rw [hv1] at c1 own1 HAP1
        have HV1 := hid hv1
        have HOWN1 := hid own1
        clear own1 hv1 hbl1
        go_wp2
        refine wp_region_joinF (ι := Value × Value × Value) (fun a i => (Act.put (Act.put (Act.put (Act.put (Act.put (Act.put (Act.put (Act.put (Act.put (Act.put (Act.put a (some 30) (.pointer (some ⟨V, 0, none⟩))) (some 31) (.pointer (some ⟨V, 0, none⟩))) (some 32) (.pointer (some ⟨V, 0, none⟩))) (some 33) (.pointer (some ⟨V, 1, none⟩))) (some 34) (v1)) (some 35) (.int .i64 m)) (some 36) (i.1)) (some 37) (i.2.1)) (some 38) (i.2.2)) (some 39) (.pointer (some ⟨V, 0, none⟩))) (some 40) (.pointer (some ⟨V, 1, none⟩)))) (fun _ W => ∃ (vq : Nat → Value) (lq : Nat → List Value) (tagq : Nat → Nat), Bl W V V m vq lq tagq ∧ Below V W0 W ∧ Hid ((lq 1).length = k + 1 ∧ ∀ j, j ≠ 1 → lq j = l1 j)) ?_ ?_
        · obtain ⟨wa, hmk, hra, hba, hza⟩ := run_make_bools W1.drew m (by omega)
          have ka := keep (undrew hba) c1
          have fa := keepF (undrew hba) c1 f1
          have hrz := hra
          have h9 : W1.heap.size < wa.heap.size := hza
          have hAB : Below W1.heap.size W1 (wa.alloc (.cells #[.slice (some ⟨W1.heap.size, 0, none⟩) m m] 107)) := Below.trans (undrew hba) ((below_alloc wa _).mono (Nat.le_of_lt hza))
          have hza2 : (wa.alloc (.cells #[.slice (some ⟨W1.heap.size, 0, none⟩) m m] 107)).heap.size = wa.heap.size + 1 := by simp
          have HAB := hid hAB; have HA2 := hid hza2; have HRZ := hid hrz
          clear hAB hza2 hrz
          go_region_law (refine step_append_lies _ rfl _ _ 104 rfl V 107 i2 (.slice none 0 0) 1 24 Tryz.underlying104 HI2.out HZ2.out.1 HZ2.out.2.1 HZ2.out.2.2 rfl (by decide) v1 k (l1 1) rfl (own_below HOWN1.out (Below.trans (undrew hba) ((below_alloc wa _).mono (Nat.le_of_lt hza)))) ⟨wa.heap.size, 0, none⟩ 1 1 [.slice (some ⟨W1.heap.size, 0, none⟩) m m] rfl rfl (one_at wa _ _) (fun u hu => by simp at hu; subst hu; rfl) (by decide) (by unfold maxLen; omega) (by omega) (by have h9 : W1.heap.size < wa.heap.size := hza; simp; omega) _ rfl ?_; intro g cap wb h1 h2 h3 h4; have kb := keepR h2 (keep (below_alloc wa _) ka) HAP1.out; have fb := keepRF h2 (keep (below_alloc wa _) ka) (keepF (below_alloc wa _) ka fa) HAP1.out)
          all_goals (refine ⟨(.slice (some ⟨W1.heap.size, 0, none⟩) m m, .slice (some ⟨wa.heap.size, 0, none⟩) 1 1, .slice (some ⟨g, 0, none⟩) (k + 1) cap), ?_, ?_⟩)
          all_goals first | (simp [Act.put]; done) | (obtain ⟨tag3, hb3⟩ := HBL1.out.put HAB.out (i := 1) (by omega) (u := .slice (some ⟨W1.heap.size, 0, none⟩) m m) (g := g) (cap := cap) (w2 := wb) (by rw [HLN1.out.1]; exact h1) (by rw [HV1.out]; exact h2) (by rw [HV1.out]; exact h3) (fun _ => ⟨W1.heap.size, rfl, Nat.le_refl _, (by rw [HA2.out]; omega), RowZ.same HRZ.out ((below_alloc wa _).block _ hza)⟩); rw [HLN1.out.1] at hb3; have hown := HOWN1.out; have hBb : Below V W0 wb := below_grownBy (hBr1.trans (HAB.out.mono (by omega))) (by rw [HA2.out]; omega) h2 (fun b e => (World.ownsRow.lt hown b e).1); exact ⟨_, _, _, hb3, Below.setCell hBb (show V ≤ V from Nat.le_refl _) _, ⟨by rw [updV_same, List.length_append, HLN1.out.1]; rfl, fun j hj => updV_other hj⟩⟩)
        · rintro _ W2 ⟨s2, l2, tag2, hbl2, hBr2, HL2⟩
          have hzr2 := hBr2.size
          have HLN2 : Hid (L4 xs ys k 2 (l2 2)) := by rw [HL2.out.2 2 (by omega), HL1.out.2 2 (by omega)]; exact HL.out 2 (by omega)
          clear c1 f1
          obtain ⟨c2, f2⟩ := hbl2.c 2 (by omega)
          have own2 : W2.ownsRow V 3 1 (s2 2) (l2 2).length (l2 2) := hbl2.own 2 (by omega)
          rw [HLN2.out.1] at own2
          have HAP2 := hid (hbl2.apart (i := 2) (by omega))
          have HBL2 := hid hbl2
          obtain ⟨v2, hv2⟩ : ∃ x, s2 2 = x := ⟨_, rfl⟩
          rw [hv2] at c2 own2 HAP2
          have HV2 := hid hv2
          have HOWN2 := hid own2
          have e12 := (hBr2.cell (p := ⟨B, 1, none⟩) (by show B < V; omega)).trans n1
          have e22 := (hBr2.cell (p := ⟨w.heap.size, 0, none⟩) (by show w.heap.size < V; omega)).trans m0
          have e32 := (hBr2.cell (p := ⟨w.heap.size, 1, none⟩) (by show w.heap.size < V; omega)).trans m1
          have hBw2 : Below w.heap.size w W2 := HB0.out.trans (hBr2.mono (by omega))
          have e42 := (hBw2.cell (p := ⟨yb, yo + k, none⟩) hyl).trans (HC2.out k hlt)
          have hb2 := HBY.out k hlt
          obtain ⟨y, he2⟩ : ∃ x, nth ys k = x := ⟨_, rfl⟩
          have HE2 := hid he2
          rw [he2] at e42 hb2
          have hp2 := (prod12 hb2.1 hb2.2 hx1 hx2).2.2
          have hI2 := hx.below hBw2
          clear own2 hv2 hbl2 he2
          go_wp2
          refine wp_region_joinF (ι := Value × Value) (fun a i => (Act.put (Act.put (Act.put (Act.put (Act.put (Act.put (Act.put (Act.put (Act.put (Act.put (Act.put (Act.put (Act.put (Act.put (Act.put (Act.put (Act.put a (some 41) (.pointer (some ⟨V, 0, none⟩))) (some 42) (.pointer (some ⟨V, 0, none⟩))) (some 43) (.pointer (some ⟨V, 0, none⟩))) (some 44) (.pointer (some ⟨V, 2, none⟩))) (some 45) (v2)) (some 46) (.pointer (some ⟨B, 1, none⟩))) (some 47) (.slice (some ⟨yb, yo, none⟩) m d)) (some 48) (.int .i64 (k : Int))) (some 49) (.pointer (some ⟨yb, yo + k, none⟩))) (some 50) (.int .i64 y)) (some 51) (.agg #[.int .i64 s, .slice (some ⟨xb, xo, none⟩) m c])) (some 52) (.int .i64 wm)) (some 53) (.int .i64 (y * wm))) (some 54) (i.1)) (some 55) (i.2)) (some 56) (.pointer (some ⟨V, 0, none⟩))) (some 57) (.pointer (some ⟨V, 2, none⟩)))) (fun _ W => ∃ (vq : Nat → Value) (lq : Nat → List Value) (tagq : Nat → Nat), Bl W V V m vq lq tagq ∧ Below V W0 W ∧ Hid (lq 2 = l2 2 ++ [.int .i64 (y * wm)] ∧ ∀ j, j ≠ 2 → lq j = l2 j)) ?_ ?_
          · refine wp_region_P (fun w' => Below V W2 w') (fun w' => w'.cell? ⟨V, 2, none⟩ = some v2 ∧ w'.frozen? ⟨V, 2, none⟩ = false) 14 (by kernel_rfl) ?_
            change wpAnyP _ _ _ _ _ _ _ _ _ _ (World.drew _)
            have hS : Below V W2 (World.drew W2) := (drew_below W2).mono (by omega)
            have hT : (World.drew W2).cell? ⟨V, 2, none⟩ = some v2 ∧ (World.drew W2).frozen? ⟨V, 2, none⟩ = false := ⟨c2, f2⟩
            refine wpAnyP_takeS (i := 0) (v := ?_) rfl (by kernel_rfl) (by kernel_rfl) (by kernel_rfl) (fun _ _ _ h => h) (by decide) (Or.inl ⟨by rfl, fun w' hS' => ?_⟩) hS (fun _ => hT) ?_
            rotate_left
            · go_simp; first | done | rfl
            simp only [Act.put]
            refine wpAnyP_takeS (i := 1) (v := ?_) rfl (by kernel_rfl) (by kernel_rfl) (by kernel_rfl) (fun _ _ _ h => h) (by decide) (Or.inl ⟨by rfl, fun w' hS' => ?_⟩) hS (fun _ => hT) ?_
            rotate_left
            · go_simp; first | done | rfl
            simp only [Act.put]
            refine wpAnyP_takeS (i := 2) (v := ?_) rfl (by kernel_rfl) (by kernel_rfl) (by kernel_rfl) (fun _ _ _ h => h) (by decide) (Or.inl ⟨by rfl, fun w' hS' => ?_⟩) hS (fun _ => hT) ?_
            rotate_left
            · go_simp; first | done | rfl
            simp only [Act.put]
            refine wpAnyP_takeS (i := 3) (v := ?_) rfl (by kernel_rfl) (by kernel_rfl) (by kernel_rfl) (fun _ _ _ h => h) (by decide) (Or.inl ⟨by rfl, fun w' hS' => ?_⟩) hS (fun _ => hT) ?_
            rotate_left
            · go_simp; first | done | rfl
            simp only [Act.put]
            refine wpAnyP_takeT (i := 4) (v := ?_) rfl (by kernel_rfl) (by kernel_rfl) (by kernel_rfl) (fun _ _ _ h => h) (by decide) (by kernel_rfl) (by kernel_rfl) (Or.inl ⟨by rfl, fun w' hS' => ?_⟩) ⟨hS, hT⟩ ?_
            rotate_left
            · obtain ⟨hS2, hT1, hT2⟩ := hS'; go_simp; first | done | rfl
            simp only [Act.put]
            refine wpAnyP_takeS (i := 5) (v := ?_) rfl (by kernel_rfl) (by kernel_rfl) (by kernel_rfl) (fun _ _ _ h => h) (by decide) (Or.inl ⟨by rfl, fun w' hS' => ?_⟩) hS (fun _ => hT) ?_
            rotate_left
            · go_simp; first | done | rfl
            simp only [Act.put]
            refine wpAnyP_takeS (i := 6) (v := ?_) rfl (by kernel_rfl) (by kernel_rfl) (by kernel_rfl) (fun _ _ _ h => h) (by decide) (Or.inl ⟨by rfl, fun w' hS' => ?_⟩) hS (fun _ => hT) ?_
            rotate_left
            · have q1 := (hS'.cell (p := ⟨B, 1, none⟩) (show B < V by omega)).trans e12; go_simp; first | done | rfl
            simp only [Act.put]
            refine wpAnyP_takeS (i := 7) (v := ?_) rfl (by kernel_rfl) (by kernel_rfl) (by kernel_rfl) (fun _ _ _ h => h) (by decide) (Or.inl ⟨by rfl, fun w' hS' => ?_⟩) hS (fun _ => hT) ?_
            rotate_left
            · go_simp; first | done | rfl
            simp only [Act.put]
            refine wpAnyP_takeS (i := 8) (v := ?_) rfl (by kernel_rfl) (by kernel_rfl) (by kernel_rfl) (fun _ _ _ h => h) (by decide) (Or.inl ⟨by rfl, fun w' hS' => ?_⟩) hS (fun _ => hT) ?_
            rotate_left
            · go_simp; first | done | rfl
            simp only [Act.put]
            have hlte2 : yb < V := Nat.lt_trans hyl hAV
            refine wpAnyP_takeS (i := 9) (v := ?_) rfl (by kernel_rfl) (by kernel_rfl) (by kernel_rfl) (fun _ _ _ h => h) (by decide) (Or.inl ⟨by rfl, fun w' hS' => ?_⟩) hS (fun _ => hT) ?_
            rotate_left
            · have q1 := (hS'.cell (p := ⟨yb, yo + k, none⟩) (show yb < V by omega)).trans e42; go_simp; first | done | rfl
            simp only [Act.put]
            refine wpAnyP_takeS (i := 10) (v := ?_) rfl (by kernel_rfl) (by kernel_rfl) (by kernel_rfl) (fun _ _ _ h => h) (by decide) (Or.inl ⟨by rfl, fun w' hS' => ?_⟩) hS (fun _ => hT) ?_
            rotate_left
            · have q1 := (hS'.cell (p := ⟨w.heap.size, 0, none⟩) (show w.heap.size < V by omega)).trans e22; have q2 := (hS'.cell (p := ⟨w.heap.size, 1, none⟩) (show w.heap.size < V by omega)).trans e32; go_simp; first | done | rfl
            simp only [Act.put]
            refine wpAnyP_step 11 rfl (by kernel_rfl) (by rfl) (fun K hK => ?_)
            go_simp
            refine (HWX.out _ (hI2.below (drew_below _))).mono ?_; rintro e wa ⟨rfl, hba⟩
            have hbu := undrew hba
            have h9 := hbu.size
            have hS1 : Below V W2 wa := hbu.mono (by omega)
            have hT1 : wa.cell? ⟨V, 2, none⟩ = some v2 ∧ wa.frozen? ⟨V, 2, none⟩ = false := ⟨keep hbu c2, keepF hbu c2 f2⟩
            go_simp
            refine hK _ _ hS1 (fun _ => hT1) ?_
            clear hK K hS hT
            have hS := hS1; have hT := hT1
            clear hS1 hT1
            refine wpAnyP_takeS (i := 12) (v := ?_) rfl (by kernel_rfl) (by kernel_rfl) (by kernel_rfl) (fun _ _ _ h => h) (by decide) (Or.inl ⟨by rfl, fun w' hS' => ?_⟩) hS (fun _ => hT) ?_
            rotate_left
            · go_simp; first | done | rfl
            simp only [Act.put]
            refine wpAnyP_step 13 rfl (by kernel_rfl) (by rfl) (fun K hK => ?_)
            go_simp
            have hS1 : Below V W2 (wa.alloc (.cells #[.int .i64 (y * wm)] 3)) := hS.alloc (by omega) _
            have hT1 : (wa.alloc (.cells #[.int .i64 (y * wm)] 3)).cell? ⟨V, 2, none⟩ = some v2 ∧ (wa.alloc (.cells #[.int .i64 (y * wm)] 3)).frozen? ⟨V, 2, none⟩ = false := ⟨keep (below_alloc wa _) hT.1, keepF (below_alloc wa _) hT.1 hT.2⟩
            refine hK _ _ hS1 (fun _ => hT1) ?_
            clear hK K hS hT
            refine wpAnyP_step 14 rfl (by kernel_rfl) (by rfl) (fun K hK => ?_)
            refine wp_append_lies _ _ _ 23 rfl V 3 i3 (.int .i64 0) 1 8 Tryz.underlying23 HI3.out HZ3.out.1 HZ3.out.2.1 HZ3.out.2.2 rfl (by decide) v2 k (l2 2) rfl (own_below HOWN2.out (Below.trans hbu ((below_alloc wa _).mono h9))) ⟨wa.heap.size, 0, none⟩ 1 1 [.int .i64 (y * wm)] rfl rfl (one_at wa _ _) (fun u hu => by simp at hu; subst hu; rfl) (by decide) (by unfold maxLen; omega) (by omega) (by simp; omega) _ rfl (fun g cap wb h1 h2 h3 h4 => ?_)
            have hown := HOWN2.out
            have hS : Below V W2 wb := below_grownBy hS1 (by simp; omega) h2 (fun b e => (World.ownsRow.lt hown b e).1)
            have hT : wb.cell? ⟨V, 2, none⟩ = some v2 ∧ wb.frozen? ⟨V, 2, none⟩ = false := ⟨keepR h2 hT1.1 HAP2.out, keepRF h2 hT1.1 hT1.2 HAP2.out⟩
            refine hK _ _ hS (fun _ => hT) ?_
            clear hK K hS1 hT1
            refine wpAnyP_takeS (i := 15) (v := ?_) rfl (by kernel_rfl) (by kernel_rfl) (by kernel_rfl) (fun _ _ _ h => h) (by decide) (Or.inl ⟨by rfl, fun w' hS' => ?_⟩) hS (fun _ => hT) ?_
            rotate_left
            · go_simp; first | done | rfl
            simp only [Act.put]
            refine wpAnyP_takeS (i := 16) (v := ?_) rfl (by kernel_rfl) (by kernel_rfl) (by kernel_rfl) (fun _ _ _ h => h) (by decide) (Or.inl ⟨by rfl, fun w' hS' => ?_⟩) hS (fun _ => hT) ?_
            rotate_left
            · go_simp; first | done | rfl
            simp only [Act.put]
            have kb := hT.1; have fb := hT.2
            refine wpAnyP_step 17 rfl (by kernel_rfl) (by rfl) (fun K hK => ?_)
            go_simp
            refine hK _ _ (hS.setCell (show V ≤ V from Nat.le_refl _) _) (fun h => absurd h (by decide)) ?_
            clear hK K
            refine wpAnyP_done (by kernel_rfl) ?_ _
            refine ⟨(.slice (some ⟨wa.heap.size, 0, none⟩) 1 1, .slice (some ⟨g, 0, none⟩) (k + 1) cap), ?_, ?_⟩
            · simp [Act.put]
            · have hAB : Below W2.heap.size W2 (wa.alloc (.cells #[.int .i64 (y * wm)] 3)) := Below.trans hbu ((below_alloc wa _).mono h9)
              obtain ⟨tag3, hb3⟩ := HBL2.out.put hAB (i := 2) (by omega) (u := .int .i64 (y * wm)) (g := g) (cap := cap) (w2 := wb) (by rw [HLN2.out.1]; exact h1) (by rw [HV2.out]; exact h2) (by rw [HV2.out]; exact h3) (fun h => absurd h (by omega))
              rw [HLN2.out.1] at hb3
              have hBb : Below V W0 wb := hBr2.trans (hS.mono (Nat.le_refl _))
              exact ⟨_, _, _, hb3, Below.setCell hBb (show V ≤ V from Nat.le_refl _) _, ⟨by rw [updV_same], fun j hj => updV_other hj⟩⟩
          · rintro _ W3 ⟨s3, l3, tag3, hbl3, hBr3, HL3⟩
            have hzr3 := hBr3.size
            have HLN3 : Hid (L4 xs ys k 3 (l3 3)) := by rw [HL3.out.2 3 (by omega), HL2.out.2 3 (by omega), HL1.out.2 3 (by omega)]; exact HL.out 3 (by omega)
            clear c2 f2 e12 e22 e32 e42 hp2
            obtain ⟨c3, f3⟩ := hbl3.c 3 (by omega)
            have own3 : W3.ownsRow V 3 1 (s3 3) (l3 3).length (l3 3) := hbl3.own 3 (by omega)
            rw [HLN3.out.1] at own3
            have HAP3 := hid (hbl3.apart (i := 3) (by omega))
            have HBL3 := hid hbl3
            obtain ⟨v3, hv3⟩ : ∃ x, s3 3 = x := ⟨_, rfl⟩
            rw [hv3] at c3 own3 HAP3
            have HV3 := hid hv3
            have HOWN3 := hid own3
            have e13 := (hBr3.cell (p := ⟨w.heap.size, 1, none⟩) (by show w.heap.size < V; omega)).trans m1
            have e23 := (hBr3.cell (p := ⟨B, 0, none⟩) (by show B < V; omega)).trans n0
            have e33 := (hBr3.cell (p := ⟨B, 1, none⟩) (by show B < V; omega)).trans n1
            have hBw3 : Below w.heap.size w W3 := HB0.out.trans (hBr3.mono (by omega))
            have e43 := (hBw3.cell (p := ⟨xb, xo + k, none⟩) hxl).trans (HC3.out k hlt)
            have hb3 := HBX.out k hlt
            obtain ⟨x, he3⟩ : ∃ x, nth xs k = x := ⟨_, rfl⟩
            have HE3 := hid he3
            rw [he3] at e43 hb3
            have hp3 := (prod12 hb3.1 hb3.2 hy1 hy2).2.2
            have hI3 := hy.below hBw3
            clear own3 hv3 hbl3 he3
            go_wp2
            refine wp_region_joinF (ι := Value × Value) (fun a i => (Act.put (Act.put (Act.put (Act.put (Act.put (Act.put (Act.put (Act.put (Act.put (Act.put (Act.put (Act.put (Act.put (Act.put (Act.put (Act.put (Act.put a (some 58) (.pointer (some ⟨V, 0, none⟩))) (some 59) (.pointer (some ⟨V, 0, none⟩))) (some 60) (.pointer (some ⟨V, 0, none⟩))) (some 61) (.pointer (some ⟨V, 3, none⟩))) (some 62) (v3)) (some 63) (.pointer (some ⟨w.heap.size, 1, none⟩))) (some 64) (.slice (some ⟨xb, xo, none⟩) m c)) (some 65) (.int .i64 (k : Int))) (some 66) (.pointer (some ⟨xb, xo + k, none⟩))) (some 67) (.int .i64 x)) (some 68) (.agg #[.int .i64 s, .slice (some ⟨yb, yo, none⟩) m d])) (some 69) (.int .i64 wn)) (some 70) (.int .i64 (x * wn))) (some 71) (i.1)) (some 72) (i.2)) (some 73) (.pointer (some ⟨V, 0, none⟩))) (some 74) (.pointer (some ⟨V, 3, none⟩)))) (fun _ W => ∃ (vq : Nat → Value) (lq : Nat → List Value) (tagq : Nat → Nat), Bl W V V m vq lq tagq ∧ Below V W0 W ∧ Hid (lq 3 = l3 3 ++ [.int .i64 (x * wn)] ∧ ∀ j, j ≠ 3 → lq j = l3 j)) ?_ ?_
            · refine wp_region_P (fun w' => Below V W3 w') (fun w' => w'.cell? ⟨V, 3, none⟩ = some v3 ∧ w'.frozen? ⟨V, 3, none⟩ = false) 14 (by kernel_rfl) ?_
              change wpAnyP _ _ _ _ _ _ _ _ _ _ (World.drew _)
              have hS : Below V W3 (World.drew W3) := (drew_below W3).mono (by omega)
              have hT : (World.drew W3).cell? ⟨V, 3, none⟩ = some v3 ∧ (World.drew W3).frozen? ⟨V, 3, none⟩ = false := ⟨c3, f3⟩
              refine wpAnyP_takeS (i := 0) (v := ?_) rfl (by kernel_rfl) (by kernel_rfl) (by kernel_rfl) (fun _ _ _ h => h) (by decide) (Or.inl ⟨by rfl, fun w' hS' => ?_⟩) hS (fun _ => hT) ?_
              rotate_left
              · go_simp; first | done | rfl
              simp only [Act.put]
              refine wpAnyP_takeS (i := 1) (v := ?_) rfl (by kernel_rfl) (by kernel_rfl) (by kernel_rfl) (fun _ _ _ h => h) (by decide) (Or.inl ⟨by rfl, fun w' hS' => ?_⟩) hS (fun _ => hT) ?_
              rotate_left
              · go_simp; first | done | rfl
              simp only [Act.put]
              refine wpAnyP_takeS (i := 2) (v := ?_) rfl (by kernel_rfl) (by kernel_rfl) (by kernel_rfl) (fun _ _ _ h => h) (by decide) (Or.inl ⟨by rfl, fun w' hS' => ?_⟩) hS (fun _ => hT) ?_
              rotate_left
              · go_simp; first | done | rfl
              simp only [Act.put]
              refine wpAnyP_takeS (i := 3) (v := ?_) rfl (by kernel_rfl) (by kernel_rfl) (by kernel_rfl) (fun _ _ _ h => h) (by decide) (Or.inl ⟨by rfl, fun w' hS' => ?_⟩) hS (fun _ => hT) ?_
              rotate_left
              · go_simp; first | done | rfl
              simp only [Act.put]
              refine wpAnyP_takeT (i := 4) (v := ?_) rfl (by kernel_rfl) (by kernel_rfl) (by kernel_rfl) (fun _ _ _ h => h) (by decide) (by kernel_rfl) (by kernel_rfl) (Or.inl ⟨by rfl, fun w' hS' => ?_⟩) ⟨hS, hT⟩ ?_
              rotate_left
              · obtain ⟨hS2, hT1, hT2⟩ := hS'; go_simp; first | done | rfl
              simp only [Act.put]
              refine wpAnyP_takeS (i := 5) (v := ?_) rfl (by kernel_rfl) (by kernel_rfl) (by kernel_rfl) (fun _ _ _ h => h) (by decide) (Or.inl ⟨by rfl, fun w' hS' => ?_⟩) hS (fun _ => hT) ?_
              rotate_left
              · go_simp; first | done | rfl
              simp only [Act.put]
              refine wpAnyP_takeS (i := 6) (v := ?_) rfl (by kernel_rfl) (by kernel_rfl) (by kernel_rfl) (fun _ _ _ h => h) (by decide) (Or.inl ⟨by rfl, fun w' hS' => ?_⟩) hS (fun _ => hT) ?_
              rotate_left
              · have q1 := (hS'.cell (p := ⟨w.heap.size, 1, none⟩) (show w.heap.size < V by omega)).trans e13; go_simp; first | done | rfl
              simp only [Act.put]
              refine wpAnyP_takeS (i := 7) (v := ?_) rfl (by kernel_rfl) (by kernel_rfl) (by kernel_rfl) (fun _ _ _ h => h) (by decide) (Or.inl ⟨by rfl, fun w' hS' => ?_⟩) hS (fun _ => hT) ?_
              rotate_left
              · go_simp; first | done | rfl
              simp only [Act.put]
              refine wpAnyP_takeS (i := 8) (v := ?_) rfl (by kernel_rfl) (by kernel_rfl) (by kernel_rfl) (fun _ _ _ h => h) (by decide) (Or.inl ⟨by rfl, fun w' hS' => ?_⟩) hS (fun _ => hT) ?_
              rotate_left
              · go_simp; first | done | rfl
              simp only [Act.put]
              have hlte3 : xb < V := Nat.lt_trans hxl hAV
              refine wpAnyP_takeS (i := 9) (v := ?_) rfl (by kernel_rfl) (by kernel_rfl) (by kernel_rfl) (fun _ _ _ h => h) (by decide) (Or.inl ⟨by rfl, fun w' hS' => ?_⟩) hS (fun _ => hT) ?_
              rotate_left
              · have q1 := (hS'.cell (p := ⟨xb, xo + k, none⟩) (show xb < V by omega)).trans e43; go_simp; first | done | rfl
              simp only [Act.put]
              refine wpAnyP_takeS (i := 10) (v := ?_) rfl (by kernel_rfl) (by kernel_rfl) (by kernel_rfl) (fun _ _ _ h => h) (by decide) (Or.inl ⟨by rfl, fun w' hS' => ?_⟩) hS (fun _ => hT) ?_
              rotate_left
              · have q1 := (hS'.cell (p := ⟨B, 0, none⟩) (show B < V by omega)).trans e23; have q2 := (hS'.cell (p := ⟨B, 1, none⟩) (show B < V by omega)).trans e33; go_simp; first | done | rfl
              simp only [Act.put]
              refine wpAnyP_step 11 rfl (by kernel_rfl) (by rfl) (fun K hK => ?_)
              go_simp
              refine (HWY.out _ (hI3.below (drew_below _))).mono ?_; rintro e wa ⟨rfl, hba⟩
              have hbu := undrew hba
              have h9 := hbu.size
              have hS1 : Below V W3 wa := hbu.mono (by omega)
              have hT1 : wa.cell? ⟨V, 3, none⟩ = some v3 ∧ wa.frozen? ⟨V, 3, none⟩ = false := ⟨keep hbu c3, keepF hbu c3 f3⟩
              go_simp
              refine hK _ _ hS1 (fun _ => hT1) ?_
              clear hK K hS hT
              have hS := hS1; have hT := hT1
              clear hS1 hT1
              refine wpAnyP_takeS (i := 12) (v := ?_) rfl (by kernel_rfl) (by kernel_rfl) (by kernel_rfl) (fun _ _ _ h => h) (by decide) (Or.inl ⟨by rfl, fun w' hS' => ?_⟩) hS (fun _ => hT) ?_
              rotate_left
              · go_simp; first | done | rfl
              simp only [Act.put]
              refine wpAnyP_step 13 rfl (by kernel_rfl) (by rfl) (fun K hK => ?_)
              go_simp
              have hS1 : Below V W3 (wa.alloc (.cells #[.int .i64 (x * wn)] 3)) := hS.alloc (by omega) _
              have hT1 : (wa.alloc (.cells #[.int .i64 (x * wn)] 3)).cell? ⟨V, 3, none⟩ = some v3 ∧ (wa.alloc (.cells #[.int .i64 (x * wn)] 3)).frozen? ⟨V, 3, none⟩ = false := ⟨keep (below_alloc wa _) hT.1, keepF (below_alloc wa _) hT.1 hT.2⟩
              refine hK _ _ hS1 (fun _ => hT1) ?_
              clear hK K hS hT
              refine wpAnyP_step 14 rfl (by kernel_rfl) (by rfl) (fun K hK => ?_)
              refine wp_append_lies _ _ _ 23 rfl V 3 i3 (.int .i64 0) 1 8 Tryz.underlying23 HI3.out HZ3.out.1 HZ3.out.2.1 HZ3.out.2.2 rfl (by decide) v3 k (l3 3) rfl (own_below HOWN3.out (Below.trans hbu ((below_alloc wa _).mono h9))) ⟨wa.heap.size, 0, none⟩ 1 1 [.int .i64 (x * wn)] rfl rfl (one_at wa _ _) (fun u hu => by simp at hu; subst hu; rfl) (by decide) (by unfold maxLen; omega) (by omega) (by simp; omega) _ rfl (fun g cap wb h1 h2 h3 h4 => ?_)
              have hown := HOWN3.out
              have hS : Below V W3 wb := below_grownBy hS1 (by simp; omega) h2 (fun b e => (World.ownsRow.lt hown b e).1)
              have hT : wb.cell? ⟨V, 3, none⟩ = some v3 ∧ wb.frozen? ⟨V, 3, none⟩ = false := ⟨keepR h2 hT1.1 HAP3.out, keepRF h2 hT1.1 hT1.2 HAP3.out⟩
              refine hK _ _ hS (fun _ => hT) ?_
              clear hK K hS1 hT1
              refine wpAnyP_takeS (i := 15) (v := ?_) rfl (by kernel_rfl) (by kernel_rfl) (by kernel_rfl) (fun _ _ _ h => h) (by decide) (Or.inl ⟨by rfl, fun w' hS' => ?_⟩) hS (fun _ => hT) ?_
              rotate_left
              · go_simp; first | done | rfl
              simp only [Act.put]
              refine wpAnyP_takeS (i := 16) (v := ?_) rfl (by kernel_rfl) (by kernel_rfl) (by kernel_rfl) (fun _ _ _ h => h) (by decide) (Or.inl ⟨by rfl, fun w' hS' => ?_⟩) hS (fun _ => hT) ?_
              rotate_left
              · go_simp; first | done | rfl
              simp only [Act.put]
              have kb := hT.1; have fb := hT.2
              refine wpAnyP_step 17 rfl (by kernel_rfl) (by rfl) (fun K hK => ?_)
              go_simp
              refine hK _ _ (hS.setCell (show V ≤ V from Nat.le_refl _) _) (fun h => absurd h (by decide)) ?_
              clear hK K
              refine wpAnyP_done (by kernel_rfl) ?_ _
              refine ⟨(.slice (some ⟨wa.heap.size, 0, none⟩) 1 1, .slice (some ⟨g, 0, none⟩) (k + 1) cap), ?_, ?_⟩
              · simp [Act.put]
              · have hAB : Below W3.heap.size W3 (wa.alloc (.cells #[.int .i64 (x * wn)] 3)) := Below.trans hbu ((below_alloc wa _).mono h9)
                obtain ⟨tag3, hb3⟩ := HBL3.out.put hAB (i := 3) (by omega) (u := .int .i64 (x * wn)) (g := g) (cap := cap) (w2 := wb) (by rw [HLN3.out.1]; exact h1) (by rw [HV3.out]; exact h2) (by rw [HV3.out]; exact h3) (fun h => absurd h (by omega))
                rw [HLN3.out.1] at hb3
                have hBb : Below V W0 wb := hBr3.trans (hS.mono (Nat.le_refl _))
                exact ⟨_, _, _, hb3, Below.setCell hBb (show V ≤ V from Nat.le_refl _) _, ⟨by rw [updV_same], fun j hj => updV_other hj⟩⟩
            · rintro _ W4 ⟨s4, l4, tag4, hbl4, hBr4, HL4⟩
              have HLE : Hid (∀ i, i < 4 → L4 xs ys (k + 1) i (l4 i)) := by
                intro i hi
                rcases (by omega : i = 0 ∨ i = 1 ∨ i = 2 ∨ i = 3) with rfl | rfl | rfl | rfl
                · exact ⟨by rw [HL4.out.2 0 (by omega), HL3.out.2 0 (by omega), HL2.out.2 0 (by omega)]; exact HL1.out.1, fun h => by omega, fun h => by omega⟩
                · exact ⟨by rw [HL4.out.2 1 (by omega), HL3.out.2 1 (by omega)]; exact HL2.out.1, fun h => by omega, fun h => by omega⟩
                · refine ⟨by rw [HL4.out.2 2 (by omega), HL3.out.1, List.length_append, HLN2.out.1]; rfl, fun _ => ?_, fun h => by omega⟩
                  rw [HL4.out.2 2 (by omega), HL3.out.1, HLN2.out.2.1 rfl, range_snoc, HE2.out, HWM.out]
                · refine ⟨by rw [HL4.out.1, List.length_append, HLN3.out.1]; rfl, fun h => by omega, fun _ => ?_⟩
                  rw [HL4.out.1, HLN3.out.2.2 rfl, range_snoc, HE3.out, HWN.out]
              clear c3 f3 e13 e23 e33 e43 hp3
              go_wp2
              go_roundw
              case rel => first | exact ⟨hBr4, k + 1, s4, l4, tag4, by omega, by go_num, hbl4, HLE⟩ | exact ⟨_, ⟨hBr4, k + 1, s4, l4, tag4, by omega, by go_num, hbl4, HLE⟩, rfl⟩ | exact ⟨_, _, ⟨hBr4, k + 1, s4, l4, tag4, by omega, by go_num, hbl4, HLE⟩, rfl, rfl⟩ | exact ⟨_, _, _, ⟨hBr4, k + 1, s4, l4, tag4, by omega, by go_num, hbl4, HLE⟩, rfl, rfl, rfl⟩ | exact ⟨_, _, _, _, ⟨hBr4, k + 1, s4, l4, tag4, by omega, by go_num, hbl4, HLE⟩, rfl, rfl, rfl, rfl⟩ | exact ⟨_, _, _, _, _, ⟨hBr4, k + 1, s4, l4, tag4, by omega, by go_num, hbl4, HLE⟩, rfl, rfl, rfl, rfl, rfl⟩
              case measure => simp [intOf]; omega
    · have hke : k = m := by omega
      have hLL : ∀ i, i < 4 → (l i).length = m := fun i hi => by rw [(HL.out i hi).1, hke]
      obtain ⟨sv, hsV, hsN, hgood, hMv⟩ := hbl.done hn0 hn16 hLL (Lf := fun b => nth ys b * isum xs) (Df := fun b => nth xs b * isum ys) (by rw [(HL.out 2 (by omega)).2.1 rfl, hke]) (by rw [(HL.out 3 (by omega)).2.2 rfl, hke])
      have HIF := hid (hall_iff subN m xs ys (isum xs) (isum ys))
      have HF0 : Hid (Flow subN m (fun b => nth ys b * isum xs) (fun b => nth xs b * isum ys) (fun _ _ => 0) (fun b => nth ys b * isum xs) (fun b => nth xs b * isum ys)) := by
        refine ⟨fun _ _ _ _ => Int.le_refl _, fun _ _ _ _ h => absurd rfl h, fun b hb => by rw [sumI_zero fun _ _ => rfl]; omega, fun a ha => by rw [sumI_zero fun _ _ => rfl]; omega, fun b hb => ?_, fun a ha => ?_⟩
        · have h := HBY.out b hb; rw [HWM.out]; exact (prod12 h.1 h.2 hx1 hx2).1
        · have h := HBX.out a ha; rw [HWN.out]; exact (prod12 h.1 h.2 hy1 hy2).1
      have HLB : Hid (∀ b, b < m → nth ys b * isum xs ≤ 1000000000000) := fun b hb => by have h := HBY.out b hb; rw [HWM.out]; exact (prod12 h.1 h.2 hx1 hx2).2.1
      have HDB : Hid (∀ b, b < m → nth xs b * isum ys ≤ 1000000000000) := fun b hb => by have h := HBX.out b hb; rw [HWN.out]; exact (prod12 h.1 h.2 hy1 hy2).2.1
      have HB1 : Hid (Below w.heap.size w wr) := HB0.out.trans (hBr.mono (by omega))
      have hzw := HB1.out.size
      obtain ⟨u1, rfl⟩ : ∃ u : World, u = wr := ⟨_, rfl⟩
      have hkm : ¬ (k : Int) < (m : Int) := by omega
      generalize hLf : (fun b => nth ys b * isum xs) = Lf at *
      generalize hDf : (fun b => nth xs b * isum ys) = Df at *
      have HLB2 : Hid (∀ b, b < m → Lf b ≤ 1000000000000) := by rw [← hLf]; exact HLB.out
      have HDB2 : Hid (∀ b, b < m → Df b ≤ 1000000000000) := by rw [← hDf]; exact HDB.out
      have HG := hid hgood
      have HMV := hid hMv
      have HSV := hid hsV
      have HSN := hid hsN
      clear hke hLL hbl HL hLf hDf hgood hMv hsV hsN m0 m1 n0 n1 hBr
      go_wp2
      go_loopw [9, 77] (fun _ i wr => Span V u1.heap.size u1 wr ∧ ∃ (b : Nat) (fl : Nat → Nat → Int) (lf du : Nat → Int), b ≤ m ∧ i = .int .i64 b ∧ Mv sv wr fl lf du ∧ Hid (Flow subN m Lf Df fl lf du ∧ ∀ k, k < b → lf k = 0)) (fun _ i _ => m - (intOf i).toNat)
      case atStart => exact ⟨Span.refl _ _ _, 0, _, _, _, by omega, rfl, HMV.out, HF0.out, fun k hk => by omega⟩
      case round =>
        obtain ⟨hs, b, fl, lf, du, hb, rfl, hm, HFL⟩ := hrel
        have hzs := hs.size
        by_cases hlt : b < m
        · have hb0 : (0 : Int) ≤ (b : Int) := by omega
          have hb1 : (b : Int) < (m : Int) := by omega
          have HS0 := hid hs
          have HM0 := hid hm
          have HFL0 := hid HFL
          clear hs hm HFL
          obtain ⟨u2, rfl⟩ : ∃ u : World, u = wr := ⟨_, rfl⟩
          go_wp2
          go_loopw [] (fun wr => Span V u1.heap.size u1 wr ∧ ∃ (fl : Nat → Nat → Int) (lf du : Nat → Int), Mv sv wr fl lf du ∧ Hid (Flow subN m Lf Df fl lf du ∧ ∀ k, k < b → lf k = 0)) (fun wr => (numO (wr.cell? ⟨sv.L, b, none⟩)).toNat)
          case atStart => exact ⟨HS0.out, fl, lf, du, HM0.out, HFL0.out⟩
          case round =>
            clear HS0 HM0 HFL0
            obtain ⟨hs, fl, lf, du, hm, HFL⟩ := hrel
            have hzs := hs.size
            have hbN : b < sv.N := by rw [HSN.out]; exact hlt
            have c2 := hm.v2
            rw [HSV.out, HSN.out] at c2
            have cl := (hm.l b hbN).1
            have HCL := hid cl
            have hx0 := HFL.out.1.lf0 b hlt
            obtain ⟨x, hx⟩ : ∃ x, lf b = x := ⟨_, rfl⟩
            have HX := hid hx
            rw [hx] at cl hx0
            have HM := hid hm
            have HS := hid hs
            clear hx hm hs
            by_cases hxp : 0 < x
            · have hsend := send_any sv V u1.heap.size b Lf Df wr fl lf du HM.out HG.out hzs (by rw [HSN.out]; exact HFL.out.1) (by rw [HSN.out]; exact HLB2.out) (by rw [HSN.out]; exact HDB2.out) hbN (by rw [HX.out]; exact hxp)
              rw [HSV.out] at hsend
              have HSEND := hid hsend
              clear hsend
              go_wp2_with fail
              refine HSEND.out.mono ?_; rintro e u3 ⟨⟨r, rfl, hr1, hr2⟩, hs3⟩
              have hst := Span.trans HS.out hs3
              cases r with
              | false =>
                have hno := hr2 rfl
                rw [HSN.out] at hno
                clear hr1 hr2
                go_wp2
                refine bodyPost_ret (v := .tuple #[.pointer none, .bool false]) (by simp [results, Tryz.results54, go_sem]) rfl ⟨?_, Span.below HB1.out hzw hst (by omega)⟩
                first | exact ⟨_, Or.inl ⟨rfl, fun h => hno (HIF.out.2 h)⟩⟩ | exact ⟨_, _, rfl, (fun h => by cases h), fun h => absurd (HIF.out.2 h) hno⟩
              | true =>
                obtain ⟨fl2, lf2, du2, hm2, hF2, hl2, hk2⟩ := hr1 rfl
                rw [HSN.out] at hF2
                have cl2 := (hm2.l b hbN).1
                have hn2 := hF2.lf0 b hlt
                have HF2 : Hid (Flow subN m Lf Df fl2 lf2 du2 ∧ ∀ k, k < b → lf2 k = 0) := ⟨hF2, fun k hk => by rw [hk2 k (by omega)]; exact HFL.out.2 k hk⟩
                have hmm : (numO (u3.cell? ⟨sv.L, b, none⟩)).toNat < (numO (wr.cell? ⟨sv.L, b, none⟩)).toNat := by
                  rw [cl2, HCL.out]; show (lf2 b).toNat < (lf b).toNat; omega
                have HMM := hid hmm
                clear hr1 hr2 hk2 hl2 cl2 hmm
                go_wp2
                go_roundw
                case rel => first | exact ⟨hst, fl2, lf2, du2, hm2, HF2⟩ | exact ⟨_, ⟨hst, fl2, lf2, du2, hm2, HF2⟩, rfl⟩ | exact ⟨_, _, ⟨hst, fl2, lf2, du2, hm2, HF2⟩, rfl, rfl⟩ | exact ⟨_, _, _, ⟨hst, fl2, lf2, du2, hm2, HF2⟩, rfl, rfl, rfl⟩ | exact ⟨_, _, _, _, ⟨hst, fl2, lf2, du2, hm2, HF2⟩, rfl, rfl, rfl, rfl⟩ | exact ⟨_, _, _, _, _, ⟨hst, fl2, lf2, du2, hm2, HF2⟩, rfl, rfl, rfl, rfl, rfl⟩
                case measure => exact HMM.out
            · have HF2 : Hid (Flow subN m Lf Df fl lf du ∧ ∀ k, k < b + 1 → lf k = 0) := ⟨HFL.out.1, fun k hk => by
                by_cases e : k = b
                · rw [e, HX.out]; omega
                · exact HFL.out.2 k (by omega)⟩
              go_wp2
              go_roundw
              case rel => first | exact ⟨HS.out, b + 1, fl, lf, du, by omega, by go_num, HM.out, HF2⟩ | exact ⟨_, ⟨HS.out, b + 1, fl, lf, du, by omega, by go_num, HM.out, HF2⟩, rfl⟩ | exact ⟨_, _, ⟨HS.out, b + 1, fl, lf, du, by omega, by go_num, HM.out, HF2⟩, rfl, rfl⟩ | exact ⟨_, _, _, ⟨HS.out, b + 1, fl, lf, du, by omega, by go_num, HM.out, HF2⟩, rfl, rfl, rfl⟩ | exact ⟨_, _, _, _, ⟨HS.out, b + 1, fl, lf, du, by omega, by go_num, HM.out, HF2⟩, rfl, rfl, rfl, rfl⟩ | exact ⟨_, _, _, _, _, ⟨HS.out, b + 1, fl, lf, du, by omega, by go_num, HM.out, HF2⟩, rfl, rfl, rfl, rfl, rfl⟩
              case measure => simp [intOf]; omega
        · have hbm : b = m := by omega
          have HHL : Hid (Hall subN m Lf Df) := hall_of_flow HFL.out.1 (fun k hk => HFL.out.2 k (by omega))
          have hbm2 : ¬ (b : Int) < (m : Int) := by omega
          clear hbm HFL
          go_wp2
          refine bodyPost_ret (v := .tuple #[.pointer (some ⟨V, 0, none⟩), .bool true]) (by simp [results, Tryz.results54, go_sem]) rfl ⟨?_, Span.below HB1.out hzw hs (by omega)⟩
          first | exact ⟨_, Or.inr ⟨rfl, HIF.out.1 HHL.out⟩⟩ | exact ⟨_, _, rfl, (fun _ => HIF.out.1 HHL.out), fun _ => rfl⟩
set_option maxHeartbeats 400000 in
theorem IsSpecialized_any (s u : Int) (ao bo : Option Addr) (n c m d : Nat) (xs ys : List Int) (w : World) (hx : IntsAt w ao n xs) (hy : IntsAt w bo m ys) :
    Calls Tryz.prog 18 #[.agg #[.int .i64 s, .slice ao n c], .agg #[.int .i64 u, .slice bo m d]] w
      fun e w' => (∃ r : Bool, e = .returned (.bool r) ∧ (r = true ↔ oneQ s xs u ys = true ∧ HallD subN n xs ys (isum xs) (isum ys))) ∧ Below w.heap.size w w' := by
  cases ho : oneQ s xs u ys with
  | false =>
    go_enter Tryz.func18, Tryz.ntmps18
    go_wp2_with fail
    refine (ofOneQuestion_any s u _ _ _ _ _ _ xs ys _ (hx.below (by (repeat (first | exact Below.refl _ _ | assumption | refine Below.alloc ?_ (by first | omega | (simp <;> omega)) _ | refine Below.setCell ?_ (by first | omega | (simp <;> omega)) _ | refine Below.drew ?_ | refine below_drewN ?_)))) (hy.below (by (repeat (first | exact Below.refl _ _ | assumption | refine Below.alloc ?_ (by first | omega | (simp <;> omega)) _ | refine Below.setCell ?_ (by first | omega | (simp <;> omega)) _ | refine Below.drew ?_ | refine below_drewN ?_))))).mono ?_; rw [ho]; rintro e w1 ⟨rfl, hb⟩
    go_wp2
    go_ret
    exact ⟨⟨false, rfl, by simp⟩, Below.trans (by (repeat (first | exact Below.refl _ _ | assumption | refine Below.alloc ?_ (by first | omega | (simp <;> omega)) _ | refine Below.setCell ?_ (by first | omega | (simp <;> omega)) _ | refine Below.drew ?_ | refine below_drewN ?_))) (hb.mono (by simp <;> omega))⟩
  | true =>
    have HO := hid ho
    go_enter Tryz.func18, Tryz.ntmps18
    go_wp2_with fail
    refine (ofOneQuestion_any s u _ _ _ _ _ _ xs ys _ (hx.below (by (repeat (first | exact Below.refl _ _ | assumption | refine Below.alloc ?_ (by first | omega | (simp <;> omega)) _ | refine Below.setCell ?_ (by first | omega | (simp <;> omega)) _ | refine Below.drew ?_ | refine below_drewN ?_)))) (hy.below (by (repeat (first | exact Below.refl _ _ | assumption | refine Below.alloc ?_ (by first | omega | (simp <;> omega)) _ | refine Below.setCell ?_ (by first | omega | (simp <;> omega)) _ | refine Below.drew ?_ | refine below_drewN ?_))))).mono ?_; rw [HO.out]; rintro e w1 ⟨rfl, hb⟩
    have m0 := keep hb (a := ⟨w.heap.size, 0, none⟩) (v := .int .i64 s) (by simp)
    have m1 := keep hb (a := ⟨w.heap.size, 1, none⟩) (v := .slice ao n c) (by simp)
    have n0 := keep hb (a := ⟨w.heap.size + 1, 0, none⟩) (v := .int .i64 u) (by simp)
    have n1 := keep hb (a := ⟨w.heap.size + 1, 1, none⟩) (v := .slice bo m d) (by simp)
    have hB1 : Below w.heap.size w w1 := Below.trans (by (repeat (first | exact Below.refl _ _ | assumption | refine Below.alloc ?_ (by first | omega | (simp <;> omega)) _ | refine Below.setCell ?_ (by first | omega | (simp <;> omega)) _ | refine Below.drew ?_ | refine below_drewN ?_))) (hb.mono (by simp <;> omega))
    obtain ⟨k1, k2, k3⟩ : massOk s xs = true ∧ massOk u ys = true ∧ s = u := by
      have h := HO.out; unfold oneQ at h; simpa using h
    subst k3
    clear hb ho
    have hz1 := hB1.size
    go_wp2_with fail
    refine (newMoves_any s _ _ _ _ _ _ xs ys _ (hx.below hB1) (hy.below hB1) k1 k2).mono ?_; rintro e w2 ⟨⟨p, r, rfl, hr⟩, hb2⟩
    go_wp2
    go_ret
    exact ⟨⟨r, rfl, by rw [hr]; exact ⟨fun h => ⟨by first | exact trivial | rfl, h⟩, fun h => h.2⟩⟩, chain hB1 hb2⟩
theorem IsSpecialized_is (s u : Int) (ao bo : Option Addr) (n c m d : Nat) (xs ys : List Int) (b : Bool) (w : World) (hx : IntsAt w ao n xs) (hy : IntsAt w bo m ys) (h : b = true ↔ oneQ s xs u ys = true ∧ HallD subN n xs ys (isum xs) (isum ys)) :
    Calls Tryz.prog 18 #[.agg #[.int .i64 s, .slice ao n c], .agg #[.int .i64 u, .slice bo m d]] w fun e w' => e = .returned (.bool b) ∧ Below w.heap.size w w' :=
  (IsSpecialized_any s u ao bo n c m d xs ys w hx hy).mono fun e w' ⟨⟨r, he, hr⟩, hb⟩ => by
    obtain rfl : r = b := by rw [Bool.eq_iff_iff, hr, h]
    exact ⟨he, hb⟩
end Go.Proofs.YtefmlbahmakboaaGreatDoor
