/- The law that the program's RuleMass is the reference's: its walk. -/
import Derived.Test.YtnmibnaejaeiiaaW4
set_option linter.unusedSimpArgs false
set_option linter.unusedVariables false
namespace Go.Proofs.Ytnmibnaejaeiiaa
open Go.RowKit
theorem keepO {w1 w2 : World} {b o : Nat} {v : Value} {row : Option Nat} (hg : w1.grownBy w2 row) (h : w1.cell? ⟨b, o, none⟩ = some v) (hne : some b ≠ row) : w2.cell? ⟨b, o, none⟩ = some v := hg.cell h hne
theorem parts_le (r : MR) (h : r.parts.length ≤ 16) : r.parts.length ≤ 100000000 := by omega
theorem mkMass_len (s : Int) (xs : List Int) : (mkMass s xs).parts.length ≤ xs.length := by
  unfold mkMass; split
  · simp [MR.no]
  · split <;> simp [MR.no]
theorem simpleM_len (s a num den : Int) (hs : okSize s = true) : (simpleM s a num den).parts.length ≤ 16 := by
  unfold simpleM; split
  · have := mkMass_len s (simpleParts (nsets s) a.toNat num den); rw [simpleParts_len] at this; have := (nsets_le hs).2; omega
  · simp [MR.no]
theorem ruleM_len (x y num den : Int) : (ruleM x y num den).parts.length ≤ 16 := by
  unfold ruleM; split
  · exact simpleM_len _ _ _ _ rfl
  · simp [MR.no]
set_option maxHeartbeats 2000000 in
theorem FnExactRuleMass_walk (x y num den : Int) (w : World) :
    Calls Try.prog 4 #[.int .i64 x, .int .i64 y, .agg #[.int .i64 num, .int .i64 den]] w fun e w' => e = .returned (.bool true) ∧ Below w.heap.size w w' := by
  have hlen := parts_le _ (ruleM_len x y num den)
  go_enter Try.func4, Try.ntmps4
  go_wp2_with fail
  refine (toFraction_any _ _ _).mono ?_; rintro e w1 ⟨rfl, hb1⟩
  obtain ⟨hp0, hp1, hB1⟩ := box2 hb1
  clear hb1
  go_wp2_with fail
  refine (specRuleMass_any _ _ _ _ _).mono ?_; rintro e w2 ⟨⟨v0, rfl, hr0⟩, hb2⟩
  obtain ⟨ao0, n0, c0, rfl, hi0⟩ := hr0.ints
  obtain rfl := hi0.len
  replace hp0 := keep hb2 hp0
  replace hp1 := keep hb2 hp1
  have hB2 := chain hB1 hb2
  clear hb2
  go_wp2_with fail
  refine (toFraction_any _ _ _).mono ?_; rintro e w3 ⟨rfl, hb3⟩
  obtain ⟨hq0, hq1, hb3'⟩ := box2 hb3
  have hp0' := hp0
  replace hp0 := keep hb3' hp0
  replace hp1 := keep hb3' hp1
  have hB3 := chain hB2 hb3'
  have hj0 := hi0.below hb3'
  have hv0 := fun b (e : (Value.slice ao0 (ruleM x y num den).parts.length c0).ownBlock = some b) => (hr0.block b e).2
  clear hb3 hb3' hi0 hr0
  go_wp2_with fail
  refine (RuleMass_any _ _ _ _ _).mono ?_; rintro e w4 ⟨⟨v1, rfl, hr1⟩, hb4⟩
  obtain ⟨ao1, n1, c1, rfl, hi1⟩ := hr1.ints
  obtain rfl := hi1.len
  have hz2 : w.heap.size < w2.heap.size := by have := World.block_lt_of_cell? w2 _ hp0'; exact this
  have hz3 : w2.heap.size < w3.heap.size := by have := World.block_lt_of_cell? w3 _ hq0; exact this
  replace hp0 := keep hb4 hp0
  replace hp1 := keep hb4 hp1
  replace hq0 := keep hb4 hq0
  replace hq1 := keep hb4 hq1
  have hne : ∀ b, b < w3.heap.size ∨ w4.heap.size ≤ b → some b ≠ (Value.slice ao1 (ruleM x y num den).parts.length c1).ownBlock := fun b hb e => by have := hr1.block b e.symm; omega
  have hB4 := chain hB3 hb4
  replace hj0 := hj0.below hb4
  clear hb4
  go_wp2_with fail
  refine (eqMass_same _ _ _ _ _ _ _ _ (hi1.below (below_alloc _ _)) (hj0.below (below_alloc _ _))).mono ?_; rintro e w5 ⟨rfl, hb5⟩
  obtain ⟨hr90, hr91, hb5'⟩ := box2 hb5
  replace hp0 := keep hb5' hp0
  replace hp1 := keep hb5' hp1
  replace hq0 := keep hb5' hq0
  replace hq1 := keep hb5' hq1
  have hB5 := chain hB4 hb5'
  replace hj0 := hj0.below hb5'
  replace hr1 := hr1.below hb5'
  clear hb5 hb5' hi1
  go_wp2_with fail
  refine (markMass_any _ _ _ _ 1 _ _ hr1 rfl hlen (by omega) (by omega)).mono ?_; rintro e w6 ⟨rfl, hm1, hg6⟩
  replace hp0 := keepO hg6 hp0 (hne _ (by omega))
  replace hp1 := keepO hg6 hp1 (hne _ (by omega))
  replace hq0 := keepO hg6 hq0 (hne _ (by omega))
  replace hq1 := keepO hg6 hq1 (hne _ (by omega))
  replace hr90 := keepO hg6 hr90 (hne _ (by omega))
  replace hr91 := keepO hg6 hr91 (hne _ (by omega))
  have hB6 : Below w.heap.size w w6 := below_grownBy hB5 hB5.size hg6 (fun k e => by have := hr1.block k e; omega)
  replace hj0 := hj0.grown hg6 (fun b off e => by
    subst e
    intro e2
    have h1 := hr1.block b e2
    have h2 := hv0 b rfl
    omega)
  clear hg6 hr1 hv0
  have hn0 : (0 : Int) ≤ ((ruleM x y num den).parts.length : Int) := by omega
  go_wp2_with fail
  obtain ⟨a1', n1', c1', e1', hk1⟩ := hm1.ints
  injection e1' with e1 e2 e3
  subst e1 e2 e3
  refine (heldMass_any _ _ _ _ 1 _ hk1 hlen (by omega) (by omega)).mono ?_; rintro e w7 ⟨rfl, hb7⟩
  replace hp0 := keep hb7 hp0
  replace hp1 := keep hb7 hp1
  replace hq0 := keep hb7 hq0
  replace hq1 := keep hb7 hq1
  replace hr90 := keep hb7 hr90
  replace hr91 := keep hb7 hr91
  have hB7 := chain hB6 hb7
  replace hj0 := hj0.below hb7
  replace hk1 := hk1.below hb7
  clear hb7 hm1
  go_wp2_with fail
  refine (toFraction_any _ _ _).mono ?_; rintro e w8 ⟨rfl, hb8⟩
  replace hp0 := keep hb8 hp0
  replace hp1 := keep hb8 hp1
  replace hq0 := keep hb8 hq0
  replace hq1 := keep hb8 hq1
  replace hr90 := keep hb8 hr90
  replace hr91 := keep hb8 hr91
  have hB8 := chain hB7 hb8
  replace hj0 := hj0.below hb8
  replace hk1 := hk1.below hb8
  clear hb8
  go_wp2_with fail
  refine (RuleMass_any _ _ _ _ _).mono ?_; rintro e w9 ⟨⟨v2, rfl, hr2⟩, hb9⟩
  obtain ⟨ao2, n2, c2, rfl, hi2⟩ := hr2.ints
  obtain rfl := hi2.len
  replace hp0 := keep hb9 hp0
  replace hp1 := keep hb9 hp1
  replace hq0 := keep hb9 hq0
  replace hq1 := keep hb9 hq1
  replace hr90 := keep hb9 hr90
  replace hr91 := keep hb9 hr91
  have hB9 := chain hB8 hb9
  replace hj0 := hj0.below hb9
  replace hk1 := hk1.below hb9
  clear hb9
  go_wp2_with fail
  refine (eqMass_same _ _ _ _ _ _ _ _ (hi2.below (below_alloc _ _)) (hj0.below (below_alloc _ _))).mono ?_; rintro e w10 ⟨rfl, hb10⟩
  obtain ⟨_, _, hb10'⟩ := box2 hb10
  replace hp0 := keep hb10' hp0
  replace hp1 := keep hb10' hp1
  replace hq0 := keep hb10' hq0
  replace hq1 := keep hb10' hq1
  replace hr90 := keep hb10' hr90
  replace hr91 := keep hb10' hr91
  have hB10 := chain hB9 hb10'
  replace hk1 := hk1.below hb10'
  clear hb10 hb10'
  go_wp2_with fail
  refine (heldMass_any _ _ _ _ 1 _ hk1 hlen (by omega) (by omega)).mono ?_; rintro e w11 ⟨rfl, hb11⟩
  have hB11 := chain hB10 hb11
  clear hb11
  go_wp2
  go_ret
  exact ⟨rfl, hB11⟩
end Go.Proofs.Ytnmibnaejaeiiaa
