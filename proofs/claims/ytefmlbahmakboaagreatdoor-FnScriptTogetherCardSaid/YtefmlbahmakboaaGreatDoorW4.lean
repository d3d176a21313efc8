/- Masses of one set and of rules. -/
import Derived.Test.YtefmlbahmakboaaGreatDoorW3
set_option linter.unusedSimpArgs false
set_option linter.unusedVariables false
namespace Go.Proofs.YtefmlbahmakboaaGreatDoor
open Go.RowKit
/-- the parts of a mass that supports set a by num of den -/
def simpleParts (n : Nat) (a : Nat) (num den : Int) : List Int :=
  ((List.replicate n (0 : Int)).set a num).set (n - 1) (nth ((List.replicate n (0 : Int)).set a num) (n - 1) + (den - num))
def simpleM (s a num den : Int) : MR := if setOk s a && shareOk num den then mkMass s (simpleParts (nsets s) a.toNat num den) else MR.no
theorem simpleParts_len (n a : Nat) (num den : Int) : (simpleParts n a num den).length = n := by simp [simpleParts]
theorem simpleParts_nth (n a : Nat) (num den : Int) (k : Nat) (hk : k < n) : nth (simpleParts n a num den) k = (if a = k then num else 0) + (if n - 1 = k then den - num else 0) := by
  unfold simpleParts
  rw [nth_set, nth_set, nth_set, nth_replicate, nth_replicate]
  simp only [List.length_set, List.length_replicate]
  by_cases h1 : n - 1 = k
  · subst h1; rw [if_pos ⟨rfl, hk⟩, if_pos rfl]
    by_cases h2 : a = n - 1 <;> simp [h2, hk]; try omega
  · rw [if_neg (by omega), if_neg h1]
    by_cases h2 : a = k <;> simp [h2, hk]
theorem simpleParts_spec (n a : Nat) (num den : Int) (ha : a < n) :
    ((List.replicate n (0 : Int)).set (n - 1) (den - num)).set a (nth ((List.replicate n (0 : Int)).set (n - 1) (den - num)) a + num) = simpleParts n a num den := by
  apply ext_nth
  · simp [simpleParts]
  · intro k hk
    have hk' : k < n := by simpa using hk
    rw [simpleParts_nth _ _ _ _ _ hk', nth_set, nth_set, nth_set, nth_replicate, nth_replicate]
    simp only [List.length_set, List.length_replicate]
    by_cases h1 : a = k
    · subst h1
      by_cases h2 : n - 1 = a <;> simp [h2, hk']; omega
    · by_cases h2 : n - 1 = k <;> simp [h1, h2, hk']
theorem shareOk_bd {num den : Int} (h : shareOk num den = true) : 0 ≤ num ∧ num ≤ den ∧ 1 ≤ den ∧ den ≤ 1000000000 := by
  simp only [shareOk, fracOk, Bool.and_eq_true, inB_iff] at h; omega
theorem simpleParts_bd (n a : Nat) (num den : Int) (h : shareOk num den = true) (k : Nat) (hk : k < n) : 0 ≤ nth (simpleParts n a num den) k ∧ nth (simpleParts n a num den) k ≤ 4000000000000000000 := by
  have := shareOk_bd h
  rw [simpleParts_nth _ _ _ _ _ hk]
  split <;> split <;> omega
theorem simpleM_set {s a num den : Int} (h : setOk s a = false) : simpleM s a num den = MR.no := by simp [simpleM, h]
theorem simpleM_share {s a num den : Int} (h : shareOk num den = false) : simpleM s a num den = MR.no := by simp [simpleM, h]
theorem simpleM_ok {s a num den : Int} (h1 : setOk s a = true) (h2 : shareOk num den = true) : simpleM s a num den = mkMass s (simpleParts (nsets s) a.toNat num den) := by simp [simpleM, h1, h2]
theorem setOk_bd {s a : Int} (h : setOk s a = true) : okSize s = true ∧ 0 ≤ a ∧ a ≤ (nsets s : Int) - 1 := by
  simp only [setOk, Bool.and_eq_true, inB_iff] at h; exact ⟨h.1, h.2.1, h.2.2⟩
set_option maxHeartbeats 1000000 in
theorem SimpleMass_any (s a num den : Int) (w : World) :
    Calls Tryz.prog 171 #[.int .i64 s, .int .i64 a, .agg #[.int .i64 num, .int .i64 den]] w fun e w' => RetM (simpleM s a num den) w.heap.size e w' ∧ Below w.heap.size w w' := by
  cases hset : setOk s a
  · rw [simpleM_set hset]
    cases hs : okSize s
    · go_enter Tryz.func171, Tryz.ntmps171
      go_wp2_with (first | (go_at_call 88; refine (isSize_any _ _).mono ?_; rintro e w' ⟨rfl, rfl⟩))
      refine bodyPost_ret (v := .tuple #[.agg #[.int .i64 0, .slice none 0 0], .bool false]) (by simp [results, Tryz.results171, go_sem]) rfl ⟨?_, ?_⟩
      · exact RetM.no _ _
      · (repeat (first | exact Below.refl _ _ | assumption | refine Below.alloc ?_ (by simp <;> omega) _ | refine Below.setCell ?_ (by simp <;> omega) _ | refine Below.drew ?_ | refine below_drewN ?_))
    · have hin : inB 0 ((nsets s : Int) - 1) a = false := by simpa [setOk, hs] using hset
      go_enter Tryz.func171, Tryz.ntmps171
      go_wp2_with (first | (go_at_call 88; refine (isSize_any _ _).mono ?_; rintro e w' ⟨rfl, rfl⟩) | (go_at_call 159; refine (isSetOf_any _ _ _ hs).mono ?_; rintro e w' ⟨rfl, rfl⟩))
      refine bodyPost_ret (v := .tuple #[.agg #[.int .i64 0, .slice none 0 0], .bool false]) (by simp [results, Tryz.results171, go_sem]) rfl ⟨?_, ?_⟩
      · exact RetM.no _ _
      · (repeat (first | exact Below.refl _ _ | assumption | refine Below.alloc ?_ (by simp <;> omega) _ | refine Below.setCell ?_ (by simp <;> omega) _ | refine Below.drew ?_ | refine below_drewN ?_))
  · obtain ⟨hs, ha0, ha1⟩ := setOk_bd hset
    have hin : inB 0 ((nsets s : Int) - 1) a = true := by simpa [setOk, hs] using hset
    cases hsh : shareOk num den
    · rw [simpleM_share hsh]
      go_enter Tryz.func171, Tryz.ntmps171
      go_wp2_with (first | (go_at_call 88; refine (isSize_any _ _).mono ?_; rintro e w' ⟨rfl, rfl⟩) | (go_at_call 159; refine (isSetOf_any _ _ _ hs).mono ?_; rintro e w' ⟨rfl, rfl⟩) | (go_at_call 221; fail))
      refine (isShare_any _ _ _).mono ?_; rintro e w1 ⟨rfl, hb1⟩
      have h10 := keep hb1 (a := ⟨w.heap.size + 1, 0, none⟩) (v := .int .i64 0) (by simp)
      have h11 := keep hb1 (a := ⟨w.heap.size + 1, 1, none⟩) (v := .slice none 0 0) (by simp)
      have f10 := keepF hb1 (a := ⟨w.heap.size + 1, 0, none⟩) (v := .int .i64 0) (by simp) (by simp)
      have f11 := keepF hb1 (a := ⟨w.heap.size + 1, 1, none⟩) (v := .slice none 0 0) (by simp) (by simp)
      have hB1 : Below w.heap.size w w1 := ((below_alloc w _).alloc (by simp) _).trans (hb1.mono (by simp <;> omega))
      clear hb1
      go_wp2
      refine bodyPost_ret (v := .tuple #[.agg #[.int .i64 0, .slice none 0 0], .bool false]) (by simp [results, Tryz.results171, go_sem, h10, h11]) rfl ⟨?_, ?_⟩
      · exact RetM.no _ _
      · (repeat (first | exact Below.refl _ _ | assumption | refine Below.alloc ?_ (by simp <;> omega) _ | refine Below.setCell ?_ (by simp <;> omega) _ | refine Below.drew ?_ | refine below_drewN ?_))
    · obtain ⟨k, rfl⟩ : ∃ k : Nat, a = (k : Int) := ⟨a.toNat, by omega⟩
      rw [simpleM_ok hset hsh]
      have hbd := shareOk_bd hsh
      have hsz := shl_size hs
      have hs0 : 1 ≤ s ∧ s ≤ 4 := by rcases okSize_iff.1 hs with h | h | h | h <;> omega
      have hsn := nsets_le hs
      go_enter Tryz.func171, Tryz.ntmps171
      go_wp2_with (first | (go_at_call 88; refine (isSize_any _ _).mono ?_; rintro e w' ⟨rfl, rfl⟩) | (go_at_call 159; refine (isSetOf_any _ _ _ hs).mono ?_; rintro e w' ⟨rfl, rfl⟩) | (go_at_call 221; fail))
      refine (isShare_any _ _ _).mono ?_; rintro e w1 ⟨rfl, hb1⟩
      have hp0 := keep hb1 (a := ⟨w.heap.size, 0, none⟩) (v := .int .i64 num) (by simp)
      have hp1 := keep hb1 (a := ⟨w.heap.size, 1, none⟩) (v := .int .i64 den) (by simp)
      have h10 := keep hb1 (a := ⟨w.heap.size + 1, 0, none⟩) (v := .int .i64 0) (by simp)
      have h11 := keep hb1 (a := ⟨w.heap.size + 1, 1, none⟩) (v := .slice none 0 0) (by simp)
      have f10 := keepF hb1 (a := ⟨w.heap.size + 1, 0, none⟩) (v := .int .i64 0) (by simp) (by simp)
      have f11 := keepF hb1 (a := ⟨w.heap.size + 1, 1, none⟩) (v := .slice none 0 0) (by simp) (by simp)
      have hB1 : Below w.heap.size w w1 := ((below_alloc w _).alloc (by simp) _).trans (hb1.mono (by simp <;> omega))
      have hz1 := World.block_lt_of_cell? w1 _ h10
      simp only at hz1
      clear hb1
      go_wp2_with (at_make; refine wpList_make_ints rfl _ _ rfl (nsets s) _ _ rfl rfl hsz hsz (by omega) ?_; intro w2 hrow hb2 hz2)
      replace hp0 := keep hb2 hp0
      replace hp1 := keep hb2 hp1
      have f20 := keepF hb2 h10 f10
      have f21 := keepF hb2 h11 f11
      replace h10 := keep hb2 h10
      replace h11 := keep hb2 h11
      have hB2 := chain hB1 hb2
      have hk : k < nsets s := by omega
      obtain ⟨c0, d0, _⟩ := hrow.cellAt hk
      rw [nth_replicate] at c0
      clear hb2 f10 f11
      go_wp2
      refine wp_region_ov_tail 8 (by kernel_rfl) (by kernel_rfl) (fun _ _ _ _ _ h => h) ?_
      simp only [List.take_succ_cons, List.take_zero, List.drop_succ_cons, List.drop_zero]
      repeat (first | go_big_quiet_step ((fail)) | quiet_step ((fail)))
      refine wpQuiet_nil ?_
      intro _ hw_ov
      obtain ⟨x_ov, hw_ov2⟩ := hw_ov
      subst hw_ov2
      obtain ⟨w3, hw_ov3, hb3⟩ := ov_gen _ x_ov
      rw [hw_ov3]
      clear hw_ov3 x_ov
      replace hp0 := keep hb3 hp0
      replace hp1 := keep hb3 hp1
      replace f20 := keepF hb3 h10 f20
      replace f21 := keepF hb3 h11 f21
      replace h10 := keep hb3 h10
      replace h11 := keep hb3 h11
      replace hrow := hrow.below hb3
      have hB3 := chain hB2 hb3
      replace d0 := keepF hb3 c0 d0
      replace c0 := keep hb3 c0
      clear hb3 hB2
      go_wp2
      obtain ⟨w4, hw4, hr4, hg4⟩ := store_gen hrow hk num
      rw [hw4]
      replace f20 := keepGF hg4 h10 (by omega) f20
      replace f21 := keepGF hg4 h11 (by omega) f21
      replace hp0 := keepG hg4 hp0 (by omega)
      replace hp1 := keepG hg4 hp1 (by omega)
      replace h10 := keepG hg4 h10 (by omega)
      replace h11 := keepG hg4 h11 (by omega)
      have hB4 := belowG hB3 hB3.size hg4 hB1.size
      clear hw4 hg4 hrow c0 d0 hB3
      have hk1 : nsets s - 1 < nsets s := by omega
      obtain ⟨c1, d1, _⟩ := hr4.cellAt hk1
      have hcast : ((nsets s - 1 : Nat) : Int) = (nsets s : Int) - 1 := by omega
      have hq : 0 ≤ nth ((List.replicate (nsets s) 0).set k num) (nsets s - 1) ∧ nth ((List.replicate (nsets s) 0).set k num) (nsets s - 1) ≤ num := by
        rw [nth_set, nth_replicate]; split <;> omega
      refine wp_region_ov_tail 12 (by kernel_rfl) (by kernel_rfl) (fun _ _ _ _ _ h => h) ?_
      simp only [List.take_succ_cons, List.take_zero, List.drop_succ_cons, List.drop_zero]
      repeat (first | go_big_quiet_step ((go_at_call 198; exact ov_same (fullSet_any _ _ hs))) | quiet_step ((go_at_call 198; exact ov_same (fullSet_any _ _ hs))))
      refine wpQuiet_nil ?_
      intro _ hw_ov
      obtain ⟨x_ov, hw_ov2⟩ := hw_ov
      subst hw_ov2
      obtain ⟨w5, hw_ov3, hb5⟩ := ov_gen _ x_ov
      rw [hw_ov3]
      clear hw_ov3 x_ov
      replace f20 := keepF hb5 h10 f20
      replace f21 := keepF hb5 h11 f21
      replace h10 := keep hb5 h10
      replace h11 := keep hb5 h11
      replace d1 := keepF hb5 c1 d1
      replace c1 := keep hb5 c1
      have hrow := hr4.below hb5
      have hB5 := chain hB4 hb5
      clear hb5 hr4 hB4 hp0 hp1
      go_wp2_with fail
      obtain ⟨w6, hw6, hr6, hg6⟩ := store_gen hrow hk1 (nth ((List.replicate (nsets s) 0).set k num) (nsets s - 1) + (den - num))
      rw [hw6]
      replace f20 := keepGF hg6 h10 (by omega) f20
      replace f21 := keepGF hg6 h11 (by omega) f21
      replace h10 := keepG hg6 h10 (by omega)
      replace h11 := keepG hg6 h11 (by omega)
      have hB6 := belowG hB5 hB5.size hg6 hB1.size
      clear hw6 hg6 hrow hB5 c1 d1
      obtain ⟨ao, n', c', e', hi⟩ := hr6.ints
      injection e' with e1 e2 e3
      subst e1 e2 e3
      change IntsAt w6 _ _ (simpleParts (nsets s) k num den) at hi
      refine (makeMass_any _ _ _ _ _ _ hi hsn.2 (fun j hj => simpleParts_bd _ _ _ _ hsh j hj)).mono ?_
      rintro e w7 ⟨⟨v, rfl, hr7⟩, hb7⟩
      obtain ⟨ao7, n7, c7, rfl, hi7⟩ := hr7.ints
      have h10' := h10
      replace f20 := keepF hb7 h10 f20
      replace f21 := keepF hb7 h11 f21
      replace h10 := keep hb7 h10
      replace h11 := keep hb7 h11
      have hB7 := chain hB6 hb7
      have hlt7 : w.heap.size + 1 < w6.heap.size := by have := World.block_lt_of_cell? w6 _ h10'; simpa using this
      go_wp2
      refine bodyPost_ret (v := .tuple #[.agg #[.int .i64 (mkMass s (simpleParts (nsets s) k num den)).size, .slice ao7 n7 c7], .bool (mkMass s (simpleParts (nsets s) k num den)).ok]) (by simp [results, Tryz.results171, go_sem, h10, h11]) rfl ⟨?_, ?_⟩
      · exact ⟨_, rfl, ((hr7.setBelow (by simp; omega) _).setBelow (by simp; omega) _).mono (by omega)⟩
      · (repeat (first | exact Below.refl _ _ | assumption | refine Below.alloc ?_ (by simp <;> omega) _ | refine Below.setCell ?_ (by simp <;> omega) _ | refine Below.drew ?_ | refine below_drewN ?_))
/-- the mass of pairs of a rule -/
def ruleM (x y num den : Int) : MR := if inB 0 1 x && inB 0 1 y then simpleM 4 (15 - 2 ^ (2 * x + 1 - y).toNat) num den else MR.no
theorem ruleM_bad {x y num den : Int} (h : inB 0 1 x = false ∨ inB 0 1 y = false) : ruleM x y num den = MR.no := by
  rcases h with h | h <;> simp [ruleM, h]
theorem inB01 {x : Int} (h : inB 0 1 x = true) : x = 0 ∨ x = 1 := by have := inB_iff.1 h; omega
theorem xor_rule : bits BinOp.xor IntKind.i64 ((nsets 4 : Int) - 1) 1 = 14 ∧ bits BinOp.xor IntKind.i64 ((nsets 4 : Int) - 1) 2 = 13 ∧ bits BinOp.xor IntKind.i64 ((nsets 4 : Int) - 1) 4 = 11 ∧ bits BinOp.xor IntKind.i64 ((nsets 4 : Int) - 1) 8 = 7 := by decide
end Go.Proofs.YtefmlbahmakboaaGreatDoor
