/- Chances and means: isChance, IsChance, LowestMean, MeanOf both. -/
import Derived.Test.YtefmlbahmakboaaGreatDoorW3
import Derived.Test.YtefmlbahmakboaaGreatDoorW11
set_option linter.unusedSimpArgs false
set_option linter.unusedVariables false
namespace Go.Proofs.YtefmlbahmakboaaGreatDoor
open Go.RowKit
/-- is this a set of one answer? -/
def single (a : Nat) : Bool := a == 1 || a == 2 || a == 4 || a == 8
def chanceOk (s : Int) (xs : List Int) : Bool := massOk s xs && allN (fun a => (nth xs a == 0) || single a) xs.length
/-- how many answers has a set? -/
def cntTo (a k : Nat) : Nat := iter (fun j t => t + if hasB a j then 1 else 0) 0 k
def cnt (a : Nat) : Nat := cntTo a 30
theorem cnt_singleF : ∀ a : Fin 16, (cnt a.val == 1) = single a.val := by decide
theorem cnt_single (a : Nat) (h : a < 16) : (cnt a == 1) = single a := cnt_singleF ⟨a, h⟩
theorem cntTo_le (a k : Nat) : cntTo a k ≤ k := by
  induction k with
  | zero => exact Nat.le_refl _
  | succ k ih => show cntTo a k + (if hasB a k then 1 else 0) ≤ k + 1; split <;> omega
theorem cntTo_past (a k m : Nat) (h : a < 2 ^ k) (hk : k ≤ m) : cntTo a m = cntTo a k := by
  induction m with
  | zero => obtain rfl : k = 0 := by omega
            rfl
  | succ m ih =>
    by_cases e : k = m + 1
    · rw [e]
    · show cntTo a m + (if hasB a m then 1 else 0) = _
      have : hasB a m = false := Nat.testBit_lt_two_pow (Nat.lt_of_lt_of_le h (Nat.pow_le_pow_right (by decide) (by omega)))
      rw [this, ih (by omega)]; rfl
theorem and_zero1 (q : Nat) (hq : q < 1000000000) : bits BinOp.and IntKind.i64 (q : Int) 1 = if q.testBit 0 then 1 else 0 := by
  have := and_one q 0 hq
  simpa using this
theorem chanceOk_bad {s : Int} {xs : List Int} (h : massOk s xs = false) : chanceOk s xs = false := by simp [chanceOk, h]
theorem chance_normal {s : Int} {xs : List Int} (h : chanceOk s xs = true) : massOk s xs = true ∧ nth xs 0 = 0 := by
  simp only [chanceOk, Bool.and_eq_true] at h
  refine ⟨h.1, ?_⟩
  have hl := massOk_facts' h.1
  have := nsets_le hl.1
  have h2 := (allN_iff _ _).1 h.2 0 (by omega)
  simpa [single] using h2
/-- the sets that have a part -/
def focTo (xs : List Int) (k : Nat) : List Int := iter (fun a l => if nth xs a = 0 then l else l ++ [(a : Int)]) [] k
theorem focTo_succ (xs : List Int) (k : Nat) : focTo xs (k + 1) = if nth xs k = 0 then focTo xs k else focTo xs k ++ [(k : Int)] := rfl
theorem focTo_len (xs : List Int) (k : Nat) : (focTo xs k).length ≤ k := by
  induction k with
  | zero => exact Nat.le_refl _
  | succ k ih =>
    rw [focTo_succ]; split
    · omega
    · simp; omega
theorem focTo_at (xs : List Int) (k j : Nat) (h : j < (focTo xs k).length) : ∃ a : Nat, a < k ∧ nth (focTo xs k) j = (a : Int) ∧ nth xs a ≠ 0 := by
  induction k with
  | zero => exact absurd h (by show ¬ j < 0; omega)
  | succ k ih =>
    rw [focTo_succ] at h ⊢
    by_cases e : nth xs k = 0
    · rw [if_pos e] at h ⊢
      obtain ⟨a, h1, h2⟩ := ih h
      exact ⟨a, by omega, h2⟩
    · rw [if_neg e] at h ⊢
      by_cases e2 : j < (focTo xs k).length
      · rw [nth_append_left _ _ _ e2]
        obtain ⟨a, h1, h2⟩ := ih e2
        exact ⟨a, by omega, h2⟩
      · have : j = (focTo xs k).length := by simp at h; omega
        subst this
        exact ⟨k, by omega, by rw [nth_eq _ _ (by simp)]; simp, e⟩
theorem focTo_mem (xs : List Int) (k a : Nat) (h : a < k) (hz : nth xs a ≠ 0) : ∃ j, j < (focTo xs k).length ∧ nth (focTo xs k) j = (a : Int) := by
  induction k with
  | zero => omega
  | succ k ih =>
    rw [focTo_succ]
    by_cases e : nth xs k = 0
    · rw [if_pos e]
      have : a ≠ k := by rintro rfl; exact hz e
      exact ih (by omega)
    · rw [if_neg e]
      by_cases e2 : a = k
      · subst e2
        exact ⟨(focTo xs a).length, by simp, by rw [nth_eq _ _ (by simp)]; simp⟩
      · obtain ⟨j, h1, h2⟩ := ih (by omega)
        exact ⟨j, by simp; omega, by rw [nth_append_left _ _ _ h1]; exact h2⟩
theorem single_andF : ∀ a : Fin 16, if single a.val then a.val ≠ 0 ∧ bits BinOp.and IntKind.i64 (a.val : Int) ((a.val : Int) - 1) = 0 else a.val = 0 ∨ bits BinOp.and IntKind.i64 (a.val : Int) ((a.val : Int) - 1) ≠ 0 := by decide
theorem single_and (a : Nat) (h : a < 16) : if single a then a ≠ 0 ∧ bits BinOp.and IntKind.i64 (a : Int) ((a : Int) - 1) = 0 else a = 0 ∨ bits BinOp.and IntKind.i64 (a : Int) ((a : Int) - 1) ≠ 0 := single_andF ⟨a, h⟩
/-- of the sets that have a part each one has one answer -/
def focOk (xs : List Int) (n : Nat) : Bool := allN (fun j => single (nth (focTo xs n) j).toNat) (focTo xs n).length
theorem focOk_eq (xs : List Int) (n : Nat) : focOk xs n = allN (fun a => (nth xs a == 0) || single a) n := by
  rw [Bool.eq_iff_iff, focOk, allN_iff, allN_iff]
  constructor
  · intro h a ha
    by_cases hz : nth xs a = 0
    · simp [hz]
    · obtain ⟨j, hj, he⟩ := focTo_mem xs n a ha hz
      have := h j hj
      rw [he] at this
      simp at this
      simp [this]
  · intro h j hj
    obtain ⟨a, ha, he, hz⟩ := focTo_at xs n j hj
    have := h a ha
    rw [he]
    simpa [hz] using this
set_option maxHeartbeats 400000 in
theorem focalSets_any (s : Int) (ao : Option Addr) (n c : Nat) (xs : List Int) (w : World) (hx : IntsAt w ao n xs) (hn : n ≤ 100) :
    Calls Tryz.prog 49 #[.agg #[.int .i64 s, .slice ao n c]] w fun e w' => ∃ v, e = .returned v ∧ Row w' w.heap.size v (focTo xs n) ∧ Below w.heap.size w w' := by
  have hcap := hx.cap
  have hB0 : Below w.heap.size w ((w.alloc (.cells #[.int .i64 s, .slice ao n c] 25)).alloc (.cells #[] 3)) := (below_alloc w _).alloc (by simp) _
  go_enter Tryz.func49, Tryz.ntmps49
  go_wp2
  go_loopw [3, 4, 5, 10] (fun o _ _ i wr => ∃ (k : Nat) (v : Value), k ≤ n ∧ i = .int .i64 k ∧ o = v ∧ Row wr w.heap.size v (focTo xs k) ∧ Below w.heap.size w wr) (fun _ _ _ i _ => n - (intOf i).toNat)
  case atStart =>
    refine ⟨0, _, by omega, rfl, rfl, ?_, hB0⟩
    have : Row ((w.alloc (.cells #[.int .i64 s, .slice ao n c] 25)).alloc (.cells #[] 3)) (w.alloc (.cells #[.int .i64 s, .slice ao n c] 25)).heap.size (.slice (some ⟨(w.alloc (.cells #[.int .i64 s, .slice ao n c] 25)).heap.size, 0, none⟩) 0 0) [] := World.ownsRow_lit _ #[] 0 (Nat.le_refl _) (by unfold maxLen; omega) rfl
    have := this.mono (base' := w.heap.size) (by simp)
    simpa [focTo, iter] using this
  case round =>
    obtain ⟨k, v, hk, rfl, rfl, hrow, hB⟩ := hrel
    by_cases hlt : k < n
    · obtain ⟨b, off, rfl, hbs, hbs', hck⟩ := hx.at hB hlt
      have hfl := focTo_len xs k
      by_cases hz : nth xs k = 0
      · have HN : Hid (focTo xs (k + 1) = focTo xs k) := by rw [Hid, focTo_succ, if_pos hz]
        rw [hz] at hck
        clear hz
        go_wp2
        go_roundw
        case rel => first | exact ⟨k + 1, _, by omega, by go_num, rfl, by rw [HN.out]; exact hrow, hB⟩ | exact ⟨_, ⟨k + 1, _, by omega, by go_num, rfl, by rw [HN.out]; exact hrow, hB⟩, rfl⟩ | exact ⟨_, _, ⟨k + 1, _, by omega, by go_num, rfl, by rw [HN.out]; exact hrow, hB⟩, rfl, rfl⟩ | exact ⟨_, _, _, ⟨k + 1, _, by omega, by go_num, rfl, by rw [HN.out]; exact hrow, hB⟩, rfl, rfl, rfl⟩ | exact ⟨_, _, _, _, ⟨k + 1, _, by omega, by go_num, rfl, by rw [HN.out]; exact hrow, hB⟩, rfl, rfl, rfl, rfl⟩ | exact ⟨_, _, _, _, _, ⟨k + 1, _, by omega, by go_num, rfl, by rw [HN.out]; exact hrow, hB⟩, rfl, rfl, rfl, rfl, rfl⟩
        case measure => simp [intOf]; omega
      · have HN : Hid (focTo xs (k + 1) = focTo xs k ++ [(k : Int)]) := by rw [Hid, focTo_succ, if_neg hz]
        have hz2 : (nth xs k != 0) = true := by simpa using hz
        have hz3 : (nth xs k == 0) = false := by simpa using hz
        obtain ⟨q, HQ⟩ : ∃ q, Hid ((focTo xs k).length = q) := ⟨_, rfl⟩
        rw [HQ.out] at hfl
        clear hz
        go_wp2_with (at_builtin; refine wpList_append_int rfl _ _ rfl w.heap.size _ _ q HQ.out (by rfl) (hrow.below (below_alloc wr _)) _ _ (k : Int) (by rfl) (by simp) (by omega) (by simp; have := hB.size; omega) ?_; intro g' c' w' hrow' hgrow)
        have HB' := hid (below_grownBy (B := w.heap.size) (hB.alloc (by have := hB.size; omega) _) (by simp; have := hB.size; omega) hgrow (fun b e => (hrow.block b e).1))
        clear hgrow hrow hB
        go_roundw
        case rel => first | exact ⟨k + 1, _, by omega, by go_num, rfl, by rw [HN.out]; exact hrow', HB'.out⟩ | exact ⟨_, ⟨k + 1, _, by omega, by go_num, rfl, by rw [HN.out]; exact hrow', HB'.out⟩, rfl⟩ | exact ⟨_, _, ⟨k + 1, _, by omega, by go_num, rfl, by rw [HN.out]; exact hrow', HB'.out⟩, rfl, rfl⟩ | exact ⟨_, _, _, ⟨k + 1, _, by omega, by go_num, rfl, by rw [HN.out]; exact hrow', HB'.out⟩, rfl, rfl, rfl⟩ | exact ⟨_, _, _, _, ⟨k + 1, _, by omega, by go_num, rfl, by rw [HN.out]; exact hrow', HB'.out⟩, rfl, rfl, rfl, rfl⟩ | exact ⟨_, _, _, _, _, ⟨k + 1, _, by omega, by go_num, rfl, by rw [HN.out]; exact hrow', HB'.out⟩, rfl, rfl, rfl, rfl, rfl⟩
        case measure => simp [intOf]; omega
    · have hkn : k = n := by omega
      subst hkn
      go_wp2
      go_ret
      exact ⟨_, rfl, hrow, hB⟩
set_option maxHeartbeats 1000000 in
theorem isChance_any (s : Int) (ao : Option Addr) (n c : Nat) (xs : List Int) (w : World) (hx : IntsAt w ao n xs) :
    Calls Tryz.prog 244 #[.agg #[.int .i64 s, .slice ao n c]] w fun e w' => e = .returned (.bool (chanceOk s xs)) ∧ Below w.heap.size w w' := by
  have hBa := below_alloc w (.cells #[.int .i64 s, .slice ao n c] 25)
  cases hm : massOk s xs
  · have HE := hid (chanceOk_bad hm)
    rw [HE.out]
    go_enter Tryz.func244, Tryz.ntmps244
    go_wp2_with fail
    refine (isMass_any _ _ _ _ _ _ (hx.below hBa)).mono ?_; rw [hm]; rintro e w1 ⟨rfl, hb1⟩
    obtain ⟨hp0, hp1, hB1⟩ := box2 hb1
    go_wp2
    go_ret
    exact ⟨rfl, hB1⟩
  · obtain ⟨hsz, hlen, h16, hbd, _, _, _⟩ := massOk_facts' hm
    have hnl := hid hx.len
    have hn16 : n ≤ 16 := by have := hnl.out; omega
    have HE : Hid (chanceOk s xs = focOk xs n) := by rw [Hid, focOk_eq, ← hnl.out]; unfold chanceOk; rw [hm]; rfl
    rw [HE.out]
    have HLen := hid hlen; clear hlen
    have hfl := focTo_len xs n
    cases hall : focOk xs n
    all_goals
      go_enter Tryz.func244, Tryz.ntmps244
      go_wp2_with fail
      refine (isMass_any _ _ _ _ _ _ (hx.below hBa)).mono ?_; rw [hm]; rintro e w1 ⟨rfl, hb1⟩
      obtain ⟨hp0, hp1, hB1⟩ := box2 hb1
      clear hb1
      go_wp2_with fail
      refine (focalSets_any _ _ _ _ xs _ (hx.below hB1) (by omega)).mono ?_; rintro e w2 ⟨v, rfl, hr2, hb2⟩
      obtain ⟨fo, m, d, rfl, hf⟩ := hr2.ints
      have hB2 := chain hB1 hb2
      have hml := hid hf.len
      have hcap := hf.cap
      clear hr2 hb2
    · obtain ⟨k0, hk0, hbad⟩ := allN_ex hall
      rw [hml.out] at hk0
      have HB0 := hid hbad
      clear hall hbad
      go_wp2
      go_loop [4, 11] (fun _ i => ∃ k : Nat, k ≤ k0 ∧ i = .int .i64 k) (fun _ i => m - (intOf i).toNat)
      case atStart => exact ⟨0, by omega, rfl⟩
      case round =>
        obtain ⟨k, hk, rfl⟩ := hrel
        have hlt : k < m := by omega
        obtain ⟨b, off, rfl, hbs, hbs', hck⟩ := hf.at (Below.refl _ _) hlt
        obtain ⟨a, ha, hea, _⟩ := focTo_at xs n k (by rw [hml.out]; exact hlt)
        rw [hea] at hck
        have HSA := hid (single_and a (by omega))
        have HEA := hid hea; clear hea
        cases hsg : single a
        · have h1 := HSA.out
          simp only [hsg] at h1
          have h2 : a = 0 ∨ (0 < a ∧ bits BinOp.and IntKind.i64 (a : Int) ((a : Int) - 1) ≠ 0) := by
            by_cases e : a = 0
            · exact .inl e
            · exact .inr ⟨by omega, by simpa [e] using h1⟩
          clear h1
          rcases h2 with h2 | ⟨h2, h3⟩
          · subst h2
            go_wp2
            go_ret
            exact ⟨rfl, hB2⟩
          · obtain ⟨q, HQ⟩ : ∃ q, bits BinOp.and IntKind.i64 (a : Int) ((a : Int) - 1) = q := ⟨_, rfl⟩
            rw [HQ] at h3
            have h4 : (q != 0) = true := by simpa using h3
            clear h3
            have ha0 : ((a : Int) == 0) = false := by simp; omega
            go_wp2
            go_ret
            exact ⟨rfl, hB2⟩
        · have hne : k ≠ k0 := by rintro rfl; have := HB0.out; rw [HEA.out] at this; simp [hsg] at this
          have h1 := HSA.out
          simp only [hsg, if_true] at h1
          obtain ⟨h2, h3⟩ := h1
          have ha0 : ((a : Int) == 0) = false := by simp; omega
          have ha1 : 0 < a := by omega
          clear h2
          go_wp2
          go_round
          case rel => first | exact ⟨k + 1, by omega, by go_num⟩ | exact ⟨_, ⟨k + 1, by omega, by go_num⟩, rfl⟩ | exact ⟨_, _, ⟨k + 1, by omega, by go_num⟩, rfl, rfl⟩ | exact ⟨_, _, _, ⟨k + 1, by omega, by go_num⟩, rfl, rfl, rfl⟩ | exact ⟨_, _, _, _, ⟨k + 1, by omega, by go_num⟩, rfl, rfl, rfl, rfl⟩ | exact ⟨_, _, _, _, _, ⟨k + 1, by omega, by go_num⟩, rfl, rfl, rfl, rfl, rfl⟩
          case measure => simp [intOf]; omega
    · have HALL := hid ((allN_iff _ _).1 hall)
      clear hall
      go_wp2
      go_loop [4, 11] (fun _ i => ∃ k : Nat, k ≤ m ∧ i = .int .i64 k) (fun _ i => m - (intOf i).toNat)
      case atStart => exact ⟨0, by omega, rfl⟩
      case round =>
        obtain ⟨k, hk, rfl⟩ := hrel
        by_cases hlt : k < m
        · obtain ⟨b, off, rfl, hbs, hbs', hck⟩ := hf.at (Below.refl _ _) hlt
          obtain ⟨a, ha, hea, _⟩ := focTo_at xs n k (by rw [hml.out]; exact hlt)
          rw [hea] at hck
          have HSA := hid (single_and a (by omega))
          have hsg : single a = true := by have := HALL.out k (by rw [hml.out]; exact hlt); rw [hea] at this; simpa using this
          clear hea
          have h1 := HSA.out
          simp only [hsg, if_true] at h1
          obtain ⟨h2, h3⟩ := h1
          have ha0 : ((a : Int) == 0) = false := by simp; omega
          have ha1 : 0 < a := by omega
          clear h2
          go_wp2
          go_round
          case rel => first | exact ⟨k + 1, by omega, by go_num⟩ | exact ⟨_, ⟨k + 1, by omega, by go_num⟩, rfl⟩ | exact ⟨_, _, ⟨k + 1, by omega, by go_num⟩, rfl, rfl⟩ | exact ⟨_, _, _, ⟨k + 1, by omega, by go_num⟩, rfl, rfl, rfl⟩ | exact ⟨_, _, _, _, ⟨k + 1, by omega, by go_num⟩, rfl, rfl, rfl, rfl⟩ | exact ⟨_, _, _, _, _, ⟨k + 1, by omega, by go_num⟩, rfl, rfl, rfl, rfl, rfl⟩
          case measure => simp [intOf]; omega
        · go_wp2
          go_ret
          exact ⟨rfl, hB2⟩
end Go.Proofs.YtefmlbahmakboaaGreatDoor
