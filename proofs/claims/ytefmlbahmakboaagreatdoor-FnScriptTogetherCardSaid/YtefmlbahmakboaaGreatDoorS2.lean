/- A law for a region that draws its order, whose first operation copies a variable that the last ones use: 'append(out, f(x))'. Sets as numbers with digits: images of sets under lists, and what moves parts. Masses whose parts are moved: mapped, RefineMass, MoveMass. -/
import Derived.Test.YtefmlbahmakboaaGreatDoorB0
import Derived.Test.YtefmlbahmakboaaGreatDoorW3
set_option linter.unusedSimpArgs false
set_option linter.unusedVariables false
namespace Go.Proofs.YtefmlbahmakboaaGreatDoor
open Go.RowKit
section
variable {P : Program} {ops : Array Oper} {md : Region.Mode} {C : World → Prop}
/-- each operation below n, but for number 0, is waited for by a later one up to n -/
def sinkB1 (md : Region.Mode) (ops : Array Oper) (n : Nat) : Bool :=
  (List.range n).all fun i => (i == 0) || (List.range (n + 1)).any fun j => decide (i < j) && Region.waitsFor md ops j i
theorem block_waits1 {n : Nat} {done : Array Bool} (hs : sinkB1 md ops n = true) (hc : blockB md ops n = true) (hn : n < ops.size) (inv : HeadInv md ops n done) (h0 : done.getD 0 true = true) :
    ∀ (d i : Nat), n - i = d → i < n → done.getD i true = false → ∀ t, n ≤ t → t ∉ Region.ready md ops done := by
  intro d
  induction d using Nat.strongRecOn with
  | _ d ih =>
    intro i hd hi hun t ht hr
    obtain ⟨_, ot, hot, hall⟩ := mem_ready.1 hr
    have htlt : t < ops.size := (Array.getElem?_eq_some_iff.1 hot).1
    have hi0 : i ≠ 0 := by rintro rfl; rw [h0] at hun; cases hun
    rcases Nat.eq_or_lt_of_le ht with he | hlt
    · subst he
      have h1 := List.all_eq_true.1 hs i (List.mem_range.2 hi)
      simp only [Bool.or_eq_true, beq_iff_eq] at h1
      obtain ⟨j, hj, hj2⟩ := List.any_eq_true.1 (h1.resolve_left hi0)
      simp only [Bool.and_eq_true, decide_eq_true_eq] at hj2
      obtain ⟨oj, hoj, e, he, hb, hon⟩ := Region.waitsFor_spec hj2.2
      have hjn : j < n + 1 := List.mem_range.1 hj
      have done_false : done.getD j false = true → False := fun hl => by
        have := inv.closed j oj hoj hl e he hb
        rw [hon, getD_both hun] at this
        cases this
      rcases Nat.eq_or_lt_of_le (Nat.le_of_lt_succ hjn) with hjt | hjt
      · subst hjt
        obtain rfl : oj = ot := Option.some.inj (hoj.symm.trans hot)
        have := hall e he hb
        rw [hon, getD_both hun] at this
        cases this
      · cases hl : done.getD j false with
        | true => exact done_false hl
        | false => exact ih (n - j) (by omega) j rfl hjt (getD_in (by rw [inv.size]; omega) hl) n (Nat.le_refl _) hr
    · have h1 := List.all_eq_true.1 hc t (List.mem_range.2 htlt)
      simp only [Bool.or_eq_true, decide_eq_true_eq] at h1
      rcases h1 with h1 | h1
      · omega
      · obtain ⟨j, hj, hj2⟩ := List.any_eq_true.1 h1
        simp only [Bool.and_eq_true, decide_eq_true_eq] at hj2
        obtain ⟨o', ho', e, he, hb, hon⟩ := Region.waitsFor_spec hj2.2
        obtain rfl : o' = ot := Option.some.inj (ho'.symm.trans hot)
        have h2 := hall e he hb
        rw [hon, getD_both (inv.tail j hj2.1 (by have := List.mem_range.1 hj; omega))] at h2
        cases h2
theorem getD_keep {done : Array Bool} {i j : Nat} (h : done.getD i true = true) : (done.setIfInBounds j true).getD i true = true := by
  by_cases e : j = i
  · subst e
    by_cases hs : j < done.size
    · simp [hs]
    · simp [Array.getElem?_eq_none (Nat.le_of_not_lt hs)]
  · rw [getD_set_ne true e]; exact h
theorem headQ_first1 {n i : Nat} {oi : Oper} {v : Value} {L : Array Bool → Act → Prop} (ho : ops[i]? = some oi) (hsel : Region.noSelect ops = true)
    (hs : sinkB1 md ops n = true) (hc : blockB md ops n = true) (hn : n < ops.size) (hin : i < n) (hL : ∀ done a, L done a → ∀ j, j ∈ Region.ready md ops done → n ≤ j) :
    ∀ (f : Nat) (done : Array Bool) (a : Act), HeadInv md ops n done → done.getD 0 true = true →
      (∀ j oj, ops[j]? = some oj → j ≠ i → done.getD j true = false → (∀ e, e ∈ oj.after → Region.binds md e = true → e.on ≠ i) → oi.apart ops oj = true) →
      i ∈ Region.ready md ops done → YieldsIn P ops C oi v a → headQ P md ops C n L f (done.setIfInBounds i true) (a.put oi.dst v) → headQ P md ops C n L (f + 1) done a := by
  intro f
  induction f with
  | zero =>
    intro done a inv hd0 _ hr hy H
    refine ⟨List.ne_nil_of_mem hr, fun j hj => ?_⟩
    have hjn : j < n := Nat.lt_of_not_le fun hle => block_waits1 hs hc hn inv hd0 _ i rfl hin (mem_ready.1 hr).1 j hle hj
    refine ⟨hjn, ?_⟩
    by_cases e : j = i
    · rw [e]; exact hy.qOp ho H
    · exact absurd (hL _ _ H j (ready_mono hj e)) (Nat.not_le.2 hjn)
  | succ f ih =>
    intro done a inv hd0 hfree hr hy H
    have hun := (mem_ready.1 hr).1
    refine ⟨List.ne_nil_of_mem hr, fun j hj => ?_⟩
    have hjn : j < n := Nat.lt_of_not_le fun hle => block_waits1 hs hc hn inv hd0 _ i rfl hin hun j hle hj
    refine ⟨hjn, ?_⟩
    by_cases e : j = i
    · rw [e]; exact hy.qOp ho H
    · obtain ⟨hju, oj, hoj, hw⟩ := mem_ready.1 hj
      have hno : ∀ x, x ∈ oj.after → Region.binds md x = true → x.on ≠ i := by
        intro x hx hb he
        have := hw x hx hb
        rw [he, getD_both hun] at this
        cases this
      have hstep := qOp_put hoj (hfree j oj hoj e hju hno) (Region.noSelect_spec hsel i oi · · ho) (Region.noSelect_spec hsel j oj · · hoj) hy (H.2 j (ready_mono hj e)).2
      refine qOp_mono (fun a' ha' => ih _ a' (inv.set hj hjn) (getD_keep hd0) ?_ (ready_mono hr (Ne.symm e)) ha'.1 ?_) hstep
      · intro k ok hk hki hu hno'
        refine hfree k ok hk hki ?_ hno'
        by_cases ej : j = k
        · rw [← ej]; exact hju
        · rwa [getD_set_ne true ej] at hu
      · rw [Array.setIfInBounds_comm _ _ e]; exact ha'.2
theorem headQ_mix1 {n g : Nat} {Lq : Act → Prop} (hsel : Region.noSelect ops = true) (hs : sinkB1 md ops n = true) (hc : blockB md ops n = true) (hn : n < ops.size) :
    ∀ (l : List Oper) (k : Nat) (done : Array Bool) (a : Act), 1 ≤ k → (∀ j, j < l.length → l[j]? = ops[k + j]?) → k + l.length = n → HeadInv md ops n done → (∀ j, j < k → done.getD j true = true) →
      headMix md ops g l.length k done = true → wpQuiet P ops C Lq l a → headQ P md ops C n (fun d a' => (mixTail md ops g n d = true ∧ ∀ j, j < n → d.getD j true = true) ∧ Lq a') l.length done a := by
  intro l
  induction l with
  | nil =>
    intro k done a _ _ hk _ hd hB h
    obtain rfl : k = n := by simpa using hk
    exact ⟨⟨by simpa [headMix] using hB, hd⟩, h⟩
  | cons o l ih =>
    intro k done a hk1 hl hk inv hd hB h
    have h0 : ops[k]? = some o := by simpa using (hl 0 (by simp)).symm
    rw [List.length_cons] at hk hB
    simp only [headMix, Bool.and_eq_true] at hB
    have hkn : k < n := by omega
    have hr : k ∈ Region.ready md ops done := by simpa using hB.1.1
    obtain ⟨v, hy, hK⟩ := yieldsIn_of_qOp h0 (show qOp P ops C k (wpQuiet P ops C Lq l) a by unfold qOp; simp only [h0]; exact h)
    refine headQ_first1 h0 hsel hs hc hn hkn (fun d a' hd => mix_ready _ _ _ hd.1.1 hd.1.2) l.length done a inv (hd 0 (by omega)) (Region.free_spec h0 hB.1.2) hr hy (ih (k + 1) _ _ (by omega) ?_ (by omega) (inv.set hr hkn) ?_ hB.2 hK)
    · intro j hj
      have := hl (j + 1) (by simp; omega)
      simpa [Nat.add_assoc, Nat.add_comm 1 j] using this
    · intro j hj
      by_cases e : k = j
      · subst e
        have hks : k < done.size := by rw [inv.size]; omega
        simp [hks]
      · rw [getD_set_ne true e]; exact hd j (by omega)
end
def ovTailB1 (ops : Array Oper) (n : Nat) : Bool :=
  Region.noSelect ops && decide (n < ops.size) && decide (1 ≤ n) && sinkB1 .any ops n && blockB .any ops n && (Region.ready .any ops (Array.replicate ops.size false)).contains 0 && Region.free .any ops (Array.replicate ops.size false) 0
   && headMix .any ops (ops.size - n) (n - 1) 1 ((Array.replicate ops.size false).setIfInBounds 0 true)
/-- as wp_region_ov_tail, where the first operation copies a variable that the last ones use -/
theorem wp_region_ov_tail1 {P : Program} {id : Nat} {Q : Exit → Act → World → Prop} {a : Act} {w : World} {l : List Oper} (n : Nat) (o : Oper) (x : Operand) (hm : P.follows .mixedOrders = true) (hB : ovTailB1 l.toArray n = true)
    (ho : l[0]? = some o) (hop : o.op = .move x) (hgd : o.guard = none)
    (hQ : ∀ (t : Tmp) c v a w, Q (.panic c) (a.put (some t) v) w → Q (.panic c) a w) (hd : ∃ d, o.dst = some d)
    (h : wpQuiet P l.toArray (fun w' => ∃ x, w' = ov w x) (fun a' => ∀ w', (∃ x, w' = ov w x) → wpList P l.toArray Q (l.drop n) a' w') ((l.take n).drop 1) (a.put o.dst (a.eval x))) : (Code.region id l.toArray true).wp P Q a w := by
  simp only [ovTailB1, Bool.and_eq_true, decide_eq_true_eq] at hB
  obtain ⟨⟨⟨⟨⟨⟨⟨hsel, hn⟩, hn1⟩, hs⟩, hc⟩, hr⟩, hf⟩, hlex⟩ := hB
  have hn' : n < l.length := by simpa using hn
  have htl : ((l.take n).drop 1).length = n - 1 := by simp; omega
  have hdl : (l.drop n).length = l.toArray.size - n := by simp
  have inv0 : HeadInv .any l.toArray n (Array.replicate l.toArray.size false) :=
    ⟨by simp, fun j oj _ hl => (by rw [getD_replicate_false] at hl; cases hl), fun t _ ht => getD_in (by simpa using ht) (getD_replicate_false _ _)⟩
  have hr' : 0 ∈ Region.ready .any l.toArray (Array.replicate l.toArray.size false) := by simpa using hr
  have inv1 := inv0.set hr' (show 0 < n by omega)
  have ho' : l.toArray[0]? = some o := by simpa using ho
  have H := headQ_mix1 (P := P) (C := fun w' => ∃ x, w' = ov w x) (md := .any) (g := l.toArray.size - n) hsel hs hc hn ((l.take n).drop 1) 1 _ (a.put o.dst (a.eval x)) (by omega)
    (fun j hj => by rw [htl] at hj; simp [List.getElem?_drop, List.getElem?_take]; rw [if_pos (by omega), Nat.add_comm]) (by rw [htl]; omega) inv1
    (fun j hj => by obtain rfl : j = 0 := by omega
                    simp) (by rw [htl]; exact hlex) h
  refine wp_region_any hm ?_
  have hsz : l.toArray.size = (n - 1 + (l.toArray.size - n)) + 1 := by omega
  rw [hsz]
  obtain ⟨d, hd⟩ := hd
  refine wpAny_first ho' (Region.noSelect_spec hsel) (fun c a w h => by rw [hd] at h; exact hQ d c _ a w h) _ _ a _ (Region.free_spec ho' ?_) ?_ (.inl ⟨?_, fun w => ?_⟩) ?_ (v := a.eval x)
  · rw [← hsz]; exact hf
  · rw [← hsz]; exact hr'
  · simp [Region.wanted, hgd]
  · simp [execOp, hop]
  have H2 := any_of_headQ (Q := Q) (g := l.toArray.size - n) (fun done a' w' hw' hL => by
    have := wpAny_of_mix (md := .any) (Q := Q) hsel hQ (l.drop n) n done a' w' (fun j => by simp [List.getElem?_drop]) (by rw [hdl]; exact hL.1.1) (hL.2 w' hw')
    rwa [hdl] at this) _ _ _ { w with drawn := w.drawn + 1 } (ov_of_below (drew_below w)) H
  rw [htl] at H2
  rw [← hsz]
  exact H2
theorem and_one (a j : Nat) (ha : a < 1000000000) : bits BinOp.and IntKind.i64 ((a : Int) / 2 ^ j) 1 = if a.testBit j then 1 else 0 := by
  have e : ((a : Int) / 2 ^ j) = ((a / 2 ^ j : Nat) : Int) := by simp
  rw [e]
  have hlt : a / 2 ^ j < 1000000000 := Nat.lt_of_le_of_lt (Nat.div_le_self _ _) ha
  have h : bits BinOp.and IntKind.i64 ((a / 2 ^ j : Nat) : Int) 1 = ((a / 2 ^ j &&& 1 : Nat) : Int) := by
    have h1 : (BitVec.ofInt 64 ((a / 2 ^ j : Nat) : Int)) = BitVec.ofNat 64 (a / 2 ^ j) := by rw [BitVec.ofInt_natCast]
    have h2 : (BitVec.ofInt 64 (1 : Int)) = BitVec.ofNat 64 1 := rfl
    show IntKind.i64.wrap ((((BitVec.ofInt 64 ((a / 2 ^ j : Nat) : Int)) &&& (BitVec.ofInt 64 1)).toNat : Nat) : Int) = _
    rw [h1, h2]
    have h3 : (BitVec.ofNat 64 (a / 2 ^ j) &&& BitVec.ofNat 64 1).toNat = (a / 2 ^ j &&& 1) := by
      rw [BitVec.toNat_and, BitVec.toNat_ofNat, BitVec.toNat_ofNat, Nat.mod_eq_of_lt (by omega), Nat.mod_eq_of_lt (by omega)]
    rw [h3]
    apply IntWalk.i64_in
    have : a / 2 ^ j &&& 1 ≤ 1 := Nat.and_le_right
    omega
  rw [h, Nat.and_one_is_mod, Nat.testBit_eq_decide_div_mod_eq]
  by_cases hm : a / 2 ^ j % 2 = 1
  · simp [hm]
  · have : a / 2 ^ j % 2 = 0 := by omega
    simp [this]
theorem or_nat (a b : Nat) (ha : a < 1000000000) (hb : b < 1000000000) : bits BinOp.or IntKind.i64 (a : Int) (b : Int) = ((a ||| b : Nat) : Int) := by
  have h1 : ∀ n : Nat, (BitVec.ofInt 64 ((n : Nat) : Int)) = BitVec.ofNat 64 n := fun n => by rw [BitVec.ofInt_natCast]
  show IntKind.i64.wrap ((((BitVec.ofInt 64 (a : Int)) ||| (BitVec.ofInt 64 (b : Int))).toNat : Nat) : Int) = _
  rw [h1, h1]
  have h3 : (BitVec.ofNat 64 a ||| BitVec.ofNat 64 b).toNat = (a ||| b) := by
    rw [BitVec.toNat_or, BitVec.toNat_ofNat, BitVec.toNat_ofNat, Nat.mod_eq_of_lt (by omega), Nat.mod_eq_of_lt (by omega)]
  rw [h3]
  apply IntWalk.i64_in
  have : a ||| b < 2 ^ 30 := Nat.or_lt_two_pow (by omega) (by omega)
  omega
theorem shl_nat (j : Nat) (hj : j ≤ 29) : wrap64 (2 ^ j) = ((2 ^ j : Nat) : Int) := by
  have h : (2 ^ j : Nat) ≤ 2 ^ 29 := Nat.pow_le_pow_right (by decide) hj
  have e : ((2 : Int) ^ j) = ((2 ^ j : Nat) : Int) := by simp
  rw [e]
  generalize (2 ^ j : Nat) = q at *
  rw [IntWalk.wrap64_in]
  omega
/-- set a has answer j -/
def hasB (a j : Nat) : Bool := a.testBit j
theorem l1Has_any (a : Nat) (y : Int) (w : World) (ha : a < 1000000000) (h0 : 0 ≤ y) (h1 : y ≤ 29) :
    Calls Tryz.prog 179 #[.int .i64 a, .int .i64 y] w fun e w' => e = .returned (.bool (hasB a y.toNat)) ∧ w = w' := by
  obtain ⟨j, rfl⟩ : ∃ j : Nat, y = (j : Int) := ⟨y.toNat, by omega⟩
  have hb := and_one a j ha
  go_enter Tryz.func179, Tryz.ntmps179
  go_wp2
  all_goals go_ret
  all_goals exact ⟨ret_bool (by simp [hasB, *]), rfl⟩
/-- the set of what a list has for the answers of a set -/
def imgTo (a : Nat) (xs : List Int) (k : Nat) : Nat := iter (fun x out => if hasB a x then out ||| 2 ^ (nth xs x).toNat else out) 0 k
/-- the set of the answers to which a list gives an answer of a set -/
def refTo (a : Nat) (xs : List Int) (k : Nat) : Nat := iter (fun x out => if hasB a (nth xs x).toNat then out ||| 2 ^ x else out) 0 k
theorem imgTo_lt (a : Nat) (xs : List Int) (M n : Nat) (h : ∀ x, x < n → 0 ≤ nth xs x ∧ nth xs x < M) (k : Nat) (hk : k ≤ n) : imgTo a xs k < 2 ^ M := by
  induction k with
  | zero => exact Nat.two_pow_pos M
  | succ k ih =>
    have h1 := ih (by omega)
    have h2 := h k (by omega)
    show (if hasB a k then imgTo a xs k ||| 2 ^ (nth xs k).toNat else imgTo a xs k) < 2 ^ M
    split
    · exact Nat.or_lt_two_pow h1 (Nat.pow_lt_pow_right (by decide) (by omega))
    · exact h1
theorem refTo_lt (a : Nat) (xs : List Int) (n : Nat) (k : Nat) (hk : k ≤ n) : refTo a xs k < 2 ^ n := by
  induction k with
  | zero => exact Nat.two_pow_pos n
  | succ k ih =>
    have h1 := ih (by omega)
    show (if hasB a (nth xs k).toNat then refTo a xs k ||| 2 ^ k else refTo a xs k) < 2 ^ n
    split
    · exact Nat.or_lt_two_pow h1 (Nat.pow_lt_pow_right (by decide) (by omega))
    · exact h1
theorem pow_small (k : Nat) (hk : k ≤ 29) : 2 ^ k < 1000000000 := by
  have : 2 ^ k ≤ 2 ^ 29 := Nat.pow_le_pow_right (by decide) hk
  omega
/-- the parts that are moved by T from k sets -/
def mapTo (T : Nat → Nat) (xs : List Int) (N k : Nat) : List Int := iter (fun a l => l.set (T a) (nth l (T a) + nth xs a)) (List.replicate N 0) k
theorem mapTo_len (T : Nat → Nat) (xs : List Int) (N k : Nat) : (mapTo T xs N k).length = N := by
  induction k with
  | zero => simp [mapTo, iter]
  | succ k ih => show ((mapTo T xs N k).set _ _).length = N; rw [List.length_set]; exact ih
theorem mapTo_bd (T : Nat → Nat) (xs : List Int) (N n : Nat) (M : Int) (hM : 0 ≤ M) (h : ∀ a, a < n → 0 ≤ nth xs a ∧ nth xs a ≤ M) (k : Nat) (hk : k ≤ n) (j : Nat) : 0 ≤ nth (mapTo T xs N k) j ∧ nth (mapTo T xs N k) j ≤ M * k := by
  induction k generalizing j with
  | zero => show 0 ≤ nth (List.replicate N 0) j ∧ _; rw [nth_replicate]; simp; show nth (List.replicate N 0) j ≤ 0; rw [nth_replicate]; omega
  | succ k ih =>
    have e : M * ((k + 1 : Nat) : Int) = M * k + M := by rw [Int.natCast_succ, Int.mul_add, Int.mul_one]
    have h1 := ih (by omega) j
    have h2 := ih (by omega) (T k)
    have h3 := h k (by omega)
    show 0 ≤ nth ((mapTo T xs N k).set (T k) (nth (mapTo T xs N k) (T k) + nth xs k)) j ∧ nth ((mapTo T xs N k).set (T k) (nth (mapTo T xs N k) (T k) + nth xs k)) j ≤ _
    rw [nth_set, e]
    split <;> omega
theorem mapTo_congr (T U : Nat → Nat) (xs : List Int) (N n : Nat) (h : ∀ a, a < n → T a = U a) (k : Nat) (hk : k ≤ n) : mapTo T xs N k = mapTo U xs N k := by
  unfold mapTo
  exact iter_congr n (fun a l ha => by rw [h a ha]) k hk
theorem or_pow (out k : Nat) (h1 : out < 1000000000) (hk : k ≤ 29) : bits BinOp.or IntKind.i64 (out : Int) (2 ^ k) = ((out ||| 2 ^ k : Nat) : Int) := by
  have := or_nat out (2 ^ k) h1 (pow_small k hk); simpa using this
set_option maxHeartbeats 400000 in
theorem refClos_any (a B : Nat) (ao : Option Addr) (n c : Nat) (xs : List Int) (w : World) (ha : a < 1000000000) (hB : w.cell? ⟨B, 0, none⟩ = some (.slice ao n c)) (hx : IntsAt w ao n xs) (hn : n ≤ 4) (hb : ∀ k, k < n → 0 ≤ nth xs k ∧ nth xs k ≤ 29) :
    Calls Tryz.prog 261 #[.int .i64 a, .pointer (some ⟨B, 0, none⟩)] w fun e w' => e = .returned (.int .i64 (refTo a xs n)) ∧ w = w' := by
  have hcap := hx.cap
  go_enter Tryz.func261, Tryz.ntmps261
  go_wp2
  go_loop [4, 5, 6, 9] (fun s _ _ i => ∃ k : Nat, k ≤ n ∧ i = .int .i64 k ∧ s = .int .i64 (refTo a xs k)) (fun _ _ _ i => n - (intOf i).toNat)
  case atStart => exact ⟨0, by omega, rfl, rfl⟩
  case round =>
    obtain ⟨k, hk, rfl, rfl⟩ := hrel
    by_cases hlt : k < n
    · obtain ⟨b, off, rfl, hbs, hbs', hck⟩ := hx.at (Below.refl _ _) hlt
      have hxb := hb k hlt
      obtain ⟨y, hy⟩ : ∃ y : Nat, nth xs k = (y : Int) := ⟨(nth xs k).toNat, by omega⟩
      have HY : Hid ((nth xs k).toNat = y) := by show (nth xs k).toNat = y; omega
      rw [hy] at hck hxb
      have hand := and_one a y ha
      have hsl := shl_nat k (by omega)
      have hrl := refTo_lt a xs 29 k (by omega)
      have HO := hid (or_pow (refTo a xs k) k (by omega) (by omega))
      have HS : Hid (refTo a xs (k + 1) = if hasB a y then refTo a xs k ||| 2 ^ k else refTo a xs k) := by rw [← HY.out]; rfl
      clear hy hb
      cases ht : hasB a y
      · have ht' : a.testBit y = false := ht
        go_wp2
        go_round
        case rel => first | exact ⟨k + 1, by omega, by go_num, by rw [HS.out, ht]; rfl⟩ | exact ⟨_, ⟨k + 1, by omega, by go_num, by rw [HS.out, ht]; rfl⟩, rfl⟩ | exact ⟨_, _, ⟨k + 1, by omega, by go_num, by rw [HS.out, ht]; rfl⟩, rfl, rfl⟩ | exact ⟨_, _, _, ⟨k + 1, by omega, by go_num, by rw [HS.out, ht]; rfl⟩, rfl, rfl, rfl⟩ | exact ⟨_, _, _, _, ⟨k + 1, by omega, by go_num, by rw [HS.out, ht]; rfl⟩, rfl, rfl, rfl, rfl⟩ | exact ⟨_, _, _, _, _, ⟨k + 1, by omega, by go_num, by rw [HS.out, ht]; rfl⟩, rfl, rfl, rfl, rfl, rfl⟩
        case measure => simp [intOf]; omega
      · have ht' : a.testBit y = true := ht
        go_wp2
        go_round
        case rel => first | exact ⟨k + 1, by omega, by go_num, by rw [HS.out, ht, HO.out]; rfl⟩ | exact ⟨_, ⟨k + 1, by omega, by go_num, by rw [HS.out, ht, HO.out]; rfl⟩, rfl⟩ | exact ⟨_, _, ⟨k + 1, by omega, by go_num, by rw [HS.out, ht, HO.out]; rfl⟩, rfl, rfl⟩ | exact ⟨_, _, _, ⟨k + 1, by omega, by go_num, by rw [HS.out, ht, HO.out]; rfl⟩, rfl, rfl, rfl⟩ | exact ⟨_, _, _, _, ⟨k + 1, by omega, by go_num, by rw [HS.out, ht, HO.out]; rfl⟩, rfl, rfl, rfl, rfl⟩ | exact ⟨_, _, _, _, _, ⟨k + 1, by omega, by go_num, by rw [HS.out, ht, HO.out]; rfl⟩, rfl, rfl, rfl, rfl, rfl⟩
        case measure => simp [intOf]; omega
    · have hkn : k = n := by omega
      subst hkn
      go_wp2
      go_ret
      exact ⟨rfl, rfl⟩
set_option maxHeartbeats 400000 in
theorem imageOf_any (a : Nat) (ao : Option Addr) (n c : Nat) (xs : List Int) (w : World) (ha : a < 1000000000) (hx : IntsAt w ao n xs) (hn : n ≤ 29) (hb : ∀ k, k < n → 0 ≤ nth xs k ∧ nth xs k ≤ 28) :
    Calls Tryz.prog 224 #[.int .i64 a, .slice ao n c] w fun e w' => e = .returned (.int .i64 (imgTo a xs n)) ∧ w = w' := by
  have hcap := hx.cap
  go_enter Tryz.func224, Tryz.ntmps224
  go_wp2
  go_loop [5, 6, 7, 10] (fun s _ _ i => ∃ k : Nat, k ≤ n ∧ i = .int .i64 k ∧ s = .int .i64 (imgTo a xs k)) (fun _ _ _ i => n - (intOf i).toNat)
  case atStart => exact ⟨0, by omega, rfl, rfl⟩
  case round =>
    obtain ⟨k, hk, rfl, rfl⟩ := hrel
    by_cases hlt : k < n
    · obtain ⟨b, off, rfl, hbs, hbs', hck⟩ := hx.at (Below.refl _ _) hlt
      have hxb := hb k hlt
      obtain ⟨y, hy⟩ : ∃ y : Nat, nth xs k = (y : Int) := ⟨(nth xs k).toNat, by omega⟩
      have HY : Hid ((nth xs k).toNat = y) := by show (nth xs k).toNat = y; omega
      have hrl := imgTo_lt a xs 29 n (fun x hx => by have := hb x hx; omega) k (by omega)
      rw [hy] at hck hxb
      have hand := and_one a k ha
      have hsl := shl_nat y (by omega)
      have HO := hid (or_pow (imgTo a xs k) y (by omega) (by omega))
      have HS : Hid (imgTo a xs (k + 1) = if hasB a k then imgTo a xs k ||| 2 ^ y else imgTo a xs k) := by rw [← HY.out]; rfl
      clear hy hb
      cases ht : hasB a k
      · have ht' : a.testBit k = false := ht
        go_wp2
        go_round
        case rel => first | exact ⟨k + 1, by omega, by go_num, by rw [HS.out, ht]; rfl⟩ | exact ⟨_, ⟨k + 1, by omega, by go_num, by rw [HS.out, ht]; rfl⟩, rfl⟩ | exact ⟨_, _, ⟨k + 1, by omega, by go_num, by rw [HS.out, ht]; rfl⟩, rfl, rfl⟩ | exact ⟨_, _, _, ⟨k + 1, by omega, by go_num, by rw [HS.out, ht]; rfl⟩, rfl, rfl, rfl⟩ | exact ⟨_, _, _, _, ⟨k + 1, by omega, by go_num, by rw [HS.out, ht]; rfl⟩, rfl, rfl, rfl, rfl⟩ | exact ⟨_, _, _, _, _, ⟨k + 1, by omega, by go_num, by rw [HS.out, ht]; rfl⟩, rfl, rfl, rfl, rfl, rfl⟩
        case measure => simp [intOf]; omega
      · have ht' : a.testBit k = true := ht
        go_wp2
        go_round
        case rel => first | exact ⟨k + 1, by omega, by go_num, by rw [HS.out, ht, HO.out]; rfl⟩ | exact ⟨_, ⟨k + 1, by omega, by go_num, by rw [HS.out, ht, HO.out]; rfl⟩, rfl⟩ | exact ⟨_, _, ⟨k + 1, by omega, by go_num, by rw [HS.out, ht, HO.out]; rfl⟩, rfl, rfl⟩ | exact ⟨_, _, _, ⟨k + 1, by omega, by go_num, by rw [HS.out, ht, HO.out]; rfl⟩, rfl, rfl, rfl⟩ | exact ⟨_, _, _, _, ⟨k + 1, by omega, by go_num, by rw [HS.out, ht, HO.out]; rfl⟩, rfl, rfl, rfl, rfl⟩ | exact ⟨_, _, _, _, _, ⟨k + 1, by omega, by go_num, by rw [HS.out, ht, HO.out]; rfl⟩, rfl, rfl, rfl, rfl, rfl⟩
        case measure => simp [intOf]; omega
    · have hkn : k = n := by omega
      subst hkn
      go_wp2
      go_ret
      exact ⟨rfl, rfl⟩
theorem moveClos_any (a B : Nat) (ao : Option Addr) (n c : Nat) (xs : List Int) (w : World) (ha : a < 1000000000) (hB : w.cell? ⟨B, 0, none⟩ = some (.slice ao n c)) (hx : IntsAt w ao n xs) (hn : n ≤ 29) (hb : ∀ k, k < n → 0 ≤ nth xs k ∧ nth xs k ≤ 28) :
    Calls Tryz.prog 223 #[.int .i64 a, .pointer (some ⟨B, 0, none⟩)] w fun e w' => e = .returned (.int .i64 (imgTo a xs n)) ∧ w = w' := by
  go_enter Tryz.func223, Tryz.ntmps223
  go_wp2_with (first | (go_at_call 224; refine (imageOf_any _ _ _ _ _ _ ha hx hn hb).mono ?_; rintro e w' ⟨rfl, rfl⟩))
  go_ret
  exact ⟨rfl, rfl⟩
/-- a list of n answers of a question with so many -/
def answersOk (xs : List Int) (n size : Int) : Bool := allN (fun k => inB 0 (size - 1) (nth xs k)) xs.length && ((xs.length : Int) == n)
theorem areAnswers_any (ao : Option Addr) (n c : Nat) (xs : List Int) (m size : Int) (w : World) (hx : IntsAt w ao n xs) :
    Calls Tryz.prog 240 #[.slice ao n c, .int .i64 m, .int .i64 size] w fun e w' => e = .returned (.bool (answersOk xs m size)) ∧ w = w' := by
  have hcap := hx.cap
  have HL := hid hx.len
  cases ha : allN (fun k => inB 0 (size - 1) (nth xs k)) xs.length
  · obtain ⟨k0, hk0, hbad⟩ := allN_ex ha
    have HE : Hid (answersOk xs m size = false) := by simp [Hid, answersOk, ha]
    rw [HE.out]
    rw [HL.out] at hk0
    have HB := hid hbad
    clear hbad ha
    go_enter Tryz.func240, Tryz.ntmps240
    go_wp2
    go_loop [6, 8, 11] (fun _ _ i => ∃ k : Nat, k ≤ k0 ∧ i = .int .i64 k) (fun _ _ i => n - (intOf i).toNat)
    case atStart => exact ⟨0, by omega, rfl⟩
    case round =>
      obtain ⟨k, hk, rfl⟩ := hrel
      have hlt : k < n := by omega
      obtain ⟨b, off, rfl, hbs, _, hck⟩ := hx.at (Below.refl _ _) hlt
      cases hxb : inB 0 (size - 1) (nth xs k)
      · rcases inB_false.1 hxb with h | h
        · go_wp2
          go_ret
          exact ⟨rfl, rfl⟩
        · have h' : size ≤ nth xs k := by omega
          by_cases h0 : nth xs k < 0
          all_goals
            go_wp2
            go_ret
            exact ⟨rfl, rfl⟩
      · have hxb' := inB_iff.1 hxb
        have h1 : 0 ≤ nth xs k := by omega
        have h2 : nth xs k < size := by omega
        have hne : k ≠ k0 := by rintro rfl; have := HB.out; rw [hxb] at this; cases this
        go_wp2
        go_round
        case rel => first | exact ⟨k + 1, by omega, by go_num⟩ | exact ⟨_, ⟨k + 1, by omega, by go_num⟩, rfl⟩ | exact ⟨_, _, ⟨k + 1, by omega, by go_num⟩, rfl, rfl⟩ | exact ⟨_, _, _, ⟨k + 1, by omega, by go_num⟩, rfl, rfl, rfl⟩ | exact ⟨_, _, _, _, ⟨k + 1, by omega, by go_num⟩, rfl, rfl, rfl, rfl⟩ | exact ⟨_, _, _, _, _, ⟨k + 1, by omega, by go_num⟩, rfl, rfl, rfl, rfl, rfl⟩
        case measure => simp [intOf]; omega
  · have HA := hid ((allN_iff _ _).1 ha)
    have HE : Hid (answersOk xs m size = ((n : Int) == m)) := by show answersOk xs m size = _; unfold answersOk; rw [ha, Bool.true_and, HL.out]
    rw [HE.out]
    clear ha
    go_enter Tryz.func240, Tryz.ntmps240
    go_wp2
    go_loop [6, 8, 11] (fun _ _ i => ∃ k : Nat, k ≤ n ∧ i = .int .i64 k) (fun _ _ i => n - (intOf i).toNat)
    case atStart => exact ⟨0, by omega, rfl⟩
    case round =>
      obtain ⟨k, hk, rfl⟩ := hrel
      by_cases hlt : k < n
      · obtain ⟨b, off, rfl, hbs, _, hck⟩ := hx.at (Below.refl _ _) hlt
        have hxb := HA.out k (by rw [HL.out]; exact hlt)
        have hxb' := inB_iff.1 hxb
        have h1 : 0 ≤ nth xs k := by omega
        have h2 : nth xs k < size := by omega
        go_wp2
        go_round
        case rel => first | exact ⟨k + 1, by omega, by go_num⟩ | exact ⟨_, ⟨k + 1, by omega, by go_num⟩, rfl⟩ | exact ⟨_, _, ⟨k + 1, by omega, by go_num⟩, rfl, rfl⟩ | exact ⟨_, _, _, ⟨k + 1, by omega, by go_num⟩, rfl, rfl, rfl⟩ | exact ⟨_, _, _, _, ⟨k + 1, by omega, by go_num⟩, rfl, rfl, rfl, rfl⟩ | exact ⟨_, _, _, _, _, ⟨k + 1, by omega, by go_num⟩, rfl, rfl, rfl, rfl, rfl⟩
        case measure => simp [intOf]; omega
      · go_wp2
        all_goals go_ret
        all_goals exact ⟨ret_bool (by simp [*]), rfl⟩
theorem keepB {B : Nat} {w1 w2 : World} {b o : Nat} {v : Value} (hb : Below B w1 w2) (hlt : b < B) (h : w1.cell? ⟨b, o, none⟩ = some v) : w2.cell? ⟨b, o, none⟩ = some v := (hb.cell (p := ⟨b, o, none⟩) hlt).trans h
theorem keepBF {B : Nat} {w1 w2 : World} {b o : Nat} (hb : Below B w1 w2) (hlt : b < B) (h : w1.frozen? ⟨b, o, none⟩ = false) : w2.frozen? ⟨b, o, none⟩ = false := (hb.frozen (p := ⟨b, o, none⟩) hlt).trans h
theorem IntsAt.belowB {B : Nat} {w w1 w2 : World} {ao : Option Addr} {n : Nat} {xs : List Int} (h : IntsAt w ao n xs) (h1 : Below w.heap.size w w1) (h2 : Below B w1 w2) (hB : w.heap.size ≤ B) : IntsAt w2 ao n xs :=
  h.below (h1.trans (h2.mono hB))
set_option maxHeartbeats 1000000 in
theorem mapped_any (s size : Int) (ao : Option Addr) (n c : Nat) (xs : List Int) (fid : FuncId) (caps : Array Value) (T : Nat → Nat) (w : World) (hx : IntsAt w ao n xs) (hn : n ≤ 16) (hs : okSize size = true)
    (hcf : ∀ (vs : Array Value) (w' : World), Sem.run Tryz.prog (callFunc fid vs) w' = .ok (.enter fid vs) w')
    (hb : ∀ k, k < n → 0 ≤ nth xs k ∧ nth xs k ≤ 1000000) (hT : ∀ a, a < n → T a < nsets size)
    (hto : ∀ (a : Nat) (w' : World), a < n → Below w.heap.size w w' → Calls Tryz.prog fid (#[.int .i64 a] ++ caps) w' fun e w'' => e = .returned (.int .i64 (T a)) ∧ Below w'.heap.size w' w'') :
    Calls Tryz.prog 184 #[.agg #[.int .i64 s, .slice ao n c], .int .i64 size, .func (.func fid) #[] caps] w fun e w' => RetM (mkMass size (mapTo T xs (nsets size) n)) w.heap.size e w' ∧ Below w.heap.size w w' := by
  have hcap := hx.cap
  have HTO := hid hto; clear hto
  have HT := hid hT; clear hT
  have HBD := hid (mapTo_bd T xs (nsets size) n 1000000 (by omega) hb)
  have hs0 : 1 ≤ size ∧ size ≤ 4 := by rcases okSize_iff.1 hs with h | h | h | h <;> omega
  have hsz := shl_size hs
  have hsn := nsets_le hs
  go_enter Tryz.func184, Tryz.ntmps184
  go_wp2_with (at_make; refine wpList_make_ints rfl _ _ rfl (nsets size) _ _ rfl rfl hsz hsz (by omega) ?_; intro w2 hrow hb2 hz2; (have hp1 := keep hb2 (a := ⟨w.heap.size, 1, none⟩) (v := .slice ao n c) (by simp)))
  have hp0 := keep hb2 (a := ⟨w.heap.size, 0, none⟩) (v := .int .i64 s) (by simp)
  obtain ⟨h10, h11, f20, f21⟩ := boxG (w.heap.size + 1) hb2 (by simp)
  have hB2 : Below w.heap.size w w2 := ((below_alloc w _).alloc (by simp) _).trans (hb2.mono (by simp <;> omega))
  have hrow' : Row w2 (w.heap.size + 1 + 1) (.slice (some ⟨w.heap.size + 1 + 1, 0, none⟩) (nsets size) (nsets size)) (List.replicate (nsets size) 0) := by simpa using hrow
  have hz2' : w.heap.size + 1 + 1 < w2.heap.size := by simpa using hz2
  clear hrow hb2 hz2
  go_loopw [9, 10, 17] (fun _ _ i wr => ∃ k : Nat, k ≤ n ∧ i = .int .i64 k ∧ Row wr (w.heap.size + 1 + 1) (.slice (some ⟨w.heap.size + 1 + 1, 0, none⟩) (nsets size) (nsets size)) (mapTo T xs (nsets size) k) ∧ Below (w.heap.size + 1 + 1) w2 wr) (fun _ _ i _ => n - (intOf i).toNat)
  case atStart => exact ⟨0, by omega, rfl, hrow', Below.refl _ _⟩
  case round =>
    obtain ⟨k, hk, rfl, hr, hBr⟩ := hrel
    have hB : Below w.heap.size w wr := hB2.trans (hBr.mono (by omega))
    by_cases hlt : k < n
    · obtain ⟨b, off, rfl, hbs, hbs', hck⟩ := hx.at hB hlt
      have hxb := hb k hlt
      have hTk := HT.out k hlt
      have hbd := HBD.out k (by omega) (T k)
      have hk16 : (k : Int) ≤ 16 := by omega
      have hlen := hid (mapTo_len T xs (nsets size) k)
      clear hb
      go_wp2_with fail
      refine (HTO.out k wr hlt hB).mono ?_; rintro e w3 ⟨rfl, hb3⟩
      have hr3 := hr.below hb3
      obtain ⟨hc3, hf3, _⟩ := hr3.cellAt hTk
      obtain ⟨w4, hw4, hr4, hg4⟩ := store_gen hr3 hTk (nth (mapTo T xs (nsets size) k) (T k) + nth xs k)
      have hz3 : w.heap.size + 1 + 1 ≤ w3.heap.size := by have := hBr.size; have := hb3.size; omega
      have hB4 := hid (belowG (hBr.trans (hb3.mono (by have := hBr.size; omega))) hz3 hg4 (Nat.le_refl _))
      have HW := hid hw4
      clear hw4 hg4 hr3 hr
      go_wp2
      rw [HW.out]
      go_roundw
      case rel => first | exact ⟨k + 1, by omega, by go_num, hr4, hB4.out⟩ | exact ⟨_, ⟨k + 1, by omega, by go_num, hr4, hB4.out⟩, rfl⟩ | exact ⟨_, _, ⟨k + 1, by omega, by go_num, hr4, hB4.out⟩, rfl, rfl⟩ | exact ⟨_, _, _, ⟨k + 1, by omega, by go_num, hr4, hB4.out⟩, rfl, rfl, rfl⟩ | exact ⟨_, _, _, _, ⟨k + 1, by omega, by go_num, hr4, hB4.out⟩, rfl, rfl, rfl, rfl⟩ | exact ⟨_, _, _, _, _, ⟨k + 1, by omega, by go_num, hr4, hB4.out⟩, rfl, rfl, rfl, rfl, rfl⟩
      case measure => simp [intOf]; omega
    · have hkn : k = n := by omega
      subst hkn
      have hp0' := keepB hBr (by omega) hp0
      have g10 := keepB hBr (by omega) h10
      have g11 := keepB hBr (by omega) h11
      have gf20 := keepBF hBr (by omega) f20
      have gf21 := keepBF hBr (by omega) f21
      obtain ⟨a1, n1, c1, e1, hi⟩ := hr.ints
      injection e1 with e2 e3 e4
      subst e2 e3 e4
      have HB2 := hid (fun j (hj : j < nsets size) => (by have := HBD.out k (Nat.le_refl _) j; omega : 0 ≤ nth (mapTo T xs (nsets size) k) j ∧ nth (mapTo T xs (nsets size) k) j ≤ 4000000000000000000))
      clear h10 h11 f20 f21 hp0 hp1 hb
      go_wp2_with fail
      refine (makeMass_any _ _ _ _ _ _ hi hsn.2 HB2.out).mono ?_
      rintro e w7 ⟨⟨v, rfl, hr7⟩, hb7⟩
      obtain ⟨ao7, n7, c7, rfl, hi7⟩ := hr7.ints
      have hz7 : w.heap.size + 1 + 1 < wr.heap.size := by have := hBr.size; omega
      have h10 := g10
      have h11 := g11
      have f20 := gf20
      have f21 := gf21
      clear g10 g11 gf20 gf21
      replace f20 := keepF hb7 h10 f20
      replace f21 := keepF hb7 h11 f21
      replace h10 := keep hb7 h10
      replace h11 := keep hb7 h11
      have hB7 := chain hB hb7
      go_wp2
      refine bodyPost_ret (by simp [results, Tryz.results184, go_sem, h10, h11]) rfl ⟨⟨_, rfl, ((hr7.setBelow (by simp; omega) _).setBelow (by simp; omega) _).mono (by omega)⟩, ?_⟩
      (repeat (first | exact Below.refl _ _ | assumption | refine Below.alloc ?_ (by simp <;> omega) _ | refine Below.setCell ?_ (by simp <;> omega) _ | refine Below.drew ?_ | refine below_drewN ?_))
theorem refClos_call (vs : Array Value) (w' : World) : Sem.run Tryz.prog (callFunc 261 vs) w' = .ok (.enter 261 vs) w' := by
  have h1 : (Tryz.f261.name == "runtime.NumGoroutine") = false := by kernel_rfl
  have h2 : Tryz.f261.body.isNone = false := by kernel_rfl
  have h1' : ¬ Tryz.f261.name = "runtime.NumGoroutine" := by simpa using h1
  have h2' : ¬ Tryz.f261.body = none := by intro e; rw [e] at h2; simp at h2
  simp only [callFunc, Sem.run_bind, run_program, Result.andThen_ok, Tryz.func261, beq_iff_eq, Option.isNone_iff_eq_none, if_neg h1', if_neg h2', Sem.run_pure]
/-- a mass in which answers are told apart -/
def refineM (s : Int) (xs to : List Int) (size : Int) : MR :=
  if massOk s xs && okSize size && answersOk to size s then mkMass size (mapTo (fun a => refTo a to to.length) xs (nsets size) xs.length) else MR.no
theorem massOk_facts {s : Int} {xs : List Int} (h : massOk s xs = true) : okSize s = true ∧ xs.length = nsets s ∧ xs.length ≤ 16 ∧ (∀ k, k < xs.length → 0 ≤ nth xs k ∧ nth xs k ≤ 1000000) ∧ 1 ≤ isum xs ∧ isum xs ≤ 1000000 ∧ gcdL xs = 1 := by
  simp only [massOk, Bool.and_eq_true, beq_iff_eq] at h
  obtain ⟨⟨⟨⟨h1, h2⟩, h3⟩, h4⟩, h5⟩ := h
  refine ⟨h1, h2, by have := nsets_le h1; omega, fun k hk => inB_iff.1 ((allN_iff _ _).1 h3 k hk), (inB_iff.1 h4).1, (inB_iff.1 h4).2, h5⟩
theorem answersOk_facts {xs : List Int} {n size : Int} (h : answersOk xs n size = true) : (xs.length : Int) = n ∧ ∀ k, k < xs.length → 0 ≤ nth xs k ∧ nth xs k ≤ size - 1 := by
  simp only [answersOk, Bool.and_eq_true, beq_iff_eq] at h
  exact ⟨h.2, fun k hk => inB_iff.1 ((allN_iff _ _).1 h.1 k hk)⟩
set_option maxHeartbeats 1000000 in
theorem RefineMass_any (s size : Int) (ao bo : Option Addr) (n c m d : Nat) (xs to : List Int) (w : World) (hx : IntsAt w ao n xs) (hy : IntsAt w bo m to) :
    Calls Tryz.prog 242 #[.agg #[.int .i64 s, .slice ao n c], .slice bo m d, .int .i64 size] w fun e w' => RetM (refineM s xs to size) w.heap.size e w' ∧ Below w.heap.size w w' := by
  have hxx := hx.below (w' := ((w.alloc (.cells #[.int .i64 s, .slice ao n c] 25)).alloc (.cells #[.slice bo m d] 23)).alloc (.cells #[.int .i64 0, .slice none 0 0] 25)) (((below_alloc w _).alloc (by simp) _).alloc (by simp <;> omega) _)
  cases hm : massOk s xs
  · have HR : Hid (refineM s xs to size = MR.no) := by simp [Hid, refineM, hm]
    rw [HR.out]
    go_enter Tryz.func242, Tryz.ntmps242
    go_wp2_with fail
    refine (isMass_any _ _ _ _ _ _ hxx).mono ?_; rintro e w1 ⟨rfl, hb1⟩
    obtain ⟨h10, h11, f20, f21⟩ := boxG (w.heap.size + 1 + 1) hb1 (by simp)
    have hB1 : Below w.heap.size w w1 := (((below_alloc w _).alloc (by simp) _).alloc (by simp <;> omega) _).trans (hb1.mono (by simp <;> omega))
    clear hb1
    go_wp2
    refine bodyPost_ret (v := .tuple #[.agg #[.int .i64 0, .slice none 0 0], .bool false]) (by simp [results, Tryz.results242, go_sem, h10, h11]) rfl ⟨?_, ?_⟩
    · exact RetM.no _ _
    · (repeat (first | exact Below.refl _ _ | assumption | refine Below.alloc ?_ (by simp <;> omega) _ | refine Below.setCell ?_ (by simp <;> omega) _ | refine Below.drew ?_ | refine below_drewN ?_))
  · obtain ⟨hsz, hlen, h16, hbd, _, _, _⟩ := massOk_facts hm
    have HBD := hid hbd; clear hbd
    cases ho : (okSize size && answersOk to size s)
    · have HR : Hid (refineM s xs to size = MR.no) := by
        show refineM s xs to size = MR.no
        unfold refineM; rw [hm, Bool.true_and, ho]; rfl
      rw [HR.out]
      have ho' : okSize size = false ∨ (okSize size = true ∧ answersOk to size s = false) := by
        cases h1 : okSize size
        · exact .inl rfl
        · rw [h1] at ho; exact .inr ⟨rfl, by simpa using ho⟩
      rcases ho' with h1 | ⟨h1, h2⟩
      all_goals
        go_enter Tryz.func242, Tryz.ntmps242
        go_wp2_with fail
        refine (isMass_any _ _ _ _ _ _ hxx).mono ?_; rintro e w1 ⟨rfl, hb1⟩
        obtain ⟨h10, h11, f20, f21⟩ := boxG (w.heap.size + 1 + 1) hb1 (by simp)
        have hB1 : Below w.heap.size w w1 := (((below_alloc w _).alloc (by simp) _).alloc (by simp <;> omega) _).trans (hb1.mono (by simp <;> omega))
        have hq := keep hb1 (a := ⟨w.heap.size + 1, 0, none⟩) (v := .slice bo m d) (by simp)
        have hp0 := keep hb1 (a := ⟨w.heap.size, 0, none⟩) (v := .int .i64 s) (by simp)
        have hy1 := hy.below hB1
        clear hb1
        go_wp2_with (first | (go_at_call 88; refine (isSize_any _ _).mono ?_; rintro e w' ⟨rfl, rfl⟩) | (go_at_call 240; refine (areAnswers_any _ _ _ _ _ _ _ hy1).mono ?_; rintro e w' ⟨rfl, rfl⟩))
        refine bodyPost_ret (v := .tuple #[.agg #[.int .i64 0, .slice none 0 0], .bool false]) (by simp [results, Tryz.results242, go_sem, h10, h11]) rfl ⟨?_, ?_⟩
        · exact RetM.no _ _
        · (repeat (first | exact Below.refl _ _ | assumption | refine Below.alloc ?_ (by simp <;> omega) _ | refine Below.setCell ?_ (by simp <;> omega) _ | refine Below.drew ?_ | refine below_drewN ?_))
    · have hs2 : okSize size = true := by cases h1 : okSize size <;> simp [h1] at ho; rfl
      have ha2 : answersOk to size s = true := by rw [hs2] at ho; simpa using ho
      have HR : Hid (refineM s xs to size = mkMass size (mapTo (fun a => refTo a to m) xs (nsets size) n)) := by
        show refineM s xs to size = _
        unfold refineM; rw [hm, hs2, ha2, hy.len, hx.len]; rfl
      rw [HR.out]
      obtain ⟨htl, htb⟩ := answersOk_facts ha2
      have hs4 : s ≤ 4 ∧ size ≤ 4 ∧ 1 ≤ size := by
        have h1 := okSize_iff.1 hsz; have h2 := okSize_iff.1 hs2; omega
      have hm4 : m ≤ 4 := by have := hy.len; omega
      have hml := hid hy.len
      have hnl := hid hx.len
      have HTB : Hid (∀ k, k < m → 0 ≤ nth to k ∧ nth to k ≤ 29) := fun k hk => by have := htb k (by rw [hml.out]; exact hk); omega
      have hns : nsets size = 2 ^ m := by
        have := hml.out
        have e : size.toNat = m := by omega
        unfold nsets; rw [e]
      have HNS := hid hns
      clear htb htl hns ho
      go_enter Tryz.func242, Tryz.ntmps242
      go_wp2_with fail
      refine (isMass_any _ _ _ _ _ _ hxx).mono ?_; rintro e w1 ⟨rfl, hb1⟩
      obtain ⟨h10, h11, f20, f21⟩ := boxG (w.heap.size + 1 + 1) hb1 (by simp)
      have hB1 : Below w.heap.size w w1 := (((below_alloc w _).alloc (by simp) _).alloc (by simp <;> omega) _).trans (hb1.mono (by simp <;> omega))
      have hq := keep hb1 (a := ⟨w.heap.size + 1, 0, none⟩) (v := .slice bo m d) (by simp)
      have hp0 := keep hb1 (a := ⟨w.heap.size, 0, none⟩) (v := .int .i64 s) (by simp)
      have hp1 := keep hb1 (a := ⟨w.heap.size, 1, none⟩) (v := .slice ao n c) (by simp)
      have hy1 := hy.below hB1
      have hx1 := hx.below hB1
      have hz1 : w.heap.size + 1 + 1 < w1.heap.size := by have := World.block_lt_of_cell? w1 _ h10; simpa using this
      clear hb1
      go_wp2_with (first | (go_at_call 88; refine (isSize_any _ _).mono ?_; rintro e w' ⟨rfl, rfl⟩) | (go_at_call 240; refine (areAnswers_any _ _ _ _ _ _ _ hy1).mono ?_; rintro e w' ⟨rfl, rfl⟩) | (go_at_call 184; fail))
      refine (mapped_any s size ao n c xs 261 #[.pointer (some ⟨w.heap.size + 1, 0, none⟩)] (fun a => refTo a to m) w1 hx1 (by rw [← hnl.out]; exact h16) hs2 refClos_call (fun k hk => HBD.out k (by rw [hnl.out]; exact hk)) (fun a _ => by rw [HNS.out]; exact refTo_lt _ _ _ _ (Nat.le_refl _)) (fun a w' ha hb => ?_)).mono ?_
      · exact (refClos_any a _ _ _ _ _ w' (by have := hnl.out; omega) (keep hb hq) (hy1.below hb) hm4 HTB.out).mono fun e w'' ⟨he, hw⟩ => ⟨he, below_of_eq hw⟩
      rintro e w7 ⟨⟨v, rfl, hr7⟩, hb7⟩
      obtain ⟨ao7, n7, c7, rfl, hi7⟩ := hr7.ints
      replace f20 := keepF hb7 h10 f20
      replace f21 := keepF hb7 h11 f21
      replace h10 := keep hb7 h10
      replace h11 := keep hb7 h11
      have hB7 := chain hB1 hb7
      go_wp2
      refine bodyPost_ret (by simp [results, Tryz.results242, go_sem, h10, h11]) rfl ⟨⟨_, rfl, ((hr7.setBelow (by simp; omega) _).setBelow (by simp; omega) _).mono (by omega)⟩, ?_⟩
      (repeat (first | exact Below.refl _ _ | assumption | refine Below.alloc ?_ (by simp <;> omega) _ | refine Below.setCell ?_ (by simp <;> omega) _ | refine Below.drew ?_ | refine below_drewN ?_))
end Go.Proofs.YtefmlbahmakboaaGreatDoor
