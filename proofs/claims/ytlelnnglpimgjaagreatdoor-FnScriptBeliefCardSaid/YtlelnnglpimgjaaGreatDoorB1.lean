/- A law for a region that draws its order, whose first operation copies a variable that the last ones use: 'append(out, f(x))'. -/
import Derived.Test.YtlelnnglpimgjaaGreatDoorB0
set_option linter.unusedSimpArgs false
set_option linter.unusedVariables false
namespace Go.Proofs.YtlelnnglpimgjaaGreatDoor
open Go.RowKit
section
variable {P : Program} {ops : Array Oper} {md : Region.Mode} {C : World → Prop}
/-- each operation below n, but for number 0, is waited for by a later one up to n -/
def sinkB1 (md : Region.Mode) (ops : Array Oper) (n : Nat) : Bool :=
  (List.range n).all fun i => (i == 0) || (List.range (n + 1)).any fun j => decide (i < j) && Region.waitsFor md ops j i
theorem block_waits1 {n : Nat} {done : Array Bool} (hs : sinkB1 md ops n = true) (hc : blockB md ops n = true) (hn : n < ops.size) (inv : HeadInv md ops n done) (h0 : done.getD 0 true = true) :
    ∀ (d i : Nat), n - i = d → i < n → done.getD i true = false → ∀ t, n ≤ t → t ∉ Region.ready md ops done := by
  intro d
  induction d using Nat.strongRecOn with
  | _ d ih =>
    intro i hd hi hun t ht hr
    obtain ⟨_, ot, hot, hall⟩ := mem_ready.1 hr
    have htlt : t < ops.size := (Array.getElem?_eq_some_iff.1 hot).1
    have hi0 : i ≠ 0 := by rintro rfl; rw [h0] at hun; cases hun
    rcases Nat.eq_or_lt_of_le ht with he | hlt
    · subst he
      have h1 := List.all_eq_true.1 hs i (List.mem_range.2 hi)
      simp only [Bool.or_eq_true, beq_iff_eq] at h1
      obtain ⟨j, hj, hj2⟩ := List.any_eq_true.1 (h1.resolve_left hi0)
      simp only [Bool.and_eq_true, decide_eq_true_eq] at hj2
      obtain ⟨oj, hoj, e, he, hb, hon⟩ := Region.waitsFor_spec hj2.2
      have hjn : j < n + 1 := List.mem_range.1 hj
      have done_false : done.getD j false = true → False := fun hl => by
        have := inv.closed j oj hoj hl e he hb
        rw [hon, getD_both hun] at this
        cases this
      rcases Nat.eq_or_lt_of_le (Nat.le_of_lt_succ hjn) with hjt | hjt
      · subst hjt
        obtain rfl : oj = ot := Option.some.inj (hoj.symm.trans hot)
        have := hall e he hb
        rw [hon, getD_both hun] at this
        cases this
      · cases hl : done.getD j false with
        | true => exact done_false hl
        | false => exact ih (n - j) (by omega) j rfl hjt (getD_in (by rw [inv.size]; omega) hl) n (Nat.le_refl _) hr
    · have h1 := List.all_eq_true.1 hc t (List.mem_range.2 htlt)
      simp only [Bool.or_eq_true, decide_eq_true_eq] at h1
      rcases h1 with h1 | h1
      · omega
      · obtain ⟨j, hj, hj2⟩ := List.any_eq_true.1 h1
        simp only [Bool.and_eq_true, decide_eq_true_eq] at hj2
        obtain ⟨o', ho', e, he, hb, hon⟩ := Region.waitsFor_spec hj2.2
        obtain rfl : o' = ot := Option.some.inj (ho'.symm.trans hot)
        have h2 := hall e he hb
        rw [hon, getD_both (inv.tail j hj2.1 (by have := List.mem_range.1 hj; omega))] at h2
        cases h2
theorem getD_keep {done : Array Bool} {i j : Nat} (h : done.getD i true = true) : (done.setIfInBounds j true).getD i true = true := by
  by_cases e : j = i
  · subst e
    by_cases hs : j < done.size
    · simp [hs]
    · simp [Array.getElem?_eq_none (Nat.le_of_not_lt hs)]
  · rw [getD_set_ne true e]; exact h
theorem headQ_first1 {n i : Nat} {oi : Oper} {v : Value} {L : Array Bool → Act → Prop} (ho : ops[i]? = some oi) (hsel : Region.noSelect ops = true)
    (hs : sinkB1 md ops n = true) (hc : blockB md ops n = true) (hn : n < ops.size) (hin : i < n) (hL : ∀ done a, L done a → ∀ j, j ∈ Region.ready md ops done → n ≤ j) :
    ∀ (f : Nat) (done : Array Bool) (a : Act), HeadInv md ops n done → done.getD 0 true = true →
      (∀ j oj, ops[j]? = some oj → j ≠ i → done.getD j true = false → (∀ e, e ∈ oj.after → Region.binds md e = true → e.on ≠ i) → oi.apart ops oj = true) →
      i ∈ Region.ready md ops done → YieldsIn P ops C oi v a → headQ P md ops C n L f (done.setIfInBounds i true) (a.put oi.dst v) → headQ P md ops C n L (f + 1) done a := by
  intro f
  induction f with
  | zero =>
    intro done a inv hd0 _ hr hy H
    refine ⟨List.ne_nil_of_mem hr, fun j hj => ?_⟩
    have hjn : j < n := Nat.lt_of_not_le fun hle => block_waits1 hs hc hn inv hd0 _ i rfl hin (mem_ready.1 hr).1 j hle hj
    refine ⟨hjn, ?_⟩
    by_cases e : j = i
    · rw [e]; exact hy.qOp ho H
    · exact absurd (hL _ _ H j (ready_mono hj e)) (Nat.not_le.2 hjn)
  | succ f ih =>
    intro done a inv hd0 hfree hr hy H
    have hun := (mem_ready.1 hr).1
    refine ⟨List.ne_nil_of_mem hr, fun j hj => ?_⟩
    have hjn : j < n := Nat.lt_of_not_le fun hle => block_waits1 hs hc hn inv hd0 _ i rfl hin hun j hle hj
    refine ⟨hjn, ?_⟩
    by_cases e : j = i
    · rw [e]; exact hy.qOp ho H
    · obtain ⟨hju, oj, hoj, hw⟩ := mem_ready.1 hj
      have hno : ∀ x, x ∈ oj.after → Region.binds md x = true → x.on ≠ i := by
        intro x hx hb he
        have := hw x hx hb
        rw [he, getD_both hun] at this
        cases this
      have hstep := qOp_put hoj (hfree j oj hoj e hju hno) (Region.noSelect_spec hsel i oi · · ho) (Region.noSelect_spec hsel j oj · · hoj) hy (H.2 j (ready_mono hj e)).2
      refine qOp_mono (fun a' ha' => ih _ a' (inv.set hj hjn) (getD_keep hd0) ?_ (ready_mono hr (Ne.symm e)) ha'.1 ?_) hstep
      · intro k ok hk hki hu hno'
        refine hfree k ok hk hki ?_ hno'
        by_cases ej : j = k
        · rw [← ej]; exact hju
        · rwa [getD_set_ne true ej] at hu
      · rw [Array.setIfInBounds_comm _ _ e]; exact ha'.2
theorem headQ_mix1 {n g : Nat} {Lq : Act → Prop} (hsel : Region.noSelect ops = true) (hs : sinkB1 md ops n = true) (hc : blockB md ops n = true) (hn : n < ops.size) :
    ∀ (l : List Oper) (k : Nat) (done : Array Bool) (a : Act), 1 ≤ k → (∀ j, j < l.length → l[j]? = ops[k + j]?) → k + l.length = n → HeadInv md ops n done → (∀ j, j < k → done.getD j true = true) →
      headMix md ops g l.length k done = true → wpQuiet P ops C Lq l a → headQ P md ops C n (fun d a' => (mixTail md ops g n d = true ∧ ∀ j, j < n → d.getD j true = true) ∧ Lq a') l.length done a := by
  intro l
  induction l with
  | nil =>
    intro k done a _ _ hk _ hd hB h
    obtain rfl : k = n := by simpa using hk
    exact ⟨⟨by simpa [headMix] using hB, hd⟩, h⟩
  | cons o l ih =>
    intro k done a hk1 hl hk inv hd hB h
    have h0 : ops[k]? = some o := by simpa using (hl 0 (by simp)).symm
    rw [List.length_cons] at hk hB
    simp only [headMix, Bool.and_eq_true] at hB
    have hkn : k < n := by omega
    have hr : k ∈ Region.ready md ops done := by simpa using hB.1.1
    obtain ⟨v, hy, hK⟩ := yieldsIn_of_qOp h0 (show qOp P ops C k (wpQuiet P ops C Lq l) a by unfold qOp; simp only [h0]; exact h)
    refine headQ_first1 h0 hsel hs hc hn hkn (fun d a' hd => mix_ready _ _ _ hd.1.1 hd.1.2) l.length done a inv (hd 0 (by omega)) (Region.free_spec h0 hB.1.2) hr hy (ih (k + 1) _ _ (by omega) ?_ (by omega) (inv.set hr hkn) ?_ hB.2 hK)
    · intro j hj
      have := hl (j + 1) (by simp; omega)
      simpa [Nat.add_assoc, Nat.add_comm 1 j] using this
    · intro j hj
      by_cases e : k = j
      · subst e
        have hks : k < done.size := by rw [inv.size]; omega
        simp [hks]
      · rw [getD_set_ne true e]; exact hd j (by omega)
end
def ovTailB1 (ops : Array Oper) (n : Nat) : Bool :=
  Region.noSelect ops && decide (n < ops.size) && decide (1 ≤ n) && sinkB1 .any ops n && blockB .any ops n && (Region.ready .any ops (Array.replicate ops.size false)).contains 0 && Region.free .any ops (Array.replicate ops.size false) 0
   && headMix .any ops (ops.size - n) (n - 1) 1 ((Array.replicate ops.size false).setIfInBounds 0 true)
/-- as wp_region_ov_tail, where the first operation copies a variable that the last ones use -/
theorem wp_region_ov_tail1 {P : Program} {id : Nat} {Q : Exit → Act → World → Prop} {a : Act} {w : World} {l : List Oper} (n : Nat) (o : Oper) (x : Operand) (hm : P.follows .mixedOrders = true) (hB : ovTailB1 l.toArray n = true)
    (ho : l[0]? = some o) (hop : o.op = .move x) (hgd : o.guard = none)
    (hQ : ∀ (t : Tmp) c v a w, Q (.panic c) (a.put (some t) v) w → Q (.panic c) a w) (hd : ∃ d, o.dst = some d)
    (h : wpQuiet P l.toArray (fun w' => ∃ x, w' = ov w x) (fun a' => ∀ w', (∃ x, w' = ov w x) → wpList P l.toArray Q (l.drop n) a' w') ((l.take n).drop 1) (a.put o.dst (a.eval x))) : (Code.region id l.toArray true).wp P Q a w := by
  simp only [ovTailB1, Bool.and_eq_true, decide_eq_true_eq] at hB
  obtain ⟨⟨⟨⟨⟨⟨⟨hsel, hn⟩, hn1⟩, hs⟩, hc⟩, hr⟩, hf⟩, hlex⟩ := hB
  have hn' : n < l.length := by simpa using hn
  have htl : ((l.take n).drop 1).length = n - 1 := by simp; omega
  have hdl : (l.drop n).length = l.toArray.size - n := by simp
  have inv0 : HeadInv .any l.toArray n (Array.replicate l.toArray.size false) :=
    ⟨by simp, fun j oj _ hl => (by rw [getD_replicate_false] at hl; cases hl), fun t _ ht => getD_in (by simpa using ht) (getD_replicate_false _ _)⟩
  have hr' : 0 ∈ Region.ready .any l.toArray (Array.replicate l.toArray.size false) := by simpa using hr
  have inv1 := inv0.set hr' (show 0 < n by omega)
  have ho' : l.toArray[0]? = some o := by simpa using ho
  have H := headQ_mix1 (P := P) (C := fun w' => ∃ x, w' = ov w x) (md := .any) (g := l.toArray.size - n) hsel hs hc hn ((l.take n).drop 1) 1 _ (a.put o.dst (a.eval x)) (by omega)
    (fun j hj => by rw [htl] at hj; simp [List.getElem?_drop, List.getElem?_take]; rw [if_pos (by omega), Nat.add_comm]) (by rw [htl]; omega) inv1
    (fun j hj => by obtain rfl : j = 0 := by omega
                    simp) (by rw [htl]; exact hlex) h
  refine wp_region_any hm ?_
  have hsz : l.toArray.size = (n - 1 + (l.toArray.size - n)) + 1 := by omega
  rw [hsz]
  obtain ⟨d, hd⟩ := hd
  refine wpAny_first ho' (Region.noSelect_spec hsel) (fun c a w h => by rw [hd] at h; exact hQ d c _ a w h) _ _ a _ (Region.free_spec ho' ?_) ?_ (.inl ⟨?_, fun w => ?_⟩) ?_ (v := a.eval x)
  · rw [← hsz]; exact hf
  · rw [← hsz]; exact hr'
  · simp [Region.wanted, hgd]
  · simp [execOp, hop]
  have H2 := any_of_headQ (Q := Q) (g := l.toArray.size - n) (fun done a' w' hw' hL => by
    have := wpAny_of_mix (md := .any) (Q := Q) hsel hQ (l.drop n) n done a' w' (fun j => by simp [List.getElem?_drop]) (by rw [hdl]; exact hL.1.1) (hL.2 w' hw')
    rwa [hdl] at this) _ _ _ { w with drawn := w.drawn + 1 } (ov_of_below (drew_below w)) H
  rw [htl] at H2
  rw [← hsz]
  exact H2
end Go.Proofs.YtlelnnglpimgjaaGreatDoor
