/- How a slice of integers reads in memory, and what it means that a call owns one. -/
import Derived.Test.YtefmlbahmakboaaGreatDoorP0
import Derived.Deep.QuietTactic
import Derived.BigQuiet
import Derived.Deep.RegionLaw
import Derived.Deep.RegionHeld3
import Derived.Deep.AppendLies
import Derived.StillTail
set_option linter.unusedSimpArgs false
set_option linter.unusedVariables false
namespace Go.Proofs.YtefmlbahmakboaaGreatDoor
open Go.RowKit

theorem below_drewN {B : Nat} {a w : World} {n : Nat} (h : Below B a w) : Below B a (w.drewN n) := ⟨h.os, h.tape, h.output, h.size, h.block⟩
theorem below_alloc (w : World) (o : Obj) : Below w.heap.size w (w.alloc o) := (Below.refl _ _).alloc (Nat.le_refl _) o
theorem bcell {W w1 : World} {B : Nat} (hb : Below B W w1) : (∀ b o, b < B → w1.cell? ⟨b, o, none⟩ = W.cell? ⟨b, o, none⟩) ∧ (∀ b o, b < B → w1.frozen? ⟨b, o, none⟩ = W.frozen? ⟨b, o, none⟩) :=
  ⟨fun b o h => hb.cell (p := ⟨b, o, none⟩) h, fun b o h => hb.frozen (p := ⟨b, o, none⟩) h⟩

structure More where
  bl : Array Obj
  dr : Nat
instance : Inhabited More := ⟨⟨#[], 0⟩⟩
/-- the world W with new blocks behind its own, and another count of draws: every world of 'Below W.heap.size W' is one -/
def ov (W : World) (x : More) : World := { W with heap := W.heap ++ x.bl, drawn := x.dr }
theorem ov_below (W : World) (x : More) : Below W.heap.size W (ov W x) :=
  ⟨rfl, rfl, rfl, by simp [ov], fun k hk => by simp only [ov]; rw [Array.getElem?_append_left hk]⟩
theorem ov_of_below {W w' : World} (h : Below W.heap.size W w') : ∃ x, w' = ov W x := by
  refine ⟨⟨w'.heap.extract W.heap.size w'.heap.size, w'.drawn⟩, ?_⟩
  obtain ⟨h1, h2, h3, h4, h5⟩ := h
  cases w' with
  | mk heap tape drawn os output =>
    simp only at h1 h2 h3 h4 h5
    subst h1; subst h2; subst h3
    have : heap = W.heap ++ heap.extract W.heap.size heap.size := by
      apply Array.ext_getElem?
      intro k
      rw [Array.getElem?_append]
      by_cases hk : k < W.heap.size
      · rw [if_pos hk, h5 k hk]
      · rw [if_neg hk, Array.getElem?_extract]
        by_cases hk2 : k < heap.size
        · rw [if_pos (by omega)]; congr 1; omega
        · rw [if_neg (by omega), Array.getElem?_eq_none (by omega)]
    simp only [ov]
    rw [← this]
@[simp, go_sem] theorem cell?_ov (W : World) (x : More) (b o : Nat) (h : b < W.heap.size) : (ov W x).cell? ⟨b, o, none⟩ = W.cell? ⟨b, o, none⟩ := (ov_below W x).cell (p := ⟨b, o, none⟩) h
@[simp, go_sem] theorem frozen?_ov (W : World) (x : More) (b o : Nat) (h : b < W.heap.size) : (ov W x).frozen? ⟨b, o, none⟩ = W.frozen? ⟨b, o, none⟩ := (ov_below W x).frozen (p := ⟨b, o, none⟩) h
@[simp, go_sem] theorem cell?_ov_some (W : World) (x : More) (b o : Nat) (h : (W.cell? ⟨b, o, none⟩).isSome = true) : (ov W x).cell? ⟨b, o, none⟩ = W.cell? ⟨b, o, none⟩ := by
  obtain ⟨u, hu⟩ := Option.isSome_iff_exists.1 h
  exact cell?_ov W x b o (World.block_lt_of_cell? W ⟨b, o, none⟩ hu)
@[simp, go_sem] theorem frozen?_ov_some (W : World) (x : More) (b o : Nat) (h : (W.cell? ⟨b, o, none⟩).isSome = true) : (ov W x).frozen? ⟨b, o, none⟩ = W.frozen? ⟨b, o, none⟩ := by
  obtain ⟨u, hu⟩ := Option.isSome_iff_exists.1 h
  exact frozen?_ov W x b o (World.block_lt_of_cell? W ⟨b, o, none⟩ hu)
@[simp, go_sem] theorem cell?_alloc_kept (W : World) (x : Obj) (b o : Nat) (h : (W.cell? ⟨b, o, none⟩).isSome = true) : (W.alloc x).cell? ⟨b, o, none⟩ = W.cell? ⟨b, o, none⟩ := by
  obtain ⟨u, hu⟩ := Option.isSome_iff_exists.1 h
  exact World.cell?_alloc_lt W x ⟨b, o, none⟩ (World.block_lt_of_cell? W ⟨b, o, none⟩ hu)
@[simp, go_sem] theorem frozen?_alloc_kept (W : World) (x : Obj) (b o : Nat) (h : (W.cell? ⟨b, o, none⟩).isSome = true) : (W.alloc x).frozen? ⟨b, o, none⟩ = W.frozen? ⟨b, o, none⟩ := by
  obtain ⟨u, hu⟩ := Option.isSome_iff_exists.1 h
  exact (below_alloc W x).frozen (p := ⟨b, o, none⟩) (World.block_lt_of_cell? W ⟨b, o, none⟩ hu)
@[simp, go_sem] theorem size_ov (W : World) (x : More) : (ov W x).heap.size = W.heap.size + x.bl.size := by simp [ov]
theorem ov_gen (W : World) (x : More) : ∃ w1, ov W x = w1 ∧ Below W.heap.size W w1 := ⟨_, rfl, ov_below W x⟩
theorem ov_call {P : Program} {f : FuncId} {args : Array Value} {W : World} {x : More} {v : Value}
    (h : Calls P f args (ov W x) fun e w' => e = .returned v ∧ Below (ov W x).heap.size (ov W x) w') : Calls P f args (ov W x) fun e w'' => e = .returned v ∧ ∃ y, w'' = ov W y :=
  h.mono fun _ _ ⟨he, hb⟩ => ⟨he, ov_of_below ((ov_below W x).trans (hb.mono (ov_below W x).size))⟩
theorem ov_same {P : Program} {f : FuncId} {args : Array Value} {W : World} {x : More} {v : Value}
    (h : Calls P f args (ov W x) fun e w' => e = .returned v ∧ ov W x = w') : Calls P f args (ov W x) fun e w'' => e = .returned v ∧ ∃ y, w'' = ov W y :=
  h.mono fun _ _ ⟨he, hb⟩ => ⟨he, x, hb.symm⟩
theorem drew_below (w : World) : Below w.heap.size w { w with drawn := w.drawn + 1 } := ⟨rfl, rfl, rfl, Nat.le_refl _, fun _ _ => rfl⟩
/-- a region that draws its order, whose operations read and whose calls make memory at most: walked once, in the text's order -/
theorem wp_region_ov {P : Program} {id : Nat} {Q : Exit → Act → World → Prop} {a : Act} {w : World} {l : List Oper} (hm : P.follows .mixedOrders = true) (hB : Region.lexB .any l.toArray = true)
    (h : wpQuiet P l.toArray (fun w' => ∃ x, w' = ov w x) (fun a' => ∀ w', (∃ x, w' = ov w x) → Q .normal a' w') l a) : (Code.region id l.toArray true).wp P Q a w :=
  wp_region_quiet (C := fun w' => ∃ x, w' = ov w x) hm hB (ov_of_below (drew_below w)) (by simpa using h)

/-! A region whose last operations write: what stands ahead of them reads, and makes memory at most. -/
section
variable {P : Program} {ops : Array Oper} {md : Region.Mode} {C : World → Prop}
/-- so many of the operations below number n come up, in whatever order; behind them L -/
def headQ (P : Program) (md : Region.Mode) (ops : Array Oper) (C : World → Prop) (n : Nat) (L : Array Bool → Act → Prop) : Nat → Array Bool → Act → Prop
  | 0, done, a => L done a
  | f + 1, done, a => Region.ready md ops done ≠ [] ∧ ∀ j, j ∈ Region.ready md ops done → j < n ∧ qOp P ops C j (headQ P md ops C n L f (done.setIfInBounds j true)) a
theorem any_of_headQ {n g : Nat} {L : Array Bool → Act → Prop} {Q : Exit → Act → World → Prop} (hL : ∀ done a w, C w → L done a → wpAny P md ops Q g done a w) :
    ∀ (f : Nat) (done : Array Bool) (a : Act) (w : World), C w → headQ P md ops C n L f done a → wpAny P md ops Q (f + g) done a w := by
  intro f
  induction f with
  | zero => intro done a w hw h; rw [Nat.zero_add]; exact hL done a w hw h
  | succ f ih =>
    intro done a w hw ⟨hne, hall⟩
    rw [Nat.succ_add]
    exact ⟨fun he => (hne he).elim, fun j hj => wpOp_of_qOp hw (fun a' w' hw' h' => ih _ a' w' hw' h') (hall j hj).2⟩
/-- each operation behind number n waits for one from n on -/
def blockB (md : Region.Mode) (ops : Array Oper) (n : Nat) : Bool :=
  (List.range ops.size).all fun t => decide (t ≤ n) || (List.range t).any fun j => decide (n ≤ j) && Region.waitsFor md ops t j
theorem block_waits {n : Nat} {done : Array Bool} (hs : Region.sinkB md ops n = true) (hc : blockB md ops n = true) (hn : n < ops.size) (inv : HeadInv md ops n done) :
    ∀ (d i : Nat), n - i = d → i < n → done.getD i true = false → ∀ t, n ≤ t → t ∉ Region.ready md ops done := by
  intro d
  induction d using Nat.strongRecOn with
  | _ d ih =>
    intro i hd hi hun t ht hr
    obtain ⟨_, ot, hot, hall⟩ := mem_ready.1 hr
    have htlt : t < ops.size := (Array.getElem?_eq_some_iff.1 hot).1
    rcases Nat.eq_or_lt_of_le ht with he | hlt
    · subst he
      obtain ⟨j, hj, hj2⟩ := List.any_eq_true.1 (List.all_eq_true.1 hs i (List.mem_range.2 hi))
      simp only [Bool.and_eq_true, decide_eq_true_eq] at hj2
      obtain ⟨oj, hoj, e, he, hb, hon⟩ := Region.waitsFor_spec hj2.2
      have hjn : j < n + 1 := List.mem_range.1 hj
      have done_false : done.getD j false = true → False := fun hl => by
        have := inv.closed j oj hoj hl e he hb
        rw [hon, getD_both hun] at this
        cases this
      rcases Nat.eq_or_lt_of_le (Nat.le_of_lt_succ hjn) with hjt | hjt
      · subst hjt
        obtain rfl : oj = ot := Option.some.inj (hoj.symm.trans hot)
        have := hall e he hb
        rw [hon, getD_both hun] at this
        cases this
      · cases hl : done.getD j false with
        | true => exact done_false hl
        | false => exact ih (n - j) (by omega) j rfl hjt (getD_in (by rw [inv.size]; omega) hl) n (Nat.le_refl _) hr
    · have h1 := List.all_eq_true.1 hc t (List.mem_range.2 htlt)
      simp only [Bool.or_eq_true, decide_eq_true_eq] at h1
      rcases h1 with h1 | h1
      · omega
      · obtain ⟨j, hj, hj2⟩ := List.any_eq_true.1 h1
        simp only [Bool.and_eq_true, decide_eq_true_eq] at hj2
        obtain ⟨o', ho', e, he, hb, hon⟩ := Region.waitsFor_spec hj2.2
        obtain rfl : o' = ot := Option.some.inj (ho'.symm.trans hot)
        have h2 := hall e he hb
        rw [hon, getD_both (inv.tail j hj2.1 (by have := List.mem_range.1 hj; omega))] at h2
        cases h2
/-- operation i may be taken first -/
theorem headQ_first {n i : Nat} {oi : Oper} {v : Value} {L : Array Bool → Act → Prop} (ho : ops[i]? = some oi) (hsel : Region.noSelect ops = true)
    (hs : Region.sinkB md ops n = true) (hc : blockB md ops n = true) (hn : n < ops.size) (hin : i < n) (hL : ∀ done a, L done a → ∀ j, j ∈ Region.ready md ops done → n ≤ j) :
    ∀ (f : Nat) (done : Array Bool) (a : Act), HeadInv md ops n done →
      (∀ j oj, ops[j]? = some oj → j ≠ i → done.getD j true = false → (∀ e, e ∈ oj.after → Region.binds md e = true → e.on ≠ i) → oi.apart ops oj = true) →
      i ∈ Region.ready md ops done → YieldsIn P ops C oi v a → headQ P md ops C n L f (done.setIfInBounds i true) (a.put oi.dst v) → headQ P md ops C n L (f + 1) done a := by
  intro f
  induction f with
  | zero =>
    intro done a inv _ hr hy H
    refine ⟨List.ne_nil_of_mem hr, fun j hj => ?_⟩
    have hjn : j < n := Nat.lt_of_not_le fun hle => block_waits hs hc hn inv _ i rfl hin (mem_ready.1 hr).1 j hle hj
    refine ⟨hjn, ?_⟩
    by_cases e : j = i
    · rw [e]; exact hy.qOp ho H
    · exact absurd (hL _ _ H j (ready_mono hj e)) (Nat.not_le.2 hjn)
  | succ f ih =>
    intro done a inv hfree hr hy H
    have hun := (mem_ready.1 hr).1
    refine ⟨List.ne_nil_of_mem hr, fun j hj => ?_⟩
    have hjn : j < n := Nat.lt_of_not_le fun hle => block_waits hs hc hn inv _ i rfl hin hun j hle hj
    refine ⟨hjn, ?_⟩
    by_cases e : j = i
    · rw [e]; exact hy.qOp ho H
    · obtain ⟨hju, oj, hoj, hw⟩ := mem_ready.1 hj
      have hno : ∀ x, x ∈ oj.after → Region.binds md x = true → x.on ≠ i := by
        intro x hx hb he
        have := hw x hx hb
        rw [he, getD_both hun] at this
        cases this
      have hstep := qOp_put hoj (hfree j oj hoj e hju hno) (Region.noSelect_spec hsel i oi · · ho) (Region.noSelect_spec hsel j oj · · hoj) hy (H.2 j (ready_mono hj e)).2
      refine qOp_mono (fun a' ha' => ih _ a' (inv.set hj hjn) ?_ (ready_mono hr (Ne.symm e)) ha'.1 ?_) hstep
      · intro k ok hk hki hu hno'
        refine hfree k ok hk hki ?_ hno'
        by_cases ej : j = k
        · rw [← ej]; exact hju
        · rwa [getD_set_ne true ej] at hu
      · rw [Array.setIfInBounds_comm _ _ e]; exact ha'.2
end
/-! The last operations in the text's order: each is the only one that may come up, or takes a component out of a tuple. -/
theorem extract_yields {P : Program} {o : Oper} {a : Act} {t : Operand} {ix : Nat} (ho : o.op = .extract t ix) :
    (∃ v, ∀ w, (execOp a.eval o).run P w = .ok (.value v) w) ∨ (∀ w, ¬ ∃ x, (execOp a.eval o).run P w = .ok x w) ∧ (∀ w K Q, ¬ o.wp P a w K Q) := by
  unfold Oper.wp execOp
  rw [ho]
  simp only [Instr.extract]
  cases a.eval t with
  | tuple vs =>
    cases h : vs[ix]? with
    | some v => exact .inl ⟨v, fun w => by simp [h]⟩
    | none => exact .inr ⟨fun w => by simp [h], fun w K Q => by simp [h, Oper.upon]⟩
  | _ => exact .inr ⟨fun w => by simp, fun w K Q => by simp [Oper.upon]⟩
theorem extract_asks {P : Program} {o : Oper} {a : Act} {w : World} {t : Operand} {ix : Nat} (ho : o.op = .extract t ix) : ¬ o.asks P a w := by
  unfold Oper.asks execOp
  rw [ho]
  simp only [Instr.extract]
  rintro ⟨h, -⟩
  revert h
  cases a.eval t with
  | tuple vs =>
    simp only
    cases vs[ix]? with
    | some v => intro hm; change noRoomEvent ∈ #[] at hm; simp at hm
    | none => intro hm; change noRoomEvent ∈ #[] at hm; simp at hm
  | _ => intro hm; change noRoomEvent ∈ #[] at hm; simp at hm
def isExtract (o : Oper) : Bool := match o.op, o.dst with | .extract _ _, some _ => true | _, _ => false
section
variable {P : Program} {ops : Array Oper} {md : Region.Mode}
def mixTail (md : Region.Mode) (ops : Array Oper) : Nat → Nat → Array Bool → Bool
  | 0, _, done => (Region.ready md ops done).isEmpty
  | g + 1, k, done => (decide (Region.ready md ops done = [k]) || (((ops[k]?).map isExtract).getD false && (Region.ready md ops done).contains k && Region.free md ops done k)) && mixTail md ops g (k + 1) (done.setIfInBounds k true)
theorem wpAny_of_mix {Q : Exit → Act → World → Prop} (hsel : Region.noSelect ops = true) (hQ : ∀ (t : Tmp) c v a w, Q (.panic c) (a.put (some t) v) w → Q (.panic c) a w) :
    ∀ (l : List Oper) (k : Nat) (done : Array Bool) (a : Act) (w : World), (∀ j, l[j]? = ops[k + j]?) → mixTail md ops l.length k done = true → wpList P ops Q l a w → wpAny P md ops Q l.length done a w := by
  intro l
  induction l with
  | nil => intro k done a w _ hB h; exact ⟨by simpa [mixTail] using hB, h⟩
  | cons o l ih =>
    intro k done a w hl hB h
    have h0 : ops[k]? = some o := by simpa using (hl 0).symm
    have hl' : ∀ j, l[j]? = ops[k + 1 + j]? := fun j => by have := hl (j + 1); simpa [Nat.add_assoc, Nat.add_comm 1 j] using this
    simp only [List.length_cons, mixTail, Bool.and_eq_true, Bool.or_eq_true, decide_eq_true_eq] at hB
    obtain ⟨hB1, hB2⟩ := hB
    rcases hB1 with hB1 | ⟨⟨he, hr⟩, hf⟩
    · refine ⟨fun h1 => (by rw [hB1] at h1; cases h1), fun i hi => ?_⟩
      rw [hB1] at hi
      obtain rfl : i = k := by simpa using hi
      have hw : wpOp P ops Q i (wpList P ops Q l) a w := by unfold wpOp; simp only [h0]; exact h
      exact wpOp_mono (fun a' w' h' => ih (i + 1) _ a' w' hl' hB2 h') hw
    · have hr' : k ∈ Region.ready md ops done := by simpa using hr
      simp only [h0, Option.map_some, Option.getD_some] at he
      obtain ⟨t, ix, d, hop, hd⟩ : ∃ t ix d, o.op = .extract t ix ∧ o.dst = some d := by
        unfold isExtract at he
        split at he
        · rename_i t ix d h1 h2; exact ⟨t, ix, d, h1, h2⟩
        · cases he
      simp only [wpList] at h
      by_cases hwant : Region.wanted o (yielded ops a.tmps) = true
      · simp only [hwant, if_true] at h
        rcases h with h | h
        · rcases extract_yields (P := P) (a := a) hop with ⟨v, hv⟩ | ⟨_, hno⟩
          · have h2 : wpList P ops Q l (a.put o.dst v) w := by unfold Oper.wp at h; rw [hv w] at h; exact h
            exact wpAny_first h0 (Region.noSelect_spec hsel) (fun c a w h => by rw [hd] at h; exact hQ d c _ a w h) l.length done a w (Region.free_spec h0 hf) hr' (.inl ⟨hwant, hv⟩) (ih (k + 1) _ _ _ hl' hB2 h2)
          · exact absurd h (hno _ _ _)
        · exact absurd h.1 (extract_asks hop)
      · simp only [hwant] at h
        exact wpAny_first h0 (Region.noSelect_spec hsel) (fun c a w h => by rw [hd] at h; exact hQ d c _ a w h) l.length done a w (Region.free_spec h0 hf) hr' (.inr ⟨by simpa using hwant, rfl⟩) (ih (k + 1) _ _ _ hl' hB2 (by simpa using h))
end
section
variable {P : Program} {ops : Array Oper} {md : Region.Mode} {C : World → Prop}
def headMix (md : Region.Mode) (ops : Array Oper) (g : Nat) : Nat → Nat → Array Bool → Bool
  | 0, k, done => mixTail md ops g k done
  | f + 1, k, done => (Region.ready md ops done).contains k && Region.free md ops done k && headMix md ops g f (k + 1) (done.setIfInBounds k true)
theorem mix_ready : ∀ (g k : Nat) (done : Array Bool), mixTail md ops g k done = true → (∀ j, j < k → done.getD j true = true) → ∀ j, j ∈ Region.ready md ops done → k ≤ j := by
  intro g k done _ hd j hj
  rcases Nat.lt_or_ge j k with h | h
  · have := (mem_ready.1 hj).1
    rw [hd j h] at this
    cases this
  · exact h
theorem headQ_mix {n g : Nat} {Lq : Act → Prop} (hsel : Region.noSelect ops = true) (hs : Region.sinkB md ops n = true) (hc : blockB md ops n = true) (hn : n < ops.size) :
    ∀ (l : List Oper) (k : Nat) (done : Array Bool) (a : Act), (∀ j, j < l.length → l[j]? = ops[k + j]?) → k + l.length = n → HeadInv md ops n done → (∀ j, j < k → done.getD j true = true) →
      headMix md ops g l.length k done = true → wpQuiet P ops C Lq l a → headQ P md ops C n (fun d a' => (mixTail md ops g n d = true ∧ ∀ j, j < n → d.getD j true = true) ∧ Lq a') l.length done a := by
  intro l
  induction l with
  | nil =>
    intro k done a _ hk _ hd hB h
    obtain rfl : k = n := by simpa using hk
    exact ⟨⟨by simpa [headMix] using hB, hd⟩, h⟩
  | cons o l ih =>
    intro k done a hl hk inv hd hB h
    have h0 : ops[k]? = some o := by simpa using (hl 0 (by simp)).symm
    rw [List.length_cons] at hk hB
    simp only [headMix, Bool.and_eq_true] at hB
    have hkn : k < n := by omega
    have hr : k ∈ Region.ready md ops done := by simpa using hB.1.1
    obtain ⟨v, hy, hK⟩ := yieldsIn_of_qOp h0 (show qOp P ops C k (wpQuiet P ops C Lq l) a by unfold qOp; simp only [h0]; exact h)
    refine headQ_first h0 hsel hs hc hn hkn (fun d a' hd => mix_ready _ _ _ hd.1.1 hd.1.2) l.length done a inv (Region.free_spec h0 hB.1.2) hr hy (ih (k + 1) _ _ ?_ (by omega) (inv.set hr hkn) ?_ hB.2 hK)
    · intro j hj
      have := hl (j + 1) (by simp; omega)
      simpa [Nat.add_assoc, Nat.add_comm 1 j] using this
    · intro j hj
      by_cases e : k = j
      · subst e
        have hks : k < done.size := by rw [inv.size]; omega
        simp [hks]
      · rw [getD_set_ne true e]; exact hd j (by omega)
end
def ovTailB (ops : Array Oper) (n : Nat) : Bool :=
  Region.noSelect ops && decide (n < ops.size) && Region.sinkB .any ops n && blockB .any ops n && headMix .any ops (ops.size - n) n 0 (Array.replicate ops.size false)
/-- a region that draws its order, whose first n operations read and whose calls among them make memory at most: these once, in the text's order, then the others in the text's order -/
theorem wp_region_ov_tail {P : Program} {id : Nat} {Q : Exit → Act → World → Prop} {a : Act} {w : World} {l : List Oper} (n : Nat) (hm : P.follows .mixedOrders = true) (hB : ovTailB l.toArray n = true)
    (hQ : ∀ (t : Tmp) c v a w, Q (.panic c) (a.put (some t) v) w → Q (.panic c) a w)
    (h : wpQuiet P l.toArray (fun w' => ∃ x, w' = ov w x) (fun a' => ∀ w', (∃ x, w' = ov w x) → wpList P l.toArray Q (l.drop n) a' w') (l.take n) a) : (Code.region id l.toArray true).wp P Q a w := by
  simp only [ovTailB, Bool.and_eq_true, decide_eq_true_eq] at hB
  obtain ⟨⟨⟨⟨hsel, hn⟩, hs⟩, hc⟩, hlex⟩ := hB
  have hn' : n < l.length := by simpa using hn
  have htl : (l.take n).length = n := by simp; omega
  have hdl : (l.drop n).length = l.toArray.size - n := by simp
  have inv0 : HeadInv .any l.toArray n (Array.replicate l.toArray.size false) :=
    ⟨by simp, fun j oj _ hl => (by rw [getD_replicate_false] at hl; cases hl), fun t _ ht => getD_in (by simpa using ht) (getD_replicate_false _ _)⟩
  have H := headQ_mix (md := .any) (g := l.toArray.size - n) hsel hs hc hn (l.take n) 0 _ a (fun j hj => by rw [htl] at hj; simp [hj]) (by simpa using htl) inv0 (fun j hj => by omega) (by rw [htl]; exact hlex) h
  refine wp_region_any hm ?_
  have H2 := any_of_headQ (Q := Q) (g := l.toArray.size - n) (fun done a' w' hw' hL => by
    have := wpAny_of_mix (md := .any) (Q := Q) hsel hQ (l.drop n) n done a' w' (fun j => by simp [List.getElem?_drop]) (by rw [hdl]; exact hL.1.1) (hL.2 w' hw')
    rwa [hdl] at this) _ _ _ { w with drawn := w.drawn + 1 } (ov_of_below (drew_below w)) H
  rw [htl, show n + (l.toArray.size - n) = l.toArray.size by omega] at H2
  exact H2

/-- a cell that is there stays -/
theorem keep {w1 w2 : World} {a : Addr} {v : Value} (hb : Below w1.heap.size w1 w2) (h : w1.cell? a = some v) : w2.cell? a = some v :=
  (hb.cell (World.block_lt_of_cell? w1 a h)).trans h
theorem keepF {w1 w2 : World} {a : Addr} {v : Value} (hb : Below w1.heap.size w1 w2) (h : w1.cell? a = some v) (hf : w1.frozen? a = false) : w2.frozen? a = false :=
  (hb.frozen (World.block_lt_of_cell? w1 a h)).trans hf
theorem chain {w w1 w2 : World} (hB : Below w.heap.size w w1) (hb : Below w1.heap.size w1 w2) : Below w.heap.size w w2 := hB.trans (hb.mono hB.size)
/-- what a box of two cells holds -/
theorem box2 {w w1 : World} {a b : Value} {t : TypeId} (hb : Below (w.alloc (.cells #[a, b] t)).heap.size (w.alloc (.cells #[a, b] t)) w1) :
    w1.cell? ⟨w.heap.size, 0, none⟩ = some a ∧ w1.cell? ⟨w.heap.size, 1, none⟩ = some b ∧ Below w.heap.size w w1 :=
  ⟨keep hb (by simp), keep hb (by simp), (below_alloc w _).trans (hb.mono (by simp))⟩

theorem box2f {w w1 : World} {a b : Value} {t : TypeId} (hb : Below (w.alloc (.cells #[a, b] t)).heap.size (w.alloc (.cells #[a, b] t)) w1) :
    w1.cell? ⟨w.heap.size, 0, none⟩ = some a ∧ w1.cell? ⟨w.heap.size, 1, none⟩ = some b ∧ w1.frozen? ⟨w.heap.size, 0, none⟩ = false ∧ w1.frozen? ⟨w.heap.size, 1, none⟩ = false ∧ Below w.heap.size w w1 :=
  ⟨keep hb (by simp), keep hb (by simp), keepF hb (v := a) (by simp) (by simp), keepF hb (v := b) (by simp) (by simp), (below_alloc w _).trans (hb.mono (by simp))⟩

/-- a slice value '.slice ao n c' reads as the integers xs -/
structure IntsAt (w : World) (ao : Option Addr) (n : Nat) (xs : List Int) : Prop where
  len : xs.length = n
  cap : n ≤ 9223372036854775807
  cell : 0 < n → ∃ b off, ao = some ⟨b, off, none⟩ ∧ b < w.heap.size ∧ ∀ k, k < n → w.cell? ⟨b, off + k, none⟩ = some (.int .i64 (nth xs k))
theorem IntsAt.below {w w' : World} {ao n xs} (h : IntsAt w ao n xs) (hb : Below w.heap.size w w') : IntsAt w' ao n xs := by
  refine ⟨h.len, h.cap, fun hn => ?_⟩
  obtain ⟨b, off, rfl, hbs, hc⟩ := h.cell hn
  exact ⟨b, off, rfl, Nat.lt_of_lt_of_le hbs hb.size, fun k hk => (hb.cell (p := ⟨b, off + k, none⟩) hbs).trans (hc k hk)⟩
theorem IntsAt.at {w w' : World} {ao n xs} (h : IntsAt w ao n xs) (hb : Below w.heap.size w w') {k : Nat} (hk : k < n) :
    ∃ b off, ao = some ⟨b, off, none⟩ ∧ b < w.heap.size ∧ b < w'.heap.size ∧ w'.cell? ⟨b, off + k, none⟩ = some (.int .i64 (nth xs k)) := by
  obtain ⟨b, off, e, hbs, hc⟩ := h.cell (by omega)
  exact ⟨b, off, e, hbs, Nat.lt_of_lt_of_le hbs hb.size, (hb.cell (p := ⟨b, off + k, none⟩) hbs).trans (hc k hk)⟩

/-- a slice literal that was just made -/
theorem ints_lit (W : World) (cs : Array Value) (t : TypeId) (xs : List Int) (g n : Nat) (hg : g = W.heap.size) (hcs : cs = (xs.map (Value.int .i64)).toArray) (hn : xs.length = n) (hs : n ≤ 1000000) :
    IntsAt (W.alloc (.cells cs t)) (some ⟨g, 0, none⟩) n xs := by
  subst hg; subst hcs
  refine ⟨hn, by omega, fun h0 => ⟨_, _, rfl, by simp, fun k hk => ?_⟩⟩
  simp [nth, hn, hk]

theorem info_int : (Tryz.prog.info? 3).map (fun i => (i.zero, i.size, i.bytes)) = some (some (.int .i64 0), 1, 8) := by kernel_rfl

/-- v owns the integers xs, in a block from 'base' on -/
def Row (w : World) (base : Nat) (v : Value) (xs : List Int) : Prop := w.ownsRow base 3 1 v xs.length (xs.map (Value.int .i64))
theorem Row.nil (w : World) (base : Nat) : Row w base (.slice none 0 0) [] := World.ownsRow_nil _ _ _ _
theorem Row.mono {w : World} {base base' : Nat} {v xs} (h : Row w base v xs) (hb : base' ≤ base) : Row w base' v xs := by
  refine ⟨h.1, ?_⟩
  rcases h.2 with h2 | ⟨g, cap, cur, hv, hg, r⟩
  · exact .inl h2
  · exact .inr ⟨g, cap, cur, hv, Nat.le_trans hb hg, r⟩
theorem Row.grown {w w' : World} {base : Nat} {v xs} {row : Option Nat} (h : Row w base v xs) (hg : w.grownBy w' row) (hne : v.ownBlock = none ∨ v.ownBlock ≠ row) : Row w' base v xs := World.ownsRow.kept h hg hne
theorem Row.below {w w' : World} {base : Nat} {v xs} (h : Row w base v xs) (hb : Below w.heap.size w w') : Row w' base v xs := by
  refine ⟨h.1, ?_⟩
  rcases h.2 with h2 | ⟨g, cap, cur, hv, hg, hh, r⟩
  · exact .inl h2
  · exact .inr ⟨g, cap, cur, hv, hg, by rw [hb.block g (lt_of_block hh)]; exact hh, r⟩
/-- what an owned value looks like; it reads as its integers -/
theorem Row.ints {w : World} {base : Nat} {v xs} (h : Row w base v xs) : ∃ ao n c, v = .slice ao n c ∧ IntsAt w ao n xs := by
  have hsz : xs.length ≤ maxLen := by
    rcases h.2 with ⟨_, h0⟩ | ⟨g, cap, cur, hv, hg, hh, hn, hc, _⟩ <;> omega
  rcases h.2 with ⟨rfl, h0⟩ | ⟨g, cap, cur, rfl, hg, hh, hn, hc, hs, ht⟩
  · exact ⟨none, 0, 0, rfl, h0, by omega, fun h => by omega⟩
  · refine ⟨_, _, _, rfl, rfl, by unfold maxLen at hsz; omega, fun _ => ⟨g, 0, rfl, lt_of_block hh, fun k hk => ?_⟩⟩
    have e := World.ownsRow.cells h (g := g) rfl k (.int .i64 (nth xs k)) (by simp [hk, nth])
    have ha : (⟨g, 0, none⟩ : Addr).add k = ⟨g, 0 + k, none⟩ := by unfold Addr.add; split <;> simp_all
    rw [← ha]; exact e
theorem Row.form {w : World} {base : Nat} {v xs} (h : Row w base v xs) (hn : 0 < xs.length) :
    ∃ g c, v = .slice (some ⟨g, 0, none⟩) xs.length c ∧ base ≤ g ∧ g < w.heap.size ∧ IntsAt w (some ⟨g, 0, none⟩) xs.length xs := by
  obtain ⟨g, c, rfl, h1, h2⟩ := World.ownsRow.form h hn
  obtain ⟨ao, n, c', e, hi⟩ := h.ints
  injection e with e1 e2 e3
  subst e1; subst e2
  exact ⟨g, c, rfl, h1, h2, hi⟩
theorem Row.block {w : World} {base : Nat} {v xs} (h : Row w base v xs) : ∀ k, v.ownBlock = some k → base ≤ k ∧ k < w.heap.size := World.ownsRow.lt h

/-- one integer appended -/
theorem wp_append_int {o : Oper} {a : Act} {w : World} {K : Act → World → Prop} {Q : Exit → Act → World → Prop} (s x : Operand)
    (ho : o.op = .call { callee := .builtin .append, args := #[s, x], argTypes := #[23, 23] })
    (base : Nat) (v : Value) (xs : List Int) (n : Nat) (hl : xs.length = n) (hs : a.eval s = v) (hown : Row w base v xs)
    (ad : Addr) (c : Nat) (q : Int) (hx : a.eval x = .slice (some ad) 1 c) (hnew : w.cell? ad = some (.int .i64 q))
    (hn : n < 1000000000) (hbase : base ≤ w.heap.size)
    (h : ∀ g cap w', Row w' base (.slice (some ⟨g, 0, none⟩) (n + 1) cap) (xs ++ [q]) → w.grownBy w' v.ownBlock → K (a.put o.dst (.slice (some ⟨g, 0, none⟩) (n + 1) cap)) w') : o.wp Tryz.prog a w K Q := by
  obtain ⟨i0, hi, hz0, hz1, hz2⟩ := info_parts info_int
  subst hl
  refine wp_append_lies w s x 23 ho base 3 i0 (.int .i64 0) 1 8 Tryz.underlying23 hi hz0 hz1 hz2 rfl (by decide) v xs.length _ hs hown ad 1 c [.int .i64 q] hx rfl ?_ ?_ (by decide) (by unfold maxLen; omega) (by omega) hbase _ rfl fun g cap w' h1 h2 _ _ => h g cap w' ?_ h2
  · intro j u hj
    match j, hj with
    | 0, hj => simp at hj; subst hj; simpa [Addr.add] using hnew
  · intro u hu; simp at hu; subst hu; rfl
  · simpa [Row] using h1
/-- .. at a step of a region that draws -/
theorem step_append_int {ops : Array Oper} {o : Oper} {a : Act} {w : World} {K : Act → World → Prop} {Q : Exit → Act → World → Prop} {E : Prop} (hgd : o.guard = none) (s x : Operand)
    (ho : o.op = .call { callee := .builtin .append, args := #[s, x], argTypes := #[23, 23] })
    (base : Nat) (v : Value) (xs : List Int) (n : Nat) (hl : xs.length = n) (hs : a.eval s = v) (hown : Row w base v xs)
    (ad : Addr) (c : Nat) (q : Int) (hx : a.eval x = .slice (some ad) 1 c) (hnew : w.cell? ad = some (.int .i64 q))
    (hn : n < 1000000000) (hbase : base ≤ w.heap.size)
    (h : ∀ g cap w', Row w' base (.slice (some ⟨g, 0, none⟩) (n + 1) cap) (xs ++ [q]) → w.grownBy w' v.ownBlock → K (a.put o.dst (.slice (some ⟨g, 0, none⟩) (n + 1) cap)) w') :
    if Region.wanted o (yielded ops a.tmps) = true then Oper.wp Tryz.prog o a w K Q else E := by
  have hw : Region.wanted o (yielded ops a.tmps) = true := by simp [Region.wanted, hgd]
  rw [if_pos hw]
  exact wp_append_int s x ho base v xs n hl hs hown ad c q hx hnew hn hbase h
/-- .. in a plain region -/
theorem wpList_append_int {ops : Array Oper} {rest : List Oper} {o : Oper} {a : Act} {w : World} {Q : Exit → Act → World → Prop} (hgd : o.guard = none) (s x : Operand)
    (ho : o.op = .call { callee := .builtin .append, args := #[s, x], argTypes := #[23, 23] })
    (base : Nat) (v : Value) (xs : List Int) (n : Nat) (hl : xs.length = n) (hs : a.eval s = v) (hown : Row w base v xs)
    (ad : Addr) (c : Nat) (q : Int) (hx : a.eval x = .slice (some ad) 1 c) (hnew : w.cell? ad = some (.int .i64 q))
    (hn : n < 1000000000) (hbase : base ≤ w.heap.size)
    (h : ∀ g cap w', Row w' base (.slice (some ⟨g, 0, none⟩) (n + 1) cap) (xs ++ [q]) → w.grownBy w' v.ownBlock → wpList Tryz.prog ops Q rest (a.put o.dst (.slice (some ⟨g, 0, none⟩) (n + 1) cap)) w') :
    wpList Tryz.prog ops Q (o :: rest) a w :=
  wpList_plain hgd fun _ hK => wp_append_int s x ho base v xs n hl hs hown ad c q hx hnew hn hbase fun g cap w' h1 h2 => hK _ _ (h g cap w' h1 h2)
end Go.Proofs.YtefmlbahmakboaaGreatDoor
