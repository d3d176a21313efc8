/- Taking a load first in a drawn region whose last operations write the cell that it reads: what is kept till a later operation p that waits for the load. The memory of a search for a flow: where the flow, what is left and what is due lie; a queue that is cut at its head and grows at its end. -/
import Derived.OrdersHeld
import Derived.Test.YtefmlbahmakboaaGreatDoorP0
import Derived.Test.YtefmlbahmakboaaGreatDoorF2
import Derived.Test.YtefmlbahmakboaaGreatDoorL2
import Derived.Test.YtefmlbahmakboaaGreatDoorD2
import Derived.ArgAppend
set_option linter.unusedSimpArgs false
set_option linter.unusedVariables false
namespace Go.Proofs.YtefmlbahmakboaaGreatDoor
open Go.RowKit
section
variable {P : Program} {md : Region.Mode} {ops : Array Oper} {Q : Exit → Act → World → Prop} {S T : World → Prop} {p : Nat}
/-- whatever order is picked: S holds behind every operation, T behind every one till p comes up -/
def wpAnyP (P : Program) (md : Region.Mode) (ops : Array Oper) (Q : Exit → Act → World → Prop) (S T : World → Prop) (p : Nat) : Nat → Array Bool → Act → World → Prop
  | 0, listed, a, w => Region.ready md ops listed = [] ∧ Q .normal a w
  | fuel + 1, listed, a, w =>
    (Region.ready md ops listed = [] → Q .normal a w) ∧
    ∀ i ∈ Region.ready md ops listed, wpOp P ops Q i (fun a' w' => (S w' ∧ ((listed.setIfInBounds i true).getD p true = false → T w')) ∧ wpAnyP P md ops Q S T p fuel (listed.setIfInBounds i true) a' w') a w
theorem wpAny_of_P : ∀ (fuel : Nat) (listed : Array Bool) (a : Act) (w : World), wpAnyP P md ops Q S T p fuel listed a w → wpAny P md ops Q fuel listed a w
  | 0, _, _, _, h => h
  | fuel + 1, _, _, _, h => ⟨h.1, fun i hi => wpOp_mono (fun a' w' h' => wpAny_of_P fuel _ a' w' h'.2) (h.2 i hi)⟩
theorem wpAnyP_first {i : Nat} {oi : Oper} {v : Value} (hi : ops[i]? = some oi) (hsel : ∀ (j : Nat) (o : Oper) cs b, ops[j]? = some o → o.op ≠ .select cs b)
    (hQ : ∀ c a w, Q (.panic c) (a.put oi.dst v) w → Q (.panic c) a w) (hip : i ≠ p) (hwait : ∀ op, ops[p]? = some op → ∃ e ∈ op.after, Region.binds md e = true ∧ e.on = i) :
    ∀ (fuel : Nat) (listed : Array Bool) (a : Act) (w : World),
      (∀ j oj, ops[j]? = some oj → j ≠ i → listed.getD j true = false → (∀ e ∈ oj.after, Region.binds md e = true → e.on ≠ i) → oi.apart ops oj = true) →
      i ∈ Region.ready md ops listed → listed.getD p true = false → YieldsIf P ops (fun w => S w ∧ T w) oi v a → S w ∧ T w →
      wpAnyP P md ops Q S T p fuel (listed.setIfInBounds i true) (a.put oi.dst v) w → wpAnyP P md ops Q S T p (fuel + 1) listed a w := by
  intro fuel
  induction fuel with
  | zero =>
    intro listed a w _ hr hp hy hS H
    refine ⟨fun h => (by rw [h] at hr; cases hr), fun j hj => ?_⟩
    by_cases hji : j = i
    · subst hji; exact hy.wpOp hi hS ⟨⟨hS.1, fun _ => hS.2⟩, H⟩
    · have := ready_mono hj hji
      rw [H.1] at this
      cases this
  | succ fuel ih =>
    intro listed a w hfree hr hp hy hS H
    refine ⟨fun h => (by rw [h] at hr; cases hr), fun j hj => ?_⟩
    by_cases hji : j = i
    · subst hji; exact hy.wpOp hi hS ⟨⟨hS.1, fun _ => hS.2⟩, H⟩
    · have h1 := H.2 j (ready_mono hj hji)
      obtain ⟨hjun, oj, hoj, hall⟩ := mem_ready.1 hj
      have hnot : ∀ e ∈ oj.after, Region.binds md e = true → e.on ≠ i := fun e he hb heq => by
        have h1 := hall e he hb
        have h0 := (mem_ready.1 hr).1
        rw [heq] at h1
        rcases Nat.lt_or_ge i listed.size with h' | h'
        · simp [h'] at h0 h1; rw [h0] at h1; cases h1
        · simp [Array.getElem?_eq_none h'] at h1
      have hjp : j ≠ p := by
        intro e; subst e
        obtain ⟨e, he, hb, heq⟩ := hwait oj hoj
        exact hnot e he hb heq
      have h2 := wpOp_putIf hoj (hfree j oj hoj hji hjun hnot) (fun cs b => hsel i oi cs b hi) (fun cs b => hsel j oj cs b hoj) hQ hy h1
      have hfree' : ∀ k ok, ops[k]? = some ok → k ≠ i → (listed.setIfInBounds j true).getD k true = false →
          (∀ e ∈ ok.after, Region.binds md e = true → e.on ≠ i) → oi.apart ops ok = true := fun k ok hk hki hun hno => by
        refine hfree k ok hk hki ?_ hno
        by_cases hjk : j = k
        · subst hjk; exact hjun
        · rw [getD_set_ne true hjk] at hun; exact hun
      have hp1 : (listed.setIfInBounds j true).getD p true = false := by rw [getD_set_ne true hjp]; exact hp
      have hp2 : ((listed.setIfInBounds i true).setIfInBounds j true).getD p true = false := by rw [getD_set_ne true hjp, getD_set_ne true hip]; exact hp
      refine wpOp_mono (fun a' w' h3 => ⟨⟨h3.2.1.1, fun _ => h3.2.1.2 hp2⟩, ih (listed.setIfInBounds j true) a' w' hfree' (ready_mono hr (Ne.symm hji)) hp1 h3.1 ⟨h3.2.1.1, h3.2.1.2 hp2⟩ ?_⟩) h2
      rw [Array.setIfInBounds_comm _ _ hji]
      exact h3.2.2
theorem wpAnyP_firstS {i : Nat} {oi : Oper} {v : Value} (hi : ops[i]? = some oi) (hsel : ∀ (j : Nat) (o : Oper) cs b, ops[j]? = some o → o.op ≠ .select cs b)
    (hQ : ∀ c a w, Q (.panic c) (a.put oi.dst v) w → Q (.panic c) a w) (hip : i ≠ p) :
    ∀ (fuel : Nat) (listed : Array Bool) (a : Act) (w : World),
      (∀ j oj, ops[j]? = some oj → j ≠ i → listed.getD j true = false → (∀ e ∈ oj.after, Region.binds md e = true → e.on ≠ i) → oi.apart ops oj = true) →
      i ∈ Region.ready md ops listed → YieldsIf P ops S oi v a → S w → (listed.getD p true = false → T w) →
      wpAnyP P md ops Q S T p fuel (listed.setIfInBounds i true) (a.put oi.dst v) w → wpAnyP P md ops Q S T p (fuel + 1) listed a w := by
  intro fuel
  induction fuel with
  | zero =>
    intro listed a w _ hr hy hS hT H
    refine ⟨fun h => (by rw [h] at hr; cases hr), fun j hj => ?_⟩
    by_cases hji : j = i
    · subst hji; exact hy.wpOp hi hS ⟨⟨hS, fun h => hT (by rw [getD_set_ne true hip] at h; exact h)⟩, H⟩
    · have := ready_mono hj hji
      rw [H.1] at this
      cases this
  | succ fuel ih =>
    intro listed a w hfree hr hy hS hT H
    refine ⟨fun h => (by rw [h] at hr; cases hr), fun j hj => ?_⟩
    by_cases hji : j = i
    · subst hji; exact hy.wpOp hi hS ⟨⟨hS, fun h => hT (by rw [getD_set_ne true hip] at h; exact h)⟩, H⟩
    · have h1 := H.2 j (ready_mono hj hji)
      obtain ⟨hjun, oj, hoj, hall⟩ := mem_ready.1 hj
      have hnot : ∀ e ∈ oj.after, Region.binds md e = true → e.on ≠ i := fun e he hb heq => by
        have h1 := hall e he hb
        have h0 := (mem_ready.1 hr).1
        rw [heq] at h1
        rcases Nat.lt_or_ge i listed.size with h' | h'
        · simp [h'] at h0 h1; rw [h0] at h1; cases h1
        · simp [Array.getElem?_eq_none h'] at h1
      have h2 := wpOp_putIf hoj (hfree j oj hoj hji hjun hnot) (fun cs b => hsel i oi cs b hi) (fun cs b => hsel j oj cs b hoj) hQ hy h1
      have hfree' : ∀ k ok, ops[k]? = some ok → k ≠ i → (listed.setIfInBounds j true).getD k true = false →
          (∀ e ∈ ok.after, Region.binds md e = true → e.on ≠ i) → oi.apart ops ok = true := fun k ok hk hki hun hno => by
        refine hfree k ok hk hki ?_ hno
        by_cases hjk : j = k
        · subst hjk; exact hjun
        · rw [getD_set_ne true hjk] at hun; exact hun
      have hpe : (listed.setIfInBounds j true).getD p true = ((listed.setIfInBounds i true).setIfInBounds j true).getD p true := by
        rw [Array.setIfInBounds_comm _ _ (Ne.symm hji), getD_set_ne true hip]
      refine wpOp_mono (fun a' w' h3 => ⟨⟨h3.2.1.1, fun h => h3.2.1.2 (by rw [← hpe]; exact h)⟩, ih (listed.setIfInBounds j true) a' w' hfree' (ready_mono hr (Ne.symm hji)) h3.1 h3.2.1.1 (fun h => h3.2.1.2 (by rw [← hpe]; exact h)) ?_⟩) h2
      rw [Array.setIfInBounds_comm _ _ hji]
      exact h3.2.2
/-- does p wait for i? -/
def waitsB (md : Region.Mode) (ops : Array Oper) (p i : Nat) : Bool := match ops[p]? with
  | some o => o.after.any fun e => Region.binds md e && e.on == i
  | none => true
theorem wpAnyP_takeS {i : Nat} {oi : Oper} {v : Value} {fuel : Nat} {listed : Array Bool} {a : Act} {w : World} (hi : ops[i]? = some oi)
    (hs : Region.noSelect ops = true) (hf : Region.free md ops listed i = true) (hr : (Region.ready md ops listed).contains i = true)
    (hQ : ∀ c a w, Q (.panic c) (a.put oi.dst v) w → Q (.panic c) a w) (hip : i ≠ p) (hy : YieldsIf P ops S oi v a) (hS : S w) (hT : listed.getD p true = false → T w)
    (h : wpAnyP P md ops Q S T p fuel (listed.setIfInBounds i true) (a.put oi.dst v) w) : wpAnyP P md ops Q S T p (fuel + 1) listed a w :=
  wpAnyP_firstS hi (Region.noSelect_spec hs) hQ hip fuel listed a w (Region.free_spec hi hf) (by simpa using hr) hy hS hT h
theorem wpAnyP_takeT {i : Nat} {oi : Oper} {v : Value} {fuel : Nat} {listed : Array Bool} {a : Act} {w : World} (hi : ops[i]? = some oi)
    (hs : Region.noSelect ops = true) (hf : Region.free md ops listed i = true) (hr : (Region.ready md ops listed).contains i = true)
    (hQ : ∀ c a w, Q (.panic c) (a.put oi.dst v) w → Q (.panic c) a w) (hip : i ≠ p) (hw : waitsB md ops p i = true) (hp : listed.getD p true = false) (hy : YieldsIf P ops (fun w => S w ∧ T w) oi v a) (hS : S w ∧ T w)
    (h : wpAnyP P md ops Q S T p fuel (listed.setIfInBounds i true) (a.put oi.dst v) w) : wpAnyP P md ops Q S T p (fuel + 1) listed a w :=
  wpAnyP_first hi (Region.noSelect_spec hs) hQ hip (fun o ho => by
    unfold waitsB at hw; rw [ho] at hw
    simp only [Array.any_eq_true'] at hw
    obtain ⟨e, he, hb⟩ := hw
    rw [Bool.and_eq_true, beq_iff_eq] at hb
    exact ⟨e, he, hb⟩) fuel listed a w (Region.free_spec hi hf) (by simpa using hr) hp hy hS h
theorem wpAnyP_step (i : Nat) {o : Oper} {fuel : Nat} {listed : Array Bool} {a : Act} {w : World} (ho : ops[i]? = some o) (hr : Region.ready md ops listed = [i]) (hw : Region.wanted o (yielded ops a.tmps) = true)
    (h : ∀ K : Act → World → Prop, (∀ a' w', S w' → ((listed.setIfInBounds i true).getD p true = false → T w') → wpAnyP P md ops Q S T p fuel (listed.setIfInBounds i true) a' w' → K a' w') → Oper.wp P o a w K Q) : wpAnyP P md ops Q S T p (fuel + 1) listed a w := by
  refine ⟨fun h0 => absurd h0 (by rw [hr]; simp), fun j hj => ?_⟩
  rw [hr] at hj
  obtain rfl : j = i := by simpa using hj
  unfold wpOp
  simp only [ho, hw, if_true]
  exact Or.inl (h _ fun a' w' h1 h2 h3 => ⟨⟨h1, h2⟩, h3⟩)
theorem wpAnyP_done {listed : Array Bool} {a : Act} {w : World} (hr : Region.ready md ops listed = []) (h : Q .normal a w) : ∀ fuel, wpAnyP P md ops Q S T p fuel listed a w
  | 0 => ⟨hr, h⟩
  | _ + 1 => ⟨fun _ => h, by rw [hr]; simp⟩
theorem wp_region_P (S T : World → Prop) (p : Nat) {id : Nat} {a : Act} {w : World} (hm : P.follows .mixedOrders = true)
    (h : wpAnyP P .any ops Q S T p ops.size (Array.replicate ops.size false) a { w with drawn := w.drawn + 1 }) : (Code.region id ops true).wp P Q a w :=
  wp_region_any hm (wpAny_of_P _ _ _ _ h)
end
/-- where it all lies -/
structure MvS where
  V : Nat
  N : Nat
  G : Nat
  gc : Nat
  X : Nat
  xc : Nat
  L : Nat
  lc : Nat
  D : Nat
  dc : Nat
  R : Nat → Nat
  Y : Nat → Nat
/-- all lies between lo and hi, and what is written lies in blocks of its own -/
structure MvS.good (s : MvS) (lo hi : Nat) : Prop where
  N16 : s.N ≤ 16
  V : lo ≤ s.V ∧ s.V < hi
  G : lo ≤ s.G ∧ s.G < hi
  X : lo ≤ s.X ∧ s.X < hi
  L : lo ≤ s.L ∧ s.L < hi
  D : lo ≤ s.D ∧ s.D < hi
  R : ∀ b, b < s.N → lo ≤ s.R b ∧ s.R b < hi
  Y : ∀ b, b < s.N → lo ≤ s.Y b ∧ s.Y b < hi
  LV : s.L ≠ s.V ∧ s.L ≠ s.G ∧ s.L ≠ s.X ∧ s.L ≠ s.D
  DV : s.D ≠ s.V ∧ s.D ≠ s.G ∧ s.D ≠ s.X
  RV : ∀ b, b < s.N → s.R b ≠ s.V ∧ s.R b ≠ s.G ∧ s.R b ≠ s.X ∧ s.R b ≠ s.L ∧ s.R b ≠ s.D
  YV : ∀ b, b < s.N → s.Y b ≠ s.L ∧ s.Y b ≠ s.D
  RY : ∀ b c, b < s.N → c < s.N → s.R b ≠ s.Y c
  RR : ∀ b c, b < s.N → c < s.N → b ≠ c → s.R b ≠ s.R c
theorem MvS.good.mono {s : MvS} {lo hi lo' hi' : Nat} (h : s.good lo hi) (h1 : lo' ≤ lo) (h2 : hi ≤ hi') : s.good lo' hi' :=
  ⟨h.N16, ⟨by have := h.V; omega, by have := h.V; omega⟩, ⟨by have := h.G; omega, by have := h.G; omega⟩, ⟨by have := h.X; omega, by have := h.X; omega⟩, ⟨by have := h.L; omega, by have := h.L; omega⟩, ⟨by have := h.D; omega, by have := h.D; omega⟩,
    fun b hb => ⟨by have := h.R b hb; omega, by have := h.R b hb; omega⟩, fun b hb => ⟨by have := h.Y b hb; omega, by have := h.Y b hb; omega⟩, h.LV, h.DV, h.RV, h.YV, h.RY, h.RR⟩
/-- what it holds -/
structure Mv (s : MvS) (w : World) (fl : Nat → Nat → Int) (lf du : Nat → Int) : Prop where
  v0 : w.cell? ⟨s.V, 0, none⟩ = some (.slice (some ⟨s.G, 0, none⟩) s.N s.gc)
  v1 : w.cell? ⟨s.V, 1, none⟩ = some (.slice (some ⟨s.X, 0, none⟩) s.N s.xc)
  v2 : w.cell? ⟨s.V, 2, none⟩ = some (.slice (some ⟨s.L, 0, none⟩) s.N s.lc)
  v3 : w.cell? ⟨s.V, 3, none⟩ = some (.slice (some ⟨s.D, 0, none⟩) s.N s.dc)
  g : ∀ b, b < s.N → w.cell? ⟨s.G, b, none⟩ = some (.slice (some ⟨s.R b, 0, none⟩) s.N s.N)
  x : ∀ b, b < s.N → w.cell? ⟨s.X, b, none⟩ = some (.slice (some ⟨s.Y b, 0, none⟩) s.N s.N)
  y : ∀ b a, b < s.N → a < s.N → w.cell? ⟨s.Y b, a, none⟩ = some (.bool false)
  r : ∀ b a, b < s.N → a < s.N → w.cell? ⟨s.R b, a, none⟩ = some (.int .i64 (fl b a)) ∧ w.frozen? ⟨s.R b, a, none⟩ = false
  l : ∀ b, b < s.N → w.cell? ⟨s.L, b, none⟩ = some (.int .i64 (lf b)) ∧ w.frozen? ⟨s.L, b, none⟩ = false
  d : ∀ a, a < s.N → w.cell? ⟨s.D, a, none⟩ = some (.int .i64 (du a)) ∧ w.frozen? ⟨s.D, a, none⟩ = false
theorem Mv.block {s : MvS} {w w' : World} {fl : Nat → Nat → Int} {lf du : Nat → Int} {lo hi : Nat} (h : Mv s w fl lf du) (hg : s.good lo hi) (hb : ∀ k, lo ≤ k → k < hi → w'.heap[k]? = w.heap[k]?) : Mv s w' fl lf du := by
  have c : ∀ k o, lo ≤ k ∧ k < hi → w'.cell? ⟨k, o, none⟩ = w.cell? ⟨k, o, none⟩ := fun k o hk => cell_block (hb k hk.1 hk.2)
  have f : ∀ k o, lo ≤ k ∧ k < hi → w'.frozen? ⟨k, o, none⟩ = w.frozen? ⟨k, o, none⟩ := fun k o hk => frozen_block (hb k hk.1 hk.2)
  exact ⟨(c _ _ hg.V).trans h.v0, (c _ _ hg.V).trans h.v1, (c _ _ hg.V).trans h.v2, (c _ _ hg.V).trans h.v3, fun b hbN => (c _ _ hg.G).trans (h.g b hbN), fun b hbN => (c _ _ hg.X).trans (h.x b hbN), fun b a hbN ha => (c _ _ (hg.Y b hbN)).trans (h.y b a hbN ha),
    fun b a hbN ha => ⟨(c _ _ (hg.R b hbN)).trans (h.r b a hbN ha).1, (f _ _ (hg.R b hbN)).trans (h.r b a hbN ha).2⟩, fun b hbN => ⟨(c _ _ hg.L).trans (h.l b hbN).1, (f _ _ hg.L).trans (h.l b hbN).2⟩, fun b hbN => ⟨(c _ _ hg.D).trans (h.d b hbN).1, (f _ _ hg.D).trans (h.d b hbN).2⟩⟩
theorem Mv.below {s : MvS} {w w' : World} {fl : Nat → Nat → Int} {lf du : Nat → Int} {lo hi B : Nat} (h : Mv s w fl lf du) (hg : s.good lo hi) (hb : Below B w w') (hB : hi ≤ B) : Mv s w' fl lf du := h.block hg fun k _ hk => hb.block k (by omega)
theorem Mv.drew {s : MvS} {w : World} {fl : Nat → Nat → Int} {lf du : Nat → Int} {lo hi : Nat} (h : Mv s w fl lf du) (hg : s.good lo hi) : Mv s w.drew fl lf du := h.block hg fun _ _ _ => rfl
theorem Mv.congr {s : MvS} {w : World} {fl fl' : Nat → Nat → Int} {lf du lf' du' : Nat → Int} (h : Mv s w fl lf du) (e1 : ∀ b a, b < s.N → a < s.N → fl' b a = fl b a) (e2 : ∀ b, b < s.N → lf' b = lf b) (e3 : ∀ b, b < s.N → du' b = du b) : Mv s w fl' lf' du' :=
  ⟨h.v0, h.v1, h.v2, h.v3, h.g, h.x, h.y, fun b a hb ha => by rw [e1 b a hb ha]; exact h.r b a hb ha, fun b hb => by rw [e2 b hb]; exact h.l b hb, fun b hb => by rw [e3 b hb]; exact h.d b hb⟩
theorem set_far (w : World) (p : Addr) (v : Value) (k o : Nat) (h : k ≠ p.block) : (w.setCell p v).cell? ⟨k, o, none⟩ = w.cell? ⟨k, o, none⟩ := cell_block (Below.heap_setCell _ _ _ _ h)
/-- one number of the flow written -/
theorem Mv.setR {s : MvS} {w : World} {fl : Nat → Nat → Int} {lf du : Nat → Int} {lo hi : Nat} (h : Mv s w fl lf du) (hg : s.good lo hi) {b a : Nat} (hb : b < s.N) (ha : a < s.N) (x : Int) : Mv s (w.setCell ⟨s.R b, a, none⟩ (.int .i64 x)) (updF fl b a x) lf du := by
  have c : ∀ k o, k ≠ s.R b → (w.setCell ⟨s.R b, a, none⟩ (.int .i64 x)).cell? ⟨k, o, none⟩ = w.cell? ⟨k, o, none⟩ := fun k o hk => set_far _ _ _ _ _ hk
  have f : ∀ k o, (w.setCell ⟨s.R b, a, none⟩ (.int .i64 x)).frozen? ⟨k, o, none⟩ = w.frozen? ⟨k, o, none⟩ := fun k o => World.frozen?_setCell _ _ _ _
  obtain ⟨n1, n2, n3, n4, n5⟩ := hg.RV b hb
  refine ⟨(c _ _ (Ne.symm n1)).trans h.v0, (c _ _ (Ne.symm n1)).trans h.v1, (c _ _ (Ne.symm n1)).trans h.v2, (c _ _ (Ne.symm n1)).trans h.v3, fun b' hb' => (c _ _ (Ne.symm n2)).trans (h.g b' hb'), fun b' hb' => (c _ _ (Ne.symm n3)).trans (h.x b' hb'), fun b' a' hb' ha' => (c _ _ (Ne.symm (hg.RY b b' hb hb'))).trans (h.y b' a' hb' ha'),
    fun b' a' hb' ha' => ⟨?_, (f _ _).trans (h.r b' a' hb' ha').2⟩, fun b' hb' => ⟨(c _ _ (Ne.symm n4)).trans (h.l b' hb').1, (f _ _).trans (h.l b' hb').2⟩, fun b' hb' => ⟨(c _ _ (Ne.symm n5)).trans (h.d b' hb').1, (f _ _).trans (h.d b' hb').2⟩⟩
  by_cases e : b' = b
  · subst e
    by_cases e2 : a' = a
    · subst e2; rw [updF_same]; exact World.cell?_setCell_same _ _ _ (h.r b' a' hb' ha').1
    · rw [updF_other _ (Or.inr e2), World.cell?_setCell_other _ _ _ _ (by intro e3; injection e3 with _ e4; exact e2 e4.symm)]; exact (h.r b' a' hb' ha').1
  · rw [updF_other _ (Or.inl e), c _ _ (hg.RR b' b hb' hb e)]; exact (h.r b' a' hb' ha').1
theorem Mv.setL {s : MvS} {w : World} {fl : Nat → Nat → Int} {lf du : Nat → Int} {lo hi : Nat} (h : Mv s w fl lf du) (hg : s.good lo hi) {b : Nat} (hb : b < s.N) (x : Int) : Mv s (w.setCell ⟨s.L, b, none⟩ (.int .i64 x)) fl (fun k => if k = b then x else lf k) du := by
  have c : ∀ k o, k ≠ s.L → (w.setCell ⟨s.L, b, none⟩ (.int .i64 x)).cell? ⟨k, o, none⟩ = w.cell? ⟨k, o, none⟩ := fun k o hk => set_far _ _ _ _ _ hk
  have f : ∀ k o, (w.setCell ⟨s.L, b, none⟩ (.int .i64 x)).frozen? ⟨k, o, none⟩ = w.frozen? ⟨k, o, none⟩ := fun k o => World.frozen?_setCell _ _ _ _
  obtain ⟨n1, n2, n3, n4⟩ := hg.LV
  refine ⟨(c _ _ (Ne.symm n1)).trans h.v0, (c _ _ (Ne.symm n1)).trans h.v1, (c _ _ (Ne.symm n1)).trans h.v2, (c _ _ (Ne.symm n1)).trans h.v3, fun b' hb' => (c _ _ (Ne.symm n2)).trans (h.g b' hb'), fun b' hb' => (c _ _ (Ne.symm n3)).trans (h.x b' hb'), fun b' a' hb' ha' => (c _ _ (hg.YV b' hb').1).trans (h.y b' a' hb' ha'),
    fun b' a' hb' ha' => ⟨(c _ _ (hg.RV b' hb').2.2.2.1).trans (h.r b' a' hb' ha').1, (f _ _).trans (h.r b' a' hb' ha').2⟩, fun b' hb' => ⟨?_, (f _ _).trans (h.l b' hb').2⟩, fun b' hb' => ⟨(c _ _ (Ne.symm n4)).trans (h.d b' hb').1, (f _ _).trans (h.d b' hb').2⟩⟩
  by_cases e : b' = b
  · subst e; rw [if_pos rfl]; exact World.cell?_setCell_same _ _ _ (h.l b' hb').1
  · rw [if_neg e, World.cell?_setCell_other _ _ _ _ (by intro e3; injection e3 with _ e4; exact e e4.symm)]; exact (h.l b' hb').1
theorem Mv.setD {s : MvS} {w : World} {fl : Nat → Nat → Int} {lf du : Nat → Int} {lo hi : Nat} (h : Mv s w fl lf du) (hg : s.good lo hi) {b : Nat} (hb : b < s.N) (x : Int) : Mv s (w.setCell ⟨s.D, b, none⟩ (.int .i64 x)) fl lf (fun k => if k = b then x else du k) := by
  have c : ∀ k o, k ≠ s.D → (w.setCell ⟨s.D, b, none⟩ (.int .i64 x)).cell? ⟨k, o, none⟩ = w.cell? ⟨k, o, none⟩ := fun k o hk => set_far _ _ _ _ _ hk
  have f : ∀ k o, (w.setCell ⟨s.D, b, none⟩ (.int .i64 x)).frozen? ⟨k, o, none⟩ = w.frozen? ⟨k, o, none⟩ := fun k o => World.frozen?_setCell _ _ _ _
  obtain ⟨n1, n2, n3⟩ := hg.DV
  refine ⟨(c _ _ (Ne.symm n1)).trans h.v0, (c _ _ (Ne.symm n1)).trans h.v1, (c _ _ (Ne.symm n1)).trans h.v2, (c _ _ (Ne.symm n1)).trans h.v3, fun b' hb' => (c _ _ (Ne.symm n2)).trans (h.g b' hb'), fun b' hb' => (c _ _ (Ne.symm n3)).trans (h.x b' hb'), fun b' a' hb' ha' => (c _ _ (hg.YV b' hb').2).trans (h.y b' a' hb' ha'),
    fun b' a' hb' ha' => ⟨(c _ _ (hg.RV b' hb').2.2.2.2).trans (h.r b' a' hb' ha').1, (f _ _).trans (h.r b' a' hb' ha').2⟩, fun b' hb' => ⟨(c _ _ hg.LV.2.2.2).trans (h.l b' hb').1, (f _ _).trans (h.l b' hb').2⟩, fun b' hb' => ⟨?_, (f _ _).trans (h.d b' hb').2⟩⟩
  by_cases e : b' = b
  · subst e; rw [if_pos rfl]; exact World.cell?_setCell_same _ _ _ (h.d b' hb').1
  · rw [if_neg e, World.cell?_setCell_other _ _ _ _ (by intro e3; injection e3 with _ e4; exact e e4.symm)]; exact (h.d b' hb').1
/-! a queue -/
/-- v reads as qs; the cells behind it are there, all from block lo on -/
def Qu (w : World) (lo : Nat) (v : Value) (qs : List Int) : Prop :=
  ∃ g o c, v = .slice (some ⟨g, o, none⟩) qs.length c ∧ qs.length ≤ c ∧ c ≤ maxLen ∧ lo ≤ g ∧ g < w.heap.size ∧ (∀ j, j < qs.length → w.cell? ⟨g, o + j, none⟩ = some (.int .i64 (nth qs j))) ∧
    ∀ j, qs.length ≤ j → j < c → (w.cell? ⟨g, o + j, none⟩).isSome = true ∧ w.frozen? ⟨g, o + j, none⟩ = false
theorem Qu.below {w w' : World} {lo B : Nat} {v : Value} {qs : List Int} (h : Qu w lo v qs) (hb : Below B w w') (hB : w.heap.size ≤ B) : Qu w' lo v qs := by
  obtain ⟨g, o, c, e, h1, h2, h3, h4, h5, h6⟩ := h
  have hh := hb.block g (by omega)
  exact ⟨g, o, c, e, h1, h2, h3, Nat.lt_of_lt_of_le h4 hb.size, fun j hj => (cell_block hh).trans (h5 j hj), fun j hj hc => by rw [cell_block hh, frozen_block hh]; exact h6 j hj hc⟩
theorem Qu.grown {w w' : World} {lo k : Nat} {v : Value} {qs : List Int} (h : Qu w lo v qs) (hb : w.grownBy w' (some k)) (hk : k < lo) : Qu w' lo v qs := by
  obtain ⟨g, o, c, e, h1, h2, h3, h4, h5, h6⟩ := h
  have hh := hb.block g h4 (by intro e; injection e with e; omega)
  exact ⟨g, o, c, e, h1, h2, h3, Nat.lt_of_lt_of_le h4 hb.size, fun j hj => (cell_block hh).trans (h5 j hj), fun j hj hc => by rw [cell_block hh, frozen_block hh]; exact h6 j hj hc⟩
theorem Qu.own {w : World} {lo : Nat} {v : Value} {qs : List Int} (h : Qu w lo v qs) : ∀ k, v.ownBlock = some k → lo ≤ k ∧ k < w.heap.size := by
  obtain ⟨g, o, c, rfl, h1, h2, h3, h4, _⟩ := h
  intro k e; injection e with e; subst e; exact ⟨h3, h4⟩
theorem Row.same {w w' : World} {base : Nat} {v : Value} {xs : List Int} (h : Row w base v xs) (hb : ∀ k, v.ownBlock = some k → w'.heap[k]? = w.heap[k]?) : Row w' base v xs := by
  refine ⟨h.1, ?_⟩
  rcases h.2 with h2 | ⟨g, cap, cur, hv, hg, hh, r⟩
  · exact .inl h2
  · exact .inr ⟨g, cap, cur, hv, hg, by rw [hb g (by rw [hv]; rfl)]; exact hh, r⟩
/-- the first one taken -/
theorem Qu.tail {w : World} {lo g o n c : Nat} {q : Int} {qs : List Int} (h : Qu w lo (.slice (some ⟨g, o, none⟩) n c) (q :: qs)) : n = qs.length + 1 ∧ n ≤ c ∧ w.cell? ⟨g, o, none⟩ = some (.int .i64 q) ∧ Qu w lo (.slice (some ⟨g, o + 1, none⟩) (n - 1) (c - 1)) qs ∧ (c = 1 → Qu w lo (.slice (some ⟨g, o, none⟩) 0 0) qs) := by
  obtain ⟨g', o', c', e, h1, h2, h3, h4, h5, h6⟩ := h
  injection e with e1 e2 e3; injection e1 with e1; injection e1 with e4 e5
  subst e4 e5 e2 e3
  simp only [List.length_cons] at h1 h5 h6 ⊢
  refine ⟨by first | rfl | trivial, h1, ?_, ⟨g, o + 1, c - 1, by simp, by omega, by omega, h3, h4, fun j hj => ?_, fun j hj hc => ?_⟩, fun hc => ?_⟩
  · have := h5 0 (by omega); simpa [nth] using this
  · have := h5 (j + 1) (by omega); rw [show o + (j + 1) = o + 1 + j by omega] at this; simpa [nth] using this
  · have := h6 (j + 1) (by omega) (by omega); rw [show o + (j + 1) = o + 1 + j by omega] at this; exact this
  · obtain rfl : qs = [] := List.eq_nil_of_length_eq_zero (by omega)
    exact ⟨g, o, 0, rfl, Nat.le_refl _, by unfold maxLen; omega, h3, h4, fun j hj => by simp at hj, fun j _ hj => by omega⟩
theorem nth_snoc (qs : List Int) (u : Int) (j : Nat) : nth (qs ++ [u]) j = if j < qs.length then nth qs j else if j = qs.length then u else 0 := by
  by_cases h : j < qs.length
  · rw [if_pos h, nth_eq _ _ (by simp; omega), nth_eq _ _ h, List.getElem_append_left h]
  · rw [if_neg h]
    by_cases h2 : j = qs.length
    · subst h2; rw [if_pos rfl, nth_eq _ _ (by simp)]; simp
    · rw [if_neg h2, nth_past _ _ (by simp; omega)]
/-- one more at its end -/
theorem wpList_append_q {w : World} {ops : Array Oper} {rest : List Oper} {o : Oper} {a : Act} {Q : Exit → Act → World → Prop} (hgd : o.guard = none) (s x : Operand)
    (ho : o.op = .call { callee := .builtin .append, args := #[s, x], argTypes := #[23, 23] })
    (lo : Nat) (v : Value) (qs : List Int) (hs : a.eval s = v) (hq : Qu w lo v qs)
    (ad : Addr) (c : Nat) (u : Int) (hx : a.eval x = .slice (some ad) 1 c) (hnew : w.cell? ad = some (.int .i64 u))
    (hn : qs.length < 1000000) (hlo : lo ≤ w.heap.size)
    (h : ∀ v' w', Qu w' lo v' (qs ++ [u]) → w.grownBy w' v.ownBlock → wpList Tryz.prog ops Q rest (a.put o.dst v') w') :
    wpList Tryz.prog ops Q (o :: rest) a w := by
  obtain ⟨i0, hi, hz0, hz1, hz2⟩ := info_parts info_int
  obtain ⟨g, off, cc, rfl, h1, h2, h3, h4, h5, h6⟩ := hq
  refine wpList_plain hgd fun K hK => ?_
  have hnews : ∀ j y, [Value.int .i64 u][j]? = some y → w.cell? (ad.add j) = some y := by
    intro j y hj
    match j, hj with
    | 0, hj => simp at hj; subst hj; simpa [Addr.add] using hnew
  have hone : ∀ y ∈ [Value.int .i64 u], y.oneCell' = true := by intro y hy; simp at hy; subst hy; rfl
  have key : ∃ v' w', (Builtin.append_ #[23, 23] o.type #[.slice (some ⟨g, off, none⟩) qs.length cc, .slice (some ad) 1 c]).run Tryz.prog w = .ok v' w' ∧ Qu w' lo v' (qs ++ [u]) ∧ w.grownBy w' (some g) := by
    by_cases hr : qs.length + 1 ≤ cc
    · obtain ⟨k1, k2⟩ := h6 qs.length (Nat.le_refl _) (by omega)
      have hrun := run_append_room_cells (P := Tryz.prog) w 23 o.type 3 i0 Tryz.underlying23 hi g off qs.length cc ad 1 c [.int .i64 u] (by rw [hz1]; rfl) hnews hone hr (fun j hj => by simp at hj; subst hj; rw [hz1]; simpa using k1) (fun j hj => by simp at hj; subst hj; rw [hz1]; simpa using k2)
      rw [hz1, Nat.mul_one] at hrun
      have e1 : w.setCells g (off + qs.length) [.int .i64 u] = w.setCell ⟨g, off + qs.length, none⟩ (.int .i64 u) := by simp [World.setCells]
      rw [e1] at hrun
      obtain ⟨y, hy⟩ := Option.isSome_iff_exists.1 k1
      refine ⟨_, _, hrun, ⟨g, off, cc, by simp, by simp; omega, h2, h3, by simp [World.setCell]; exact h4, fun j hj => ?_, fun j hj hc => ?_⟩, ⟨rfl, rfl, rfl, by simp [World.setCell], fun k _ hk => Below.heap_setCell _ _ _ _ (by intro e; exact hk (by rw [e]))⟩⟩
      · rw [nth_snoc]
        simp at hj
        by_cases hjl : j < qs.length
        · rw [if_pos hjl, World.cell?_setCell_other _ _ _ _ (by intro e3; injection e3 with _ e4; omega)]; exact h5 j hjl
        · obtain rfl : j = qs.length := by omega
          rw [if_neg hjl, if_pos rfl]; exact World.cell?_setCell_same _ _ _ hy
      · simp at hj
        rw [World.cell?_setCell_other _ _ _ _ (by intro e3; injection e3 with _ e4; omega), World.frozen?_setCell]; exact h6 j (by omega) hc
    · obtain ⟨v', w', hrun, r1, r2⟩ := run_append_arg_grows (P := Tryz.prog) w 23 o.type 3 i0 (.int .i64 0) 1 8 Tryz.underlying23 hi hz0 hz1 hz2 rfl (by decide) ⟨g, off, none⟩ qs.length cc (qs.map (Value.int .i64)) (by simp) (fun j y hj => by
        rw [Addr.add_lit]
        rw [List.getElem?_map] at hj
        cases hq : qs[j]? with
        | none => rw [hq] at hj; simp at hj
        | some z =>
          rw [hq] at hj; simp at hj; subst hj
          have hjl := (List.getElem?_eq_some_iff.1 hq).1
          rw [h5 j hjl]; unfold nth; simp [hq]) ad 1 c [.int .i64 u] (by simp) hnews (by omega) (by unfold maxLen; omega) (by omega)
      rw [show qs.map (Value.int .i64) ++ [Value.int .i64 u] = (qs ++ [u]).map (Value.int .i64) by simp] at r1
      refine ⟨v', w', hrun, ?_, ⟨r2.os, r2.tape, r2.output, r2.size, fun k hk _ => r2.block k hk (by simp)⟩⟩
      have r0 := r1
      rcases r1.2 with ⟨_, hz⟩ | ⟨g', cap', cur, rfl, hg', hh, hn', hc', hs', ht'⟩
      · omega
      · have hcell : ∀ j, w'.cell? ⟨g', j, none⟩ = cur[j]? := fun j => by simp [World.cell?, hh]
        refine ⟨g', 0, cap', by simp, by simp; omega, hc', by omega, lt_of_block hh, fun j hj => ?_, fun j _ hj => ?_⟩
        · have e := World.ownsRow.cells r0 (g := g') rfl j (.int .i64 (nth (qs ++ [u]) j)) (by rw [List.getElem?_map, List.getElem?_eq_getElem hj, nth_eq _ _ hj]; rfl)
          rw [Addr.add_lit] at e
          exact e
        · rw [Nat.zero_add, hcell]
          refine ⟨by rw [Array.getElem?_eq_getElem (by omega)]; rfl, ?_⟩
          simp [World.frozen?, hh]
  obtain ⟨v', w', hrun, hq', hgr⟩ := key
  unfold Oper.wp
  simp [execOp, ho, resolve, invoke, builtin, hs, hx, hrun, Result.andThen]
  exact hK _ _ (h v' w' hq' hgr)
end Go.Proofs.YtefmlbahmakboaaGreatDoor
