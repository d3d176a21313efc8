/- The search for a flow: something of a set sent. The search for a flow: its memory is built; is one mass a specialization of another one? -/
import Derived.Test.YtefmlbahmakboaaGreatDoorF7
import Derived.Deep.RegionHeld3
import Derived.Test.YtefmlbahmakboaaGreatDoorS5
import Derived.Test.YtefmlbahmakboaaGreatDoorS9
import Derived.Test.YtefmlbahmakboaaGreatDoorL3
import Derived.Test.YtefmlbahmakboaaGreatDoorM1
import Derived.Deep.AppendLies
set_option linter.unusedSimpArgs false
set_option linter.unusedVariables false
namespace Go.Proofs.YtefmlbahmakboaaGreatDoor
open Go.RowKit
theorem endClos_any (s : MvS) (lo hi : Nat) (a B : Nat) (w : World) (fl : Nat → Nat → Int) (lf du : Nat → Int) (hm : Mv s w fl lf du) (hg : s.good lo hi) (ha : a < s.N) (hB : w.cell? ⟨B, 0, none⟩ = some (.pointer (some ⟨s.V, 0, none⟩))) :
    Calls Tryz.prog 138 #[.int .i64 a, .pointer (some ⟨B, 0, none⟩)] w fun e w' => e = .returned (.bool (decide (0 < du a))) ∧ w = w' := by
  have c3 := hm.v3
  have cd := (hm.d a ha).1
  have ha0 : (0 : Int) ≤ (a : Int) := by omega
  have ha1 : (a : Int) < (s.N : Int) := by omega
  clear hm hg
  generalize du a = x at *
  go_enter Tryz.func138, Tryz.ntmps138
  go_wp2
  go_ret
  exact ⟨rfl, rfl⟩
theorem endClos_call (vs : Array Value) (w' : World) : Sem.run Tryz.prog (callFunc 138 vs) w' = .ok (.enter 138 vs) w' := by
  have h1 : (Tryz.f138.name == "runtime.NumGoroutine") = false := by kernel_rfl
  have h2 : Tryz.f138.body.isNone = false := by kernel_rfl
  have h1' : ¬ Tryz.f138.name = "runtime.NumGoroutine" := by simpa using h1
  have h2' : ¬ Tryz.f138.body = none := by intro e; rw [e] at h2; simp at h2
  simp only [callFunc, Sem.run_bind, run_program, Result.andThen_ok, Tryz.func138, beq_iff_eq, Option.isNone_iff_eq_none, if_neg h1', if_neg h2', Sem.run_pure]
set_option maxRecDepth 100000 in
set_option maxHeartbeats 4000000 in
theorem send_any (s : MvS) (lo hi b : Nat) (L D : Nat → Int) (w : World) (fl : Nat → Nat → Int) (lf du : Nat → Int) (hm : Mv s w fl lf du) (hg : s.good lo hi) (hhi : hi ≤ w.heap.size) (hF : Flow subN s.N L D fl lf du) (hL : ∀ b, b < s.N → L b ≤ 1000000000000) (hD : ∀ b, b < s.N → D b ≤ 1000000000000) (hb : b < s.N) (hl : 0 < lf b) :
    Calls Tryz.prog 95 #[.pointer (some ⟨s.V, 0, none⟩), .int .i64 b] w
      fun e w' => (∃ r, e = .returned (.bool r) ∧ (r = true → ∃ fl' lf' du', Mv s w' fl' lf' du' ∧ Flow subN s.N L D fl' lf' du' ∧ lf' b < lf b ∧ ∀ k, k ≠ b → lf' k = lf k) ∧ (r = false → ¬ Hall subN s.N L D)) ∧ Span lo hi w w' := by
  have hN := hg.N16
  have HF := hid hF
  have HM := hid hm
  have HG := hid hg
  have HLL := hid hL
  have HDD := hid hD
  clear hm hF hg hL hD
  go_enter Tryz.func95, Tryz.ntmps95
  go_wp2_with fail
  refine (way_any s lo hi b 138 _ L D _ fl lf du (HM.out.below (B := w.heap.size) HG.out ?_ hhi) HG.out ?_ HF.out endClos_call ?_ hb hl).mono ?_
  · (repeat (first | exact Below.refl _ _ | assumption | refine Below.alloc ?_ (by first | omega | (simp <;> omega)) _ | refine Below.setCell ?_ (by first | omega | (simp <;> omega)) _ | refine Below.drew ?_ | refine below_drewN ?_))
  · simp; omega
  · intro a w' hb' ha
    exact endClos_any s lo hi a w.heap.size w' fl lf du (HM.out.below (B := w.heap.size) HG.out (Below.trans (by (repeat (first | exact Below.refl _ _ | assumption | refine Below.alloc ?_ (by first | omega | (simp <;> omega)) _ | refine Below.setCell ?_ (by first | omega | (simp <;> omega)) _ | refine Below.drew ?_ | refine below_drewN ?_))) (hb'.mono (by simp))) hhi) HG.out ha (keep hb' (by simp))
  rintro e w2 ⟨hr, hb2⟩
  have hBox := keep hb2 (a := ⟨w.heap.size, 0, none⟩) (v := .pointer (some ⟨s.V, 0, none⟩)) (by simp)
  have hB2 : Below w.heap.size w w2 := Below.trans (by (repeat (first | exact Below.refl _ _ | assumption | refine Below.alloc ?_ (by first | omega | (simp <;> omega)) _ | refine Below.setCell ?_ (by first | omega | (simp <;> omega)) _ | refine Below.drew ?_ | refine below_drewN ?_))) (hb2.mono (by simp))
  have hz2 := hB2.size
  rcases hr with hr | ⟨v1, v2, rfl, hst⟩
  · obtain ⟨GA, ca, GB, cb, end_, gv, gt, rk, rfl, he, ha1, hb1, hal, hbl, hGA, hGB, hW, he0, hd⟩ := hr
    simp at ha1 hb1
    clear hb2
    have hM2 := HM.out.below HG.out hB2 hhi
    have HM2 := hid hM2
    have c2 := hM2.v2
    have c3 := hM2.v3
    have d2 := (hM2.l b hb).1
    have d3 := (hM2.d end_ he).1
    have HGA := hid hGA
    have HGB := hid hGB
    have HW := hid hW
    have HE0 := hid he0
    clear hM2 hGA hGB hW he0
    have hLb : lf b ≤ 1000000000000 := by have := HF.out.row b hb; have := HLL.out b hb; have := sumI_nn (f := fl b) (n := s.N) (fun k hk => HF.out.nn b k hb hk); omega
    have hDe : du end_ ≤ 1000000000000 := by have := HF.out.col end_ he; have := HDD.out end_ he; have := sumI_nn (f := fun b => fl b end_) (n := s.N) (fun k hk => HF.out.nn k end_ hk he); omega
    obtain ⟨l0, hl0⟩ : ∃ x, lf b = x := ⟨_, rfl⟩
    obtain ⟨e0, he0⟩ : ∃ x, du end_ = x := ⟨_, rfl⟩
    have HL0 := hid hl0
    have HE1 := hid he0
    rw [hl0] at d2 hl hLb
    rw [he0] at d3 hd hDe
    have hi0 : (0 : Int) ≤ (b : Int) := by omega
    have hi1 : (b : Int) < (s.N : Int) := by omega
    have hi2 : (0 : Int) ≤ (end_ : Int) := by omega
    have hi3 : (end_ : Int) < (s.N : Int) := by omega
    have hi4 : ¬ (end_ : Int) < 0 := by omega
    clear hl0 he0
    have hmin : 0 < (if e0 < l0 then e0 else l0) ∧ (if e0 < l0 then e0 else l0) ≤ l0 ∧ (if e0 < l0 then e0 else l0) ≤ e0 := by split <;> omega
    obtain ⟨mq, hme⟩ : ∃ mq, (if e0 < l0 then e0 else l0) = mq := ⟨_, rfl⟩
    rw [hme] at hmin
    have HPU := hid (push_any s lo hi b end_ GA ca GB cb mq gv gt rk L D w2.drew fl lf du (HM2.out.drew HG.out) HG.out (show hi ≤ w2.heap.size by omega) HF.out HLL.out (fun k hk => HGA.out k hk) (fun k hk => HGB.out k hk) (by omega) (by omega) HW.out he HE0.out hmin.1 (by rw [HL0.out]; exact hmin.2.1) (by rw [HE1.out]; exact hmin.2.2) hb)
    have HBX : Hid (w2.drew.cell? ⟨w.heap.size, 0, none⟩ = some (.pointer (some ⟨s.V, 0, none⟩))) := hBox
    have hhw : hi ≤ w.heap.size := hhi
    clear hmin
    go_wp2
    go_region_held3 (fun w' => w'.cell? ⟨w.heap.size, 0, none⟩ = some (.pointer (some ⟨s.V, 0, none⟩)) ∧ w'.cell? ⟨s.V, 2, none⟩ = some (.slice (some ⟨s.L, 0, none⟩) s.N s.lc) ∧ w'.cell? ⟨s.V, 3, none⟩ = some (.slice (some ⟨s.D, 0, none⟩) s.N s.dc) ∧ w'.cell? ⟨s.L, b, none⟩ = some (.int .i64 l0) ∧ w'.cell? ⟨s.D, end_, none⟩ = some (.int .i64 e0)) (first | (refine ⟨by assumption, by assumption, by assumption, by assumption, by assumption⟩; done) | go_keep) (first | (go_at_call 139; (with_reducible refine HPU.out.mono ?_); rintro e w3 ⟨⟨q, fl', rfl, hq0, hq1, hm3, hF3⟩, hs3⟩; have k0 := Span.keep hs3 HBX.out (Or.inr hhw); have k2 := hm3.v2; have k3 := hm3.v3; have k4 := (hm3.l b hb).1; rw [HL0.out] at k4; have k5 := (hm3.d end_ he).1; rw [HE1.out] at k5))
    have n2 := hm3.l b hb
    have n3 := hm3.d end_ he
    rw [HL0.out] at n2
    rw [HE1.out] at n3
    obtain ⟨n20, n21⟩ := n2
    obtain ⟨n30, n31⟩ := n3
    have hs2 : Span lo hi w w3 := Span.trans (Span.of_below hB2) (Span.trans (Span.of_below (drew_below w2)) hs3)
    have hz3 := hs2.size
    have ns1 := hm3.setL HG.out hb (l0 - q)
    have nc3 := ns1.v3
    have nd3 := ns1.d end_ he
    have ns2 := ns1.setD HG.out he (e0 - q)
    have hbx : w3.cell? ⟨w.heap.size, 0, none⟩ = some (.pointer (some ⟨s.V, 0, none⟩)) := k0
    have HS2 := hid ns2
    have HF3 := hid hF3
    have HS3 := hid hs2
    have hV := HG.out.V
    have hLb2 := HG.out.L
    have hDb2 := HG.out.D
    have hLD := HG.out.LV.2.2.2
    have hLV := HG.out.LV.1
    have hBL : ¬ s.L = w.heap.size := by omega
    clear hm3 hF3 hs2 hs3 ns1 ns2 k0
    rw [HE1.out] at nd3
    obtain ⟨nd30, nd31⟩ := nd3
    go_wp2
    go_ret
    refine ⟨⟨true, rfl, fun _ => ⟨fl', _, _, HS2.out.congr (lf' := fun k => if k = b then lf k - q else lf k) (du' := fun k => if k = end_ then du k - q else du k) (fun _ _ _ _ => rfl) (fun k _ => ?_) (fun k _ => ?_), HF3.out, ?_, fun k hk => if_neg hk⟩, (fun h => by cases h)⟩, ?_⟩
    · split
      · next e => rw [e, HL0.out]
      · rfl
    · split
      · next e => rw [e, HE1.out]
      · rfl
    · simp; omega
    · exact Span.trans HS3.out (Span.trans (Span.set ⟨hLb2.1, hLb2.2⟩) (Span.set ⟨hDb2.1, hDb2.2⟩))
  · go_wp2
    go_ret
    exact ⟨⟨false, rfl, (fun h => by cases h), fun _ => hst⟩, Span.of_below hB2⟩
theorem info_bool : (Tryz.prog.info? 4).map (fun i => (i.zero, i.size, i.bytes)) = some (some (.bool false), 1, 1) := by kernel_rfl
theorem info_bools : (Tryz.prog.info? 107).map (fun i => (i.zero, i.size, i.bytes)) = some (some (.slice none 0 0), 1, 24) := by kernel_rfl
/-- the element types of the four slices: rows of numbers, rows of truths, numbers, numbers -/
def elT (i : Nat) : TypeId := if i = 0 then 23 else if i = 1 then 107 else 3
def zer (i : Nat) : Value := if i = 0 then .int .i64 0 else .bool false
/-- a row of a table, just made, in block g -/
def RowZ (w : World) (i g N : Nat) : Prop := ∀ a, a < N → w.cell? ⟨g, a, none⟩ = some (zer i) ∧ w.frozen? ⟨g, a, none⟩ = false
theorem RowZ.same {w w' : World} {i g N : Nat} (h : RowZ w i g N) (hb : w'.heap[g]? = w.heap[g]?) : RowZ w' i g N := fun a ha => ⟨(cell_block hb).trans (h a ha).1, (frozen_block hb).trans (h a ha).2⟩
theorem rowZ_ints {w : World} {base g N : Nat} (h : Row w base (.slice (some ⟨g, 0, none⟩) N N) (List.replicate N 0)) : RowZ w 0 g N := fun a ha => by
  obtain ⟨h1, h2, _⟩ := h.cellAt ha
  rw [nth_eq _ _ (by simpa using ha)] at h1
  exact ⟨by simpa [zer] using h1, h2⟩
set_option maxRecDepth 100000 in
theorem run_make_bools (w : World) (n : Nat) (hn : n ≤ 1000000000) : ∃ w', Sem.run Tryz.prog (Instr.makeSlice 107 (.int .i64 (n : Int)) (.int .i64 (n : Int))) w = .ok (.slice (some ⟨w.heap.size, 0, none⟩) n n) w' ∧ RowZ w' 1 w.heap.size n ∧ Below w.heap.size w w' ∧ w.heap.size < w'.heap.size := by
  obtain ⟨i0, hi, hz0, hz1, hz2⟩ := info_parts info_bool
  obtain ⟨w', hrun, r1, r2⟩ := run_make_full (P := Tryz.prog) w w.heap.size 107 4 i0 (.bool false) 1 Tryz.underlying107 hi hz0 hz1 .i64 .i64 n (by rw [hz2]; omega) (by unfold maxLen; omega) (Nat.le_refl _)
  refine ⟨w', hrun, fun a ha => ?_, ⟨r2.os, r2.tape, r2.output, r2.size, fun k hk => r2.block k hk (by simp)⟩, (World.ownsRow.lt r1 _ rfl).2⟩
  have e : (madeCells (Value.bool false).cells (n * 1)).toList = List.replicate n (Value.bool false) := by
    simp only [madeCells, Value.cells]
    apply List.ext_getElem
    · simp
    · intro i h1 h2; simp [Nat.mod_one]
  rw [e] at r1
  have c := World.ownsRow.cells r1 (g := w.heap.size) rfl a (.bool false) (by simp [ha])
  rw [Addr.add_lit, Nat.zero_add] at c
  refine ⟨by rw [c]; rfl, ?_⟩
  rcases r1.2 with ⟨h1, _⟩ | ⟨g, cap, cur, hv, hg, hh, _⟩
  · simp at h1
  · injection hv with e1; injection e1 with e1; injection e1 with e1
    rw [← e1] at hh
    simp [World.frozen?, hh]
/-- the memory as it is built: V the four slices v, that own xs; the tags tell all blocks apart -/
structure Bl (w : World) (base V N : Nat) (v : Nat → Value) (xs : Nat → List Value) (tag : Nat → Nat) : Prop where
  VV : base ≤ V ∧ V < w.heap.size
  c : ∀ i, i < 4 → w.cell? ⟨V, i, none⟩ = some (v i) ∧ w.frozen? ⟨V, i, none⟩ = false
  own : ∀ i, i < 4 → w.ownsRow base (elT i) 1 (v i) (xs i).length (xs i)
  t0 : tag V = 0
  t : ∀ i, i < 4 → ∀ g, (v i).ownBlock = some g → tag g = i + 1
  rows : ∀ i, i < 2 → ∀ b u, (xs i)[b]? = some u → ∃ g, u = .slice (some ⟨g, 0, none⟩) N N ∧ base ≤ g ∧ g < w.heap.size ∧ tag g = 5 + 2 * b + i ∧ RowZ w i g N
theorem own_same {w w' : World} {base size n : Nat} {e : TypeId} {v : Value} {vals : List Value} (h : w.ownsRow base e size v n vals) (hb : ∀ k, v.ownBlock = some k → w'.heap[k]? = w.heap[k]?) : w'.ownsRow base e size v n vals := by
  refine ⟨h.1, ?_⟩
  rcases h.2 with h2 | ⟨g, cap, cur, hv, hg, hh, r⟩
  · exact .inl h2
  · exact .inr ⟨g, cap, cur, hv, hg, by rw [hb g (by rw [hv]; rfl)]; exact hh, r⟩
theorem Bl.below {w w' : World} {base V N : Nat} {v : Nat → Value} {xs : Nat → List Value} {tag : Nat → Nat} (h : Bl w base V N v xs tag) (hb : Below w.heap.size w w') : Bl w' base V N v xs tag := by
  refine ⟨⟨h.VV.1, Nat.lt_of_lt_of_le h.VV.2 hb.size⟩, fun i hi => ?_, fun i hi => own_same (h.own i hi) fun k hk => hb.block k (World.ownsRow.lt (h.own i hi) k hk).2, h.t0, h.t, fun i hi b u hu => ?_⟩
  · have hh := hb.block V h.VV.2
    exact ⟨(cell_block hh).trans (h.c i hi).1, (frozen_block hh).trans (h.c i hi).2⟩
  · obtain ⟨g, e, h1, h2, h3, h4⟩ := h.rows i hi b u hu
    exact ⟨g, e, h1, Nat.lt_of_lt_of_le h2 hb.size, h3, h4.same (hb.block g h2)⟩
def updV {α : Type} (v : Nat → α) (i : Nat) (x : α) : Nat → α := fun j => if j = i then x else v j
theorem updV_same {α : Type} (v : Nat → α) (i : Nat) (x : α) : updV v i x i = x := if_pos rfl
theorem updV_other {α : Type} {v : Nat → α} {i j : Nat} {x : α} (h : j ≠ i) : updV v i x j = v j := if_neg h
/-- one more in one of the four -/
theorem Bl.put {w w1 w2 : World} {base V N : Nat} {v : Nat → Value} {xs : Nat → List Value} {tag : Nat → Nat} (h : Bl w base V N v xs tag) (h1 : Below w.heap.size w w1) {i g cap : Nat} (hi : i < 4) {u : Value}
    (ho : w2.ownsRow base (elT i) 1 (.slice (some ⟨g, 0, none⟩) ((xs i).length + 1) cap) ((xs i).length + 1) (xs i ++ [u])) (hg : w1.grownBy w2 (v i).ownBlock) (hgg : (v i).ownBlock = some g ∨ g = w1.heap.size)
    (hu : i < 2 → ∃ g0, u = .slice (some ⟨g0, 0, none⟩) N N ∧ w.heap.size ≤ g0 ∧ g0 < w1.heap.size ∧ RowZ w1 i g0 N) :
    ∃ tag', Bl (w2.setCell ⟨V, i, none⟩ (.slice (some ⟨g, 0, none⟩) ((xs i).length + 1) cap)) base V N (updV v i (.slice (some ⟨g, 0, none⟩) ((xs i).length + 1) cap)) (updV xs i (xs i ++ [u])) tag' := by
  obtain ⟨g0, hg0⟩ : ∃ g0, i < 2 → u = .slice (some ⟨g0, 0, none⟩) N N ∧ w.heap.size ≤ g0 ∧ g0 < w1.heap.size ∧ RowZ w1 i g0 N := by
    by_cases h2 : i < 2
    · obtain ⟨g0, k⟩ := hu h2; exact ⟨g0, fun _ => k⟩
    · exact ⟨0, fun h3 => absurd h3 h2⟩
  have hz1 := h1.size
  have hz2 := hg.size
  have hVl := h.VV.2
  -- where the new slice lies
  have hgl : g < w2.heap.size := (World.ownsRow.lt ho g rfl).2
  have hgt : g < w.heap.size → tag g = i + 1 := fun hlt => by
    rcases hgg with e | e
    · exact h.t i hi g e
    · omega
  have hgV : g ≠ V := by
    intro e; subst e
    have := hgt hVl; rw [h.t0] at this; omega
  -- a block that was there, of another tag, is as it was
  have old : ∀ k, k < w.heap.size → tag k ≠ i + 1 → w2.heap[k]? = w.heap[k]? := fun k hk ht => by
    rw [hg.block k (by omega) (by intro e; exact ht (h.t i hi k e.symm)), h1.block k hk]
  have oldV : ∀ k, k < w.heap.size → tag k ≠ i + 1 → k ≠ V → (w2.setCell ⟨V, i, none⟩ (.slice (some ⟨g, 0, none⟩) ((xs i).length + 1) cap)).heap[k]? = w.heap[k]? := fun k hk ht hV => (Below.heap_setCell _ _ _ _ hV).trans (old k hk ht)
  have hcV : ∀ j, w2.cell? ⟨V, j, none⟩ = w.cell? ⟨V, j, none⟩ ∧ w2.frozen? ⟨V, j, none⟩ = w.frozen? ⟨V, j, none⟩ := fun j => by
    have hh := old V hVl (by rw [h.t0]; omega)
    exact ⟨cell_block hh, frozen_block hh⟩
  refine ⟨fun k => if k < w.heap.size then tag k else if k = g then i + 1 else if k = g0 then 5 + 2 * (xs i).length + i else 0, ⟨h.VV.1, by simp [World.setCell]; omega⟩, fun j hj => ?_, fun j hj => ?_, ?_, fun j hj k hk => ?_, fun j hj b y hy => ?_⟩
  · rw [World.frozen?_setCell, (hcV j).2]
    refine ⟨?_, (h.c j hj).2⟩
    by_cases e : j = i
    · subst e
      rw [updV_same]
      exact World.cell?_setCell_same _ _ _ (by rw [(hcV j).1]; exact (h.c j hj).1)
    · rw [updV_other e, World.cell?_setCell_other _ _ _ _ (by intro e3; injection e3 with _ e4; exact e e4.symm), (hcV j).1]
      exact (h.c j hj).1
  · by_cases e : j = i
    · subst e
      rw [updV_same, updV_same, List.length_append]
      exact own_same ho fun k hk => by
        injection hk with hk; subst hk
        exact Below.heap_setCell _ _ _ _ hgV
    · rw [updV_other e, updV_other e]
      refine own_same (h.own j hj) fun k hk => ?_
      have hk1 := (World.ownsRow.lt (h.own j hj) k hk).2
      have hk2 := h.t j hj k hk
      exact oldV k hk1 (by omega) (by intro e2; subst e2; rw [h.t0] at hk2; omega)
  · simp only [if_pos hVl]; exact h.t0
  · by_cases e : j = i
    · subst e
      rw [updV_same] at hk
      injection hk with hk; subst hk
      by_cases hlt : g < w.heap.size
      · simp only [if_pos hlt]; exact hgt hlt
      · simp only [if_neg hlt]; simp
    · rw [updV_other e] at hk
      have hk1 := (World.ownsRow.lt (h.own j hj) k hk).2
      simp only [if_pos hk1]; exact h.t j hj k hk
  · have oldrow : ∀ b y, (xs j)[b]? = some y → ∃ q, y = .slice (some ⟨q, 0, none⟩) N N ∧ base ≤ q ∧ q < (w2.setCell ⟨V, i, none⟩ (.slice (some ⟨g, 0, none⟩) ((xs i).length + 1) cap)).heap.size ∧ (if q < w.heap.size then tag q else if q = g then i + 1 else if q = g0 then 5 + 2 * (xs i).length + i else 0) = 5 + 2 * b + j ∧ RowZ (w2.setCell ⟨V, i, none⟩ (.slice (some ⟨g, 0, none⟩) ((xs i).length + 1) cap)) j q N := fun b y hy => by
      obtain ⟨q, e1, e2, e3, e4, e5⟩ := h.rows j hj b y hy
      exact ⟨q, e1, e2, by simp [World.setCell]; omega, by rw [if_pos e3]; exact e4, e5.same (oldV q e3 (by omega) (by intro e; subst e; rw [h.t0] at e4; omega))⟩
    by_cases e : j = i
    · subst e
      rw [updV_same] at hy
      by_cases hb : b < (xs j).length
      · rw [List.getElem?_append_left hb] at hy; exact oldrow b y hy
      · rw [List.getElem?_append_right (by omega)] at hy
        have hb2 : b = (xs j).length := by
          have := (List.getElem?_eq_some_iff.1 hy).1; simp at this; omega
        subst hb2
        simp at hy; subst hy
        obtain ⟨e1, e2, e3, e4⟩ := hg0 hj
        have hne : g0 ≠ g := by
          rcases hgg with e5 | e5
          · have := (World.ownsRow.lt (h.own j hi) g e5).2; omega
          · omega
        refine ⟨g0, e1, by have := h.VV; omega, by simp [World.setCell]; omega, by rw [if_neg (by omega), if_neg hne, if_pos rfl], e4.same ((Below.heap_setCell _ _ _ _ (by show g0 ≠ V; omega)).trans (hg.block g0 e3 (by
          intro e5; have := (World.ownsRow.lt (h.own j hi) g0 e5.symm).2; omega)))⟩
    · rw [updV_other e] at hy; exact oldrow b y hy
/-- an operation of a drawn region without a guard, at its step -/
theorem step_open {P : Program} {ops : Array Oper} {o : Oper} {a : Act} {w : World} {K : Act → World → Prop} {Q : Exit → Act → World → Prop} {E : Prop} (hgd : o.guard = none) (h : Oper.wp P o a w K Q) :
    if Region.wanted o (yielded ops a.tmps) = true then Oper.wp P o a w K Q else E := by
  have hw : Region.wanted o (yielded ops a.tmps) = true := by simp [Region.wanted, hgd]
  rw [if_pos hw]; exact h
/-- the block of a slice -/
def blk : Option Value → Nat
  | some (.slice (some a) _ _) => a.block
  | _ => 0
/-- all four full: the memory of a search -/
theorem Bl.done {w : World} {base V N : Nat} {v : Nat → Value} {xs : Nat → List Value} {tag : Nat → Nat} (h : Bl w base V N v xs tag) (hN0 : 0 < N) (hN : N ≤ 16) (hl : ∀ i, i < 4 → (xs i).length = N) {Lf Df : Nat → Int}
    (eL : xs 2 = (List.range N).map fun b => .int .i64 (Lf b)) (eD : xs 3 = (List.range N).map fun b => .int .i64 (Df b)) :
    ∃ s : MvS, s.V = V ∧ s.N = N ∧ s.good base w.heap.size ∧ Mv s w (fun _ _ => 0) Lf Df := by
  have sl : ∀ i, i < 4 → ∃ g cap, v i = .slice (some ⟨g, 0, none⟩) N cap ∧ base ≤ g ∧ g < w.heap.size ∧ tag g = i + 1 ∧ (∀ b u, (xs i)[b]? = some u → w.cell? ⟨g, b, none⟩ = some u) ∧ ∀ b, b < N → w.frozen? ⟨g, b, none⟩ = false := fun i hi => by
    have ho := h.own i hi
    rw [hl i hi] at ho
    rcases ho.2 with ⟨_, h0⟩ | ⟨g, cap, cur, hv, hg, hh, hn, hc, hs, ht⟩
    · omega
    · rw [hv] at ho
      have hb := World.ownsRow.lt ho g rfl
      refine ⟨g, cap, hv, hb.1, hb.2, h.t i hi g (by rw [hv]; rfl), fun b u hu => ?_, fun b hb2 => by simp [World.frozen?, hh]⟩
      have := World.ownsRow.cells ho (g := g) rfl b u hu
      rwa [Addr.add_lit, Nat.zero_add] at this
  obtain ⟨G, gc, g1, g2, g3, g4, g5, g6⟩ := sl 0 (by omega)
  obtain ⟨X, xc, x1, x2, x3, x4, x5, x6⟩ := sl 1 (by omega)
  obtain ⟨Lb, lc, l1, l2, l3, l4, l5, l6⟩ := sl 2 (by omega)
  obtain ⟨Db, dc, d1, d2, d3, d4, d5, d6⟩ := sl 3 (by omega)
  have rw_ : ∀ i, i < 2 → ∀ b, b < N → ∃ u, (xs i)[b]? = some u ∧ u = .slice (some ⟨blk ((xs i)[b]?), 0, none⟩) N N ∧ base ≤ blk ((xs i)[b]?) ∧ blk ((xs i)[b]?) < w.heap.size ∧ tag (blk ((xs i)[b]?)) = 5 + 2 * b + i ∧ RowZ w i (blk ((xs i)[b]?)) N := fun i hi b hb => by
    obtain ⟨u, hu⟩ : ∃ u, (xs i)[b]? = some u := ⟨(xs i)[b]'(by rw [hl i (by omega)]; exact hb), List.getElem?_eq_getElem _⟩
    obtain ⟨g, e1, e2, e3, e4, e5⟩ := h.rows i hi b u hu
    have hb2 : blk ((xs i)[b]?) = g := by rw [hu, e1]; rfl
    rw [hb2]; exact ⟨u, hu, e1, e2, e3, e4, e5⟩
  have t0 := h.t0
  refine ⟨⟨V, N, G, gc, X, xc, Lb, lc, Db, dc, fun b => blk ((xs 0)[b]?), fun b => blk ((xs 1)[b]?)⟩, rfl, rfl, ⟨hN, h.VV, ⟨g2, g3⟩, ⟨x2, x3⟩, ⟨l2, l3⟩, ⟨d2, d3⟩, fun b hb => ?_, fun b hb => ?_, ?_, ?_, fun b hb => ?_, fun b hb => ?_, fun b c hb hc => ?_, fun b c hb hc hbc => ?_⟩, ?_⟩
  · obtain ⟨_, _, _, k1, k2, _⟩ := rw_ 0 (by omega) b hb; exact ⟨k1, k2⟩
  · obtain ⟨_, _, _, k1, k2, _⟩ := rw_ 1 (by omega) b hb; exact ⟨k1, k2⟩
  · refine ⟨?_, ?_, ?_, ?_⟩ <;> (intro e; dsimp only at e; have h1 := congrArg tag e; omega)
  · refine ⟨?_, ?_, ?_⟩ <;> (intro e; dsimp only at e; have h1 := congrArg tag e; omega)
  · obtain ⟨_, _, _, _, _, k3, _⟩ := rw_ 0 (by omega) b hb
    refine ⟨?_, ?_, ?_, ?_, ?_⟩ <;> (intro e; dsimp only at e; have h1 := congrArg tag e; omega)
  · obtain ⟨_, _, _, _, _, k3, _⟩ := rw_ 1 (by omega) b hb
    refine ⟨?_, ?_⟩ <;> (intro e; dsimp only at e; have h1 := congrArg tag e; omega)
  · obtain ⟨_, _, _, _, _, k3, _⟩ := rw_ 0 (by omega) b hb
    obtain ⟨_, _, _, _, _, m3, _⟩ := rw_ 1 (by omega) c hc
    intro e; dsimp only at e; have h1 := congrArg tag e; omega
  · obtain ⟨_, _, _, _, _, k3, _⟩ := rw_ 0 (by omega) b hb
    obtain ⟨_, _, _, _, _, m3, _⟩ := rw_ 0 (by omega) c hc
    intro e; dsimp only at e; have h1 := congrArg tag e; omega
  · refine ⟨by rw [(h.c 0 (by omega)).1, g1], by rw [(h.c 1 (by omega)).1, x1], by rw [(h.c 2 (by omega)).1, l1], by rw [(h.c 3 (by omega)).1, d1], fun b hb => ?_, fun b hb => ?_, fun b a hb ha => ?_, fun b a hb ha => ?_, fun b hb => ⟨?_, l6 b hb⟩, fun b hb => ⟨?_, d6 b hb⟩⟩
    · obtain ⟨u, hu, e, _⟩ := rw_ 0 (by omega) b hb; rw [g5 b u hu, e]
    · obtain ⟨u, hu, e, _⟩ := rw_ 1 (by omega) b hb; rw [x5 b u hu, e]
    · obtain ⟨u, hu, e, _, _, _, hz⟩ := rw_ 1 (by omega) b hb; exact (hz a ha).1
    · obtain ⟨u, hu, e, _, _, _, hz⟩ := rw_ 0 (by omega) b hb; exact hz a ha
    · exact l5 b _ (by rw [eL, List.getElem?_map, List.getElem?_range hb]; rfl)
    · exact d5 b _ (by rw [eD, List.getElem?_map, List.getElem?_range hb]; rfl)
end Go.Proofs.YtefmlbahmakboaaGreatDoor
