/- Appending integers in a drawn region, at a step. What the reference draws for FnChanceOfOrder (printed by mkd24.py). -/
import Derived.Test.YtnbjhmghobljaaaL2
import Derived.Test.YtnbjhmghobljaaaC4
import Derived.Maps.AppendAt
import Derived.Test.YtnbjhmghobljaaaD13
set_option linter.unusedSimpArgs false
set_option linter.unusedVariables false
namespace Go.Proofs.Ytnbjhmghobljaaa
open Go.RowKit
/-- at a step of a drawn region: integers that are read appended to owned ones -/
theorem step_append_ints {w : World} {ops : Array Oper} {o : Oper} {a : Act} {K : Act → World → Prop} {Q : Exit → Act → World → Prop} {E : Prop} (hgd : o.guard = none) (s x : Operand)
    (ho : o.op = .call { callee := .builtin .append, args := #[s, x], argTypes := #[23, 23] })
    (base : Nat) (v : Value) (xs : List Int) (n : Nat) (hl : xs.length = n) (hs : a.eval s = v) (hown : Row w base v xs)
    (ad : Addr) (m c : Nat) (ys : List Int) (hx : a.eval x = .slice (some ad) m c) (hly : ys.length = m) (hnew : ∀ j, j < m → w.cell? (ad.add j) = some (.int .i64 (nth ys j)))
    (hn : n + m < 1000000000) (hbase : base ≤ w.heap.size) (t : Nat) (ht : n + m = t)
    (h : ∀ ag cap w', Row w' base (.slice ag t cap) (xs ++ ys) → w.grownBy w' v.ownBlock → K (a.put o.dst (.slice ag t cap)) w') :
    if Region.wanted o (yielded ops a.tmps) = true then Oper.wp Try.prog o a w K Q else E := by
  have hw : Region.wanted o (yielded ops a.tmps) = true := by simp [Region.wanted, hgd]
  rw [if_pos hw]
  obtain ⟨i0, hi, hz0, hz1, hz2⟩ := info_parts info_int
  subst hl hly ht
  obtain ⟨v', w', hr, h2, h3, h4, h5⟩ := run_append_own_at (P := Try.prog) (w := w) base 23 o.type 3 i0 (.int .i64 0) 1 8 Try.underlying23 hi hz0 hz1 hz2 rfl (by decide) v xs.length (xs.map (Value.int .i64)) hown ad ys.length c (ys.map (Value.int .i64)) (by simp) (fun j u hu => by
    rw [List.getElem?_map] at hu
    by_cases hj : j < ys.length
    · rw [List.getElem?_eq_getElem hj] at hu
      simp at hu
      rw [hnew j hj, nth_eq _ _ hj, hu]
    · rw [List.getElem?_eq_none (by omega)] at hu; simp at hu) (fun u hu => by simp at hu; obtain ⟨q, _, rfl⟩ := hu; rfl) (by unfold maxLen; omega) (by omega) hbase
  have hrow : Row w' base v' (xs ++ ys) := by simpa [Row] using h2
  obtain ⟨ag, ng, cg, e, hi2⟩ := hrow.ints
  have hng : ng = xs.length + ys.length := by rw [← hi2.len, List.length_append]
  subst e
  rw [hng] at hrow hr
  unfold Oper.wp execOp
  simp only [ho, resolve, invoke, builtin, Sem.run_bind, Sem.run_pure, Result.andThen_ok, List.map_toArray, List.map_cons, List.map_nil, hs, hx, hr]
  exact h ag cg w' hrow h3
theorem one_new {w : World} {B : Nat} {k : Int} (h : w.cell? ⟨B, 0, none⟩ = some (.int .i64 k)) : ∀ j, j < 1 → w.cell? ((⟨B, 0, none⟩ : Addr).add j) = some (.int .i64 (nth [k] j)) := fun j hj => by
  obtain rfl : j = 0 := by omega
  rw [add_at, h]; rfl
theorem newCell (w : World) (v : Value) (t : TypeId) : (w.alloc (.cells #[v] t)).cell? ⟨w.heap.size, 0, none⟩ = some v := by simp
/-- behind an append to an owned list from block B0 on -/
theorem grown_from {w X w4 : World} {v : Value} (hX : Below w.heap.size w X) (hv : ∀ b, v.ownBlock = some b → w.heap.size ≤ b) (hg : X.grownBy w4 v.ownBlock) : Below w.heap.size w w4 := below_grownBy hX hX.size hg hv
theorem row0 {w : World} {A base : Nat} (h : w.heap[A]? = some (.cells #[] 3 (0, 0))) (hb : base ≤ A) : Row w base (.slice (some ⟨A, 0, none⟩) 0 0) [] :=
  ⟨by simp, .inr ⟨A, 0, #[], rfl, hb, h, Nat.le_refl _, by unfold maxLen; omega, rfl, rfl⟩⟩
theorem takeD {l : List Int} {j k : Nat} (h : k < j) : nth (l.take j) k = nth l k := by
  unfold nth; rw [List.getD_eq_getElem?_getD, List.getD_eq_getElem?_getD, List.getElem?_take, if_pos h]
theorem dropD (l : List Int) (j k : Nat) : nth (l.drop j) k = nth l (j + k) := by
  unfold nth; rw [List.getD_eq_getElem?_getD, List.getD_eq_getElem?_getD, List.getElem?_drop]
set_option maxRecDepth 100000 in
set_option maxHeartbeats 8000000 in
theorem l1Order_any (R P sz : Nat) (w : World) (hr : Rd w R P) (hP : P ≤ 340000000) (hsz : sz ≤ 5) :
    Calls Try.prog 33 #[.pointer (some ⟨R, 0, none⟩), .int .i64 sz] w (Drew R (P + 20) w (SomeList w.heap.size)) := by
  have hR := hr.1
  go_enter Try.func33, Try.ntmps33
  go_wp2
  go_loopw [5, 6] (fun o i wr => ∃ (k : Nat) (l : List Int) (g c' : Nat), k ≤ sz ∧ i = .int .i64 k ∧ o = .slice (some ⟨g, 0, none⟩) k c' ∧ Row wr w.heap.size (.slice (some ⟨g, 0, none⟩) k c') l ∧ l.length = k ∧ Rd wr R (P + k) ∧ Span R (R + 1) w wr) (fun o i _ => sz - (intOf i).toNat)
  case atStart =>
    exact ⟨0, [], w.heap.size, 0, by omega, rfl, rfl, World.ownsRow_lit w #[] 0 (Nat.le_refl _) (by unfold maxLen; omega) rfl, rfl, hr.on (below_alloc w _), Span.of_below (below_alloc w _)⟩
  case round =>
    obtain ⟨k, l, g, c', hk, rfl, rfl, hrow, hkl, hrd, hsp⟩ := hrel
    have hzr := hsp.size
    have hvb := hrow.block
    have hvg : w.heap.size ≤ g := (hvb g rfl).1
    have hkc : k ≤ c' := by
      rcases hrow.2 with ⟨h', _⟩ | ⟨g2, cap2, cur2, h', _, _, h1, _⟩
      · simp at h'
      · injection h' with _ e1 e2; omega
    by_cases hlt : k < sz
    · have hk0 : (0 : Int) ≤ (k : Int) := by omega
      have hk1 : (k : Int) < (sz : Int) := by omega
      go_wp2_with fail
      refine (pick_any R _ _ _ hrd (by omega) (by omega)).mono ?_; rintro e w3 ⟨_, rfl, ⟨x, rfl, hx0, hx1⟩, hrd2, hs⟩
      obtain ⟨q, rfl⟩ : ∃ q : Nat, x = (q : Int) := ⟨x.toNat, by omega⟩
      have hqk : q ≤ k := by omega
      have hrow3 := Span.row hs hrow (fun b e => by have := (hvb b e).1; omega)
      have hsp2 := hsp.trans hs
      have hz2 := hs.size
      have HLEN := hid hkl
      clear hrow hrd hsp hs hx0 hx1 hvb hkl
      have HCL : Hid (∀ W', Below w3.heap.size w3 W' → ∀ j, j < k → W'.cell? ⟨g, j, none⟩ = some (.int .i64 (nth l j))) := fun W' h j hj => ((hrow3.below h).cellAt hj).1
      have HLT : Hid ((l.take q).length = q) := by rw [Hid, List.length_take, HLEN.out]; omega
      have HLT2 : Hid (([] ++ l.take q).length = q) := by rw [Hid, List.nil_append, HLT.out]
      have HLT3 : Hid (([] ++ l.take q ++ [(k : Int)]).length = q + 1) := by rw [Hid, List.length_append, HLT2.out]; rfl
      have HLD : Hid ((l.drop q).length = k - q) := by rw [Hid, List.length_drop, HLEN.out]
      have HNT : Hid (∀ W', Below w3.heap.size w3 W' → ∀ j, j < q → W'.cell? ((⟨g, 0, none⟩ : Addr).add j) = some (.int .i64 (nth (l.take q) j))) := fun W' h j hj => by rw [add_at, takeD hj]; exact HCL.out W' h j (by omega)
      have hnek2 : w3.heap.size + 1 ≠ w3.heap.size := by omega
      have hnek3 : w3.heap.size ≠ w3.heap.size + 1 := by omega
      have r1 : Row ((w3.alloc (.cells #[] 3)).drew) w3.heap.size (.slice (some ⟨w3.heap.size, 0, none⟩) 0 0) [] := (Row.lit w3).below (drew_below _)
      have r2 : Row (((w3.alloc (.cells #[] 3)).alloc (.cells #[.int .i64 (k : Int)] 3)).drew) w3.heap.size (.slice (some ⟨w3.heap.size, 0, none⟩) 0 0) [] := ((Row.lit w3).below (below_alloc _ _)).below (drew_below _)
      have r3 : Row (((w3.alloc (.cells #[.int .i64 (k : Int)] 3)).alloc (.cells #[] 3)).drew) w3.heap.size (.slice (some ⟨w3.heap.size + 1, 0, none⟩) 0 0) [] := by
        have h := (Row.lit (w3.alloc (.cells #[.int .i64 (k : Int)] 3))).below (drew_below _)
        have e : (w3.alloc (.cells #[.int .i64 (k : Int)] 3)).heap.size = w3.heap.size + 1 := by simp
        rw [e] at h
        exact h.mono (by omega)
      have k2 : (((w3.alloc (.cells #[] 3)).alloc (.cells #[.int .i64 (k : Int)] 3)).drew).cell? ⟨w3.heap.size + 1, 0, none⟩ = some (.int .i64 (k : Int)) := by show ((w3.alloc (.cells #[] 3)).alloc (.cells #[.int .i64 (k : Int)] 3)).cell? _ = _; simp
      have k3 : (((w3.alloc (.cells #[.int .i64 (k : Int)] 3)).alloc (.cells #[] 3)).drew).cell? ⟨w3.heap.size, 0, none⟩ = some (.int .i64 (k : Int)) := by show ((w3.alloc (.cells #[.int .i64 (k : Int)] 3)).alloc (.cells #[] 3)).cell? _ = _; simp
      have d1 : Below w3.heap.size w3 ((w3.alloc (.cells #[] 3)).drew) := by (repeat (first | exact Below.refl _ _ | assumption | refine Below.alloc ?_ (by first | omega | (simp <;> omega)) _ | refine Below.setCell ?_ (by first | omega | (simp <;> omega)) _ | refine Below.drew ?_ | refine below_drewN ?_))
      have d2 : Below w3.heap.size w3 (((w3.alloc (.cells #[] 3)).alloc (.cells #[.int .i64 (k : Int)] 3)).drew) := by (repeat (first | exact Below.refl _ _ | assumption | refine Below.alloc ?_ (by first | omega | (simp <;> omega)) _ | refine Below.setCell ?_ (by first | omega | (simp <;> omega)) _ | refine Below.drew ?_ | refine below_drewN ?_))
      have d3 : Below w3.heap.size w3 (((w3.alloc (.cells #[.int .i64 (k : Int)] 3)).alloc (.cells #[] 3)).drew) := by (repeat (first | exact Below.refl _ _ | assumption | refine Below.alloc ?_ (by first | omega | (simp <;> omega)) _ | refine Below.setCell ?_ (by first | omega | (simp <;> omega)) _ | refine Below.drew ?_ | refine below_drewN ?_))
      have z1 := d1.size
      have z2 := d2.size
      have z3 := d3.size
      have hq1 : (q : Int) ≤ (k : Int) := by omega
      have hq2 : (q : Int) ≤ (c' : Int) := by omega
      have hq3 : (0 : Int) ≤ (q : Int) := by omega
      by_cases hcq : c' = q
      · subst hcq
        obtain rfl : k = c' := by omega
        have HND : Hid (∀ W', Below w3.heap.size w3 W' → ∀ j, j < 0 → W'.cell? ((⟨g, 0, none⟩ : Addr).add j) = some (.int .i64 (nth (l.drop k) j))) := fun W' h j hj => by omega
        go_wp2
        refine wp_region_joinF (ι := Value × Value × Value × Value × Value) (fun a i => (((((((((((((a.put (some 19) i.1).put (some 20) (.slice (some ⟨g, 0, none⟩) k k)).put (some 21) (.int .i64 (k : Int))).put (some 22) (.slice (some ⟨g, 0, none⟩) k k)).put (some 23) i.2.1).put (some 24) (.int .i64 (k : Int))).put (some 25) i.2.2.1).put (some 26) i.2.2.2.1).put (some 27) (.slice (some ⟨g, 0, none⟩) k k)).put (some 28) (.int .i64 (k : Int))).put (some 29) (.slice (some ⟨g, 0, none⟩) 0 0)).put (some 30) i.2.2.2.2).put (some 5) i.2.2.2.2)) (fun i w' => Row w' w3.heap.size i.2.2.2.2 (l.take k ++ [(k : Int)] ++ l.drop k) ∧ Below w3.heap.size w3 w') ?_ ?_
        · go_region_held3 (fun w' => Below w3.heap.size w3 w') (first | assumption | ((repeat (first | exact Below.refl _ _ | assumption | refine Below.alloc ?_ (by first | omega | (simp <;> omega)) _ | refine Below.setCell ?_ (by first | omega | (simp <;> omega)) _ | refine Below.drew ?_ | refine below_drewN ?_)); done)) (first | (refine step_append_ints rfl _ _ rfl w3.heap.size (.slice (some ⟨w3.heap.size, 0, none⟩) 0 0) [] 0 rfl rfl r1 ⟨g, 0, none⟩ k k (l.take k) rfl HLT.out (HNT.out _ d1) (by omega) z1 (k) (by omega) ?_; intro ag1 cp1 w4 hr4 hg4; have hB4 := grown_from d1 (fun b e => (r1.block b e).1) hg4; have hz4 := hB4.size; clear hg4) | (refine step_append_ints rfl _ _ rfl w3.heap.size (.slice (some ⟨w3.heap.size, 0, none⟩) 0 0) [] 0 rfl rfl r2 ⟨g, 0, none⟩ k k (l.take k) rfl HLT.out (HNT.out _ d2) (by omega) z2 (k) (by omega) ?_; intro ag1 cp1 w4 hr4 hg4; have hB4 := grown_from d2 (fun b e => (r2.block b e).1) hg4; have hz4 := hB4.size; have kb := keepG (g := w3.heap.size) hg4 k2 hnek2; clear hg4) | (refine step_append_ints rfl _ _ rfl w3.heap.size (.slice (some ⟨w3.heap.size + 1, 0, none⟩) 0 0) [] 0 rfl rfl r3 ⟨g, 0, none⟩ k k (l.take k) rfl HLT.out (HNT.out _ d3) (by omega) z3 (k) (by omega) ?_; intro ag1 cp1 w4 hr4 hg4; have hB4 := grown_from d3 (fun b e => (r3.block b e).1) hg4; have hz4 := hB4.size; have kb := keepG (g := w3.heap.size + 1) hg4 k3 hnek3; clear hg4) | (refine step_append_ints rfl _ _ rfl w3.heap.size (.slice ag1 (k) cp1) ([] ++ l.take k) (k) HLT2.out rfl hr4 ⟨w3.heap.size + 1, 0, none⟩ 1 1 [(k : Int)] rfl rfl (one_new kb) (by omega) hz4 (k + 1) (by omega) ?_; intro ag2 cp2 w5 hr5 hg5; have hB5 := grown_from hB4 (fun b e => (hr4.block b e).1) hg5; have hz5 := hB5.size; clear hg5) | (refine step_append_ints rfl _ _ rfl w3.heap.size (.slice ag1 (k) cp1) ([] ++ l.take k) (k) HLT2.out rfl hr4 ⟨w3.heap.size, 0, none⟩ 1 1 [(k : Int)] rfl rfl (one_new kb) (by omega) hz4 (k + 1) (by omega) ?_; intro ag2 cp2 w5 hr5 hg5; have hB5 := grown_from hB4 (fun b e => (hr4.block b e).1) hg5; have hz5 := hB5.size; clear hg5) | (refine step_append_ints rfl _ _ rfl w3.heap.size (.slice ag1 (k) cp1) ([] ++ l.take k) (k) HLT2.out rfl (hr4.below (below_alloc _ _)) ⟨w4.heap.size, 0, none⟩ 1 1 [(k : Int)] rfl rfl (one_new (newCell w4 _ _)) (by omega) (Nat.le_trans hz4 (below_alloc w4 _).size) (k + 1) (by omega) ?_; intro ag2 cp2 w5 hr5 hg5; have hB5 := grown_from (chain hB4 (below_alloc w4 _)) (fun b e => (hr4.block b e).1) hg5; have hz5 := hB5.size; clear hg5) | (refine step_append_ints rfl _ _ rfl w3.heap.size (.slice ag2 (k + 1) cp2) ([] ++ l.take k ++ [(k : Int)]) (k + 1) HLT3.out rfl hr5 ⟨g, 0, none⟩ 0 0 (l.drop k) rfl (HLD.out.trans (by omega)) (HND.out _ hB5) (by omega) hz5 (k + 1) (by omega) ?_; intro ag3 cp3 w6 hr6 hg6; have hB6 := grown_from hB5 (fun b e => (hr5.block b e).1) hg6; clear hg6))
          all_goals first | (refine ⟨⟨.slice (some ⟨w3.heap.size, 0, none⟩) 0 0, .slice ag1 (k) cp1, .slice (some ⟨w3.heap.size + 1, 0, none⟩) 1 1, .slice ag2 (k + 1) cp2, .slice ag3 (k + 1) cp3⟩, ?_, ?_, hB6⟩; (focus (first | (rfl; done) | (simp [Act.put]; done)))) | (refine ⟨⟨.slice (some ⟨w3.heap.size + 1, 0, none⟩) 0 0, .slice ag1 (k) cp1, .slice (some ⟨w3.heap.size, 0, none⟩) 1 1, .slice ag2 (k + 1) cp2, .slice ag3 (k + 1) cp3⟩, ?_, ?_, hB6⟩; (focus (first | (rfl; done) | (simp [Act.put]; done)))) | (refine ⟨⟨.slice (some ⟨w3.heap.size, 0, none⟩) 0 0, .slice ag1 (k) cp1, .slice (some ⟨w4.heap.size, 0, none⟩) 1 1, .slice ag2 (k + 1) cp2, .slice ag3 (k + 1) cp3⟩, ?_, ?_, hB6⟩; (focus (first | (rfl; done) | (simp [Act.put]; done))))
          all_goals (rw [List.nil_append] at hr6; exact hr6)
        rintro ⟨v47, v51, v53, v54, v58⟩ w6 ⟨hr6, hb6⟩
        change Row w6 w3.heap.size v58 (l.take k ++ [(k : Int)] ++ l.drop k) at hr6
        change Below w3.heap.size w3 w6 at hb6
        have HL6 : Hid ((l.take k ++ [(k : Int)] ++ l.drop k).length = k + 1) := by rw [Hid, List.length_append, List.length_append, HLT.out, HLD.out, List.length_singleton]; omega
        generalize l.take k ++ [(k : Int)] ++ l.drop k = l6 at *
        obtain ⟨g6, c6, he, _, _, _⟩ := hr6.form (by rw [HL6.out]; omega)
        rw [HL6.out] at he
        subst he
        have HR6 := hid (hr6.mono (base' := w.heap.size) (by omega))
        have HD6 := hid ((hrd2.on hb6).mono (Q := P + (k + 1)) (by omega))
        have HS6 := hid (hsp2.trans (Span.of_below hb6))
        clear hr6 hb6 hrow3 r1 r2 r3 k2 k3 d1 d2 d3 z1 z2 z3
        go_wp2
        go_roundw
        case rel => first | exact ⟨k + 1, l6, g6, c6, by omega, by go_num, rfl, HR6.out, HL6.out, HD6.out, HS6.out⟩ | exact ⟨_, ⟨k + 1, l6, g6, c6, by omega, by go_num, rfl, HR6.out, HL6.out, HD6.out, HS6.out⟩, rfl⟩ | exact ⟨_, _, ⟨k + 1, l6, g6, c6, by omega, by go_num, rfl, HR6.out, HL6.out, HD6.out, HS6.out⟩, rfl, rfl⟩ | exact ⟨_, _, _, ⟨k + 1, l6, g6, c6, by omega, by go_num, rfl, HR6.out, HL6.out, HD6.out, HS6.out⟩, rfl, rfl, rfl⟩ | exact ⟨_, _, _, _, ⟨k + 1, l6, g6, c6, by omega, by go_num, rfl, HR6.out, HL6.out, HD6.out, HS6.out⟩, rfl, rfl, rfl, rfl⟩ | exact ⟨_, _, _, _, _, ⟨k + 1, l6, g6, c6, by omega, by go_num, rfl, HR6.out, HL6.out, HD6.out, HS6.out⟩, rfl, rfl, rfl, rfl, rfl⟩
        case measure => simp [intOf]; omega
      · have h_a : ∀ j, (⟨g, q, none⟩ : Addr).add j = ⟨g, q + j, none⟩ := fun j => by unfold Addr.add; split <;> simp_all
        have HND : Hid (∀ W', Below w3.heap.size w3 W' → ∀ j, j < k - q → W'.cell? ((⟨g, q, none⟩ : Addr).add j) = some (.int .i64 (nth (l.drop q) j))) := fun W' h j hj => by rw [h_a, dropD]; exact HCL.out W' h _ (by omega)
        go_wp2
        refine wp_region_joinF (ι := Value × Value × Value × Value × Value) (fun a i => (((((((((((((a.put (some 19) i.1).put (some 20) (.slice (some ⟨g, 0, none⟩) k c')).put (some 21) (.int .i64 (q : Int))).put (some 22) (.slice (some ⟨g, 0, none⟩) q c')).put (some 23) i.2.1).put (some 24) (.int .i64 (k : Int))).put (some 25) i.2.2.1).put (some 26) i.2.2.2.1).put (some 27) (.slice (some ⟨g, 0, none⟩) k c')).put (some 28) (.int .i64 (q : Int))).put (some 29) (.slice (some ⟨g, q, none⟩) (k - q) (c' - q))).put (some 30) i.2.2.2.2).put (some 5) i.2.2.2.2)) (fun i w' => Row w' w3.heap.size i.2.2.2.2 (l.take q ++ [(k : Int)] ++ l.drop q) ∧ Below w3.heap.size w3 w') ?_ ?_
        · go_region_held3 (fun w' => Below w3.heap.size w3 w') (first | assumption | ((repeat (first | exact Below.refl _ _ | assumption | refine Below.alloc ?_ (by first | omega | (simp <;> omega)) _ | refine Below.setCell ?_ (by first | omega | (simp <;> omega)) _ | refine Below.drew ?_ | refine below_drewN ?_)); done)) (first | (refine step_append_ints rfl _ _ rfl w3.heap.size (.slice (some ⟨w3.heap.size, 0, none⟩) 0 0) [] 0 rfl rfl r1 ⟨g, 0, none⟩ q c' (l.take q) rfl HLT.out (HNT.out _ d1) (by omega) z1 (q) (by omega) ?_; intro ag1 cp1 w4 hr4 hg4; have hB4 := grown_from d1 (fun b e => (r1.block b e).1) hg4; have hz4 := hB4.size; clear hg4) | (refine step_append_ints rfl _ _ rfl w3.heap.size (.slice (some ⟨w3.heap.size, 0, none⟩) 0 0) [] 0 rfl rfl r2 ⟨g, 0, none⟩ q c' (l.take q) rfl HLT.out (HNT.out _ d2) (by omega) z2 (q) (by omega) ?_; intro ag1 cp1 w4 hr4 hg4; have hB4 := grown_from d2 (fun b e => (r2.block b e).1) hg4; have hz4 := hB4.size; have kb := keepG (g := w3.heap.size) hg4 k2 hnek2; clear hg4) | (refine step_append_ints rfl _ _ rfl w3.heap.size (.slice (some ⟨w3.heap.size + 1, 0, none⟩) 0 0) [] 0 rfl rfl r3 ⟨g, 0, none⟩ q c' (l.take q) rfl HLT.out (HNT.out _ d3) (by omega) z3 (q) (by omega) ?_; intro ag1 cp1 w4 hr4 hg4; have hB4 := grown_from d3 (fun b e => (r3.block b e).1) hg4; have hz4 := hB4.size; have kb := keepG (g := w3.heap.size + 1) hg4 k3 hnek3; clear hg4) | (refine step_append_ints rfl _ _ rfl w3.heap.size (.slice ag1 (q) cp1) ([] ++ l.take q) (q) HLT2.out rfl hr4 ⟨w3.heap.size + 1, 0, none⟩ 1 1 [(k : Int)] rfl rfl (one_new kb) (by omega) hz4 (q + 1) (by omega) ?_; intro ag2 cp2 w5 hr5 hg5; have hB5 := grown_from hB4 (fun b e => (hr4.block b e).1) hg5; have hz5 := hB5.size; clear hg5) | (refine step_append_ints rfl _ _ rfl w3.heap.size (.slice ag1 (q) cp1) ([] ++ l.take q) (q) HLT2.out rfl hr4 ⟨w3.heap.size, 0, none⟩ 1 1 [(k : Int)] rfl rfl (one_new kb) (by omega) hz4 (q + 1) (by omega) ?_; intro ag2 cp2 w5 hr5 hg5; have hB5 := grown_from hB4 (fun b e => (hr4.block b e).1) hg5; have hz5 := hB5.size; clear hg5) | (refine step_append_ints rfl _ _ rfl w3.heap.size (.slice ag1 (q) cp1) ([] ++ l.take q) (q) HLT2.out rfl (hr4.below (below_alloc _ _)) ⟨w4.heap.size, 0, none⟩ 1 1 [(k : Int)] rfl rfl (one_new (newCell w4 _ _)) (by omega) (Nat.le_trans hz4 (below_alloc w4 _).size) (q + 1) (by omega) ?_; intro ag2 cp2 w5 hr5 hg5; have hB5 := grown_from (chain hB4 (below_alloc w4 _)) (fun b e => (hr4.block b e).1) hg5; have hz5 := hB5.size; clear hg5) | (refine step_append_ints rfl _ _ rfl w3.heap.size (.slice ag2 (q + 1) cp2) ([] ++ l.take q ++ [(k : Int)]) (q + 1) HLT3.out rfl hr5 ⟨g, q, none⟩ (k - q) (c' - q) (l.drop q) rfl HLD.out (HND.out _ hB5) (by omega) hz5 (k + 1) (by omega) ?_; intro ag3 cp3 w6 hr6 hg6; have hB6 := grown_from hB5 (fun b e => (hr5.block b e).1) hg6; clear hg6))
          all_goals first | (refine ⟨⟨.slice (some ⟨w3.heap.size, 0, none⟩) 0 0, .slice ag1 (q) cp1, .slice (some ⟨w3.heap.size + 1, 0, none⟩) 1 1, .slice ag2 (q + 1) cp2, .slice ag3 (k + 1) cp3⟩, ?_, ?_, hB6⟩; (focus (first | (rfl; done) | (simp [Act.put]; done)))) | (refine ⟨⟨.slice (some ⟨w3.heap.size + 1, 0, none⟩) 0 0, .slice ag1 (q) cp1, .slice (some ⟨w3.heap.size, 0, none⟩) 1 1, .slice ag2 (q + 1) cp2, .slice ag3 (k + 1) cp3⟩, ?_, ?_, hB6⟩; (focus (first | (rfl; done) | (simp [Act.put]; done)))) | (refine ⟨⟨.slice (some ⟨w3.heap.size, 0, none⟩) 0 0, .slice ag1 (q) cp1, .slice (some ⟨w4.heap.size, 0, none⟩) 1 1, .slice ag2 (q + 1) cp2, .slice ag3 (k + 1) cp3⟩, ?_, ?_, hB6⟩; (focus (first | (rfl; done) | (simp [Act.put]; done))))
          all_goals (rw [List.nil_append] at hr6; exact hr6)
        rintro ⟨v47, v51, v53, v54, v58⟩ w6 ⟨hr6, hb6⟩
        change Row w6 w3.heap.size v58 (l.take q ++ [(k : Int)] ++ l.drop q) at hr6
        change Below w3.heap.size w3 w6 at hb6
        have HL6 : Hid ((l.take q ++ [(k : Int)] ++ l.drop q).length = k + 1) := by rw [Hid, List.length_append, List.length_append, HLT.out, HLD.out, List.length_singleton]; omega
        generalize l.take q ++ [(k : Int)] ++ l.drop q = l6 at *
        obtain ⟨g6, c6, he, _, _, _⟩ := hr6.form (by rw [HL6.out]; omega)
        rw [HL6.out] at he
        subst he
        have HR6 := hid (hr6.mono (base' := w.heap.size) (by omega))
        have HD6 := hid ((hrd2.on hb6).mono (Q := P + (k + 1)) (by omega))
        have HS6 := hid (hsp2.trans (Span.of_below hb6))
        clear hr6 hb6 hrow3 r1 r2 r3 k2 k3 d1 d2 d3 z1 z2 z3
        go_wp2
        go_roundw
        case rel => first | exact ⟨k + 1, l6, g6, c6, by omega, by go_num, rfl, HR6.out, HL6.out, HD6.out, HS6.out⟩ | exact ⟨_, ⟨k + 1, l6, g6, c6, by omega, by go_num, rfl, HR6.out, HL6.out, HD6.out, HS6.out⟩, rfl⟩ | exact ⟨_, _, ⟨k + 1, l6, g6, c6, by omega, by go_num, rfl, HR6.out, HL6.out, HD6.out, HS6.out⟩, rfl, rfl⟩ | exact ⟨_, _, _, ⟨k + 1, l6, g6, c6, by omega, by go_num, rfl, HR6.out, HL6.out, HD6.out, HS6.out⟩, rfl, rfl, rfl⟩ | exact ⟨_, _, _, _, ⟨k + 1, l6, g6, c6, by omega, by go_num, rfl, HR6.out, HL6.out, HD6.out, HS6.out⟩, rfl, rfl, rfl, rfl⟩ | exact ⟨_, _, _, _, _, ⟨k + 1, l6, g6, c6, by omega, by go_num, rfl, HR6.out, HL6.out, HD6.out, HS6.out⟩, rfl, rfl, rfl, rfl, rfl⟩
        case measure => simp [intOf]; omega
    · obtain rfl : k = sz := by omega
      go_wp2_with fail
      refine (pick_any R _ _ _ hrd (by omega) (by omega)).mono ?_; rintro e w2 ⟨_, rfl, ⟨z, rfl, hz0, hz1⟩, hrd2, hs⟩
      have hrow2 := Span.row hs hrow (fun b e => by have := (hvb b e).1; omega)
      have hsp2 := hsp.trans hs
      have hz2 := hs.size
      have hz9 : w.heap.size < w2.heap.size := by have h9 := hvb g rfl; omega
      have HLEN := hid hkl
      clear hrow hrd hsp hs hkl
      by_cases e0 : z = 0
      · subst e0
        go_wp2_with fail
        refine (num_any R _ _ 3 _ [0, 4, -1] _ (hrd2.on (by (repeat (first | exact Below.refl _ _ | assumption | refine Below.alloc ?_ (by first | omega | (simp <;> omega)) _ | refine Below.setCell ?_ (by first | omega | (simp <;> omega)) _ | refine Below.drew ?_ | refine below_drewN ?_)))) (by omega) (ints_lit w2 _ 3 [0, 4, -1] w2.heap.size 3 rfl (by simp) rfl (by omega)) (by omega) (by omega) (by omega)).mono ?_; rintro e w3 ⟨_, rfl, ⟨i, hi, rfl⟩, hrd3, hs⟩
        have ht : Span R (R + 1) w2 w3 := Span.trans (Span.of_below (by (repeat (first | exact Below.refl _ _ | assumption | refine Below.alloc ?_ (by first | omega | (simp <;> omega)) _ | refine Below.setCell ?_ (by first | omega | (simp <;> omega)) _ | refine Below.drew ?_ | refine below_drewN ?_)))) hs
        have hrow3 := Span.row ht hrow2 (fun b e => by have := (hvb b e).1; omega)
        have hsp3 := hsp2.trans ht
        have hz3 := ht.size
        clear hrow2 hrd2 hsp2 hs ht
        generalize nth [0, 4, -1] i = q
        go_wp2_with (at_builtin; refine wpList_append_int rfl _ _ rfl w.heap.size _ _ k HLEN.out (by rfl) (hrow3.below ((Below.refl _ _).alloc (Nat.le_refl _) _)) _ _ q (by rfl) (by simp) (by omega) (by simp; omega) ?_; intro g' cc w' hrow' hgrow)
        have HB1 := below_grownBy (B := R + 1) (show Below (R + 1) w3 (w3.alloc _) from (below_alloc w3 _).mono (by omega)) (by simp; omega) hgrow (fun b e => by have := (hvb b e).1; omega)
        have HB2 := below_grownBy (B := w.heap.size) (show Below w.heap.size w3 (w3.alloc _) from (below_alloc w3 _).mono (by omega)) (by simp; omega) hgrow (fun b e => (hvb b e).1)
        have HR2 := hrd3.below HB1 (by omega)
        have HS2 := hsp3.on HB2
        clear hgrow hrow3 hrd3 hsp3 HB1 HB2
        go_wp2
        go_ret
        exact ⟨_, rfl, ⟨_, hrow', by rw [List.length_append, HLEN.out]; simp; omega⟩, HR2.mono (by omega), HS2⟩
      · have hz0' : (z == 0) = false := by simpa using e0
        go_wp2
        go_ret
        exact ⟨_, rfl, ⟨l, hrow2, by rw [HLEN.out]; omega⟩, hrd2.mono (by omega), hsp2⟩
set_option maxRecDepth 100000 in
set_option maxHeartbeats 4000000 in
theorem DrawChanceOfOrder_any (ao : Option Addr) (n c : Nat) (w : World) (hx : BytesIn w w.heap.size ao n) (hnc : n ≤ c) :
    Calls Try.prog 6 #[.slice ao n c] w fun e w' => (∃ s p xs q ys, e = .returned (.tuple #[.agg #[.int .i64 s, p], q]) ∧ Row w' w.heap.size p xs ∧ xs.length ≤ 17 ∧ Row w' w.heap.size q ys ∧ ys.length ≤ 6) ∧ Below w.heap.size w w' := by
  obtain ⟨R, hRe⟩ : ∃ R, w.heap.size + 1 = R := ⟨_, rfl⟩
  have HX := hid hx
  clear hx
  go_enter Try.func6, Try.ntmps6
  go_wp2_with fail
  refine (l14OpenR_any ao n c R _ (by simp; exact hRe) (HX.out.on (below_alloc w _) (by omega)) hnc).mono ?_; rintro e w0 ⟨rfl, hrd, hb⟩
  have hz : R ≤ w0.heap.size := by have := hb.size; simp at this; omega
  have r0 := hb.cell (p := ⟨w.heap.size, 0, none⟩) (by simp; omega)
  have r1 := hb.cell (p := ⟨w.heap.size, 1, none⟩) (by simp; omega)
  have fr0 := hb.frozen (p := ⟨w.heap.size, 0, none⟩) (by simp; omega)
  have fr1 := hb.frozen (p := ⟨w.heap.size, 1, none⟩) (by simp; omega)
  simp at r0 r1 fr0 fr1
  have hB : Below w.heap.size w w0 := (below_alloc w _).trans (hb.mono (by omega))
  have hR1 := hrd.1
  have rb : Bx w0 w.heap.size _ _ := ⟨r0, r1, fr0, fr1, by omega⟩
  clear hb r0 r1 fr0 fr1
  go_wp2_with fail
  refine (l10Normal_any R _ _ hrd (by omega)).mono ?_; rintro e w1 ⟨_, rfl, ⟨s, p, xs, rfl, hrm, hlm⟩, hrdn, ht⟩
  clear hrd
  have hrd := hrdn
  clear hrdn
  replace rb := rb.span ht (by omega)
  replace hB := Span.below hB hB.size ht (by omega)
  have hZ1 := ht.size
  clear ht
  replace hrm : Row w1 (R + 1) p xs := hrm.mono (by omega)
  obtain ⟨am, nm, cm, rfl, him⟩ := hrm.ints
  clear him
  have hvm : ∀ b, (Value.slice am nm cm).ownBlock = some b → R + 1 ≤ b := fun b e => (hrm.block b e).1
  go_wp2
  obtain ⟨w3, hw3⟩ : ∃ W, w1.alloc (.cells #[.int .i64 s, .slice am nm cm] 25) = W := ⟨_, rfl⟩
  rw [hw3]
  have hd : Below w1.heap.size w1 w3 := by rw [← hw3]; (repeat (first | exact Below.refl _ _ | assumption | refine Below.alloc ?_ (by first | omega | (simp <;> omega)) _ | refine Below.setCell ?_ (by first | omega | (simp <;> omega)) _ | refine Below.drew ?_ | refine below_drewN ?_))
  have m0 : w3.cell? ⟨w1.heap.size, 0, none⟩ = some (.int .i64 s) := by rw [← hw3]; simp
  have m1 : w3.cell? ⟨w1.heap.size, 1, none⟩ = some (.slice am nm cm) := by rw [← hw3]; simp
  have hN : w1.heap.size + 1 = w3.heap.size := by rw [← hw3]; simp
  replace hrm := hrm.below hd
  replace hrd := hrd.on hd
  replace hB := chain hB hd
  replace rb := rb.below hd
  have q0 := rb.c0
  have q1 := rb.c1
  have q2 := rb.f0
  have q3 := rb.f1
  clear hd hw3
  have hmx : w1.heap.size < w3.heap.size := by omega
  have hS3 : w3.cell? ⟨w1.heap.size, 0, none⟩ = some (.int .i64 s) ∧ w3.cell? ⟨w1.heap.size, 1, none⟩ = some (.slice am nm cm) ∧ w3.heap.size ≤ w3.heap.size := ⟨m0, m1, Nat.le_refl _⟩
  clear q0 q1 q2 q3
  rcases (show s < 0 ∨ (0 ≤ s ∧ s ≤ 5) ∨ 5 < s by omega) with hs | ⟨hs, hs5⟩ | hs
  · have hs2 : ¬ 0 < s := by omega
    go_region_held3 (fun w' => w'.cell? ⟨w1.heap.size, 0, none⟩ = some (.int .i64 s) ∧ w'.cell? ⟨w1.heap.size, 1, none⟩ = some (.slice am nm cm) ∧ w3.heap.size ≤ w'.heap.size) (first | ((repeat (first | (with_reducible assumption) | (with_reducible refine kept2_set ?_ _ _ (by simp <;> omega)) | (with_reducible refine kept2_alloc hmx ?_ _) | (with_reducible refine kept2_drew ?_))); done)) (first | (go_at_call 33; refine (l1Order_any R _ 0 w3.drew (hrd.on (by (repeat (first | exact Below.refl _ _ | assumption | refine Below.alloc ?_ (by first | omega | (simp <;> omega)) _ | refine Below.setCell ?_ (by first | omega | (simp <;> omega)) _ | refine Below.drew ?_ | refine below_drewN ?_)))) (by omega) (by omega)).mono ?_; rintro e wy ⟨vy, rfl, ⟨ys, hry, hly⟩, hrdy, hsy⟩; have ht : Span R (R + 1) w3 wy := Span.trans (Span.of_below (by (repeat (first | exact Below.refl _ _ | assumption | refine Below.alloc ?_ (by first | omega | (simp <;> omega)) _ | refine Below.setCell ?_ (by first | omega | (simp <;> omega)) _ | refine Below.drew ?_ | refine below_drewN ?_)))) hsy; have hSy := kept2_span hS3 ht (by omega); have k0 := hSy.1; have k1 := hSy.2.1; have ksz := hSy.2.2; have hrmy := Span.row ht hrm (fun b e => by have := hvm b e; omega); have rby := rb.span ht (by omega); have hBy := Span.below hB hB.size ht (by omega); have s0 := rby.c0; have s1 := rby.c1; have s2 := rby.f0; have s3 := rby.f1; have s4 := rby.lt))
    have hvy := hry.block
    have rb2 := rby.put2 (.int .i64 s) (.slice am nm cm)
    have r20 := rb2.c0
    have r21 := rb2.c1
    have hr2 := (hrmy.mono (base' := w.heap.size + 1) (by omega)).put2 (b := w.heap.size) (x := .int .i64 s) (y := .slice am nm cm) (fun k e => by have := hvm k e; omega)
    have hy2 := (hry.mono (base' := w.heap.size + 1) (by first | omega | (simp <;> omega))).put2 (b := w.heap.size) (x := .int .i64 s) (y := .slice am nm cm) (fun k e => by have := (hvy k e).1; first | omega | (simp at this; omega))
    clear hS3 m0 m1 k0 k1 hSy hrd hB rb hrm
    go_wp2
    refine bodyPost_ret (v := .tuple #[.agg #[.int .i64 s, .slice am nm cm], vy]) (by simp [results, Try.results6, go_sem, r20, r21]) rfl ⟨⟨_, _, xs, _, ys, rfl, hr2.mono (by omega), hlm, hy2.mono (by omega), hly⟩, ?_⟩
    (repeat (first | exact Below.refl _ _ | assumption | refine Below.alloc ?_ (by first | omega | (simp <;> omega)) _ | refine Below.setCell ?_ (by first | omega | (simp <;> omega)) _ | refine Below.drew ?_ | refine below_drewN ?_))
  · obtain ⟨sz, rfl⟩ : ∃ sz : Nat, s = (sz : Int) := ⟨s.toNat, by omega⟩
    have hs2 : ¬ 5 < (sz : Int) := by omega
    have hs3 : ¬ (sz : Int) < 0 := by omega
    go_region_held3 (fun w' => w'.cell? ⟨w1.heap.size, 0, none⟩ = some (.int .i64 (sz : Int)) ∧ w'.cell? ⟨w1.heap.size, 1, none⟩ = some (.slice am nm cm) ∧ w3.heap.size ≤ w'.heap.size) (first | ((repeat (first | (with_reducible assumption) | (with_reducible refine kept2_set ?_ _ _ (by simp <;> omega)) | (with_reducible refine kept2_alloc hmx ?_ _) | (with_reducible refine kept2_drew ?_))); done)) (first | (go_at_call 33; refine (l1Order_any R _ sz w3.drew (hrd.on (by (repeat (first | exact Below.refl _ _ | assumption | refine Below.alloc ?_ (by first | omega | (simp <;> omega)) _ | refine Below.setCell ?_ (by first | omega | (simp <;> omega)) _ | refine Below.drew ?_ | refine below_drewN ?_)))) (by omega) (by omega)).mono ?_; rintro e wy ⟨vy, rfl, ⟨ys, hry, hly⟩, hrdy, hsy⟩; have ht : Span R (R + 1) w3 wy := Span.trans (Span.of_below (by (repeat (first | exact Below.refl _ _ | assumption | refine Below.alloc ?_ (by first | omega | (simp <;> omega)) _ | refine Below.setCell ?_ (by first | omega | (simp <;> omega)) _ | refine Below.drew ?_ | refine below_drewN ?_)))) hsy; have hSy := kept2_span hS3 ht (by omega); have k0 := hSy.1; have k1 := hSy.2.1; have ksz := hSy.2.2; have hrmy := Span.row ht hrm (fun b e => by have := hvm b e; omega); have rby := rb.span ht (by omega); have hBy := Span.below hB hB.size ht (by omega); have s0 := rby.c0; have s1 := rby.c1; have s2 := rby.f0; have s3 := rby.f1; have s4 := rby.lt))
    have hvy := hry.block
    have rb2 := rby.put2 (.int .i64 (sz : Int)) (.slice am nm cm)
    have r20 := rb2.c0
    have r21 := rb2.c1
    have hr2 := (hrmy.mono (base' := w.heap.size + 1) (by omega)).put2 (b := w.heap.size) (x := .int .i64 (sz : Int)) (y := .slice am nm cm) (fun k e => by have := hvm k e; omega)
    have hy2 := (hry.mono (base' := w.heap.size + 1) (by first | omega | (simp <;> omega))).put2 (b := w.heap.size) (x := .int .i64 (sz : Int)) (y := .slice am nm cm) (fun k e => by have := (hvy k e).1; first | omega | (simp at this; omega))
    clear hS3 m0 m1 k0 k1 hSy hrd hB rb hrm
    go_wp2
    refine bodyPost_ret (v := .tuple #[.agg #[.int .i64 (sz : Int), .slice am nm cm], vy]) (by simp [results, Try.results6, go_sem, r20, r21]) rfl ⟨⟨_, _, xs, _, ys, rfl, hr2.mono (by omega), hlm, hy2.mono (by omega), hly⟩, ?_⟩
    (repeat (first | exact Below.refl _ _ | assumption | refine Below.alloc ?_ (by first | omega | (simp <;> omega)) _ | refine Below.setCell ?_ (by first | omega | (simp <;> omega)) _ | refine Below.drew ?_ | refine below_drewN ?_))
  · have hs2 : ¬ s < 0 := by omega
    go_region_held3 (fun w' => w'.cell? ⟨w1.heap.size, 0, none⟩ = some (.int .i64 s) ∧ w'.cell? ⟨w1.heap.size, 1, none⟩ = some (.slice am nm cm) ∧ w3.heap.size ≤ w'.heap.size) (first | ((repeat (first | (with_reducible assumption) | (with_reducible refine kept2_set ?_ _ _ (by simp <;> omega)) | (with_reducible refine kept2_alloc hmx ?_ _) | (with_reducible refine kept2_drew ?_))); done)) (first | (go_at_call 33; refine (l1Order_any R _ 5 w3.drew (hrd.on (by (repeat (first | exact Below.refl _ _ | assumption | refine Below.alloc ?_ (by first | omega | (simp <;> omega)) _ | refine Below.setCell ?_ (by first | omega | (simp <;> omega)) _ | refine Below.drew ?_ | refine below_drewN ?_)))) (by omega) (by omega)).mono ?_; rintro e wy ⟨vy, rfl, ⟨ys, hry, hly⟩, hrdy, hsy⟩; have ht : Span R (R + 1) w3 wy := Span.trans (Span.of_below (by (repeat (first | exact Below.refl _ _ | assumption | refine Below.alloc ?_ (by first | omega | (simp <;> omega)) _ | refine Below.setCell ?_ (by first | omega | (simp <;> omega)) _ | refine Below.drew ?_ | refine below_drewN ?_)))) hsy; have hSy := kept2_span hS3 ht (by omega); have k0 := hSy.1; have k1 := hSy.2.1; have ksz := hSy.2.2; have hrmy := Span.row ht hrm (fun b e => by have := hvm b e; omega); have rby := rb.span ht (by omega); have hBy := Span.below hB hB.size ht (by omega); have s0 := rby.c0; have s1 := rby.c1; have s2 := rby.f0; have s3 := rby.f1; have s4 := rby.lt))
    have hvy := hry.block
    have rb2 := rby.put2 (.int .i64 s) (.slice am nm cm)
    have r20 := rb2.c0
    have r21 := rb2.c1
    have hr2 := (hrmy.mono (base' := w.heap.size + 1) (by omega)).put2 (b := w.heap.size) (x := .int .i64 s) (y := .slice am nm cm) (fun k e => by have := hvm k e; omega)
    have hy2 := (hry.mono (base' := w.heap.size + 1) (by first | omega | (simp <;> omega))).put2 (b := w.heap.size) (x := .int .i64 s) (y := .slice am nm cm) (fun k e => by have := (hvy k e).1; first | omega | (simp at this; omega))
    clear hS3 m0 m1 k0 k1 hSy hrd hB rb hrm
    go_wp2
    refine bodyPost_ret (v := .tuple #[.agg #[.int .i64 s, .slice am nm cm], vy]) (by simp [results, Try.results6, go_sem, r20, r21]) rfl ⟨⟨_, _, xs, _, ys, rfl, hr2.mono (by omega), hlm, hy2.mono (by omega), hly⟩, ?_⟩
    (repeat (first | exact Below.refl _ _ | assumption | refine Below.alloc ?_ (by first | omega | (simp <;> omega)) _ | refine Below.setCell ?_ (by first | omega | (simp <;> omega)) _ | refine Below.drew ?_ | refine below_drewN ?_))
end Go.Proofs.Ytnbjhmghobljaaa
