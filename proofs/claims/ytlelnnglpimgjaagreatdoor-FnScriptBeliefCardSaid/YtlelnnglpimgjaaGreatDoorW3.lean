/- Masses in lowest terms: makeMass, l3Made. -/
import Derived.Test.YtlelnnglpimgjaaGreatDoorW2
set_option linter.unusedSimpArgs false
set_option linter.unusedVariables false
namespace Go.Proofs.YtlelnnglpimgjaaGreatDoor
open Go.RowKit
/-- a function that returns a mass and whether there is one has returned r, its parts in new memory -/
def RetM (r : MR) (base : Nat) (e : Ending) (w' : World) : Prop :=
  ∃ v, e = .returned (.tuple #[.agg #[.int .i64 r.size, v], .bool r.ok]) ∧ Row w' base v r.parts
theorem RetM.no (base : Nat) (w' : World) : RetM MR.no base (.returned (.tuple #[.agg #[.int .i64 0, .slice none 0 0], .bool false])) w' := ⟨_, rfl, Row.nil _ _⟩

theorem heap_set_known {w : World} {b i : Nat} {u : Value} {cs : Array Value} {t : TypeId} {fr : Nat × Nat} (h : w.heap[b]? = some (.cells cs t fr)) :
    (w.setCell ⟨b, i, none⟩ u).heap[b]? = some (.cells (cs.setIfInBounds i u) t fr) := by
  have hlt := lt_of_block h
  have h' : w.heap[b] = .cells cs t fr := by simpa [Array.getElem?_eq_getElem hlt] using h
  show (w.heap.modify b _)[b]? = _
  rw [Array.getElem?_eq_getElem (by simpa using hlt), Array.getElem_modify_self, h']
  simp
theorem cell_known {w : World} {b i : Nat} {cs : Array Value} {t : TypeId} {fr : Nat × Nat} (h : w.heap[b]? = some (.cells cs t fr)) : w.cell? ⟨b, i, none⟩ = cs[i]? := by simp [World.cell?, h]
theorem free_known {w : World} {b i : Nat} {cs : Array Value} {t : TypeId} (h : w.heap[b]? = some (.cells cs t (0, 0))) : w.frozen? ⟨b, i, none⟩ = false := by simp [World.frozen?, h]
theorem below_of_eq {w w' : World} (h : w = w') : Below w.heap.size w w' := by subst h; exact Below.refl _ _
theorem Row.setBelow {w : World} {base : Nat} {v : Value} {xs : List Int} (h : Row w base v xs) {a : Addr} (ha : a.block < base) (u : Value) : Row (w.setCell a u) base v xs :=
  ownsRow_setCell_other h (fun e => by have := (h.block _ e).1; omega) u
/-- a struct of two fields in block C, its slice field appended to -/
theorem field_step {w1 wr wa w' : World} {C base : Nat} {a v v' : Value} {t : TypeId} {xs ys : List Int} (hC : wr.heap[C]? = some (.cells #[a, v] t (0, 0))) (hcb : C < base)
    (hrow : Row wr base v xs) (hB : Below C w1 wr) (ha : Below wr.heap.size wr wa) (hr' : Row w' base v' ys) (hg : wa.grownBy w' v.ownBlock) :
    w'.cell? ⟨C, 1, none⟩ = some v ∧ w'.frozen? ⟨C, 1, none⟩ = false ∧ (w'.setCell ⟨C, 1, none⟩ v').heap[C]? = some (.cells #[a, v'] t (0, 0)) ∧ Row (w'.setCell ⟨C, 1, none⟩ v') base v' ys ∧ Below C w1 (w'.setCell ⟨C, 1, none⟩ v') ∧ C < w'.heap.size := by
  have hlt := lt_of_block hC
  have hne : some C ≠ v.ownBlock := by
    intro e
    have := (hrow.block C e.symm).1
    omega
  have h1 : wa.heap[C]? = some (.cells #[a, v] t (0, 0)) := by rw [ha.block C hlt]; exact hC
  have h2 : w'.heap[C]? = some (.cells #[a, v] t (0, 0)) := by rw [hg.block C (lt_of_block h1) hne]; exact h1
  refine ⟨by rw [cell_known h2]; rfl, free_known h2, by rw [heap_set_known h2]; rfl, ?_, ?_, lt_of_block h2⟩
  · refine ownsRow_setCell_other hr' ?_ _
    intro e
    have := (hr'.block C e).1
    omega
  · have h3 : Below C w1 wa := hB.trans (ha.mono (Nat.le_of_lt hlt))
    exact (h3.grown hg (Nat.le_of_lt (lt_of_block h1)) (fun k hk => by have := (hrow.block k hk).1; omega)).setCell (Nat.le_refl _) _
theorem mkMass_zero {s : Int} {xs : List Int} (h : gcdL xs = 0) : mkMass s xs = MR.no := by simp [mkMass, h]
theorem take_snoc (xs : List Int) (k : Nat) (d : Int) (h : k < xs.length) : (xs.map (· / d)).take (k + 1) = (xs.map (· / d)).take k ++ [nth xs k / d] := by
  rw [List.take_succ_eq_append_getElem (by simpa using h)]; simp [nth_eq _ _ h]
theorem quo_eq (x d : Int) (h0 : 0 ≤ x) (h1 : x ≤ 4000000000000000000) (hd : 1 ≤ d) : IntKind.i64.wrap (x.tdiv d) = x / d := by
  have h2 : 0 ≤ x / d := Int.ediv_nonneg h0 (by omega)
  have h3 : x / d ≤ x := Int.ediv_le_self _ h0
  rw [Int.tdiv_eq_ediv_of_nonneg h0]; exact IntWalk.i64_in _ (by omega)
set_option maxHeartbeats 1000000 in
theorem makeMass_any (s : Int) (ao : Option Addr) (n c : Nat) (xs : List Int) (w : World) (hx : IntsAt w ao n xs) (hn : n ≤ 16) (hb : ∀ k, k < n → 0 ≤ nth xs k ∧ nth xs k ≤ 4000000000000000000) :
    Calls Tryz.prog 53 #[.int .i64 s, .slice ao n c] w fun e w' => RetM (mkMass s xs) w.heap.size e w' ∧ Below w.heap.size w w' := by
  have hcap := hx.cap
  have HL := hid hx.len
  have HD := hid (fun k (hk : k < n) => (by have := hb k hk; omega : -4000000000000000000 ≤ nth xs k ∧ nth xs k ≤ 4000000000000000000))
  have HB := hid hb
  clear hb
  have hg0 := gcdTo_nonneg xs xs.length
  by_cases hz : gcdL xs = 0
  · rw [mkMass_zero hz]
    have HZ := hid hz
    clear hz hg0
    go_enter Tryz.func53, Tryz.ntmps53
    go_wp2_with fail
    refine (divisorOf_any _ _ _ _ _ (hx.below (below_alloc w _)) HD.out).mono ?_; rintro e w1 ⟨rfl, hb1⟩
    rw [HZ.out]
    obtain ⟨h10, h11, f10, f11, hB1⟩ := box2f hb1
    clear hb1
    go_wp2
    refine bodyPost_ret (v := .tuple #[.agg #[.int .i64 0, .slice none 0 0], .bool false]) (by simp [results, Tryz.results53, go_sem, h10, h11]) rfl ⟨RetM.no _ _, ?_⟩
    exact (hB1.setCell (Nat.le_refl _) _).setCell (Nat.le_refl _) _
  · have hg1 : 1 ≤ gcdL xs := by have : 0 ≤ gcdL xs := hg0; omega
    have hgm : gcdL xs ≤ 4000000000000000000 := by
      by_cases h0 : n = 0
      · exfalso; apply hz; show gcdTo xs xs.length = 0; rw [HL.out, h0]; rfl
      · refine gcdTo_le xs 4000000000000000000 (by omega) xs.length (fun k hk => ?_)
        have := HD.out k (by rw [← HL.out]; exact hk); omega
    have HZ := hid hz
    clear hz hg0
    obtain ⟨d, HDd⟩ : ∃ d, Hid (gcdL xs = d) := ⟨_, rfl⟩
    rw [HDd.out] at hg1 hgm
    have hd0 : (d == 0) = false := by simpa using (show ¬ d = 0 by omega)
    go_enter Tryz.func53, Tryz.ntmps53
    go_wp2_with fail
    refine (divisorOf_any _ _ _ _ _ (hx.below (below_alloc w _)) HD.out).mono ?_; rintro e w1 ⟨rfl, hb1⟩
    rw [HDd.out]
    obtain ⟨h10, h11, f10, f11, hB1⟩ := box2f hb1
    clear hb1
    go_wp2_with fail
    have HDk : Hid (∀ k, k < xs.length → (xs.map (· / d)).take (k + 1) = (xs.map (· / d)).take k ++ [nth xs k / d]) := fun k hk => take_snoc xs k d hk
    go_loopw [9, 19] (fun _ i wr => ∃ (k : Nat) (v : Value), k ≤ n ∧ i = .int .i64 k ∧ wr.heap[w1.heap.size]? = some (.cells #[.int .i64 s, v] 25 (0, 0)) ∧ Row wr (w1.heap.size + 1) v ((xs.map (· / d)).take k) ∧ Below w1.heap.size w1 wr) (fun _ i _ => n - (intOf i).toNat)
    case atStart => exact ⟨0, _, by omega, rfl, heap_alloc_new w1 _, Row.nil _ _, below_alloc w1 _⟩
    case round =>
      obtain ⟨k, v, hk, rfl, hC, hrow, hBr⟩ := hrel
      have hB := chain hB1 hBr
      have hc1 := cell_known (i := 1) hC
      have hf1 := free_known (i := 1) hC
      by_cases hlt : k < n
      · obtain ⟨b, off, rfl, hbs, hbs', hck⟩ := hx.at hB hlt
        have hxb := HB.out k hlt
        have hlen : ((xs.map (· / d)).take k).length = k := by rw [List.length_take, List.length_map, HL.out]; omega
        have HLn := hid hlen; clear hlen
        have hq : 0 ≤ nth xs k / d := Int.ediv_nonneg (by omega) (by omega)
        have hq2 : nth xs k / d ≤ nth xs k := Int.ediv_le_self _ (by omega)
        have hCs := lt_of_block hC
        have HC := hid hC; clear hC
        have hdz : ¬ d = 0 := by omega
        have hqe := quo_eq (nth xs k) d (by omega) (by omega) (by omega)
        have HDn := HDk.out k (by rw [HL.out]; exact hlt)
        have HDK := hid HDn; clear HDn
        go_wp2
        go_region_law ((refine step_append_int rfl _ _ rfl (w1.heap.size + 1) v _ k HLn.out rfl (hrow.below ?_) _ _ (nth xs k / d) rfl ?_ ?_ ?_ ?_; exact ((Below.refl _ _).drew.alloc (Nat.le_refl _) _); simp; omega; (simp; omega); intro g c' w' hrow' hgrow; obtain ⟨g1, g2, g3, g4, g5, g6⟩ := field_step HC.out (Nat.lt_succ_self _) hrow hBr ((Below.refl _ _).drew.alloc (Nat.le_refl _) _) hrow' hgrow))
        all_goals
          go_wp2
          go_roundw
          case rel => first | exact ⟨k + 1, _, by omega, by go_num, g3, by rw [HDK.out]; exact g4, g5⟩ | exact ⟨_, ⟨k + 1, _, by omega, by go_num, g3, by rw [HDK.out]; exact g4, g5⟩, rfl⟩ | exact ⟨_, _, ⟨k + 1, _, by omega, by go_num, g3, by rw [HDK.out]; exact g4, g5⟩, rfl, rfl⟩ | exact ⟨_, _, _, ⟨k + 1, _, by omega, by go_num, g3, by rw [HDK.out]; exact g4, g5⟩, rfl, rfl, rfl⟩ | exact ⟨_, _, _, _, ⟨k + 1, _, by omega, by go_num, g3, by rw [HDK.out]; exact g4, g5⟩, rfl, rfl, rfl, rfl⟩ | exact ⟨_, _, _, _, _, ⟨k + 1, _, by omega, by go_num, g3, by rw [HDK.out]; exact g4, g5⟩, rfl, rfl, rfl, rfl, rfl⟩
          case measure => simp [intOf]; omega
      · have hkn : k = n := by omega
        have hfull : (xs.map (· / d)).take k = xs.map (· / d) := List.take_of_length_le (by rw [List.length_map, HL.out]; omega)
        rw [hfull] at hrow
        clear hfull hkn
        obtain ⟨ao', n', c', rfl, hi⟩ := hrow.ints
        have HM : Hid (mkMass s xs = if massOk s (xs.map (· / d)) then ⟨s, xs.map (· / d), true⟩ else MR.no) := by
          show mkMass s xs = _; unfold mkMass; rw [if_neg HZ.out, HDd.out]
        have hc0 := cell_known (i := 0) hC
        have HC := hid hC; clear hC
        have g10 := keep hBr h10
        have g11 := keep hBr h11
        have gf10 := keepF hBr h10 f10
        have gf11 := keepF hBr h11 f11
        go_wp2_with fail
        refine (isMass_any _ _ _ _ _ _ hi).mono ?_; rintro e w2 ⟨rfl, hb2⟩
        replace g10 := keep hb2 g10
        replace g11 := keep hb2 g11
        replace gf10 := keepF hb2 (keep hBr h10) gf10
        replace gf11 := keepF hb2 (keep hBr h11) gf11
        have hD0 := keep hb2 hc0
        have hD1 := keep hb2 hc1
        have hB2 := chain hB hb2
        have hrow2 := hrow.below hb2
        clear hc0 hc1 h10 h11 f10 f11 hf1
        cases hm : massOk s (xs.map (· / d))
        · go_wp2
          refine bodyPost_ret (v := .tuple #[.agg #[.int .i64 0, .slice none 0 0], .bool false]) (by simp [results, Tryz.results53, go_sem, g10, g11]) rfl ⟨?_, (hB2.setCell (Nat.le_refl _) _).setCell (Nat.le_refl _) _⟩
          rw [HM.out, hm]
          exact RetM.no _ _
        · go_wp2
          refine bodyPost_ret (v := .tuple #[.agg #[.int .i64 s, .slice ao' n' c'], .bool true]) (by simp [results, Tryz.results53, go_sem, g10, g11]) rfl ⟨?_, (hB2.setCell (Nat.le_refl _) _).setCell (Nat.le_refl _) _⟩
          rw [HM.out, if_pos hm]
          exact ⟨_, rfl, ((hrow2.setBelow (by have := hB1.size; simp; omega) _).setBelow (by have := hB1.size; simp; omega) _).mono (by have := hB1.size; omega)⟩
set_option maxHeartbeats 1000000 in
theorem l3Made_any (s : Int) (ao : Option Addr) (n c : Nat) (xs : List Int) (w : World) (hx : IntsAt w ao n xs) (hn : n ≤ 16) (hb : ∀ k, k < n → 0 ≤ nth xs k ∧ nth xs k ≤ 4000000000000000000) :
    Calls Tryz.prog 105 #[.int .i64 s, .slice ao n c] w fun e w' => RetM (mkMass s xs) w.heap.size e w' ∧ Below w.heap.size w w' := by
  have hcap := hx.cap
  have HL := hid hx.len
  have HD := hid (fun k (hk : k < n) => (by have := hb k hk; omega : -4000000000000000000 ≤ nth xs k ∧ nth xs k ≤ 4000000000000000000))
  have HB := hid hb
  clear hb
  have hg0 := gcdTo_nonneg xs xs.length
  by_cases hz : gcdL xs = 0
  · rw [mkMass_zero hz]
    have HZ := hid hz
    clear hz hg0
    go_enter Tryz.func105, Tryz.ntmps105
    go_wp2_with fail
    refine (l3Lowest_any _ _ _ _ _ (hx.below (below_alloc w _)) HD.out).mono ?_; rintro e w1 ⟨rfl, hb1⟩; replace hb1 := below_of_eq hb1
    rw [HZ.out]
    obtain ⟨h10, h11, f10, f11, hB1⟩ := box2f hb1
    clear hb1
    go_wp2
    refine bodyPost_ret (v := .tuple #[.agg #[.int .i64 0, .slice none 0 0], .bool false]) (by simp [results, Tryz.results105, go_sem, h10, h11]) rfl ⟨RetM.no _ _, ?_⟩
    exact (hB1.setCell (Nat.le_refl _) _).setCell (Nat.le_refl _) _
  · have hg1 : 1 ≤ gcdL xs := by have : 0 ≤ gcdL xs := hg0; omega
    have hgm : gcdL xs ≤ 4000000000000000000 := by
      by_cases h0 : n = 0
      · exfalso; apply hz; show gcdTo xs xs.length = 0; rw [HL.out, h0]; rfl
      · refine gcdTo_le xs 4000000000000000000 (by omega) xs.length (fun k hk => ?_)
        have := HD.out k (by rw [← HL.out]; exact hk); omega
    have HZ := hid hz
    clear hz hg0
    obtain ⟨d, HDd⟩ : ∃ d, Hid (gcdL xs = d) := ⟨_, rfl⟩
    rw [HDd.out] at hg1 hgm
    have hd0 : (d == 0) = false := by simpa using (show ¬ d = 0 by omega)
    go_enter Tryz.func105, Tryz.ntmps105
    go_wp2_with fail
    refine (l3Lowest_any _ _ _ _ _ (hx.below (below_alloc w _)) HD.out).mono ?_; rintro e w1 ⟨rfl, hb1⟩; replace hb1 := below_of_eq hb1
    rw [HDd.out]
    obtain ⟨h10, h11, f10, f11, hB1⟩ := box2f hb1
    clear hb1
    go_wp2_with fail
    have HDk : Hid (∀ k, k < xs.length → (xs.map (· / d)).take (k + 1) = (xs.map (· / d)).take k ++ [nth xs k / d]) := fun k hk => take_snoc xs k d hk
    go_loopw [8] (fun i wr => ∃ (k : Nat) (v : Value), k ≤ n ∧ i = .int .i64 k ∧ wr.heap[w1.heap.size]? = some (.cells #[.int .i64 s, v] 25 (0, 0)) ∧ Row wr (w1.heap.size + 1) v ((xs.map (· / d)).take k) ∧ Below w1.heap.size w1 wr) (fun i _ => n - (intOf i).toNat)
    case atStart => exact ⟨0, _, by omega, rfl, heap_alloc_new w1 _, Row.nil _ _, below_alloc w1 _⟩
    case round =>
      obtain ⟨k, v, hk, rfl, hC, hrow, hBr⟩ := hrel
      have hB := chain hB1 hBr
      have hc1 := cell_known (i := 1) hC
      have hf1 := free_known (i := 1) hC
      by_cases hlt : k < n
      · obtain ⟨b, off, rfl, hbs, hbs', hck⟩ := hx.at hB hlt
        have hxb := HB.out k hlt
        have hlen : ((xs.map (· / d)).take k).length = k := by rw [List.length_take, List.length_map, HL.out]; omega
        have HLn := hid hlen; clear hlen
        have hq : 0 ≤ nth xs k / d := Int.ediv_nonneg (by omega) (by omega)
        have hq2 : nth xs k / d ≤ nth xs k := Int.ediv_le_self _ (by omega)
        have hCs := lt_of_block hC
        have HC := hid hC; clear hC
        have hdz : ¬ d = 0 := by omega
        have hqe := quo_eq (nth xs k) d (by omega) (by omega) (by omega)
        have HDn := HDk.out k (by rw [HL.out]; exact hlt)
        have HDK := hid HDn; clear HDn
        go_wp2
        go_region_law ((refine step_append_int rfl _ _ rfl (w1.heap.size + 1) v _ k HLn.out rfl (hrow.below ?_) _ _ (nth xs k / d) rfl ?_ ?_ ?_ ?_; exact ((Below.refl _ _).drew.alloc (Nat.le_refl _) _); simp; omega; (simp; omega); intro g c' w' hrow' hgrow; obtain ⟨g1, g2, g3, g4, g5, g6⟩ := field_step HC.out (Nat.lt_succ_self _) hrow hBr ((Below.refl _ _).drew.alloc (Nat.le_refl _) _) hrow' hgrow))
        all_goals
          go_wp2
          go_roundw
          case rel => first | exact ⟨k + 1, _, by omega, by go_num, g3, by rw [HDK.out]; exact g4, g5⟩ | exact ⟨_, ⟨k + 1, _, by omega, by go_num, g3, by rw [HDK.out]; exact g4, g5⟩, rfl⟩ | exact ⟨_, _, ⟨k + 1, _, by omega, by go_num, g3, by rw [HDK.out]; exact g4, g5⟩, rfl, rfl⟩ | exact ⟨_, _, _, ⟨k + 1, _, by omega, by go_num, g3, by rw [HDK.out]; exact g4, g5⟩, rfl, rfl, rfl⟩ | exact ⟨_, _, _, _, ⟨k + 1, _, by omega, by go_num, g3, by rw [HDK.out]; exact g4, g5⟩, rfl, rfl, rfl, rfl⟩ | exact ⟨_, _, _, _, _, ⟨k + 1, _, by omega, by go_num, g3, by rw [HDK.out]; exact g4, g5⟩, rfl, rfl, rfl, rfl, rfl⟩
          case measure => simp [intOf]; omega
      · have hkn : k = n := by omega
        have hfull : (xs.map (· / d)).take k = xs.map (· / d) := List.take_of_length_le (by rw [List.length_map, HL.out]; omega)
        rw [hfull] at hrow
        clear hfull hkn
        obtain ⟨ao', n', c', rfl, hi⟩ := hrow.ints
        have HM : Hid (mkMass s xs = if massOk s (xs.map (· / d)) then ⟨s, xs.map (· / d), true⟩ else MR.no) := by
          show mkMass s xs = _; unfold mkMass; rw [if_neg HZ.out, HDd.out]
        have hc0 := cell_known (i := 0) hC
        have HC := hid hC; clear hC
        have g10 := keep hBr h10
        have g11 := keep hBr h11
        have gf10 := keepF hBr h10 f10
        have gf11 := keepF hBr h11 f11
        go_wp2_with fail
        refine (MassValid_any _ _ _ _ _ _ hi).mono ?_; rintro e w2 ⟨rfl, hb2⟩
        replace g10 := keep hb2 g10
        replace g11 := keep hb2 g11
        replace gf10 := keepF hb2 (keep hBr h10) gf10
        replace gf11 := keepF hb2 (keep hBr h11) gf11
        have hD0 := keep hb2 hc0
        have hD1 := keep hb2 hc1
        have hB2 := chain hB hb2
        have hrow2 := hrow.below hb2
        clear hc0 hc1 h10 h11 f10 f11 hf1
        cases hm : massOk s (xs.map (· / d))
        · go_wp2
          refine bodyPost_ret (v := .tuple #[.agg #[.int .i64 0, .slice none 0 0], .bool false]) (by simp [results, Tryz.results105, go_sem, g10, g11]) rfl ⟨?_, (hB2.setCell (Nat.le_refl _) _).setCell (Nat.le_refl _) _⟩
          rw [HM.out, hm]
          exact RetM.no _ _
        · go_wp2
          refine bodyPost_ret (v := .tuple #[.agg #[.int .i64 s, .slice ao' n' c'], .bool true]) (by simp [results, Tryz.results105, go_sem, g10, g11]) rfl ⟨?_, (hB2.setCell (Nat.le_refl _) _).setCell (Nat.le_refl _) _⟩
          rw [HM.out, if_pos hm]
          exact ⟨_, rfl, ((hrow2.setBelow (by have := hB1.size; simp; omega) _).setBelow (by have := hB1.size; simp; omega) _).mono (by have := hB1.size; omega)⟩
end Go.Proofs.YtlelnnglpimgjaaGreatDoor
