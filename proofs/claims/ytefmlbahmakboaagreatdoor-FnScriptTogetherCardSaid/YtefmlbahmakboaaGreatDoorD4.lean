/- What the reference's drawing functions draw: masses. What the reference's drawing functions draw: some value, in new memory (printed by drawgen.py). -/
import Derived.Test.YtefmlbahmakboaaGreatDoorD3
import Derived.Test.YtefmlbahmakboaaGreatDoorM2
import Derived.Test.YtefmlbahmakboaaGreatDoorX1
set_option linter.unusedSimpArgs false
set_option linter.unusedVariables false
namespace Go.Proofs.YtefmlbahmakboaaGreatDoor
open Go.RowKit
/-- the parts of the mass that is sure of set a -/
def sureP (s : Int) (a : Nat) : List Int := (List.replicate (nsets s) 0).set a 1
theorem sureP_len (s : Int) (a : Nat) : (sureP s a).length = nsets s := by simp [sureP]
theorem sureP_dot (g : Nat → Int) (s : Int) (a : Nat) (ha : a < nsets s) : dot g (sureP s a) (nsets s) = g a := by
  unfold sureP
  rw [dot_set _ _ _ _ _ ha (by simp), dot_zero, nth_replicate]; omega
theorem sureP_nth (s : Int) (a k : Nat) (hk : k < nsets s) : nth (sureP s a) k = if a = k then 1 else 0 := by
  unfold sureP
  rw [nth_set, nth_replicate]
  by_cases h : a = k
  · rw [if_pos ⟨h, by simpa using hk⟩, if_pos h]
  · rw [if_neg (fun e => h e.1), if_neg h]
theorem sure_ok {s : Int} {a : Nat} (hs : okSize s = true) (ha : a < nsets s) : massOk s (sureP s a) = true := by
  have hsum : isum (sureP s a) = 1 := by rw [isum_dot, sureP_len, sureP_dot _ _ _ ha]
  have hg : gcdL (sureP s a) = 1 := by
    have h1 := gcdTo_dvd (sureP s a) (sureP s a).length a (by rw [sureP_len]; exact ha)
    rw [sureP_nth _ _ _ ha, if_pos rfl] at h1
    have h2 : 0 ≤ gcdL (sureP s a) := gcdTo_nonneg _ _
    have h3 : gcdL (sureP s a) ≤ 1 := Int.le_of_dvd (by omega) h1
    have h4 : gcdL (sureP s a) ≠ 0 := by
      intro h; have h5 : gcdTo (sureP s a) (sureP s a).length = 0 := h
      rw [h5] at h1; obtain ⟨q, hq⟩ := h1; simp at hq
    omega
  unfold massOk
  rw [hs, sureP_len, hsum, hg, (allN_iff _ _).2]
  · simp [inB]
  · intro k hk; rw [sureP_nth _ _ _ hk]; split <;> decide
theorem wpList_make_intsG {w : World} {ops : Array Oper} {rest : List Oper} {o : Oper} {a : Act} {Q : Exit → Act → World → Prop} (G : Nat) (hG : w.heap.size = G)
    (hg : o.guard = none) (l c : Operand) (hop : o.op = Op.makeSlice 23 l c) (n : Nat) (L C : Int) (hl : a.eval l = .int .i64 L) (hc : a.eval c = .int .i64 C) (hL : L = (n : Int)) (hC : C = (n : Int)) (hn : n ≤ 1000000000)
    (hK : ∀ w', Row w' G (.slice (some ⟨G, 0, none⟩) n n) (List.replicate n 0) → Below w.heap.size w w' → G < w'.heap.size → wpList Tryz.prog ops Q rest (a.put o.dst (.slice (some ⟨G, 0, none⟩) n n)) w') :
    wpList Tryz.prog ops Q (o :: rest) a w := by
  subst hG; exact wpList_make_ints hg l c hop n L C hl hc hL hC hn hK
set_option maxHeartbeats 400000 in
theorem l3Sure_any (s : Int) (a : Nat) (w : World) (hs : okSize s = true) (ha : a < nsets s) :
    Calls Tryz.prog 132 #[.int .i64 s, .int .i64 a] w fun e w' => (∃ v, e = .returned (.agg #[.int .i64 s, v]) ∧ Row w' w.heap.size v (sureP s a)) ∧ Below w.heap.size w w' := by
  have hs0 : 1 ≤ s ∧ s ≤ 4 := by rcases okSize_iff.1 hs with h | h | h | h <;> omega
  have hsh := shl_size hs
  have hsn := nsets_le hs
  go_enter Tryz.func132, Tryz.ntmps132
  go_wp2_with (at_make; refine wpList_make_intsG (w.heap.size + 1) (by simp) rfl _ _ rfl (nsets s) _ _ rfl rfl hsh hsh (by omega) ?_; intro w1 hrow hb hz; (have c0 := (hrow.cellAt ha).1); (have d0 := (hrow.cellAt ha).2.1); obtain ⟨h10, h11, f20, f21, hB1⟩ := box2f hb; (have hlt : w.heap.size < w1.heap.size := by omega))
  obtain ⟨w4, hw4, hr4, hg4⟩ := store_gen hrow ha 1
  rw [hw4]
  replace f20 := keepGF hg4 h10 (by omega) f20
  replace f21 := keepGF hg4 h11 (by omega) f21
  replace h10 := keepG hg4 h10 (by omega)
  replace h11 := keepG hg4 h11 (by omega)
  have hlt4 : w.heap.size < w4.heap.size := Nat.lt_of_lt_of_le hlt hg4.size
  have hB4 := belowG hB1 hB1.size hg4 (by omega)
  clear hw4 hg4 hrow c0 d0 hB1 hb hlt
  refine bodyPost_ret (v := .agg #[.int .i64 s, .slice (some ⟨w.heap.size + 1, 0, none⟩) (nsets s) (nsets s)]) (by simp [results, Tryz.results132, go_sem, h10, h11, f20, f21, hlt4, World.cell?_alloc_lt]) rfl ⟨⟨_, rfl, ?_⟩, ?_⟩
  · refine Row.mono (base := w.heap.size + 1) ?_ (by omega)
    show Row _ _ _ ((List.replicate (nsets s) 0).set a 1)
    (repeat (first | exact hr4 | (refine Row.setBelow ?_ ?_ _; rotate_left; focus (first | (omega) | (simp; done) | (simp; omega))) | (refine Row.setOther ?_ ?_ _; rotate_left; focus (intro h_own; have h_own2 := own_eq h_own; first | (omega) | (simp at h_own2; omega))) | refine Row.below ?_ (below_alloc _ _)))
  · (repeat (first | exact Below.refl _ _ | assumption | refine Below.alloc ?_ (by first | omega | (simp <;> omega)) _ | refine Below.setCell ?_ (by first | omega | (simp <;> omega)) _ | refine Below.drew ?_ | refine below_drewN ?_))
theorem bit_ix (s : Int) (k : Nat) (hs : okSize s = true) (hk : (k : Int) < s) : ∃ ix : Nat, wrap64 (2 ^ k) = (ix : Int) ∧ ix < nsets s ∧ (0 : Int) ≤ (ix : Int) ∧ (ix : Int) < (nsets s : Int) := by
  have h4 : k < s.toNat := by omega
  have h5 : k ≤ 29 := by rcases okSize_iff.1 hs with h | h | h | h <;> omega
  have h : 2 ^ k < nsets s := by unfold nsets; exact Nat.pow_lt_pow_right (by decide) h4
  exact ⟨2 ^ k, shl_nat k h5, h, Int.natCast_nonneg _, Int.ofNat_lt.2 h⟩
theorem or_in (s : Int) (a b : Nat) (hs : okSize s = true) (ha : a < nsets s) (hb : b < nsets s) : a ||| b < nsets s := by
  unfold nsets at *; exact Nat.or_lt_two_pow ha hb
set_option maxHeartbeats 4000000 in
theorem l3Draw_any (R P : Nat) (s : Int) (w : World) (hr : Rd w R P) (hP : P ≤ 500000000) (hs : okSize s = true) :
    Calls Tryz.prog 85 #[.pointer (some ⟨R, 0, none⟩), .int .i64 s] w (Drew R (P + 40) w (DrawnMass s w.heap.size)) := by
  have hR := hr.1
  have hs0 : 1 ≤ s ∧ s ≤ 4 := by rcases okSize_iff.1 hs with h | h | h | h <;> omega
  have hsh := shl_size hs
  have hsn := nsets_le hs
  obtain ⟨tp, htp, htp1⟩ : ∃ tp : Nat, (nsets s : Int) - 1 = (tp : Int) ∧ tp < nsets s := ⟨nsets s - 1, by omega, by omega⟩
  go_enter Tryz.func85, Tryz.ntmps85
  go_wp2_with (at_make; refine wpList_make_intsG (w.heap.size + 1) (by simp) rfl _ _ rfl (nsets s) _ _ rfl rfl hsh hsh (by omega) ?_; intro w1 hrow hb hz; obtain ⟨h10, h11, f20, f21, hB1⟩ := box2f hb; (have hlt : w.heap.size < w1.heap.size := by omega); clear hb)
  have hbx : Bx w1 w.heap.size (.int .i64 0) (.slice none 0 0) := ⟨h10, h11, f20, f21, hlt⟩
  have hrd := hr.on hB1
  have hsp := (Span.of_below hB1 : Span R (R + 1) w w1)
  have hsm := Small.zero (nsets s) (nsets s)
  clear hr h10 h11 f20 f21 hB1
  refine (pick_any R P _ _ hrd (by omega) (by omega)).mono ?_; rintro e w2 ⟨_, rfl, ⟨z, rfl, hz0, hz1⟩, hrd2, hs2⟩
  replace hbx := hbx.span hs2 (by omega)
  replace hrow := Span.row hs2 hrow (fun b e => by have := own_eq e; omega)
  replace hsp := hsp.trans hs2
  have hsz2 := hs2.size
  clear hrd hs2
  by_cases e0 : z = 0
  · subst e0
    go_wp2
    go_loopw [7] (fun i wr => ∃ (k : Nat) (ps : List Int), (k : Int) ≤ s ∧ i = .int .i64 k ∧ Small 1000 (nsets s) ps ∧ Row wr (w.heap.size + 1) (.slice (some ⟨w.heap.size + 1, 0, none⟩) (nsets s) (nsets s)) ps ∧ Bx wr w.heap.size (.int .i64 0) (.slice none 0 0) ∧ Rd wr R (P + 1 + k) ∧ Span R (R + 1) w wr ∧ w.heap.size + 1 < wr.heap.size) (fun i _ => (s - intOf i).toNat)
    case atStart => exact ⟨0, _, by omega, rfl, hsm.mono (by omega), hrow, hbx, hrd2, hsp, by omega⟩
    case round =>
      obtain ⟨k, ps, hk, rfl, hsm, hrow, hbx, hrd, hsp, hszr⟩ := hrel
      by_cases hlt : (k : Int) < s
      · obtain ⟨ix, hsl, hpk, hix0, hix1⟩ := bit_ix s k hs hlt
        go_wp2_with fail
        refine (pick_any R _ _ _ hrd (by omega) (by omega)).mono ?_; rintro e w3 ⟨_, rfl, ⟨q, rfl, hq0, hq1⟩, hrd3, hs3⟩
        replace hbx := hbx.span hs3 (by omega)
        replace hrow := Span.row hs3 hrow (fun b e => by have := own_eq e; omega)
        replace hsp := hsp.trans hs3
        have hsz3 := hs3.size
        obtain ⟨c0, d0, _⟩ := hrow.cellAt hpk
        clear hrd hs3
        go_wp2_with fail
        obtain ⟨w4, hw4, hr4, hg4⟩ := store_gen hrow hpk q
        rw [hw4]
        have hbx4 := hbx.grown hg4 (by omega)
        have hrd4 := hrd3.grown hg4 (by omega)
        have hsp4 := hsp.grownOn hg4 (by omega)
        have hsz4 := hg4.size
        have hsm4 := hsm.set (i := ix) hq0 (show q ≤ 1000 by omega)
        clear hw4 hg4 hrow c0 d0 hbx hrd3 hsp hsm
        go_wp2
        go_roundw
        case rel => first | exact ⟨k + 1, _, by omega, by go_num, hsm4, hr4, hbx4, hrd4, hsp4, by omega⟩ | exact ⟨_, ⟨k + 1, _, by omega, by go_num, hsm4, hr4, hbx4, hrd4, hsp4, by omega⟩, rfl⟩ | exact ⟨_, _, ⟨k + 1, _, by omega, by go_num, hsm4, hr4, hbx4, hrd4, hsp4, by omega⟩, rfl, rfl⟩ | exact ⟨_, _, _, ⟨k + 1, _, by omega, by go_num, hsm4, hr4, hbx4, hrd4, hsp4, by omega⟩, rfl, rfl, rfl⟩ | exact ⟨_, _, _, _, ⟨k + 1, _, by omega, by go_num, hsm4, hr4, hbx4, hrd4, hsp4, by omega⟩, rfl, rfl, rfl, rfl⟩ | exact ⟨_, _, _, _, _, ⟨k + 1, _, by omega, by go_num, hsm4, hr4, hbx4, hrd4, hsp4, by omega⟩, rfl, rfl, rfl, rfl, rfl⟩
        case measure => simp [intOf]; omega
      · have hk4 : k ≤ 4 := by omega
        go_wp2_with fail
        obtain ⟨ao5, n5, c5, e5, hi5⟩ := hrow.ints
        injection e5 with e51 e52 e53
        subst e51 e52 e53
        refine (l3Made_any s _ _ _ _ _ hi5 hsn.2 (fun j hj => by have := hsm j hj; omega)).mono ?_; rintro e w5 ⟨⟨v5, rfl, hr5⟩, hb5⟩
        obtain ⟨ao6, n6, c6, rfl, hi6⟩ := hr5.ints
        have hl5 := (mkMass_len s ps)
        have hpl := hrow.len
        replace hbx := hbx.below hb5
        replace hrd := hrd.on hb5
        replace hsp := hsp.trans (Span.of_below hb5)
        have hsz5 := hb5.size
        clear hb5 hi5 hrow
        obtain ⟨h10, h11, f20, f21, hlt5⟩ := hbx
        cases ho : (mkMass s ps).ok
        · generalize (mkMass s ps).size = ms5
          go_wp2_with fail
          refine (l3Sure_any s tp _ hs (by omega)).mono ?_; rintro e w6 ⟨⟨v6, rfl, hr6⟩, hb6⟩
          have h10' := keep hb6 (a := ⟨w.heap.size, 0, none⟩) (v := .int .i64 0) (by simp [h10, hlt5, World.cell?_alloc_lt])
          have h11' := keep hb6 (a := ⟨w.heap.size, 1, none⟩) (v := .slice none 0 0) (by simp [h11, hlt5, World.cell?_alloc_lt])
          have f20' := Span.belowKeepF hb6 (b := w.heap.size) (o := 0) ⟨by simp; omega, by simp [f20, h10]⟩ (by simp; omega)
          have f21' := Span.belowKeepF hb6 (b := w.heap.size) (o := 1) ⟨by simp; omega, by simp [f21, h11]⟩ (by simp; omega)
          have hb7 : Below w5.heap.size w5 w6 := Below.trans (by (repeat (first | exact Below.refl _ _ | assumption | refine Below.alloc ?_ (by first | omega | (simp <;> omega)) _ | refine Below.setCell ?_ (by first | omega | (simp <;> omega)) _ | refine Below.drew ?_ | refine below_drewN ?_))) (hb6.mono (by simp))
          replace hrd := hrd.on hb7
          replace hsp := hsp.trans (Span.of_below hb7)
          have hsz6 := hb7.size
          have g20 := f20'.2
          have g21 := f21'.2
          clear hb6 hb7 f20 f21 h10 h11
          obtain ⟨ao8, n8, c8, rfl, hi8⟩ := hr6.ints
          go_wp2
          refine bodyPost_ret (v := .agg #[.int .i64 s, .slice ao8 n8 c8]) (by simp [results, Tryz.results85, go_sem, h10', h11', g20, g21]) rfl ⟨_, rfl, ⟨_, _, rfl, ?_, sureP_len s tp, sure_ok hs (by omega)⟩, ?_, ?_⟩
          · refine Row.mono (base := w5.heap.size) ?_ (by omega)
            replace hr6 := hr6.mono (base' := w5.heap.size) (by simp)
            (repeat (first | exact hr6 | (refine Row.setBelow ?_ ?_ _; rotate_left; focus (first | (omega) | (simp; done) | (simp; omega))) | (refine Row.setOther ?_ ?_ _; rotate_left; focus (intro h_own; have h_own2 := own_eq h_own; first | (omega) | (simp at h_own2; omega))) | refine Row.below ?_ (below_alloc _ _)))
          · exact (hrd.below (B := R + 1) (by (repeat (first | exact Below.refl _ _ | assumption | refine Below.alloc ?_ (by first | omega | (simp <;> omega)) _ | refine Below.setCell ?_ (by first | omega | (simp <;> omega)) _ | refine Below.drew ?_ | refine below_drewN ?_))) (by omega)).mono (by omega)
          · exact hsp.on (by (repeat (first | exact Below.refl _ _ | assumption | refine Below.alloc ?_ (by first | omega | (simp <;> omega)) _ | refine Below.setCell ?_ (by first | omega | (simp <;> omega)) _ | refine Below.drew ?_ | refine below_drewN ?_)))
        · obtain ⟨_, hms, _, hmo, _⟩ := mkMass_parts ho
          have hml := (massOk_facts' hmo).2.1
          go_wp2
          refine bodyPost_ret (v := .agg #[.int .i64 s, .slice ao6 n6 c6]) (by simp [results, Tryz.results85, go_sem, h10, h11, f20, f21, hlt5, World.cell?_alloc_lt]) rfl ⟨_, rfl, ⟨_, _, rfl, ?_, hml, hmo⟩, ?_, ?_⟩
          · refine Row.mono (base := wr.heap.size) ?_ (by omega)
            (repeat (first | exact hr5 | (refine Row.setBelow ?_ ?_ _; rotate_left; focus (first | (omega) | (simp; done) | (simp; omega))) | (refine Row.setOther ?_ ?_ _; rotate_left; focus (intro h_own; have h_own2 := own_eq h_own; first | (omega) | (simp at h_own2; omega))) | refine Row.below ?_ (below_alloc _ _)))
          · exact (hrd.below (B := R + 1) (by (repeat (first | exact Below.refl _ _ | assumption | refine Below.alloc ?_ (by first | omega | (simp <;> omega)) _ | refine Below.setCell ?_ (by first | omega | (simp <;> omega)) _ | refine Below.drew ?_ | refine below_drewN ?_))) (by omega)).mono (by omega)
          · exact hsp.on (by (repeat (first | exact Below.refl _ _ | assumption | refine Below.alloc ?_ (by first | omega | (simp <;> omega)) _ | refine Below.setCell ?_ (by first | omega | (simp <;> omega)) _ | refine Below.drew ?_ | refine below_drewN ?_)))
  · by_cases e1 : z = 1
    · subst e1
      go_wp2_with fail
      refine (pick_any R _ _ _ hrd2 (by omega) (by omega)).mono ?_; rintro e w3 ⟨_, rfl, ⟨x, rfl, hx0, hx1⟩, hrd3, hs3⟩
      obtain ⟨x, rfl⟩ : ∃ x' : Nat, x = (x' : Int) := ⟨x.toNat, by omega⟩
      replace hbx := hbx.span hs3 (by omega)
      replace hrow := Span.row hs3 hrow (fun b e => by have := own_eq e; omega)
      replace hsp := hsp.trans hs3
      have hsz3 := hs3.size
      obtain ⟨jx, hsl, hpk, hjx0, hjx1⟩ := bit_ix s x hs (by omega)
      clear hrd2 hs3
      go_wp2
      go_loopw [8, 9] (fun a i wr => ∃ (k A : Nat) (ps : List Int), (k : Int) ≤ s ∧ i = .int .i64 k ∧ a = .int .i64 A ∧ A < nsets s ∧ Small (4 * k) (nsets s) ps ∧ Row wr (w.heap.size + 1) (.slice (some ⟨w.heap.size + 1, 0, none⟩) (nsets s) (nsets s)) ps ∧ Bx wr w.heap.size (.int .i64 0) (.slice none 0 0) ∧ Rd wr R (P + 2 + 2 * k) ∧ Span R (R + 1) w wr ∧ w.heap.size + 1 < wr.heap.size) (fun _ i _ => (s - intOf i).toNat)
      case atStart => exact ⟨0, jx, _, by omega, rfl, by rw [hsl], hpk, hsm.mono (by omega), hrow, hbx, hrd3, hsp, by omega⟩
      case round =>
        obtain ⟨k, A, ps, hk, rfl, rfl, hA, hsm, hrow, hbx, hrd, hsp, hszr⟩ := hrel
        clear hsl
        by_cases hlt : (k : Int) < s
        · obtain ⟨c0, d0, _⟩ := hrow.cellAt hA
          have hq := hsm A hA
          have hA0 : (0 : Int) ≤ (A : Int) := Int.natCast_nonneg _
          have hA1 : (A : Int) < (nsets s : Int) := Int.ofNat_lt.2 hA
          go_wp2_with fail
          go_region_with (go_at_call 83; refine (pick_any R _ _ _ (hrd.on (drew_below _)) (by omega) (by omega)).mono ?_; rintro e w4 ⟨_, rfl, ⟨q, rfl, hq0, hq1⟩, hrd4, hs4⟩; have hs4' := (Span.of_below (drew_below wr)).trans hs4; have c4 := Span.keep hs4' c0 (by omega); have d4 := (Span.keepF hs4' ⟨by omega, d0⟩ (by omega)).2)
          all_goals
            replace hbx := hbx.span hs4' (by omega)
            replace hrow := Span.row hs4' hrow (fun b e => by have := own_eq e; omega)
            replace hsp := hsp.trans hs4'
            have hsz4 := hs4'.size
            clear hrd hs4 hs4' c0 d0
            obtain ⟨w5, hw5, hr5, hg5⟩ := store_gen hrow hA (nth ps A + q)
            rw [show IntKind.i64.wrap (nth ps A + q) = nth ps A + q from IntWalk.i64_in _ (by omega), hw5]
            have hbx5 := hbx.grown hg5 (by omega)
            have hrd5 := hrd4.grown hg5 (by omega)
            have hsp5 := hsp.grownOn hg5 (by omega)
            have hsz5 := hg5.size
            have hsm5 := (hsm.mono (show 4 * (k : Int) ≤ 4 * ((k + 1 : Nat) : Int) by omega)).set (i := A) (show 0 ≤ nth ps A + q by omega) (show nth ps A + q ≤ 4 * ((k + 1 : Nat) : Int) by omega)
            clear hw5 hg5 hrow c4 d4 hbx hrd4 hsp hsm hq hA0 hA1
            go_wp2_with fail
            refine (pick_any R _ _ _ hrd5 (by omega) (by omega)).mono ?_; rintro e w6 ⟨_, rfl, ⟨y, rfl, hy0, hy1⟩, hrd6, hs6⟩
            obtain ⟨y, rfl⟩ : ∃ y' : Nat, y = (y' : Int) := ⟨y.toNat, by omega⟩
            replace hbx5 := hbx5.span hs6 (by omega)
            replace hr5 := Span.row hs6 hr5 (fun b e => by have := own_eq e; omega)
            replace hsp5 := hsp5.trans hs6
            have hsz6 := hs6.size
            obtain ⟨kx, hsk, hpk2, hkx0, hkx1⟩ := bit_ix s y hs (by omega)
            have hor := or_nat A kx (by omega) (by omega)
            have hlt2 := or_in s A kx hs hA hpk2
            obtain ⟨O, HO⟩ : ∃ O : Nat, O = A ||| kx := ⟨_, rfl⟩
            rw [← HO] at hor hlt2
            clear hrd5 hs6 HO
            go_wp2
            go_roundw
            case rel => first | exact ⟨k + 1, O, _, by omega, by go_num, rfl, hlt2, hsm5, hr5, hbx5, hrd6.mono (by omega), hsp5, by omega⟩ | exact ⟨_, ⟨k + 1, O, _, by omega, by go_num, rfl, hlt2, hsm5, hr5, hbx5, hrd6.mono (by omega), hsp5, by omega⟩, rfl⟩ | exact ⟨_, _, ⟨k + 1, O, _, by omega, by go_num, rfl, hlt2, hsm5, hr5, hbx5, hrd6.mono (by omega), hsp5, by omega⟩, rfl, rfl⟩ | exact ⟨_, _, _, ⟨k + 1, O, _, by omega, by go_num, rfl, hlt2, hsm5, hr5, hbx5, hrd6.mono (by omega), hsp5, by omega⟩, rfl, rfl, rfl⟩ | exact ⟨_, _, _, _, ⟨k + 1, O, _, by omega, by go_num, rfl, hlt2, hsm5, hr5, hbx5, hrd6.mono (by omega), hsp5, by omega⟩, rfl, rfl, rfl, rfl⟩ | exact ⟨_, _, _, _, _, ⟨k + 1, O, _, by omega, by go_num, rfl, hlt2, hsm5, hr5, hbx5, hrd6.mono (by omega), hsp5, by omega⟩, rfl, rfl, rfl, rfl, rfl⟩
            case measure => simp [intOf]; omega
        · have hk4 : k ≤ 4 := by omega
          go_wp2_with fail
          obtain ⟨ao5, n5, c5, e5, hi5⟩ := hrow.ints
          injection e5 with e51 e52 e53
          subst e51 e52 e53
          refine (l3Made_any s _ _ _ _ _ hi5 hsn.2 (fun j hj => by have := hsm j hj; omega)).mono ?_; rintro e w5 ⟨⟨v5, rfl, hr5⟩, hb5⟩
          obtain ⟨ao6, n6, c6, rfl, hi6⟩ := hr5.ints
          have hl5 := (mkMass_len s ps)
          have hpl := hrow.len
          replace hbx := hbx.below hb5
          replace hrd := hrd.on hb5
          replace hsp := hsp.trans (Span.of_below hb5)
          have hsz5 := hb5.size
          clear hb5 hi5 hrow
          obtain ⟨h10, h11, f20, f21, hlt5⟩ := hbx
          cases ho : (mkMass s ps).ok
          · generalize (mkMass s ps).size = ms5
            go_wp2_with fail
            refine (l3Sure_any s tp _ hs (by omega)).mono ?_; rintro e w6 ⟨⟨v6, rfl, hr6⟩, hb6⟩
            have h10' := keep hb6 (a := ⟨w.heap.size, 0, none⟩) (v := .int .i64 0) (by simp [h10, hlt5, World.cell?_alloc_lt])
            have h11' := keep hb6 (a := ⟨w.heap.size, 1, none⟩) (v := .slice none 0 0) (by simp [h11, hlt5, World.cell?_alloc_lt])
            have f20' := Span.belowKeepF hb6 (b := w.heap.size) (o := 0) ⟨by simp; omega, by simp [f20, h10]⟩ (by simp; omega)
            have f21' := Span.belowKeepF hb6 (b := w.heap.size) (o := 1) ⟨by simp; omega, by simp [f21, h11]⟩ (by simp; omega)
            have hb7 : Below w5.heap.size w5 w6 := Below.trans (by (repeat (first | exact Below.refl _ _ | assumption | refine Below.alloc ?_ (by first | omega | (simp <;> omega)) _ | refine Below.setCell ?_ (by first | omega | (simp <;> omega)) _ | refine Below.drew ?_ | refine below_drewN ?_))) (hb6.mono (by simp))
            replace hrd := hrd.on hb7
            replace hsp := hsp.trans (Span.of_below hb7)
            have hsz6 := hb7.size
            have g20 := f20'.2
            have g21 := f21'.2
            clear hb6 hb7 f20 f21 h10 h11
            obtain ⟨ao8, n8, c8, rfl, hi8⟩ := hr6.ints
            go_wp2
            refine bodyPost_ret (v := .agg #[.int .i64 s, .slice ao8 n8 c8]) (by simp [results, Tryz.results85, go_sem, h10', h11', g20, g21]) rfl ⟨_, rfl, ⟨_, _, rfl, ?_, sureP_len s tp, sure_ok hs (by omega)⟩, ?_, ?_⟩
            · refine Row.mono (base := w5.heap.size) ?_ (by omega)
              replace hr6 := hr6.mono (base' := w5.heap.size) (by simp)
              (repeat (first | exact hr6 | (refine Row.setBelow ?_ ?_ _; rotate_left; focus (first | (omega) | (simp; done) | (simp; omega))) | (refine Row.setOther ?_ ?_ _; rotate_left; focus (intro h_own; have h_own2 := own_eq h_own; first | (omega) | (simp at h_own2; omega))) | refine Row.below ?_ (below_alloc _ _)))
            · exact (hrd.below (B := R + 1) (by (repeat (first | exact Below.refl _ _ | assumption | refine Below.alloc ?_ (by first | omega | (simp <;> omega)) _ | refine Below.setCell ?_ (by first | omega | (simp <;> omega)) _ | refine Below.drew ?_ | refine below_drewN ?_))) (by omega)).mono (by omega)
            · exact hsp.on (by (repeat (first | exact Below.refl _ _ | assumption | refine Below.alloc ?_ (by first | omega | (simp <;> omega)) _ | refine Below.setCell ?_ (by first | omega | (simp <;> omega)) _ | refine Below.drew ?_ | refine below_drewN ?_)))
          · obtain ⟨_, hms, _, hmo, _⟩ := mkMass_parts ho
            have hml := (massOk_facts' hmo).2.1
            go_wp2
            refine bodyPost_ret (v := .agg #[.int .i64 s, .slice ao6 n6 c6]) (by simp [results, Tryz.results85, go_sem, h10, h11, f20, f21, hlt5, World.cell?_alloc_lt]) rfl ⟨_, rfl, ⟨_, _, rfl, ?_, hml, hmo⟩, ?_, ?_⟩
            · refine Row.mono (base := wr.heap.size) ?_ (by omega)
              (repeat (first | exact hr5 | (refine Row.setBelow ?_ ?_ _; rotate_left; focus (first | (omega) | (simp; done) | (simp; omega))) | (refine Row.setOther ?_ ?_ _; rotate_left; focus (intro h_own; have h_own2 := own_eq h_own; first | (omega) | (simp at h_own2; omega))) | refine Row.below ?_ (below_alloc _ _)))
            · exact (hrd.below (B := R + 1) (by (repeat (first | exact Below.refl _ _ | assumption | refine Below.alloc ?_ (by first | omega | (simp <;> omega)) _ | refine Below.setCell ?_ (by first | omega | (simp <;> omega)) _ | refine Below.drew ?_ | refine below_drewN ?_))) (by omega)).mono (by omega)
            · exact hsp.on (by (repeat (first | exact Below.refl _ _ | assumption | refine Below.alloc ?_ (by first | omega | (simp <;> omega)) _ | refine Below.setCell ?_ (by first | omega | (simp <;> omega)) _ | refine Below.drew ?_ | refine below_drewN ?_)))
    · by_cases e2 : z = 2
      · subst e2
        go_wp2_with fail
        refine (pick_any R _ _ _ hrd2 (by omega) (by omega)).mono ?_; rintro e w3 ⟨_, rfl, ⟨x, rfl, hx0, hx1⟩, hrd3, hs3⟩
        obtain ⟨x, rfl⟩ : ∃ x' : Nat, x = (x' : Int) := ⟨x.toNat, by omega⟩
        have hxN : x < nsets s := by omega
        have hxN1 : (x : Int) < (nsets s : Int) := by omega
        replace hbx := hbx.span hs3 (by omega)
        replace hrow := Span.row hs3 hrow (fun b e => by have := own_eq e; omega)
        replace hsp := hsp.trans hs3
        have hsz3 := hs3.size
        clear hrd2 hs3
        go_wp2_with fail
        refine (pick_any R _ _ _ hrd3 (by omega) (by omega)).mono ?_; rintro e w4 ⟨_, rfl, ⟨y, rfl, hy0, hy1⟩, hrd4, hs4⟩
        replace hbx := hbx.span hs4 (by omega)
        replace hrow := Span.row hs4 hrow (fun b e => by have := own_eq e; omega)
        replace hsp := hsp.trans hs4
        have hsz4 := hs4.size
        obtain ⟨c0, d0, _⟩ := hrow.cellAt hxN
        clear hrd3 hs4
        go_wp2_with fail
        obtain ⟨wr, hw5, hr5, hg5⟩ := store_gen hrow hxN (1 + y)
        rw [hw5]
        replace hbx := hbx.grown hg5 (by omega)
        have hrd := hrd4.grown hg5 (by omega)
        replace hsp := hsp.grownOn hg5 (by omega)
        have hszr : w.heap.size + 1 < wr.heap.size := by have := hg5.size; omega
        replace hsm := (hsm.mono (show (0 : Int) ≤ 4 by omega)).set (i := x) (show 0 ≤ 1 + y by omega) (show 1 + y ≤ 4 by omega)
        clear hw5 hg5 hrow c0 d0 hrd4
        have hrow := hr5
        clear hr5
        obtain ⟨c0, d0, _⟩ := hrow.cellAt htp1
        have hq := hsm tp htp1
        generalize (List.replicate (nsets s) (0 : Int)).set x (1 + y) = ps at *
        have hA0 : (0 : Int) ≤ (tp : Int) := Int.natCast_nonneg _
        have hA1 : (tp : Int) < (nsets s : Int) := Int.ofNat_lt.2 htp1
        go_wp2_with fail
        go_region_with (go_at_call 83; refine (pick_any R _ _ _ (hrd.on (drew_below _)) (by omega) (by omega)).mono ?_; rintro e w6 ⟨_, rfl, ⟨q, rfl, hq0, hq1⟩, hrd6, hs6⟩; have hs6' := (Span.of_below (drew_below wr)).trans hs6; have c6 := Span.keep hs6' c0 (by omega); have d6 := (Span.keepF hs6' ⟨by omega, d0⟩ (by omega)).2)
        all_goals
          replace hbx := hbx.span hs6' (by omega)
          replace hrow := Span.row hs6' hrow (fun b e => by have := own_eq e; omega)
          replace hsp := hsp.trans hs6'
          have hsz6 := hs6'.size
          clear hrd hs6 hs6' c0 d0
          obtain ⟨w7, hw7, hr7, hg7⟩ := store_gen hrow htp1 (nth ps tp + q)
          rw [show IntKind.i64.wrap (nth ps tp + q) = nth ps tp + q from IntWalk.i64_in _ (by omega), hw7]
          replace hbx := hbx.grown hg7 (by omega)
          have hrd := hrd6.grown hg7 (by omega)
          replace hsp := hsp.grownOn hg7 (by omega)
          have hszr7 : w.heap.size + 1 < w7.heap.size := by have := hg7.size; omega
          replace hsm := (hsm.mono (show (4 : Int) ≤ 8 by omega)).set (i := tp) (show 0 ≤ nth ps tp + q by omega) (show nth ps tp + q ≤ 8 by omega)
          clear hw7 hg7 hrow c6 d6 hrd6 hq hA0 hA1
          have hrow := hr7
          clear hr7
          go_wp2_with fail
          obtain ⟨ao5, n5, c5, e5, hi5⟩ := hrow.ints
          injection e5 with e51 e52 e53
          subst e51 e52 e53
          refine (l3Made_any s _ _ _ _ _ hi5 hsn.2 (fun j hj => by have := hsm j hj; omega)).mono ?_; rintro e w5 ⟨⟨v5, rfl, hr5⟩, hb5⟩
          obtain ⟨ao6, n6, c6, rfl, hi6⟩ := hr5.ints
          have hl5 := (mkMass_len s (ps.set tp (nth ps tp + q)))
          have hpl := hrow.len
          replace hbx := hbx.below hb5
          replace hrd := hrd.on hb5
          replace hsp := hsp.trans (Span.of_below hb5)
          have hsz5 := hb5.size
          clear hb5 hi5 hrow
          obtain ⟨h10, h11, f20, f21, hlt5⟩ := hbx
          cases ho : (mkMass s (ps.set tp (nth ps tp + q))).ok
          · generalize (mkMass s (ps.set tp (nth ps tp + q))).size = ms5
            go_wp2_with fail
            refine (l3Sure_any s tp _ hs (by omega)).mono ?_; rintro e w6 ⟨⟨v6, rfl, hr6⟩, hb6⟩
            have h10' := keep hb6 (a := ⟨w.heap.size, 0, none⟩) (v := .int .i64 0) (by simp [h10, hlt5, World.cell?_alloc_lt])
            have h11' := keep hb6 (a := ⟨w.heap.size, 1, none⟩) (v := .slice none 0 0) (by simp [h11, hlt5, World.cell?_alloc_lt])
            have f20' := Span.belowKeepF hb6 (b := w.heap.size) (o := 0) ⟨by simp; omega, by simp [f20, h10]⟩ (by simp; omega)
            have f21' := Span.belowKeepF hb6 (b := w.heap.size) (o := 1) ⟨by simp; omega, by simp [f21, h11]⟩ (by simp; omega)
            have hb7 : Below w5.heap.size w5 w6 := Below.trans (by (repeat (first | exact Below.refl _ _ | assumption | refine Below.alloc ?_ (by first | omega | (simp <;> omega)) _ | refine Below.setCell ?_ (by first | omega | (simp <;> omega)) _ | refine Below.drew ?_ | refine below_drewN ?_))) (hb6.mono (by simp))
            replace hrd := hrd.on hb7
            replace hsp := hsp.trans (Span.of_below hb7)
            have hsz6 := hb7.size
            have g20 := f20'.2
            have g21 := f21'.2
            clear hb6 hb7 f20 f21 h10 h11
            obtain ⟨ao8, n8, c8, rfl, hi8⟩ := hr6.ints
            go_wp2
            refine bodyPost_ret (v := .agg #[.int .i64 s, .slice ao8 n8 c8]) (by simp [results, Tryz.results85, go_sem, h10', h11', g20, g21]) rfl ⟨_, rfl, ⟨_, _, rfl, ?_, sureP_len s tp, sure_ok hs (by omega)⟩, ?_, ?_⟩
            · refine Row.mono (base := w5.heap.size) ?_ (by omega)
              replace hr6 := hr6.mono (base' := w5.heap.size) (by simp)
              (repeat (first | exact hr6 | (refine Row.setBelow ?_ ?_ _; rotate_left; focus (first | (omega) | (simp; done) | (simp; omega))) | (refine Row.setOther ?_ ?_ _; rotate_left; focus (intro h_own; have h_own2 := own_eq h_own; first | (omega) | (simp at h_own2; omega))) | refine Row.below ?_ (below_alloc _ _)))
            · exact (hrd.below (B := R + 1) (by (repeat (first | exact Below.refl _ _ | assumption | refine Below.alloc ?_ (by first | omega | (simp <;> omega)) _ | refine Below.setCell ?_ (by first | omega | (simp <;> omega)) _ | refine Below.drew ?_ | refine below_drewN ?_))) (by omega)).mono (by omega)
            · exact hsp.on (by (repeat (first | exact Below.refl _ _ | assumption | refine Below.alloc ?_ (by first | omega | (simp <;> omega)) _ | refine Below.setCell ?_ (by first | omega | (simp <;> omega)) _ | refine Below.drew ?_ | refine below_drewN ?_)))
          · obtain ⟨_, hms, _, hmo, _⟩ := mkMass_parts ho
            have hml := (massOk_facts' hmo).2.1
            go_wp2
            refine bodyPost_ret (v := .agg #[.int .i64 s, .slice ao6 n6 c6]) (by simp [results, Tryz.results85, go_sem, h10, h11, f20, f21, hlt5, World.cell?_alloc_lt]) rfl ⟨_, rfl, ⟨_, _, rfl, ?_, hml, hmo⟩, ?_, ?_⟩
            · refine Row.mono (base := w7.heap.size) ?_ (by omega)
              (repeat (first | exact hr5 | (refine Row.setBelow ?_ ?_ _; rotate_left; focus (first | (omega) | (simp; done) | (simp; omega))) | (refine Row.setOther ?_ ?_ _; rotate_left; focus (intro h_own; have h_own2 := own_eq h_own; first | (omega) | (simp at h_own2; omega))) | refine Row.below ?_ (below_alloc _ _)))
            · exact (hrd.below (B := R + 1) (by (repeat (first | exact Below.refl _ _ | assumption | refine Below.alloc ?_ (by first | omega | (simp <;> omega)) _ | refine Below.setCell ?_ (by first | omega | (simp <;> omega)) _ | refine Below.drew ?_ | refine below_drewN ?_))) (by omega)).mono (by omega)
            · exact hsp.on (by (repeat (first | exact Below.refl _ _ | assumption | refine Below.alloc ?_ (by first | omega | (simp <;> omega)) _ | refine Below.setCell ?_ (by first | omega | (simp <;> omega)) _ | refine Below.drew ?_ | refine below_drewN ?_)))
      · have hne3 : 3 ≤ z := by omega
        go_wp2_with fail
        refine (pick_any R _ _ _ hrd2 (by omega) (by omega)).mono ?_; rintro e w3 ⟨_, rfl, ⟨x, rfl, hx0, hx1⟩, hrd3, hs3⟩
        obtain ⟨x, rfl⟩ : ∃ x' : Nat, x = (x' : Int) := ⟨x.toNat, by omega⟩
        replace hbx := hbx.span hs3 (by omega)
        replace hrow := Span.row hs3 hrow (fun b e => by have := own_eq e; omega)
        replace hsp := hsp.trans hs3
        have hsz3 := hs3.size
        clear hrd2 hs3
        go_wp2
        go_loopw [10] (fun i wr => ∃ (k : Nat) (ps : List Int), k ≤ 4 ∧ i = .int .i64 k ∧ Small 4 (nsets s) ps ∧ Row wr (w.heap.size + 1) (.slice (some ⟨w.heap.size + 1, 0, none⟩) (nsets s) (nsets s)) ps ∧ Bx wr w.heap.size (.int .i64 0) (.slice none 0 0) ∧ Rd wr R (P + 12 - 2 * k) ∧ Span R (R + 1) w wr ∧ w.heap.size + 1 < wr.heap.size) (fun i _ => (intOf i).toNat)
        case atStart => exact ⟨2 + x, _, by omega, by go_num, hsm.mono (by omega), hrow, hbx, hrd3.mono (by omega), hsp, by omega⟩
        case round =>
          obtain ⟨k, ps, hk, rfl, hsm, hrow, hbx, hrd, hsp, hszr⟩ := hrel
          by_cases hlt : 0 < k
          · have hki : (0 : Int) < (k : Int) := by omega
            go_wp2_with fail
            refine (pick_any R _ _ _ hrd (by omega) (by omega)).mono ?_; rintro e w4 ⟨_, rfl, ⟨y, rfl, hy0, hy1⟩, hrd4, hs4⟩
            obtain ⟨y, rfl⟩ : ∃ y' : Nat, y = (y' : Int) := ⟨y.toNat, by omega⟩
            have hyN : y < nsets s := by omega
            have hyN1 : (y : Int) < (nsets s : Int) := by omega
            replace hbx := hbx.span hs4 (by omega)
            replace hrow := Span.row hs4 hrow (fun b e => by have := own_eq e; omega)
            replace hsp := hsp.trans hs4
            have hsz4 := hs4.size
            clear hrd hs4
            go_wp2_with fail
            refine (pick_any R _ _ _ hrd4 (by omega) (by omega)).mono ?_; rintro e w5 ⟨_, rfl, ⟨q, rfl, hq0, hq1⟩, hrd5, hs5⟩
            replace hbx := hbx.span hs5 (by omega)
            replace hrow := Span.row hs5 hrow (fun b e => by have := own_eq e; omega)
            replace hsp := hsp.trans hs5
            have hsz5 := hs5.size
            obtain ⟨c0, d0, _⟩ := hrow.cellAt hyN
            clear hrd4 hs5
            go_wp2_with fail
            obtain ⟨w6, hw6, hr6, hg6⟩ := store_gen hrow hyN q
            rw [hw6]
            have hbx6 := hbx.grown hg6 (by omega)
            have hrd6 := hrd5.grown hg6 (by omega)
            have hsp6 := hsp.grownOn hg6 (by omega)
            have hsz6 := hg6.size
            have hsm6 := hsm.set (i := y) hq0 (show q ≤ 4 by omega)
            clear hw6 hg6 hrow c0 d0 hbx hrd5 hsp hsm
            go_wp2
            go_roundw
            case rel => first | exact ⟨k - 1, _, by omega, by rw [show ((k - 1 : Nat) : Int) = (k : Int) - 1 by omega], hsm6, hr6, hbx6, hrd6.mono (by omega), hsp6, by omega⟩ | exact ⟨_, ⟨k - 1, _, by omega, by rw [show ((k - 1 : Nat) : Int) = (k : Int) - 1 by omega], hsm6, hr6, hbx6, hrd6.mono (by omega), hsp6, by omega⟩, rfl⟩ | exact ⟨_, _, ⟨k - 1, _, by omega, by rw [show ((k - 1 : Nat) : Int) = (k : Int) - 1 by omega], hsm6, hr6, hbx6, hrd6.mono (by omega), hsp6, by omega⟩, rfl, rfl⟩ | exact ⟨_, _, _, ⟨k - 1, _, by omega, by rw [show ((k - 1 : Nat) : Int) = (k : Int) - 1 by omega], hsm6, hr6, hbx6, hrd6.mono (by omega), hsp6, by omega⟩, rfl, rfl, rfl⟩ | exact ⟨_, _, _, _, ⟨k - 1, _, by omega, by rw [show ((k - 1 : Nat) : Int) = (k : Int) - 1 by omega], hsm6, hr6, hbx6, hrd6.mono (by omega), hsp6, by omega⟩, rfl, rfl, rfl, rfl⟩ | exact ⟨_, _, _, _, _, ⟨k - 1, _, by omega, by rw [show ((k - 1 : Nat) : Int) = (k : Int) - 1 by omega], hsm6, hr6, hbx6, hrd6.mono (by omega), hsp6, by omega⟩, rfl, rfl, rfl, rfl, rfl⟩
            case measure => simp [intOf]; omega
          · obtain rfl : k = 0 := by omega
            go_wp2_with fail
            refine (pick_any R _ _ _ hrd (by omega) (by omega)).mono ?_; rintro e w4 ⟨_, rfl, ⟨y, rfl, hy0, hy1⟩, hrd4, hs4⟩
            replace hbx := hbx.span hs4 (by omega)
            replace hrow := Span.row hs4 hrow (fun b e => by have := own_eq e; omega)
            replace hsp := hsp.trans hs4
            have hsz4 := hs4.size
            have hszr4 : w.heap.size + 1 < w4.heap.size := by omega
            clear hrd hs4
            have hrd := hrd4
            clear hrd4
            by_cases hy : 0 < y
            · have hN0 : 0 < nsets s := by omega
              have hN1 : (0 : Int) < (nsets s : Int) := by omega
              obtain ⟨c0, d0, _⟩ := hrow.cellAt hN0
              go_wp2_with fail
              obtain ⟨w6, hw6, hr6, hg6⟩ := store_gen hrow hN0 0
              rw [hw6]
              replace hbx := hbx.grown hg6 (by omega)
              replace hrd := hrd.grown hg6 (by omega)
              replace hsp := hsp.grownOn hg6 (by omega)
              have hszr6 : w.heap.size + 1 < w6.heap.size := by have := hg6.size; omega
              replace hsm := hsm.set (i := 0) (show (0 : Int) ≤ 0 by omega) (show (0 : Int) ≤ 4 by omega)
              clear hw6 hg6 hrow c0 d0
              have hrow := hr6
              clear hr6
              go_wp2_with fail
              obtain ⟨ao5, n5, c5, e5, hi5⟩ := hrow.ints
              injection e5 with e51 e52 e53
              subst e51 e52 e53
              refine (l3Made_any s _ _ _ _ _ hi5 hsn.2 (fun j hj => by have := hsm j hj; omega)).mono ?_; rintro e w5 ⟨⟨v5, rfl, hr5⟩, hb5⟩
              obtain ⟨ao6, n6, c6, rfl, hi6⟩ := hr5.ints
              have hl5 := (mkMass_len s (ps.set 0 0))
              have hpl := hrow.len
              replace hbx := hbx.below hb5
              replace hrd := hrd.on hb5
              replace hsp := hsp.trans (Span.of_below hb5)
              have hsz5 := hb5.size
              clear hb5 hi5 hrow
              obtain ⟨h10, h11, f20, f21, hlt5⟩ := hbx
              cases ho : (mkMass s (ps.set 0 0)).ok
              · generalize (mkMass s (ps.set 0 0)).size = ms5
                go_wp2_with fail
                refine (l3Sure_any s tp _ hs (by omega)).mono ?_; rintro e w6 ⟨⟨v6, rfl, hr6⟩, hb6⟩
                have h10' := keep hb6 (a := ⟨w.heap.size, 0, none⟩) (v := .int .i64 0) (by simp [h10, hlt5, World.cell?_alloc_lt])
                have h11' := keep hb6 (a := ⟨w.heap.size, 1, none⟩) (v := .slice none 0 0) (by simp [h11, hlt5, World.cell?_alloc_lt])
                have f20' := Span.belowKeepF hb6 (b := w.heap.size) (o := 0) ⟨by simp; omega, by simp [f20, h10]⟩ (by simp; omega)
                have f21' := Span.belowKeepF hb6 (b := w.heap.size) (o := 1) ⟨by simp; omega, by simp [f21, h11]⟩ (by simp; omega)
                have hb7 : Below w5.heap.size w5 w6 := Below.trans (by (repeat (first | exact Below.refl _ _ | assumption | refine Below.alloc ?_ (by first | omega | (simp <;> omega)) _ | refine Below.setCell ?_ (by first | omega | (simp <;> omega)) _ | refine Below.drew ?_ | refine below_drewN ?_))) (hb6.mono (by simp))
                replace hrd := hrd.on hb7
                replace hsp := hsp.trans (Span.of_below hb7)
                have hsz6 := hb7.size
                have g20 := f20'.2
                have g21 := f21'.2
                clear hb6 hb7 f20 f21 h10 h11
                obtain ⟨ao8, n8, c8, rfl, hi8⟩ := hr6.ints
                go_wp2
                refine bodyPost_ret (v := .agg #[.int .i64 s, .slice ao8 n8 c8]) (by simp [results, Tryz.results85, go_sem, h10', h11', g20, g21]) rfl ⟨_, rfl, ⟨_, _, rfl, ?_, sureP_len s tp, sure_ok hs (by omega)⟩, ?_, ?_⟩
                · refine Row.mono (base := w5.heap.size) ?_ (by omega)
                  replace hr6 := hr6.mono (base' := w5.heap.size) (by simp)
                  (repeat (first | exact hr6 | (refine Row.setBelow ?_ ?_ _; rotate_left; focus (first | (omega) | (simp; done) | (simp; omega))) | (refine Row.setOther ?_ ?_ _; rotate_left; focus (intro h_own; have h_own2 := own_eq h_own; first | (omega) | (simp at h_own2; omega))) | refine Row.below ?_ (below_alloc _ _)))
                · exact (hrd.below (B := R + 1) (by (repeat (first | exact Below.refl _ _ | assumption | refine Below.alloc ?_ (by first | omega | (simp <;> omega)) _ | refine Below.setCell ?_ (by first | omega | (simp <;> omega)) _ | refine Below.drew ?_ | refine below_drewN ?_))) (by omega)).mono (by omega)
                · exact hsp.on (by (repeat (first | exact Below.refl _ _ | assumption | refine Below.alloc ?_ (by first | omega | (simp <;> omega)) _ | refine Below.setCell ?_ (by first | omega | (simp <;> omega)) _ | refine Below.drew ?_ | refine below_drewN ?_)))
              · obtain ⟨_, hms, _, hmo, _⟩ := mkMass_parts ho
                have hml := (massOk_facts' hmo).2.1
                go_wp2
                refine bodyPost_ret (v := .agg #[.int .i64 s, .slice ao6 n6 c6]) (by simp [results, Tryz.results85, go_sem, h10, h11, f20, f21, hlt5, World.cell?_alloc_lt]) rfl ⟨_, rfl, ⟨_, _, rfl, ?_, hml, hmo⟩, ?_, ?_⟩
                · refine Row.mono (base := w6.heap.size) ?_ (by omega)
                  (repeat (first | exact hr5 | (refine Row.setBelow ?_ ?_ _; rotate_left; focus (first | (omega) | (simp; done) | (simp; omega))) | (refine Row.setOther ?_ ?_ _; rotate_left; focus (intro h_own; have h_own2 := own_eq h_own; first | (omega) | (simp at h_own2; omega))) | refine Row.below ?_ (below_alloc _ _)))
                · exact (hrd.below (B := R + 1) (by (repeat (first | exact Below.refl _ _ | assumption | refine Below.alloc ?_ (by first | omega | (simp <;> omega)) _ | refine Below.setCell ?_ (by first | omega | (simp <;> omega)) _ | refine Below.drew ?_ | refine below_drewN ?_))) (by omega)).mono (by omega)
                · exact hsp.on (by (repeat (first | exact Below.refl _ _ | assumption | refine Below.alloc ?_ (by first | omega | (simp <;> omega)) _ | refine Below.setCell ?_ (by first | omega | (simp <;> omega)) _ | refine Below.drew ?_ | refine below_drewN ?_)))
            · have hy0' : y = 0 := by omega
              subst hy0'
              go_wp2_with fail
              obtain ⟨ao5, n5, c5, e5, hi5⟩ := hrow.ints
              injection e5 with e51 e52 e53
              subst e51 e52 e53
              refine (l3Made_any s _ _ _ _ _ hi5 hsn.2 (fun j hj => by have := hsm j hj; omega)).mono ?_; rintro e w5 ⟨⟨v5, rfl, hr5⟩, hb5⟩
              obtain ⟨ao6, n6, c6, rfl, hi6⟩ := hr5.ints
              have hl5 := (mkMass_len s ps)
              have hpl := hrow.len
              replace hbx := hbx.below hb5
              replace hrd := hrd.on hb5
              replace hsp := hsp.trans (Span.of_below hb5)
              have hsz5 := hb5.size
              clear hb5 hi5 hrow
              obtain ⟨h10, h11, f20, f21, hlt5⟩ := hbx
              cases ho : (mkMass s ps).ok
              · generalize (mkMass s ps).size = ms5
                go_wp2_with fail
                refine (l3Sure_any s tp _ hs (by omega)).mono ?_; rintro e w6 ⟨⟨v6, rfl, hr6⟩, hb6⟩
                have h10' := keep hb6 (a := ⟨w.heap.size, 0, none⟩) (v := .int .i64 0) (by simp [h10, hlt5, World.cell?_alloc_lt])
                have h11' := keep hb6 (a := ⟨w.heap.size, 1, none⟩) (v := .slice none 0 0) (by simp [h11, hlt5, World.cell?_alloc_lt])
                have f20' := Span.belowKeepF hb6 (b := w.heap.size) (o := 0) ⟨by simp; omega, by simp [f20, h10]⟩ (by simp; omega)
                have f21' := Span.belowKeepF hb6 (b := w.heap.size) (o := 1) ⟨by simp; omega, by simp [f21, h11]⟩ (by simp; omega)
                have hb7 : Below w5.heap.size w5 w6 := Below.trans (by (repeat (first | exact Below.refl _ _ | assumption | refine Below.alloc ?_ (by first | omega | (simp <;> omega)) _ | refine Below.setCell ?_ (by first | omega | (simp <;> omega)) _ | refine Below.drew ?_ | refine below_drewN ?_))) (hb6.mono (by simp))
                replace hrd := hrd.on hb7
                replace hsp := hsp.trans (Span.of_below hb7)
                have hsz6 := hb7.size
                have g20 := f20'.2
                have g21 := f21'.2
                clear hb6 hb7 f20 f21 h10 h11
                obtain ⟨ao8, n8, c8, rfl, hi8⟩ := hr6.ints
                go_wp2
                refine bodyPost_ret (v := .agg #[.int .i64 s, .slice ao8 n8 c8]) (by simp [results, Tryz.results85, go_sem, h10', h11', g20, g21]) rfl ⟨_, rfl, ⟨_, _, rfl, ?_, sureP_len s tp, sure_ok hs (by omega)⟩, ?_, ?_⟩
                · refine Row.mono (base := w5.heap.size) ?_ (by omega)
                  replace hr6 := hr6.mono (base' := w5.heap.size) (by simp)
                  (repeat (first | exact hr6 | (refine Row.setBelow ?_ ?_ _; rotate_left; focus (first | (omega) | (simp; done) | (simp; omega))) | (refine Row.setOther ?_ ?_ _; rotate_left; focus (intro h_own; have h_own2 := own_eq h_own; first | (omega) | (simp at h_own2; omega))) | refine Row.below ?_ (below_alloc _ _)))
                · exact (hrd.below (B := R + 1) (by (repeat (first | exact Below.refl _ _ | assumption | refine Below.alloc ?_ (by first | omega | (simp <;> omega)) _ | refine Below.setCell ?_ (by first | omega | (simp <;> omega)) _ | refine Below.drew ?_ | refine below_drewN ?_))) (by omega)).mono (by omega)
                · exact hsp.on (by (repeat (first | exact Below.refl _ _ | assumption | refine Below.alloc ?_ (by first | omega | (simp <;> omega)) _ | refine Below.setCell ?_ (by first | omega | (simp <;> omega)) _ | refine Below.drew ?_ | refine below_drewN ?_)))
              · obtain ⟨_, hms, _, hmo, _⟩ := mkMass_parts ho
                have hml := (massOk_facts' hmo).2.1
                go_wp2
                refine bodyPost_ret (v := .agg #[.int .i64 s, .slice ao6 n6 c6]) (by simp [results, Tryz.results85, go_sem, h10, h11, f20, f21, hlt5, World.cell?_alloc_lt]) rfl ⟨_, rfl, ⟨_, _, rfl, ?_, hml, hmo⟩, ?_, ?_⟩
                · refine Row.mono (base := w4.heap.size) ?_ (by omega)
                  (repeat (first | exact hr5 | (refine Row.setBelow ?_ ?_ _; rotate_left; focus (first | (omega) | (simp; done) | (simp; omega))) | (refine Row.setOther ?_ ?_ _; rotate_left; focus (intro h_own; have h_own2 := own_eq h_own; first | (omega) | (simp at h_own2; omega))) | refine Row.below ?_ (below_alloc _ _)))
                · exact (hrd.below (B := R + 1) (by (repeat (first | exact Below.refl _ _ | assumption | refine Below.alloc ?_ (by first | omega | (simp <;> omega)) _ | refine Below.setCell ?_ (by first | omega | (simp <;> omega)) _ | refine Below.drew ?_ | refine below_drewN ?_))) (by omega)).mono (by omega)
                · exact hsp.on (by (repeat (first | exact Below.refl _ _ | assumption | refine Below.alloc ?_ (by first | omega | (simp <;> omega)) _ | refine Below.setCell ?_ (by first | omega | (simp <;> omega)) _ | refine Below.drew ?_ | refine below_drewN ?_)))
theorem some_size {i : Nat} (hi : i < [3, 2, 3, 1, 4, 3].length) : okSize (nth [3, 2, 3, 1, 4, 3] i) = true := by
  have h : i = 0 ∨ i = 1 ∨ i = 2 ∨ i = 3 ∨ i = 4 ∨ i = 5 := by simp at hi; omega
  rcases h with rfl | rfl | rfl | rfl | rfl | rfl <;> decide
set_option maxRecDepth 100000 in
set_option maxHeartbeats 1000000 in
theorem l3Some_any (R P : Nat) (w : World) (hr : Rd w R P) (hP : P ≤ 400000000) :
    Calls Tryz.prog 127 #[.pointer (some ⟨R, 0, none⟩)] w (Drew R (P + 41) w (DrawnAny w.heap.size)) := by
  have hR := hr.1
  have hrd := hr
  clear hr
  have hsp := Span.refl R (R + 1) w
  go_enter Tryz.func127, Tryz.ntmps127
  go_wp2_with fail
  refine (num_any R _ _ 6 _ [3, 2, 3, 1, 4, 3] _ (hrd.on (by (repeat (first | exact Below.refl _ _ | assumption | refine Below.alloc ?_ (by first | omega | (simp <;> omega)) _ | refine Below.setCell ?_ (by first | omega | (simp <;> omega)) _ | refine Below.drew ?_ | refine below_drewN ?_)))) (by omega) (ints_lit _ _ _ [3, 2, 3, 1, 4, 3] _ 6 (by simp) (by simp) rfl (by omega)) (by first | omega | (simp <;> omega)) (by omega) (by omega)).mono ?_; rintro e w1 ⟨_, rfl, ⟨i, hi, rfl⟩, hrdn, hs⟩
  clear hrd
  have hrd := hrdn
  clear hrdn
  have hY1 : w.heap.size + 2 ≤ w1.heap.size := by have := hs.size; simp at this; omega
  have r0 := Span.keep hs (b := w.heap.size) (o := 0) (v := .int .i64 0) (by simp) (by omega)
  have fr0 := Span.keepF hs (b := w.heap.size) (o := 0) ⟨by simp <;> omega, by simp⟩ (by omega)
  have r1 := Span.keep hs (b := w.heap.size) (o := 1) (v := .slice none 0 0) (by simp) (by omega)
  have fr1 := Span.keepF hs (b := w.heap.size) (o := 1) ⟨by simp <;> omega, by simp⟩ (by omega)
  have ht : Span R (R + 1) w w1 := Span.trans (Span.of_below (by (repeat (first | exact Below.refl _ _ | assumption | refine Below.alloc ?_ (by first | omega | (simp <;> omega)) _ | refine Below.setCell ?_ (by first | omega | (simp <;> omega)) _ | refine Below.drew ?_ | refine below_drewN ?_)))) hs
  replace hsp := hsp.trans ht
  have hZ1 := ht.size
  clear ht hs
  have gfr0 := fr0.2
  have gfr1 := fr1.2
  have hsz := some_size hi
  generalize nth [3, 2, 3, 1, 4, 3] i = s at *
  go_wp2_with fail
  refine (l3Draw_any R _ s _ hrd (by omega) hsz).mono ?_; rintro e w2 ⟨_, rfl, ⟨p, xs, rfl, hrm, hl, hok⟩, hrdn, hs⟩
  clear hrd
  have hrd := hrdn
  clear hrdn
  have ht : Span R (R + 1) w1 w2 := hs
  replace r0 := Span.keep ht r0 (by omega)
  replace r1 := Span.keep ht r1 (by omega)
  replace fr0 := Span.keepF ht fr0 (by omega)
  replace fr1 := Span.keepF ht fr1 (by omega)
  replace hsp := hsp.trans ht
  have hZ2 := ht.size
  clear ht hs
  replace gfr0 := fr0.2
  replace gfr1 := fr1.2
  obtain ⟨am, nm, cm, rfl, him⟩ := hrm.ints
  clear him
  have hvm : ∀ b, (Value.slice am nm cm).ownBlock = some b → w1.heap.size ≤ b := fun b e => (hrm.block b e).1
  go_wp2
  refine bodyPost_ret (v := .agg #[.int .i64 s, .slice am nm cm]) (by simp [results, Tryz.results127, go_sem, r0, r1]) rfl ⟨_, rfl, ⟨s, hsz, _, _, rfl, ?_, hl, hok⟩, ?_, ?_⟩
  · refine Row.mono (base := w1.heap.size) ?_ (by omega)
    (repeat (first | exact hrm | (refine Row.setBelow ?_ ?_ _; rotate_left; focus (first | (omega) | (simp; done) | (simp; omega))) | (refine Row.setOther ?_ ?_ _; rotate_left; focus (intro h_own; have h_own2 := own_eq h_own; first | (omega) | (simp at h_own2; omega))) | refine Row.below ?_ (below_alloc _ _)))
  · exact (hrd.below (B := R + 1) (by (repeat (first | exact Below.refl _ _ | assumption | refine Below.alloc ?_ (by first | omega | (simp <;> omega)) _ | refine Below.setCell ?_ (by first | omega | (simp <;> omega)) _ | refine Below.drew ?_ | refine below_drewN ?_))) (by omega)).mono (by omega)
  · exact hsp.on (by (repeat (first | exact Below.refl _ _ | assumption | refine Below.alloc ?_ (by first | omega | (simp <;> omega)) _ | refine Below.setCell ?_ (by first | omega | (simp <;> omega)) _ | refine Below.drew ?_ | refine below_drewN ?_)))
end Go.Proofs.YtefmlbahmakboaaGreatDoor
