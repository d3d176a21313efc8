/- NegateMass of the program; the command not. -/
import Derived.Test.YtlelnnglpimgjaaGreatDoorU5
import Derived.Test.YtlelnnglpimgjaaGreatDoorF4
import Derived.Test.YtlelnnglpimgjaaGreatDoorS4
import Derived.Test.YtlelnnglpimgjaaGreatDoorM1
import Derived.Test.YtlelnnglpimgjaaGreatDoorC4
set_option linter.unusedSimpArgs false
set_option linter.unusedVariables false
namespace Go.Proofs.YtlelnnglpimgjaaGreatDoor
open Go.RowKit
/-- the parts the other way round -/
def revTo (xs : List Int) (N k : Nat) : List Int := iter (fun j l => l ++ [nth xs (N - 1 - j)]) [] k
theorem revTo_succ (xs : List Int) (N k : Nat) : revTo xs N (k + 1) = revTo xs N k ++ [nth xs (N - 1 - k)] := rfl
theorem revTo_len (xs : List Int) (N k : Nat) : (revTo xs N k).length = k := by
  induction k with
  | zero => rfl
  | succ k ih => rw [revTo_succ, List.length_append, ih]; rfl
theorem revTo_nth (xs : List Int) (N k j : Nat) (hj : j < k) : nth (revTo xs N k) j = nth xs (N - 1 - j) := by
  induction k with
  | zero => omega
  | succ k ih =>
    rw [revTo_succ]
    unfold nth at ih ⊢
    rw [List.getD_eq_getElem?_getD] at ih ⊢
    by_cases h : j < k
    · rw [List.getElem?_append_left (by rw [revTo_len]; exact h)]; exact ih h
    · obtain rfl : j = k := by omega
      rw [List.getElem?_append_right (by rw [revTo_len]; exact Nat.le_refl _), revTo_len, Nat.sub_self]; rfl
def negL (xs : List Int) : List Int := revTo xs xs.length xs.length
theorem negL_len (xs : List Int) : (negL xs).length = xs.length := revTo_len _ _ _
theorem negL_nth (xs : List Int) {j : Nat} (hj : j < xs.length) : nth (negL xs) j = nth xs (xs.length - 1 - j) := revTo_nth _ _ _ _ hj
theorem neg_neg (xs : List Int) : negL (negL xs) = xs := by
  refine ext_nth _ _ (by rw [negL_len, negL_len]) fun j hj => ?_
  rw [negL_len, negL_len] at hj
  rw [negL_nth _ (by rw [negL_len]; exact hj), negL_len, negL_nth _ (by omega)]
  congr 1; omega
theorem isumTo_split (xs : List Int) (a b : Nat) : isumTo xs (a + b) = isumTo xs a + isumTo (xs.drop a) b := by
  induction b with
  | zero => show isumTo xs a = isumTo xs a + 0; omega
  | succ b ih =>
    show isumTo xs (a + b) + nth xs (a + b) = isumTo xs a + (isumTo (xs.drop a) b + nth (xs.drop a) b)
    have e : nth (xs.drop a) b = nth xs (a + b) := by unfold nth; rw [List.getD_eq_getElem?_getD, List.getD_eq_getElem?_getD, List.getElem?_drop]
    rw [ih, e]; omega
theorem sum_rev (xs : List Int) (N : Nat) (hN : xs.length = N) : ∀ k, k ≤ N → isumTo (negL xs) k + isumTo xs (N - k) = isumTo xs N := by
  intro k
  induction k with
  | zero => intro _; show (0 : Int) + isumTo xs N = _; omega
  | succ k ih =>
    intro hk
    have h1 := ih (by omega)
    have h2 : N - k = (N - (k + 1)) + 1 := by omega
    have h3 : isumTo xs (N - k) = isumTo xs (N - (k + 1)) + nth xs (N - (k + 1)) := by rw [h2]; rfl
    show isumTo (negL xs) k + nth (negL xs) k + isumTo xs (N - (k + 1)) = _
    rw [negL_nth _ (by omega), hN, show N - 1 - k = N - (k + 1) by omega]
    omega
theorem isum_neg (xs : List Int) : isum (negL xs) = isum xs := by
  have h := sum_rev xs xs.length rfl xs.length (Nat.le_refl _)
  rw [Nat.sub_self] at h
  have h0 : isumTo xs 0 = 0 := rfl
  show isumTo (negL xs) (negL xs).length = isumTo xs xs.length
  rw [negL_len]; omega
theorem gcd_neg (xs : List Int) : gcdL (negL xs) = gcdL xs := by
  have h0 := gcdTo_nonneg xs xs.length
  have h1 := gcdTo_nonneg (negL xs) xs.length
  show gcdTo (negL xs) (negL xs).length = gcdTo xs xs.length
  rw [negL_len]
  refine Int.dvd_antisymm h1 h0 ?_ ?_
  · refine gcdTo_greatest xs _ _ fun j hj => ?_
    have h2 := gcdTo_dvd (negL xs) xs.length (xs.length - 1 - j) (by omega)
    rw [negL_nth _ (by omega), show xs.length - 1 - (xs.length - 1 - j) = j by omega] at h2
    exact h2
  · refine gcdTo_greatest (negL xs) _ _ fun j hj => ?_
    have h2 := gcdTo_dvd xs xs.length (xs.length - 1 - j) (by omega)
    rw [negL_nth _ hj]
    exact h2
theorem mass_neg {s : Int} {xs : List Int} (h : massOk s xs = true) : massOk s (negL xs) = true := by
  obtain ⟨h1, h2, h3, h4, h5, h6, h7⟩ := massOk_facts' h
  unfold massOk
  rw [h1, negL_len, isum_neg, gcd_neg, h7]
  simp only [Bool.and_eq_true, beq_iff_eq, allN_iff, inB_iff]
  exact ⟨⟨⟨⟨trivial, h2⟩, fun k hk => by rw [negL_nth _ hk]; have := h4 (xs.length - 1 - k) (by omega); omega⟩, by omega⟩, trivial⟩
theorem xor_full : ∀ n : Fin 5, ∀ k : Fin (2 ^ n.val), bits BinOp.xor IntKind.i64 (((2 ^ n.val : Nat) : Int) - 1) ((k.val : Nat) : Int) = ((2 ^ n.val - 1 - k.val : Nat) : Int) := by decide +kernel
theorem nsets_pow {s : Int} (h : okSize s = true) : s.toNat < 5 ∧ nsets s = 2 ^ s.toNat := by
  rcases okSize_iff.1 h with rfl | rfl | rfl | rfl <;> exact ⟨by decide, rfl⟩
theorem oneBox {W : World} {A : Nat} (t : TypeId) (x y : Value) (h : W.heap.size = A) : (W.alloc (.cells #[x, y] t)).cell? ⟨A, 0, none⟩ = some x ∧ (W.alloc (.cells #[x, y] t)).cell? ⟨A, 1, none⟩ = some y ∧ (W.alloc (.cells #[x, y] t)).frozen? ⟨A, 0, none⟩ = false ∧ (W.alloc (.cells #[x, y] t)).frozen? ⟨A, 1, none⟩ = false ∧ A < (W.alloc (.cells #[x, y] t)).heap.size := by
  subst h; simp
theorem oneAt (w : World) (x : Value) (t : TypeId) : ∀ j u, [x][j]? = some u → (w.alloc (.cells #[x] t)).cell? ((⟨w.heap.size, 0, none⟩ : Addr).add j) = some u := by
  intro j u hj
  match j, hj with
  | 0, hj => simp at hj; subst hj; simp [Addr.add]
theorem keepRow {w1 w2 : World} {row : Option Nat} {b o : Nat} {x : Value} (hg : w1.grownBy w2 row) (h : w1.cell? ⟨b, o, none⟩ = some x) (hne : ∀ g, row = some g → b ≠ g) : w2.cell? ⟨b, o, none⟩ = some x :=
  (cell_block (hg.block b (World.block_lt_of_cell? w1 ⟨b, o, none⟩ h) fun e => hne b e.symm rfl)).trans h
theorem keepRowF {w1 w2 : World} {row : Option Nat} {b o : Nat} {x : Value} (hg : w1.grownBy w2 row) (h : w1.cell? ⟨b, o, none⟩ = some x) (hf : w1.frozen? ⟨b, o, none⟩ = false) (hne : ∀ g, row = some g → b ≠ g) : w2.frozen? ⟨b, o, none⟩ = false :=
  (frozen_block (hg.block b (World.block_lt_of_cell? w1 ⟨b, o, none⟩ h) fun e => hne b e.symm rfl)).trans hf
theorem own_bel {w w' : World} {base size n : Nat} {e : TypeId} {v : Value} {vals : List Value} (h : w.ownsRow base e size v n vals) (hb : Below w.heap.size w w') : w'.ownsRow base e size v n vals := owns_below h (fun k e => hb.block k (World.ownsRow.lt h k e).2)
set_option maxRecDepth 100000 in
set_option maxHeartbeats 8000000 in
theorem negated_of (s : Int) (ao : Option Addr) (n c : Nat) (xs : List Int) (w : World) (hx : IntsAt w ao n xs) (hm : massOk s xs = true) :
    Calls Tryz.prog 58 #[.agg #[.int .i64 s, .slice ao n c]] w fun e w' => (∃ v, e = .returned (.agg #[.int .i64 s, v]) ∧ Row w' w.heap.size v (negL xs)) ∧ Below w.heap.size w w' := by
  obtain ⟨hs, hlen, h16, hbd, _, _, _⟩ := massOk_facts' hm
  have hnl := hx.len
  have hnn := nsets_le hs
  obtain ⟨h5, hpow⟩ := nsets_pow hs
  have hn16 : n ≤ 16 := by omega
  have hn0 : 0 < n := by omega
  have HXO : Hid (∀ k : Nat, k < n → bits BinOp.xor IntKind.i64 ((nsets s : Int) - 1) (k : Int) = ((n - 1 - k : Nat) : Int)) := fun k hk => by
    have h1 := xor_full ⟨s.toNat, h5⟩ ⟨k, by show k < 2 ^ s.toNat; rw [← hpow]; omega⟩
    simp only at h1
    rw [← hpow] at h1
    rw [h1, show n = nsets s by omega]
  have HRL : Hid (negL xs = revTo xs n n) := by rw [Hid, ← hnl]; rfl
  rw [HRL.out]
  obtain ⟨i3, hi3, hz31, hz32, hz33⟩ := info_parts info_int
  have HI3 := hid hi3; have HZ3 : Hid (_ ∧ _ ∧ _) := ⟨hz31, hz32, hz33⟩
  obtain ⟨O, hO⟩ : ∃ O, w.heap.size + 1 + 1 = O := ⟨_, rfl⟩
  obtain ⟨W, HW⟩ : ∃ W, Hid (((w.alloc (.cells #[.int .i64 s, .slice ao n c] 25)).alloc (.cells #[.int .i64 0, .slice none 0 0] 25)).alloc (.cells #[.int .i64 s, .slice none 0 0] 25) = W) := ⟨_, rfl⟩
  have hB0 : Below w.heap.size w W := by rw [← HW.out]; (repeat (first | exact Below.refl _ _ | assumption | refine Below.alloc ?_ (by first | omega | (simp <;> omega)) _ | refine Below.setCell ?_ (by first | omega | (simp <;> omega)) _ | refine Below.drew ?_ | refine below_drewN ?_))
  have b1 := oneBox (W := w) 25 (.int .i64 s) (.slice ao n c) rfl
  have b2 := oneBox (W := w.alloc (.cells #[.int .i64 s, .slice ao n c] 25)) (A := w.heap.size + 1) 25 (.int .i64 0) (.slice none 0 0) (by simp)
  have b3 := oneBox (W := (w.alloc (.cells #[.int .i64 s, .slice ao n c] 25)).alloc (.cells #[.int .i64 0, .slice none 0 0] 25)) (A := w.heap.size + 1 + 1) 25 (.int .i64 s) (.slice none 0 0) (by simp)
  have m0 := keep (below_alloc _ (.cells #[.int .i64 s, .slice none 0 0] 25)) (keep (below_alloc _ (.cells #[.int .i64 0, .slice none 0 0] 25)) b1.1)
  have m1 := keep (below_alloc _ (.cells #[.int .i64 s, .slice none 0 0] 25)) (keep (below_alloc _ (.cells #[.int .i64 0, .slice none 0 0] 25)) b1.2.1)
  have f20 := keepF (below_alloc _ (.cells #[.int .i64 s, .slice none 0 0] 25)) b2.1 b2.2.2.1
  have f21 := keepF (below_alloc _ (.cells #[.int .i64 s, .slice none 0 0] 25)) b2.2.1 b2.2.2.2.1
  have h10 := keep (below_alloc _ (.cells #[.int .i64 s, .slice none 0 0] 25)) b2.1
  have h11 := keep (below_alloc _ (.cells #[.int .i64 s, .slice none 0 0] 25)) b2.2.1
  obtain ⟨o0, o1, fo0, fo1, hOl⟩ := b3
  rw [HW.out] at m0 m1 f20 f21 h10 h11 o0 o1 fo0 fo1 hOl
  rw [hO] at o0 o1 fo0 fo1 hOl
  obtain ⟨R1, hR1⟩ : ∃ R, w.heap.size + 1 = R := ⟨_, rfl⟩
  rw [hR1] at f20 f21 h10 h11
  have hlt1 : w.heap.size < R1 := by omega
  have hlt2 : R1 < O := by omega
  have HO := hid hO; have HR1 := hid hR1
  clear hO hR1 b1 b2 hlen hnl hbd hpow h5 hi3 hz31 hz32 hz33 hm
  go_enter Tryz.func58, Tryz.ntmps58
  go_wp2
  rw [HW.out]
  rw [HO.out, HR1.out]
  go_loopw [4, 11] (fun _ i wr => ∃ (k : Nat) (v : Value), k ≤ n ∧ i = .int .i64 k ∧ wr.cell? ⟨O, 0, none⟩ = some (.int .i64 s) ∧ wr.cell? ⟨O, 1, none⟩ = some v ∧ wr.frozen? ⟨O, 1, none⟩ = false ∧ Row wr (O + 1) v (revTo xs n k) ∧ Below O W wr) (fun _ i _ => n - (intOf i).toNat)
  case atStart => exact ⟨0, _, by omega, rfl, o0, o1, fo1, Row.nil _ _, Below.refl _ _⟩
  case round =>
    obtain ⟨k, v, hk, rfl, c0, c2, f2, hrow, hBr⟩ := hrel
    obtain ⟨av, nv, cv, rfl, hiv⟩ := hrow.ints
    have hnv : nv = k := by rw [← hiv.len]; exact revTo_len _ _ _
    subst hnv
    have hB : Below w.heap.size w wr := hB0.trans (hBr.mono (by omega))
    have hOz := World.block_lt_of_cell? wr _ c2
    simp only at hOz
    have e2 := (hBr.cell (p := ⟨w.heap.size, 0, none⟩) (by show w.heap.size < O; omega)).trans m0
    have e3 := (hBr.cell (p := ⟨w.heap.size, 1, none⟩) (by show w.heap.size < O; omega)).trans m1
    by_cases hlt : nv < n
    · have hk0 : (0 : Int) ≤ (nv : Int) := by omega
      have hk1 : (nv : Int) < (n : Int) := by omega
      obtain ⟨q, hq⟩ : ∃ q, n - 1 - nv = q := ⟨_, rfl⟩
      have hqn : q < n := by omega
      have hxo := HXO.out nv hlt
      have HS := hid (revTo_succ xs n nv)
      rw [hq] at hxo HS
      have hq0 : (0 : Int) ≤ (q : Int) := by omega
      have hq1 : (q : Int) < (n : Int) := by omega
      obtain ⟨yb, yo, rfl, hyl, hyl2, e4⟩ := hx.at hB hqn
      obtain ⟨y, he2⟩ : ∃ x, nth xs q = x := ⟨_, rfl⟩
      rw [he2] at e4 HS
      have HAP : Hid (∀ g, (Value.slice av nv cv).ownBlock = some g → O ≠ g) := fun g e => by have := (hrow.block g e).1; omega
      have hown : wr.ownsRow (O + 1) 3 1 (.slice av nv cv) nv ((revTo xs n nv).map (Value.int .i64)) := by
        have h := hrow
        unfold Row at h
        rw [revTo_len] at h
        exact h
      have HOWN := hid hown
      have hylO : yb < O := by omega
      clear hq he2 hown
      go_wp2
      refine wp_region_joinF (ι := Value × Value) (fun a i => (Act.put (Act.put (Act.put (Act.put (Act.put (Act.put (Act.put (Act.put (Act.put (Act.put (Act.put (Act.put (Act.put (Act.put a (some 14) (.pointer (some ⟨O, 1, none⟩))) (some 15) (.slice av nv cv)) (some 16) (.pointer (some ⟨w.heap.size, 1, none⟩))) (some 17) (.slice (some ⟨yb, yo, none⟩) n c)) (some 18) (.pointer (some ⟨w.heap.size, 0, none⟩))) (some 19) (.int .i64 s)) (some 20) (.int .i64 ((nsets s : Int) - 1))) (some 21) (.int .i64 (nv : Int))) (some 22) (.int .i64 (q : Int))) (some 23) (.pointer (some ⟨yb, yo + q, none⟩))) (some 24) (.int .i64 y)) (some 25) i.1) (some 26) i.2) (some 27) (.pointer (some ⟨O, 1, none⟩)))) (fun i w' => w'.cell? ⟨O, 0, none⟩ = some (.int .i64 s) ∧ w'.cell? ⟨O, 1, none⟩ = some i.2 ∧ w'.frozen? ⟨O, 1, none⟩ = false ∧ Row w' (O + 1) i.2 (revTo xs n (nv + 1)) ∧ Below O W w') ?_ ?_
      · refine wp_region_P (fun w' => Below O wr w') (fun w' => w'.cell? ⟨O, 1, none⟩ = some (.slice av nv cv) ∧ w'.frozen? ⟨O, 1, none⟩ = false) 12 (by kernel_rfl) ?_
        change wpAnyP _ _ _ _ _ _ _ _ _ _ (World.drew _)
        have hS : Below O wr (World.drew wr) := (drew_below wr).mono (by omega)
        have hT : (World.drew wr).cell? ⟨O, 1, none⟩ = some (.slice av nv cv) ∧ (World.drew wr).frozen? ⟨O, 1, none⟩ = false := ⟨c2, f2⟩
        refine wpAnyP_takeS (i := 0) (v := ?_) rfl (by kernel_rfl) (by kernel_rfl) (by kernel_rfl) (fun _ _ _ h => h) (by decide) (Or.inl ⟨by rfl, fun w' hS' => ?_⟩) hS (fun _ => hT) ?_
        rotate_left
        · go_simp; first | done | rfl
        simp only [Act.put]
        refine wpAnyP_takeT (i := 1) (v := ?_) rfl (by kernel_rfl) (by kernel_rfl) (by kernel_rfl) (fun _ _ _ h => h) (by decide) (by kernel_rfl) (by kernel_rfl) (Or.inl ⟨by rfl, fun w' hS' => ?_⟩) ⟨hS, hT⟩ ?_
        rotate_left
        · obtain ⟨hS2, hT1, hT2⟩ := hS'; go_simp; first | done | rfl
        simp only [Act.put]
        refine wpAnyP_takeS (i := 2) (v := ?_) rfl (by kernel_rfl) (by kernel_rfl) (by kernel_rfl) (fun _ _ _ h => h) (by decide) (Or.inl ⟨by rfl, fun w' hS' => ?_⟩) hS (fun _ => hT) ?_
        rotate_left
        · go_simp; first | done | rfl
        simp only [Act.put]
        refine wpAnyP_takeS (i := 3) (v := ?_) rfl (by kernel_rfl) (by kernel_rfl) (by kernel_rfl) (fun _ _ _ h => h) (by decide) (Or.inl ⟨by rfl, fun w' hS' => ?_⟩) hS (fun _ => hT) ?_
        rotate_left
        · have q1 := (hS'.cell (p := ⟨w.heap.size, 1, none⟩) (show w.heap.size < O by omega)).trans e3; go_simp; first | done | rfl
        simp only [Act.put]
        refine wpAnyP_takeS (i := 4) (v := ?_) rfl (by kernel_rfl) (by kernel_rfl) (by kernel_rfl) (fun _ _ _ h => h) (by decide) (Or.inl ⟨by rfl, fun w' hS' => ?_⟩) hS (fun _ => hT) ?_
        rotate_left
        · go_simp; first | done | rfl
        simp only [Act.put]
        refine wpAnyP_takeS (i := 5) (v := ?_) rfl (by kernel_rfl) (by kernel_rfl) (by kernel_rfl) (fun _ _ _ h => h) (by decide) (Or.inl ⟨by rfl, fun w' hS' => ?_⟩) hS (fun _ => hT) ?_
        rotate_left
        · have q1 := (hS'.cell (p := ⟨w.heap.size, 0, none⟩) (show w.heap.size < O by omega)).trans e2; go_simp; first | done | rfl
        simp only [Act.put]
        refine wpAnyP_takeS (i := 7) (v := ?_) rfl (by kernel_rfl) (by kernel_rfl) (by kernel_rfl) (fun _ _ _ h => h) (by decide) (Or.inl ⟨by rfl, fun w' hS' => ?_⟩) hS (fun _ => hT) ?_
        rotate_left
        · go_simp; first | done | rfl
        simp only [Act.put]
        refine wpAnyP_step 6 rfl (by kernel_rfl) (by rfl) (fun K hK => ?_)
        go_simp
        refine (fullSet_any s _ hs).mono ?_; rintro e wa ⟨rfl, rfl⟩
        go_simp
        refine hK _ _ hS (fun _ => hT) ?_
        clear hK K
        refine wpAnyP_takeS (i := 8) (v := ?_) rfl (by kernel_rfl) (by kernel_rfl) (by kernel_rfl) (fun _ _ _ h => h) (by decide) (Or.inl ⟨by rfl, fun w' hS' => ?_⟩) hS (fun _ => hT) ?_
        rotate_left
        · go_simp; first | done | rfl
        simp only [Act.put]
        refine wpAnyP_takeS (i := 9) (v := ?_) rfl (by kernel_rfl) (by kernel_rfl) (by kernel_rfl) (fun _ _ _ h => h) (by decide) (Or.inl ⟨by rfl, fun w' hS' => ?_⟩) hS (fun _ => hT) ?_
        rotate_left
        · go_simp; first | done | rfl
        simp only [Act.put]
        refine wpAnyP_takeS (i := 10) (v := ?_) rfl (by kernel_rfl) (by kernel_rfl) (by kernel_rfl) (fun _ _ _ h => h) (by decide) (Or.inl ⟨by rfl, fun w' hS' => ?_⟩) hS (fun _ => hT) ?_
        rotate_left
        · have q1 := (hS'.cell (p := ⟨yb, yo + q, none⟩) (show yb < O by omega)).trans e4; go_simp; first | done | rfl
        simp only [Act.put]
        refine wpAnyP_step 11 rfl (by kernel_rfl) (by rfl) (fun K hK => ?_)
        go_simp
        have hS1 : Below O wr ((wr.alloc (.cells #[.int .i64 y] 3)).drew) := ((below_alloc wr _).mono (by omega)).trans (drew_below _ |>.mono (by simp; omega))
        have hT1 : ((wr.alloc (.cells #[.int .i64 y] 3)).drew).cell? ⟨O, 1, none⟩ = some (.slice av nv cv) ∧ ((wr.alloc (.cells #[.int .i64 y] 3)).drew).frozen? ⟨O, 1, none⟩ = false := ⟨keep (Below.trans (below_alloc wr _) ((drew_below _).mono (by simp))) c2, keepF (Below.trans (below_alloc wr _) ((drew_below _).mono (by simp))) c2 f2⟩
        refine hK _ _ hS1 (fun _ => hT1) ?_
        clear hK K hS hT
        refine wpAnyP_step 12 rfl (by kernel_rfl) (by rfl) (fun K hK => ?_)
        refine wp_append_lies _ _ _ 23 rfl (O + 1) 3 i3 (.int .i64 0) 1 8 Tryz.underlying23 HI3.out HZ3.out.1 HZ3.out.2.1 HZ3.out.2.2 rfl (by decide) (.slice av nv cv) nv ((revTo xs n nv).map (Value.int .i64)) rfl (own_bel HOWN.out (Below.trans (below_alloc wr _) ((drew_below _).mono (by simp)))) ⟨wr.heap.size, 0, none⟩ 1 1 [.int .i64 y] rfl rfl (oneAt wr _ _) (fun u hu => by simp at hu; subst hu; rfl) (by decide) (by unfold maxLen; omega) (by omega) (by simp; omega) _ rfl (fun g cap wb k1 k2 k3 k4 => ?_)
        have hown := HOWN.out
        have hS : Below O wr wb := below_grownBy hS1 (by simp; omega) k2 (fun b e => by have := (World.ownsRow.lt hown b e).1; omega)
        have hT : wb.cell? ⟨O, 1, none⟩ = some (.slice av nv cv) ∧ wb.frozen? ⟨O, 1, none⟩ = false := ⟨keepRow k2 hT1.1 HAP.out, keepRowF k2 hT1.1 hT1.2 HAP.out⟩
        have d0 : wb.cell? ⟨O, 0, none⟩ = some (.int .i64 s) := keepRow k2 (keep (Below.trans (below_alloc wr _) ((drew_below _).mono (by simp))) c0) HAP.out
        refine hK _ _ hS (fun _ => hT) ?_
        clear hK K hS1 hT1
        refine wpAnyP_takeS (i := 13) (v := ?_) rfl (by kernel_rfl) (by kernel_rfl) (by kernel_rfl) (fun _ _ _ h => h) (by decide) (Or.inl ⟨by rfl, fun w' hS' => ?_⟩) hS (fun _ => hT) ?_
        rotate_left
        · go_simp; first | done | rfl
        simp only [Act.put]
        have kb := hT.1; have fb := hT.2
        refine wpAnyP_step 14 rfl (by kernel_rfl) (by rfl) (fun K hK => ?_)
        go_simp
        refine hK _ _ (hS.setCell (show O ≤ O from Nat.le_refl _) _) (fun h => absurd h (by decide)) ?_
        clear hK K
        refine wpAnyP_done (by kernel_rfl) ?_ _
        refine ⟨(.slice (some ⟨wr.heap.size, 0, none⟩) 1 1, .slice (some ⟨g, 0, none⟩) (nv + 1) cap), ?_, ?_⟩
        · simp [Act.put]
        · have hrow' : Row wb (O + 1) (.slice (some ⟨g, 0, none⟩) (nv + 1) cap) (revTo xs n (nv + 1)) := by
            rw [HS.out]; unfold Row; rw [List.length_append, revTo_len, List.map_append]; exact k1
          have hbo := hrow'.block g rfl
          refine ⟨(World.cell?_setCell_other _ _ _ _ (by simp)).trans d0, World.cell?_setCell_same _ _ _ kb, by simp [fb], hrow'.setOther (a := ⟨O, 1, none⟩) (fun e => by have := own_eq e; simp at this; omega) _, (hBr.trans (hS.mono (Nat.le_refl _))).setCell (show O ≤ O from Nat.le_refl _) _⟩
      · rintro ⟨v25, v26⟩ w6 ⟨c0', c1', f1', hr', hb'⟩
        have HC0 := hid c0'
        have HC1 := hid c1'
        have HF1 := hid f1'
        clear c0 c2 f2 hrow e2 e3 e4 c0' c1' f1'
        go_wp2
        go_roundw
        case rel => first | exact ⟨nv + 1, _, by omega, by go_num, HC0.out, HC1.out, HF1.out, hr', hb'⟩ | exact ⟨_, ⟨nv + 1, _, by omega, by go_num, HC0.out, HC1.out, HF1.out, hr', hb'⟩, rfl⟩ | exact ⟨_, _, ⟨nv + 1, _, by omega, by go_num, HC0.out, HC1.out, HF1.out, hr', hb'⟩, rfl, rfl⟩ | exact ⟨_, _, _, ⟨nv + 1, _, by omega, by go_num, HC0.out, HC1.out, HF1.out, hr', hb'⟩, rfl, rfl, rfl⟩ | exact ⟨_, _, _, _, ⟨nv + 1, _, by omega, by go_num, HC0.out, HC1.out, HF1.out, hr', hb'⟩, rfl, rfl, rfl, rfl⟩ | exact ⟨_, _, _, _, _, ⟨nv + 1, _, by omega, by go_num, HC0.out, HC1.out, HF1.out, hr', hb'⟩, rfl, rfl, rfl, rfl, rfl⟩
        case measure => simp [intOf]; omega
    · obtain rfl : nv = n := by omega
      have g10 := (hBr.cell (p := ⟨R1, 0, none⟩) (by show R1 < O; omega)).trans h10
      have g11 := (hBr.cell (p := ⟨R1, 1, none⟩) (by show R1 < O; omega)).trans h11
      have g20 := (hBr.frozen (p := ⟨R1, 0, none⟩) (by show R1 < O; omega)).trans f20
      have g21 := (hBr.frozen (p := ⟨R1, 1, none⟩) (by show R1 < O; omega)).trans f21
      have hne : ∀ b, (Value.slice av nv cv).ownBlock = some b → b ≠ R1 := fun b e => by have := (hrow.block b e).1; omega
      clear h10 h11 f20 f21
      go_wp2
      refine bodyPost_ret (v := .agg #[.int .i64 s, .slice av nv cv]) (by simp [results, Tryz.results58, go_sem, g10, g11]) rfl ⟨⟨_, rfl, (hrow.put2 (b := R1) hne).mono (by omega)⟩, ?_⟩
      (repeat (first | exact Below.refl _ _ | assumption | refine Below.alloc ?_ (by first | omega | (simp <;> omega)) _ | refine Below.setCell ?_ (by first | omega | (simp <;> omega)) _ | refine Below.drew ?_ | refine below_drewN ?_))
set_option maxRecDepth 100000 in
set_option maxHeartbeats 1000000 in
theorem NegateMass_of (s : Int) (ao : Option Addr) (n c : Nat) (xs : List Int) (w : World) (hx : IntsAt w ao n xs) (hm : massOk s xs = true) :
    Calls Tryz.prog 16 #[.agg #[.int .i64 s, .slice ao n c]] w fun e w' => RetM ⟨s, negL xs, true⟩ w.heap.size e w' ∧ Below w.heap.size w w' := by
  have HM := hid hm
  go_enter Tryz.func16, Tryz.ntmps16
  go_wp2_with fail
  refine (isMass_any _ _ _ _ xs _ (hx.below (by (repeat (first | exact Below.refl _ _ | assumption | refine Below.alloc ?_ (by first | omega | (simp <;> omega)) _ | refine Below.setCell ?_ (by first | omega | (simp <;> omega)) _ | refine Below.drew ?_ | refine below_drewN ?_))))).mono ?_; rw [HM.out]; rintro e w1 ⟨rfl, hb1⟩
  obtain ⟨h10, h11, f20, f21⟩ := boxG (w.heap.size + 1) hb1 (by simp)
  have p0 := keep hb1 (a := ⟨w.heap.size, 0, none⟩) (v := .int .i64 s) (by simp)
  have p1 := keep hb1 (a := ⟨w.heap.size, 1, none⟩) (v := .slice ao n c) (by simp)
  have hB1 : Below w.heap.size w w1 := Below.trans (by (repeat (first | exact Below.refl _ _ | assumption | refine Below.alloc ?_ (by first | omega | (simp <;> omega)) _ | refine Below.setCell ?_ (by first | omega | (simp <;> omega)) _ | refine Below.drew ?_ | refine below_drewN ?_))) (hb1.mono (by simp <;> omega))
  have hz1 : w.heap.size + 1 < w1.heap.size := by have := World.block_lt_of_cell? w1 _ h10; simpa using this
  clear hb1 hm
  go_wp2_with fail
  refine (negated_of s _ _ _ xs _ (hx.below hB1) HM.out).mono ?_; rintro e w2 ⟨⟨v, rfl, hr2⟩, hb2⟩
  obtain ⟨a2, n2, c2, rfl, hi2⟩ := hr2.ints
  replace f20 := keepF hb2 h10 f20
  replace f21 := keepF hb2 h11 f21
  replace h10 := keep hb2 h10
  replace h11 := keep hb2 h11
  have hB2 := chain hB1 hb2
  clear hb2
  go_wp2
  refine bodyPost_ret (v := .tuple #[.agg #[.int .i64 s, .slice a2 n2 c2], .bool true]) (by simp [results, Tryz.results16, go_sem, h10, h11]) rfl ⟨⟨_, rfl, ((hr2.setBelow (a := ⟨w.heap.size + 1, 0, none⟩) (by simp; omega) _).setBelow (a := ⟨w.heap.size + 1, 1, none⟩) (by simp; omega) _).mono (by omega)⟩, ?_⟩
  (repeat (first | exact Below.refl _ _ | assumption | refine Below.alloc ?_ (by first | omega | (simp <;> omega)) _ | refine Below.setCell ?_ (by first | omega | (simp <;> omega)) _ | refine Below.drew ?_ | refine below_drewN ?_))
set_option maxRecDepth 100000 in
set_option maxHeartbeats 2000000 in
theorem pl_not (d : DS) (hm : massOk d.s d.xs = true) : Pl [110, 111, 116] d (massT d.s (negL d.xs)) ⟨d.s, negL d.xs, d.t, d.ys, d.a⟩ := by
  intro w0 w D hv hD hb hd
  rw [show bs [110, 111, 116] = ByteArray.mk #[110, 111, 116] from rfl]
  obtain ⟨am, nm, cm, h1, hrm, hnm⟩ := hd.m
  have h0 := hd.c0
  have hlt := hd.lt
  have HM := hid hm
  clear hm
  go_enter Tryz.func113, Tryz.ntmps113
  go_wp2_with fail
  refine (NegateMass_of d.s _ _ _ d.xs _ hrm.view HM.out).mono ?_; rintro e w1 ⟨⟨v, rfl, hr1⟩, hb1⟩
  obtain ⟨a, n, c, rfl, hi⟩ := hr1.ints
  have hne : (Value.slice a n c).ownBlock ≠ some D := fun e => by have := (hr1.block _ e).1; omega
  go_wp2_with fail
  refine (become_any w0 w1 D d ⟨d.s, negL d.xs, true⟩ a n c hv hD (hb.trans (hb1.mono hb.size)) (hd.below hb1) (hr1.mono (Nat.zero_le _)) hne).mono ?_; rintro e w2 ⟨rfl, hd2, hs2⟩
  have hs3 := (Span.of_below (lo := D) (hi := D + 1) hb1).trans hs2
  clear hs2 hb1
  go_wp2
  go_ret
  exact ⟨rfl, hd2, hs3⟩
end Go.Proofs.YtlelnnglpimgjaaGreatDoor
