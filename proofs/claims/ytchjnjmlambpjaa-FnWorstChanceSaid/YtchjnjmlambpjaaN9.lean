/- Plain: what corners are: sums by a corner. No program in sight. -/
import Derived.Test.YtchjnjmlambpjaaC0
import Derived.Test.YtchjnjmlambpjaaN5
import Derived.Test.YtchjnjmlambpjaaE5
set_option linter.unusedSimpArgs false
set_option linter.unusedVariables false
namespace Go.Proofs.Ytchjnjmlambpjaa
open Go.RowKit
theorem size_pow {s : Int} (h : okSize s = true) : 1 ≤ s.toNat ∧ s.toNat ≤ 4 ∧ nsets s = 2 ^ s.toNat := by
  rcases okSize_iff.1 h with rfl | rfl | rfl | rfl <;> exact ⟨by decide, by decide, rfl⟩
theorem norm_size {s : Int} {xs : List Int} (h : normalOk s xs = true) : 1 ≤ s.toNat ∧ s.toNat ≤ 4 ∧ xs.length = 2 ^ s.toNat ∧ nth xs 0 = 0 ∧ massOk s xs = true ∧ (s.toNat : Int) = s := by
  obtain ⟨hm, h0⟩ := norm_facts h
  obtain ⟨hk, hl, _⟩ := massOk_facts hm
  obtain ⟨a, b, c⟩ := size_pow hk
  exact ⟨a, b, by rw [hl, c], h0, hm, by omega⟩
theorem fb_some {n : Nat} {o : List Int} (hn : n ≤ 4) (ho : OrdOk n o) {a : Nat} (ha : a < 2 ^ n) (h0 : a ≠ 0) : ∃ x, x < n ∧ hasB a x = true ∧ firstBit o a = 2 ^ x := by
  obtain ⟨y, hy⟩ := hasB_some ⟨n, by omega⟩ ⟨a, ha⟩ h0
  obtain ⟨x, hx, hb, e⟩ := firstBit_some o a ⟨(y.val : Int), ho.2 y.val y.isLt, hy⟩
  have := ho.1 x hx
  exact ⟨x.toNat, by omega, hb, e⟩
theorem hasB_powC : ∀ x y : Fin 4, hasB (2 ^ x.val) y.val = true → y = x := by decide
theorem hasB_selfC : ∀ x : Fin 4, hasB (2 ^ x.val) x.val = true := by decide
theorem single_pow : ∀ x : Fin 4, single (2 ^ x.val) = true := by decide
/-- a corner: sums by it are sums of first answers -/
theorem corner_facts {s : Int} {xs o : List Int} (hn : normalOk s xs = true) (ho : OrdOk s.toNat o) : ∃ e : Int, 1 ≤ e ∧ (chanceM s xs o).ok = true ∧ (chanceM s xs o).size = s ∧ (chanceM s xs o).parts.length = xs.length ∧
    massOk s (chanceM s xs o).parts = true ∧ (∀ g, e * dot g (chanceM s xs o).parts xs.length = dot (fun a => g (firstBit o a)) xs xs.length) ∧ e * isum (chanceM s xs o).parts = isum xs := by
  obtain ⟨p1, p4, hl, h0, hm, _⟩ := norm_size hn
  obtain ⟨hk, hl2, h16, hbd, s1, s2, _⟩ := massOk_facts hm
  have hbd2 : ∀ a, a < xs.length → 0 ≤ nth xs a ∧ nth xs a ≤ 1000000 := fun a ha => hbd a ha
  have hT : ∀ a, a < xs.length → firstBit o a < xs.length := fun a _ => by rw [hl]; exact firstBit_lt o s.toNat a ho.1
  have hD : ∀ g, dot g (chP o xs xs.length) xs.length = dot (fun a => g (firstBit o a)) xs xs.length := fun g => dot_mapTo g _ xs xs.length xs.length hT
  have hlen : (chP o xs xs.length).length = xs.length := mapTo_len _ _ _ _
  have hs : isum (chP o xs xs.length) = isum xs := by rw [isum_ofl hlen, hD, isum_ofl rfl]
  have hv := mkMass_valid (xs := chP o xs xs.length) hk (by rw [hlen, hl2]) (fun j _ => (mapTo_bd _ xs xs.length xs.length 1000000 (by decide) hbd2 xs.length (Nat.le_refl _) j).1) (by omega) (by omega)
  have hok : (mkMass s (chP o xs xs.length)).ok = true := hv.1
  obtain ⟨g1, g2, g3, g4, g5⟩ := mkMass_parts hok
  rw [hlen] at g3 g5
  refine ⟨_, g1, hok, g2, g3, g4, fun g => by rw [← hD]; exact g5 g, ?_⟩
  have := g5 fun _ => 1
  rw [← isum_ofl hlen, hs] at this
  rw [isum_ofl (show (chanceM s xs o).parts.length = xs.length from g3)]
  exact this
theorem corner_nth {s : Int} {xs o : List Int} (hn : normalOk s xs = true) (ho : OrdOk s.toNat o) {j : Nat} (hj : j < xs.length) (hs : single j = false) : nth (chanceM s xs o).parts j = 0 := by
  obtain ⟨p1, p4, hl, h0, hm, _⟩ := norm_size hn
  obtain ⟨e, he, _, _, _, _, hd, _⟩ := corner_facts hn ho
  have h1 := hd (at1 j)
  have h2 : dot (fun a => at1 j (firstBit o a)) xs xs.length = 0 := by
    rw [← dot_zero (fun _ => 0) xs.length xs.length]
    have : dot (fun a => at1 j (firstBit o a)) xs xs.length = dot (fun _ => 0) xs xs.length := dot_congr _ _ fun a ha => by
      by_cases ha0 : a = 0
      · subst ha0; rw [h0]; simp
      · obtain ⟨x, hx, _, e⟩ := fb_some p4 ho (by omega) ha0
        have : firstBit o a ≠ j := by
          rw [e]; rintro rfl
          have := single_pow ⟨x, by omega⟩
          simp only at this
          rw [this] at hs; cases hs
        unfold at1
        rw [if_neg this]
    rw [this]
    have : ∀ n, dot (fun _ => 0) xs n = 0 := fun n => by
      induction n with
      | zero => rfl
      | succ n ih => rw [dot_succ, ih]; simp
    rw [this, dot_zero]
  rw [dot_at1, if_pos hj, h2] at h1
  rcases Int.mul_eq_zero.1 h1 with h3 | h3
  · omega
  · exact h3
theorem corner_chance {s : Int} {xs o : List Int} (hn : normalOk s xs = true) (ho : OrdOk s.toNat o) : chanceOk s (chanceM s xs o).parts = true ∧ normalOk s (chanceM s xs o).parts = true := by
  obtain ⟨p1, p4, hl, h0, hm, _⟩ := norm_size hn
  obtain ⟨e, he, _, _, e2, e3, _⟩ := corner_facts hn ho
  have hp : 0 < xs.length := by rw [hl]; exact Nat.two_pow_pos _
  constructor
  · unfold chanceOk
    rw [e3, Bool.true_and, allN_iff]
    intro k hk
    cases hs : single k
    · rw [corner_nth hn ho (by omega) hs]; rfl
    · rw [Bool.or_true]
  · unfold normalOk
    rw [e3, corner_nth hn ho (j := 0) hp (by decide)]; rfl
/-- sums of least gains by a corner are at least those of the mass, and the same in an order that ascends -/
theorem lowF_first {n m : Nat} {M : Int} {d o : List Int} (hn : n ≤ 4) (ho : OrdOk n o) (hd : d.length = n) (hM : ∀ x, x < n → nth d x ≤ M) {a : Nat} (ha : a < 2 ^ n) (h0 : a ≠ 0) :
    ∃ x, x < n ∧ hasB a x = true ∧ firstBit o a = 2 ^ x ∧ lowF M d (firstBit o a) n = nth d x := by
  obtain ⟨x, hx, hb, e⟩ := fb_some hn ho ha h0
  refine ⟨x, hx, hb, e, ?_⟩
  obtain ⟨y, hy, hy2, e2⟩ := lowF_at M d (firstBit o a) n hM ⟨x, hx, by rw [e]; exact hasB_selfC ⟨x, by omega⟩⟩
  rw [e] at hy2
  have : y = x := by
    have := hasB_powC ⟨x, by omega⟩ ⟨y, by omega⟩ hy2
    exact Fin.mk.inj_iff.1 this
  rw [e2, this]
def Asc (d o : List Int) : Prop := o.Pairwise fun x y => nth d x.toNat ≤ nth d y.toNat
theorem fb_min {d o : List Int} (h : Asc d o) {a : Nat} (hs : ∃ x, x ∈ o ∧ hasB a x.toNat = true) : ∃ x, x ∈ o ∧ firstBit o a = 2 ^ x.toNat ∧ hasB a x.toNat = true ∧ ∀ z, z ∈ o → hasB a z.toNat = true → nth d x.toNat ≤ nth d z.toNat := by
  induction o with
  | nil => obtain ⟨x, hx, _⟩ := hs; cases hx
  | cons y t ih =>
    obtain ⟨h1, h2⟩ := List.pairwise_cons.1 h
    cases hy : hasB a y.toNat
    · have hs2 : ∃ x, x ∈ t ∧ hasB a x.toNat = true := by
        obtain ⟨x, hx, hb⟩ := hs
        rcases List.mem_cons.1 hx with e | e
        · subst e; rw [hb] at hy; cases hy
        · exact ⟨x, e, hb⟩
      obtain ⟨x, q1, q2, q3, q4⟩ := ih h2 hs2
      refine ⟨x, List.mem_cons_of_mem _ q1, ?_, q3, fun z hz hb => ?_⟩
      · show (if hasB a y.toNat then _ else _) = _
        rw [hy]; exact q2
      · rcases List.mem_cons.1 hz with e | e
        · subst e; rw [hb] at hy; cases hy
        · exact q4 z e hb
    · refine ⟨y, List.mem_cons_self, ?_, hy, fun z hz hb => ?_⟩
      · show (if hasB a y.toNat then _ else _) = _
        rw [hy]; rfl
      · rcases List.mem_cons.1 hz with e | e
        · subst e; exact Int.le_refl _
        · exact h1 z e
theorem corner_sum {s : Int} {xs o d : List Int} {M : Int} (hn : normalOk s xs = true) (ho : OrdOk s.toNat o) (hd : d.length = s.toNat) (hM : ∀ x, x < d.length → nth d x ≤ M) {e : Int}
    (he : ∀ g, e * dot g (chanceM s xs o).parts xs.length = dot (fun a => g (firstBit o a)) xs xs.length) :
    sumF M xs d xs.length ≤ e * sumF M (chanceM s xs o).parts d xs.length ∧ (Asc d o → e * sumF M (chanceM s xs o).parts d xs.length = sumF M xs d xs.length) := by
  obtain ⟨p1, p4, hl, h0, hm, _⟩ := norm_size hn
  have hx0 := (massOk_facts hm).2.2.2.1
  rw [sumF_dot, sumF_dot, he]
  rw [hd] at hM ⊢
  constructor
  · refine dot_mono xs _ (fun j hj => (hx0 j hj).1) fun j hj hne => ?_
    have hj0 : j ≠ 0 := by rintro rfl; exact hne h0
    obtain ⟨x, hx, hb, e1, e2⟩ := lowF_first (m := 0) p4 ho hd hM (by omega) hj0
    rw [e2]
    exact lowF_le M d j _ x hx hb
  · intro hA
    refine dot_congr _ _ fun j hj => ?_
    by_cases hj0 : j = 0
    · subst hj0; rw [h0]; simp
    · obtain ⟨x, hx, hb, e1, e2⟩ := lowF_first (m := 0) p4 ho hd hM (by omega) hj0
      obtain ⟨z, q1, q2, q3, q4⟩ := fb_min hA (a := j) ⟨(x : Int), ho.2 x hx, hb⟩
      have hz := ho.1 z q1
      have hzx : z.toNat = x := by
        have h3 : hasB (2 ^ x) z.toNat = true := by rw [← e1, q2]; exact hasB_selfC ⟨z.toNat, by omega⟩
        exact Fin.mk.inj_iff.1 (hasB_powC ⟨x, by omega⟩ ⟨z.toNat, by omega⟩ h3)
      obtain ⟨y, hy, hy2, e3⟩ := lowF_at M d j s.toNat hM ⟨x, hx, hb⟩
      have h5 := q4 (y : Int) (ho.2 y hy) hy2
      have h6 := lowF_le M d j _ x hx hb
      rw [hzx] at h5
      have h7 : nth d (y : Int).toNat = nth d y := rfl
      rw [h7] at h5
      have : lowF M d j s.toNat = nth d x := by omega
      rw [e2, this]
/-- an order that ascends -/
theorem orderInF : ∀ a b c d : Fin 4, okB 4 [(a.val : Int), b.val, c.val, d.val] = true → (orders 4).contains [(a.val : Int), b.val, c.val, d.val] = true := by decide +kernel
theorem orderInF3 : ∀ a b c : Fin 3, okB 3 [(a.val : Int), b.val, c.val] = true → (orders 3).contains [(a.val : Int), b.val, c.val] = true := by decide +kernel
theorem orderInF2 : ∀ a b : Fin 2, okB 2 [(a.val : Int), b.val] = true → (orders 2).contains [(a.val : Int), b.val] = true := by decide +kernel
theorem order_in {n : Nat} {o : List Int} (h1 : 1 ≤ n) (hn : n ≤ 4) (hl : o.length = n) (ho : OrdOk n o) : o ∈ orders n := by
  have hb := okB_iff.2 ho
  have e : ∀ x, x ∈ o → ∃ a : Nat, a < n ∧ x = (a : Int) := fun x hx => ⟨x.toNat, by have := ho.1 x hx; omega, by have := ho.1 x hx; omega⟩
  rcases (show n = 1 ∨ n = 2 ∨ n = 3 ∨ n = 4 by omega) with rfl | rfl | rfl | rfl
  · match o, hl with
    | [x], _ =>
      obtain ⟨a, ha, rfl⟩ := e x (by simp)
      obtain rfl : a = 0 := by omega
      decide
  · match o, hl with
    | [x, y], _ =>
      obtain ⟨a, ha, rfl⟩ := e x (by simp)
      obtain ⟨b, hb2, rfl⟩ := e y (by simp)
      have := orderInF2 ⟨a, ha⟩ ⟨b, hb2⟩ hb
      simpa using this
  · match o, hl with
    | [x, y, z], _ =>
      obtain ⟨a, ha, rfl⟩ := e x (by simp)
      obtain ⟨b, hb2, rfl⟩ := e y (by simp)
      obtain ⟨c, hc, rfl⟩ := e z (by simp)
      have := orderInF3 ⟨a, ha⟩ ⟨b, hb2⟩ ⟨c, hc⟩ hb
      simpa using this
  · match o, hl with
    | [x, y, z, t], _ =>
      obtain ⟨a, ha, rfl⟩ := e x (by simp)
      obtain ⟨b, hb2, rfl⟩ := e y (by simp)
      obtain ⟨c, hc, rfl⟩ := e z (by simp)
      obtain ⟨d, hd, rfl⟩ := e t (by simp)
      have := orderInF ⟨a, ha⟩ ⟨b, hb2⟩ ⟨c, hc⟩ ⟨d, hd⟩ hb
      simpa using this
theorem asc_some (n : Nat) (h1 : 1 ≤ n) (hn : n ≤ 4) (d : List Int) : ∃ o, o ∈ orders n ∧ Asc d o := by
  let le : Int → Int → Bool := fun x y => decide (nth d x.toNat ≤ nth d y.toNat)
  let l : List Int := (List.range n).map fun k => ((k : Nat) : Int)
  have hp : (l.mergeSort le).Perm l := List.mergeSort_perm l le
  have hs : (l.mergeSort le).Pairwise fun x y => le x y = true := List.pairwise_mergeSort (fun a b c h1 h2 => by simp [le] at *; omega) (fun a b => by simp [le]; omega) l
  refine ⟨l.mergeSort le, order_in h1 hn (by rw [hp.length_eq]; simp [l]) ⟨fun x hx => ?_, fun y hy => ?_⟩, hs.imp fun h => by simpa [le] using h⟩
  · have := hp.mem_iff.1 hx
    simp [l] at this
    obtain ⟨a, ha, rfl⟩ := this
    omega
  · exact hp.mem_iff.2 (by simp [l]; exact ⟨y, hy, rfl⟩)
theorem corners_mem {s : Int} {xs p : List Int} (hn : normalOk s xs = true) : p ∈ cornersL s xs ↔ ∃ o, o ∈ orders s.toNat ∧ (chanceM s xs o).parts = p := by
  unfold cornersL
  rw [if_pos hn, cornTo_mem]
  constructor
  · rintro ⟨i, hi, e⟩; exact ⟨_, nthL_mem hi, e⟩
  · rintro ⟨o, ho, e⟩
    obtain ⟨i, hi, e2⟩ := mem_nthL ho
    exact ⟨i, hi, by rw [e2]; exact e⟩
theorem corners_nth {s : Int} {xs : List Int} {i : Nat} (hi : i < (cornersL s xs).length) : normalOk s xs = true ∧ ∃ o, o ∈ orders s.toNat ∧ OrdOk s.toNat o ∧ nthL (cornersL s xs) i = (chanceM s xs o).parts := by
  have hn : normalOk s xs = true := by
    cases h : normalOk s xs
    · unfold cornersL at hi; rw [h] at hi; simp at hi
    · rfl
  obtain ⟨o, ho, e⟩ := (corners_mem hn).1 (nthL_mem hi)
  exact ⟨hn, o, ho, orders_ok (norm_size hn).2.1 ho, e.symm⟩
theorem corners_apart {s : Int} {xs : List Int} {i j : Nat} (hij : i < j) (hj : j < (cornersL s xs).length) : nthL (cornersL s xs) i ≠ nthL (cornersL s xs) j := by
  have hn := (corners_nth hj).1
  unfold cornersL at hj ⊢
  rw [if_pos hn] at hj ⊢
  exact cornTo_nodup _ _ _ _ i j hij hj
theorem corners_some {s : Int} {xs : List Int} (hn : normalOk s xs = true) : 1 ≤ (cornersL s xs).length := by
  obtain ⟨p1, p4, _⟩ := norm_size hn
  obtain ⟨o, ho, _⟩ := asc_some s.toNat p1 p4 []
  have := (corners_mem hn).2 ⟨o, ho, rfl⟩
  obtain ⟨k, hk, _⟩ := mem_nthL this
  omega
end Go.Proofs.Ytchjnjmlambpjaa
