/- Plain: the last answers of an order have just what is believed of them together; corners are specializations. -/
import Derived.Test.YtnbjhmghobljaaaN12
import Derived.Test.YtnbjhmghobljaaaF2
import Derived.Test.YtnbjhmghobljaaaW30
set_option linter.unusedSimpArgs false
set_option linter.unusedVariables false
namespace Go.Proofs.Ytnbjhmghobljaaa
open Go.RowKit
/-- the set of some answers -/
def sufL : List Int → Nat
  | [] => 0
  | x :: t => sufL t ||| 2 ^ x.toNat
def ascB (n : Nat) (o : List Int) (i : Nat) : Bool := decide (o.Pairwise fun x y => nth (indL (sufL (o.drop i)) n) x.toNat ≤ nth (indL (sufL (o.drop i)) n) y.toNat) && decide (sufL (o.drop i) < 2 ^ n)
theorem ascF : ∀ n : Fin 5, ((orders n.val).all fun o => (List.range 5).all fun i => ascB n.val o i) = true := by decide +kernel
theorem suf_asc {s : Int} {o : List Int} (hs : okSize s = true) (h : ordS s o = true) {i : Nat} (hi : i < 5) : Asc (indL (sufL (o.drop i)) s.toNat) o ∧ sufL (o.drop i) < 2 ^ s.toNat := by
  obtain ⟨ho, hl⟩ := ordS_ok hs h
  have hn : s.toNat ≤ 4 ∧ 1 ≤ s.toNat := by rcases okSize_iff.1 hs with rfl | rfl | rfl | rfl <;> decide
  have hm := order_in hn.2 hn.1 hl ho
  have h1 := ascF ⟨s.toNat, by omega⟩
  rw [List.all_eq_true] at h1
  have h2 := h1 o hm
  rw [List.all_eq_true] at h2
  have h3 := h2 i (by simpa using hi)
  unfold ascB at h3
  rw [Bool.and_eq_true, decide_eq_true_iff, decide_eq_true_iff] at h3
  exact h3
theorem coM_ok {s : Int} {xs o : List Int} (h : (coM s xs o).ok = true) : normalOk s xs = true ∧ ordS s o = true ∧ coM s xs o = chanceM s xs o := by
  unfold coM at h ⊢
  split at h
  · next hh => rw [if_pos hh]; simp only [Bool.and_eq_true] at hh; exact ⟨hh.1, hh.2, rfl⟩
  · cases h
theorem suf_imp {s : Int} {xs o : List Int} (hn : normalOk s xs = true) (h : ordS s o = true) {i : Nat} (hi : i < 5) :
    impP (sufL (o.drop i)) (chanceM s xs o).parts * isum xs = impP (sufL (o.drop i)) xs * isum (chanceM s xs o).parts := by
  have hs := (massOk_facts (normal_facts hn).1).1
  obtain ⟨ha, hlt⟩ := suf_asc hs h hi
  exact (corner_imp hn (ordS_ok hs h).1 (by rw [(norm_size hn).2.2.1]; exact hlt)).2 ha
theorem first_sub {n : Nat} {o : List Int} (hn : n ≤ 4) (ho : OrdOk n o) {a : Nat} (ha : a < 2 ^ n) (h0 : a ≠ 0) : subN (firstBit o a) a = true := by
  obtain ⟨x, _, hb, e⟩ := fb_some hn ho ha h0
  rw [e, subN_pow]; exact hb
/-- a corner is a specialization of its mass -/
theorem corner_hall {s : Int} {xs o : List Int} (hn : normalOk s xs = true) (ho : OrdOk s.toNat o) : HallD subN xs.length (chanceM s xs o).parts xs (isum (chanceM s xs o).parts) (isum xs) := by
  obtain ⟨e, he, _, _, hl, _, hd, _⟩ := corner_facts hn ho
  obtain ⟨p1, p4, hl2, h0, hm, _⟩ := norm_size hn
  obtain ⟨_, _, _, hb, _⟩ := massOk_facts hm
  rw [isum_ofl hl, isum_ofl rfl]
  refine hall_down (ψ := firstBit o) (k := e) (c := 1) (fun j hj => (hb j hj).1) (by omega) (by omega) (fun g => by rw [hd, Int.one_mul]) fun b hb2 hne => ⟨?_, ?_⟩
  · rw [hl2]; exact firstBit_lt o s.toNat b ho.1
  · exact first_sub p4 ho (by rw [← hl2]; exact hb2) (by intro e2; rw [e2] at hne; exact hne h0)
/-- a chance that gives each set at least its belief is a specialization, and the other way round -/
theorem impP_pI (a : Nat) (xs : List Int) : impP a xs = dot (pI fun b => subN b a) xs xs.length := rfl
theorem single_two : ∀ a : Fin 16, single a.val = true → ∃ j : Fin 4, a.val = 2 ^ j.val := by decide
theorem allows_hall {s : Int} {xs ys : List Int} (hn : normalOk s xs = true) (hc : chanceOk s ys = true) : (∀ a, a < xs.length → impP a xs * isum ys ≤ impP a ys * isum xs) ↔ HallD subN ys.length ys xs (isum ys) (isum xs) := by
  obtain ⟨p1, p4, hl2, h0, hm, _⟩ := norm_size hn
  obtain ⟨hs, hlx, h16, hb, s1, _⟩ := massOk_facts hm
  have hmy : massOk s ys = true := by unfold chanceOk at hc; rw [Bool.and_eq_true] at hc; exact hc.1
  obtain ⟨_, hly, h16y, hby, t1, _⟩ := massOk_facts hmy
  have hyl : ys.length = 2 ^ s.toNat := by rw [hly, ← hl2, hlx]
  have hsg : ∀ a, a < ys.length → nth ys a ≠ 0 → single a = true := by
    unfold chanceOk at hc; rw [Bool.and_eq_true, allN_iff] at hc
    intro a ha hne
    have := hc.2 a ha
    rw [Bool.or_eq_true, beq_iff_eq] at this
    exact this.resolve_left hne
  have key : ∀ a, (impP a xs * isum ys ≤ impP a ys * isum xs) ↔ (isum ys * dot (pI fun b => subN b a) xs (2 ^ s.toNat) ≤ isum xs * dot (pI fun b => subN b a) ys (2 ^ s.toNat)) := fun a => by
    rw [impP_pI, impP_pI, hl2, hyl, Int.mul_comm, Int.mul_comm (isum xs)]
  rw [hyl]
  constructor
  · intro h
    exact hall_chance (by omega) (by omega) (fun j hj => (hby j (by omega)).1) (fun j hj => (hb j (by omega)).1) (fun a ha hne => by
      obtain ⟨j, e⟩ := single_two ⟨a, by omega⟩ (hsg a (by omega) hne)
      exact ⟨j.val, e⟩) fun a ha => (key a).1 (h a (by omega))
  · intro h a _
    exact (key a).2 (chance_of_hall h a)
end Go.Proofs.Ytnbjhmghobljaaa
