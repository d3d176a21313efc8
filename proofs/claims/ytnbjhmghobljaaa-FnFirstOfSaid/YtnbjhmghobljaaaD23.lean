/- What the reference draws for FnFirstOf. -/
import Derived.Test.YtnbjhmghobljaaaD9
set_option linter.unusedSimpArgs false
set_option linter.unusedVariables false
namespace Go.Proofs.Ytnbjhmghobljaaa
open Go.RowKit
set_option maxRecDepth 100000 in
set_option maxHeartbeats 1000000 in
theorem DrawFirstOf_any (ao : Option Addr) (n c : Nat) (w : World) (hx : BytesIn w w.heap.size ao n) (hnc : n ≤ c) :
    Calls Try.prog 22 #[.slice ao n c] w fun e w' => (∃ s p xs, e = .returned (.agg #[.int .i64 s, p]) ∧ Row w' w.heap.size p xs ∧ xs.length ≤ 17) ∧ Below w.heap.size w w' := by
  obtain ⟨R, hRe⟩ : ∃ R, w.heap.size + 1 = R := ⟨_, rfl⟩
  have HX := hid hx
  clear hx
  go_enter Try.func22, Try.ntmps22
  go_wp2_with fail
  refine (l14OpenR_any ao n c R _ (by simp; exact hRe) (HX.out.on (below_alloc w _) (by omega)) hnc).mono ?_; rintro e w1 ⟨rfl, hrd, hb⟩
  have hz : R ≤ w1.heap.size := by have := hb.size; simp at this; omega
  have r0 := hb.cell (p := ⟨w.heap.size, 0, none⟩) (by simp; omega)
  have r1 := hb.cell (p := ⟨w.heap.size, 1, none⟩) (by simp; omega)
  have fr0 := hb.frozen (p := ⟨w.heap.size, 0, none⟩) (by simp; omega)
  have fr1 := hb.frozen (p := ⟨w.heap.size, 1, none⟩) (by simp; omega)
  simp at r0 r1 fr0 fr1
  have hB : Below w.heap.size w w1 := (below_alloc w _).trans (hb.mono (by omega))
  have hR1 := hrd.1
  clear hb
  go_wp2_with fail
  refine (l11Some_any R _ _ hrd (by omega)).mono ?_; rintro e w2 ⟨_, rfl, ⟨s, p, xs, rfl, hr, hl⟩, hrd2, ht⟩
  obtain ⟨a2, n2, c2, rfl, hi2⟩ := hr.ints
  have gr0 := (Span.keepF ht ⟨by omega, fr0⟩ (by omega)).2
  have gr1 := (Span.keepF ht ⟨by omega, fr1⟩ (by omega)).2
  replace r0 := Span.keep ht r0 (by omega)
  replace r1 := Span.keep ht r1 (by omega)
  replace hB := Span.below hB hB.size ht (by omega)
  have hz2 := ht.size
  replace hr : Row w2 (w.heap.size + 1) (.slice a2 n2 c2) xs := hr.mono (by omega)
  clear ht hrd fr0 fr1
  go_wp2
  refine bodyPost_ret (v := .agg #[.int .i64 s, .slice a2 n2 c2]) (by simp [results, Try.results22, go_sem, r0, r1]) rfl ⟨⟨_, _, xs, rfl, ?_, hl⟩, ?_⟩
  · refine Row.mono (base := w.heap.size + 1) ?_ (by omega)
    (repeat (first | exact hr | (refine Row.setBelow ?_ ?_ _; rotate_left; focus (first | (omega) | (simp; done) | (simp; omega))) | (refine Row.setOther ?_ ?_ _; rotate_left; focus (intro h_own; have h_own2 := own_eq h_own; first | (omega) | (simp at h_own2; omega))) | refine Row.below ?_ (below_alloc _ _)))
  · (repeat (first | exact Below.refl _ _ | assumption | refine Below.alloc ?_ (by first | omega | (simp <;> omega)) _ | refine Below.setCell ?_ (by first | omega | (simp <;> omega)) _ | refine Below.drew ?_ | refine below_drewN ?_))
end Go.Proofs.Ytnbjhmghobljaaa
