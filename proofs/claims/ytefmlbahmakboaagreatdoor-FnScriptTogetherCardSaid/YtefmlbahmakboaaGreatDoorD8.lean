/- What the reference's drawing functions draw: some value, in new memory (printed by drawgen.py). -/
import Derived.Test.YtefmlbahmakboaaGreatDoorD6
import Derived.Test.YtefmlbahmakboaaGreatDoorD3
set_option linter.unusedSimpArgs false
set_option linter.unusedVariables false
namespace Go.Proofs.YtefmlbahmakboaaGreatDoor
open Go.RowKit
set_option maxRecDepth 100000 in
set_option maxHeartbeats 1000000 in
theorem l3Open_any (R P : Nat) (w : World) (hr : Rd w R P) (hP : P ≤ 350000000) :
    Calls Tryz.prog 81 #[.pointer (some ⟨R, 0, none⟩)] w (Drew R (P + 50) w (SomeMass w.heap.size)) := by
  have hR := hr.1
  have hrd := hr
  clear hr
  have hsp := Span.refl R (R + 1) w
  go_enter Tryz.func81, Tryz.ntmps81
  go_wp2_with fail
  refine (l3Some_any R _ _ (hrd.on (by (repeat (first | exact Below.refl _ _ | assumption | refine Below.alloc ?_ (by first | omega | (simp <;> omega)) _ | refine Below.setCell ?_ (by first | omega | (simp <;> omega)) _ | refine Below.drew ?_ | refine below_drewN ?_)))) (by omega)).mono ?_; rintro e w1 ⟨_, rfl, ⟨s, hsz, p, xs, rfl, hrm, hl, hok⟩, hrdn, hs⟩
  clear hrd
  have hrd := hrdn
  clear hrdn
  have hY1 : w.heap.size + 1 ≤ w1.heap.size := by have := hs.size; simp at this; omega
  have r0 := Span.keep hs (b := w.heap.size) (o := 0) (v := .int .i64 0) (by simp) (by omega)
  have fr0 := Span.keepF hs (b := w.heap.size) (o := 0) ⟨by simp <;> omega, by simp⟩ (by omega)
  have r1 := Span.keep hs (b := w.heap.size) (o := 1) (v := .slice none 0 0) (by simp) (by omega)
  have fr1 := Span.keepF hs (b := w.heap.size) (o := 1) ⟨by simp <;> omega, by simp⟩ (by omega)
  have ht : Span R (R + 1) w w1 := Span.trans (Span.of_below (by (repeat (first | exact Below.refl _ _ | assumption | refine Below.alloc ?_ (by first | omega | (simp <;> omega)) _ | refine Below.setCell ?_ (by first | omega | (simp <;> omega)) _ | refine Below.drew ?_ | refine below_drewN ?_)))) hs
  replace hsp := hsp.trans ht
  have hZ1 := ht.size
  clear ht hs
  have gfr0 := fr0.2
  have gfr1 := fr1.2
  replace hrm : Row w1 (w.heap.size + 1) p xs := hrm.mono (by simp)
  obtain ⟨hf1, -, hf3, hf4, -⟩ := massOk_facts hok
  have hs10 : -10 ≤ s ∧ s ≤ 10 := by rcases okSize_iff.1 hf1 with h | h | h | h <;> omega
  have hn2 := nsets_le hf1
  have hln : 1 ≤ xs.length := by omega
  clear hl hok hn2 hf1
  obtain ⟨gm, cm, rfl, hgm1, hgm2, him⟩ := hrm.form (by omega)
  have hbase : w.heap.size ≤ w.heap.size + 1 := by omega
  go_wp2_with fail
  refine (l3Bad_any R _ _ s (w.heap.size + 1) gm _ cm xs hrm (by omega) (by omega) hf3 hs10.1 hs10.2 (fun j hj => hf4 j hj) hrd (by omega)).mono ?_; rintro e w2 ⟨_, rfl, ⟨sb, pb, xb, rfl, hrb, hlb⟩, hrdn, hs⟩
  clear hrd
  have hrd := hrdn
  clear hrdn
  have bxr := (Bx.mk r0 r1 gfr0 gfr1 fr0.1).spanB hs (by omega) (by omega)
  clear r0 r1 gfr0 gfr1 fr0 fr1
  obtain ⟨r0, r1, gfr0, gfr1, hltr⟩ := bxr
  replace hsp := SpanB.span hsp hs hbase
  have hZ2 := hs.size
  clear hs
  obtain ⟨ab, nb, cb, rfl, hib⟩ := hrb.ints
  clear hib
  go_wp2
  refine bodyPost_ret (v := .agg #[.int .i64 sb, .slice ab nb cb]) (by simp [results, Tryz.results81, go_sem, r0, r1]) rfl ⟨_, rfl, ⟨_, _, xb, rfl, ?_, hlb⟩, ?_, ?_⟩
  · refine Row.mono (base := w.heap.size + 1) ?_ (by omega)
    (repeat (first | exact hrb | (refine Row.setBelow ?_ ?_ _; rotate_left; focus (first | (omega) | (simp; done) | (simp; omega))) | (refine Row.setOther ?_ ?_ _; rotate_left; focus (intro h_own; have h_own2 := own_eq h_own; first | (omega) | (simp at h_own2; omega))) | refine Row.below ?_ (below_alloc _ _)))
  · exact (hrd.below (B := R + 1) (by (repeat (first | exact Below.refl _ _ | assumption | refine Below.alloc ?_ (by first | omega | (simp <;> omega)) _ | refine Below.setCell ?_ (by first | omega | (simp <;> omega)) _ | refine Below.drew ?_ | refine below_drewN ?_))) (by omega)).mono (by omega)
  · exact hsp.on (by (repeat (first | exact Below.refl _ _ | assumption | refine Below.alloc ?_ (by first | omega | (simp <;> omega)) _ | refine Below.setCell ?_ (by first | omega | (simp <;> omega)) _ | refine Below.drew ?_ | refine below_drewN ?_)))
end Go.Proofs.YtefmlbahmakboaaGreatDoor
