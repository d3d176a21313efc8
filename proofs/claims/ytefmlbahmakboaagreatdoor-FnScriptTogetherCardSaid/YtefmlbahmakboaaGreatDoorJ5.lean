/- Two masses are drawn: l3Pair, DrawJoinMasses: some masses, in new memory. -/
import Derived.Test.YtefmlbahmakboaaGreatDoorD8
import Derived.Test.YtefmlbahmakboaaGreatDoorDR
import Derived.Test.YtefmlbahmakboaaGreatDoorF4
set_option linter.unusedSimpArgs false
set_option linter.unusedVariables false
namespace Go.Proofs.YtefmlbahmakboaaGreatDoor
open Go.RowKit
/-- some masses, not always valid -/
def SomeTwo (base : Nat) (v : Value) (w' : World) : Prop := ∃ s p xs t q ys, v = .tuple #[.agg #[.int .i64 s, p], .agg #[.int .i64 t, q]] ∧ Row w' base p xs ∧ xs.length ≤ 17 ∧ Row w' base q ys ∧ ys.length ≤ 17
set_option maxRecDepth 100000 in
set_option maxHeartbeats 8000000 in
theorem l3Pair_any (R P : Nat) (w : World) (hr : Rd w R P) (hP : P ≤ 200000000) :
    Calls Tryz.prog 33 #[.pointer (some ⟨R, 0, none⟩)] w (Drew R (P + 110) w (SomeTwo w.heap.size)) := by
  have hR := hr.1
  go_enter Tryz.func33, Tryz.ntmps33
  go_wp2_with fail
  refine (l3Open_any R _ _ (hr.on (by (repeat (first | exact Below.refl _ _ | assumption | refine Below.alloc ?_ (by first | omega | (simp <;> omega)) _ | refine Below.setCell ?_ (by first | omega | (simp <;> omega)) _ | refine Below.drew ?_ | refine below_drewN ?_)))) (by omega)).mono ?_; rintro e w1 ⟨_, rfl, ⟨s, p, xs, rfl, hrm, hlm⟩, hrd, hs⟩
  have rb : Bx w1 w.heap.size (.int .i64 0) (.slice none 0 0) := ((Bx.mk2 (w := w) rfl).below (below_alloc _ _)).span hs (by omega)
  have qb : Bx w1 (w.heap.size + 1) (.int .i64 0) (.slice none 0 0) := (Bx.mk2 (w := w.alloc (.cells #[.int .i64 0, .slice none 0 0] 25)) (by simp)).span hs (by omega)
  have hW1 := qb.lt
  have hsp : Span R (R + 1) w w1 := Span.trans (Span.of_below (by (repeat (first | exact Below.refl _ _ | assumption | refine Below.alloc ?_ (by first | omega | (simp <;> omega)) _ | refine Below.setCell ?_ (by first | omega | (simp <;> omega)) _ | refine Below.drew ?_ | refine below_drewN ?_)))) hs
  replace hrm : Row w1 (w.heap.size + 1 + 1) p xs := hrm.mono (by simp)
  obtain ⟨am, nm, cm, rfl, him⟩ := hrm.ints
  have hvm : ∀ b, (Value.slice am nm cm).ownBlock = some b → w.heap.size + 1 + 1 ≤ b := fun b e => (hrm.block b e).1
  have hvm1 : ∀ b, (Value.slice am nm cm).ownBlock = some b → b < w1.heap.size := fun b e => (hrm.block b e).2
  have hz1 := hsp.size
  clear hs him
  go_wp2_with fail
  refine (MassValid_any s _ _ _ xs _ (hrm.view.below (below_alloc _ _))).mono ?_; rintro e w3 ⟨rfl, hb3⟩
  have m0 := keep hb3 (a := ⟨w1.heap.size, 0, none⟩) (v := .int .i64 s) (by simp)
  have m1 := keep hb3 (a := ⟨w1.heap.size, 1, none⟩) (v := .slice am nm cm) (by simp)
  have hb13 : Below w1.heap.size w1 w3 := Below.trans (by (repeat (first | exact Below.refl _ _ | assumption | refine Below.alloc ?_ (by first | omega | (simp <;> omega)) _ | refine Below.setCell ?_ (by first | omega | (simp <;> omega)) _ | refine Below.drew ?_ | refine below_drewN ?_))) (hb3.mono (by simp <;> omega))
  replace rb := rb.below hb13
  replace qb := qb.below hb13
  replace hrm := hrm.below hb13
  replace hrd := hrd.on hb13
  replace hsp := hsp.trans (Span.of_below hb13)
  have hmx : w1.heap.size < w3.heap.size := by have := hb3.size; simp at this; omega
  clear hb3 hb13
  obtain ⟨Mb, hMb⟩ : ∃ b, w1.heap.size = b := ⟨_, rfl⟩
  rw [hMb] at m0 m1 hmx hW1 hvm1 ⊢
  have hMw : w.heap.size ≤ Mb := by omega
  clear hMb hz1
  cases hm : massOk s xs
  · clear hm
    go_wp2
    obtain ⟨r0, r1, fr0, fr1, hrl⟩ := rb
    obtain ⟨q0, q1, fq0, fq1, hql⟩ := qb
    have hS3 : w3.cell? ⟨Mb, 0, none⟩ = some (.int .i64 s) ∧ w3.cell? ⟨Mb, 1, none⟩ = some (.slice am nm cm) ∧ w3.heap.size ≤ w3.heap.size := ⟨m0, m1, Nat.le_refl _⟩
    refine wp_region_joinF (ι := Value) (fun a i => Act.put (Act.put (Act.put a (some 21) (.agg #[.int .i64 s, .slice am nm cm])) (some 22) (.pointer (some ⟨R, 0, none⟩))) (some 23) i) (fun i W => ∃ t ay ny cy ys, i = .agg #[.int .i64 t, .slice ay ny cy] ∧ Row W (w.heap.size + 1 + 1) (.slice am nm cm) xs ∧ Row W (w.heap.size + 1 + 1) (.slice ay ny cy) ys ∧ ys.length ≤ 17 ∧ Bx W w.heap.size (.int .i64 s) (.slice am nm cm) ∧ Bx W (w.heap.size + 1) (.int .i64 t) (.slice ay ny cy) ∧ Rd W R (P + 110) ∧ Span R (R + 1) w W) ?_ ?_
    · go_region_held3 (fun w' => w'.cell? ⟨Mb, 0, none⟩ = some (.int .i64 s) ∧ w'.cell? ⟨Mb, 1, none⟩ = some (.slice am nm cm) ∧ w3.heap.size ≤ w'.heap.size) (first | ((repeat (first | (with_reducible assumption) | (with_reducible refine kept2_set ?_ _ _ (by simp <;> omega)) | (with_reducible refine kept2_alloc hmx ?_ _) | (with_reducible refine kept2_drew ?_))); done)) (first | (go_at_call 81; refine (l3Open_any R _ w3.drew (hrd.on (by (repeat (first | exact Below.refl _ _ | assumption | refine Below.alloc ?_ (by first | omega | (simp <;> omega)) _ | refine Below.setCell ?_ (by first | omega | (simp <;> omega)) _ | refine Below.drew ?_ | refine below_drewN ?_)))) (by omega)).mono ?_; rintro e wy ⟨_, rfl, ⟨t, py, ys, rfl, hry, hly⟩, hrdy, hsy⟩; obtain ⟨ay, ny, cy, rfl, hiy⟩ := hry.ints; have ht : Span R (R + 1) w3 wy := Span.trans (Span.of_below (by (repeat (first | exact Below.refl _ _ | assumption | refine Below.alloc ?_ (by first | omega | (simp <;> omega)) _ | refine Below.setCell ?_ (by first | omega | (simp <;> omega)) _ | refine Below.drew ?_ | refine below_drewN ?_)))) hsy; have hSy := kept2_span hS3 ht (by omega); have k0 := hSy.1; have k1 := hSy.2.1; have ksz := hSy.2.2; have hrmy := Span.row ht hrm (fun b e => by have := hvm b e; omega); have rby := (show Bx w3 w.heap.size _ _ from ⟨r0, r1, fr0, fr1, hrl⟩).span ht (by omega); have qby := (show Bx w3 (w.heap.size + 1) _ _ from ⟨q0, q1, fq0, fq1, hql⟩).span ht (by omega); have s0 := rby.c0; have s1 := rby.c1; have s2 := rby.f0; have s3 := rby.f1; have s4 := rby.lt; have u0 := qby.c0; have u1 := qby.c1; have u2 := qby.f0; have u3 := qby.f1; have u4 := qby.lt; have hspy := hsp.trans ht))
      have hvy : ∀ b, (Value.slice ay ny cy).ownBlock = some b → w3.heap.size ≤ b := fun b e => (hry.block b e).1
      refine ⟨_, rfl, t, ay, ny, cy, ys, rfl, ?_, ?_, hly, ?_, ?_, ?_, hspy.on (by (repeat (first | exact Below.refl _ _ | assumption | refine Below.alloc ?_ (by first | omega | (simp <;> omega)) _ | refine Below.setCell ?_ (by first | omega | (simp <;> omega)) _ | refine Below.drew ?_ | refine below_drewN ?_)))⟩
      · exact ((hrmy.mono (by omega)).put2 (fun k e => by have := hvm k e; omega)).put2 (fun k e => by have := hvm k e; omega)
      · exact ((hry.mono (by first | omega | (simp <;> omega))).put2 (fun k e => by have := hvy k e; omega)).put2 (fun k e => by have := hvy k e; omega)
      · exact (rby.put2 _ _).of_block (World.setCell2_other _ _ _ _ _ (by omega)) (by simp)
      · exact (qby.of_block (World.setCell2_other _ _ _ _ _ (by omega)) (by simp)).put2 _ _
      · exact (hrdy.below (B := R + 1) (by (repeat (first | exact Below.refl _ _ | assumption | refine Below.alloc ?_ (by first | omega | (simp <;> omega)) _ | refine Below.setCell ?_ (by first | omega | (simp <;> omega)) _ | refine Below.drew ?_ | refine below_drewN ?_))) (by omega)).mono (by omega)
    · rintro i w4 ⟨t, ay, ny, cy, ys, rfl, hrm4, hry, hly, rb, qb, hrd4, hsp4⟩
      clear hS3 m0 m1 hmx r0 r1 fr0 fr1 q0 q1 fq0 fq1 hrm hrd
      obtain ⟨r0, r1, fr0, fr1, hrl4⟩ := rb
      obtain ⟨q0, q1, fq0, fq1, hql4⟩ := qb
      go_wp2
      refine bodyPost_ret (v := .tuple #[.agg #[.int .i64 s, .slice am nm cm], .agg #[.int .i64 t, .slice ay ny cy]]) (by simp [results, Tryz.results33, go_sem, r0, r1, q0, q1]) rfl ⟨_, rfl, ⟨_, _, xs, _, _, ys, rfl, ?_, hlm, ?_, hly⟩, ?_, ?_⟩
      · exact (hrm4.below (by (repeat (first | exact Below.refl _ _ | assumption | refine Below.alloc ?_ (by first | omega | (simp <;> omega)) _ | refine Below.setCell ?_ (by first | omega | (simp <;> omega)) _ | refine Below.drew ?_ | refine below_drewN ?_)))).mono (by omega)
      · exact (hry.below (by (repeat (first | exact Below.refl _ _ | assumption | refine Below.alloc ?_ (by first | omega | (simp <;> omega)) _ | refine Below.setCell ?_ (by first | omega | (simp <;> omega)) _ | refine Below.drew ?_ | refine below_drewN ?_)))).mono (by omega)
      · exact hrd4.on (by (repeat (first | exact Below.refl _ _ | assumption | refine Below.alloc ?_ (by first | omega | (simp <;> omega)) _ | refine Below.setCell ?_ (by first | omega | (simp <;> omega)) _ | refine Below.drew ?_ | refine below_drewN ?_)))
      · exact hsp4.on (by (repeat (first | exact Below.refl _ _ | assumption | refine Below.alloc ?_ (by first | omega | (simp <;> omega)) _ | refine Below.setCell ?_ (by first | omega | (simp <;> omega)) _ | refine Below.drew ?_ | refine below_drewN ?_)))
  · obtain ⟨hsz, _, _, _, _⟩ := massOk_facts hm
    have hs10 : -10 ≤ s ∧ s ≤ 10 := by rcases okSize_iff.1 hsz with h | h | h | h <;> omega
    have HSZ := hid hsz
    clear hm hsz
    go_wp2_with fail
    refine (pick_any R _ _ _ hrd (by omega) (by omega)).mono ?_; rintro e w4 ⟨_, rfl, ⟨z, rfl, hz0, hz1⟩, hrd4, hs4⟩
    have hSm := kept2_span (show w3.cell? ⟨Mb, 0, none⟩ = some (.int .i64 s) ∧ w3.cell? ⟨Mb, 1, none⟩ = some (.slice am nm cm) ∧ w3.heap.size ≤ w3.heap.size from ⟨m0, m1, Nat.le_refl _⟩) hs4 (by omega)
    replace m0 := hSm.1
    replace m1 := hSm.2.1
    replace hmx : Mb < w4.heap.size := by have := hs4.size; omega
    replace hrm := Span.row hs4 hrm (fun b e => by have := hvm b e; omega)
    replace rb := rb.span hs4 (by omega)
    replace qb := qb.span hs4 (by omega)
    replace hsp := hsp.trans hs4
    clear hSm hs4 hrd
    obtain ⟨r0, r1, fr0, fr1, hrl⟩ := rb
    obtain ⟨q0, q1, fq0, fq1, hql⟩ := qb
    have hS3 : w4.cell? ⟨Mb, 0, none⟩ = some (.int .i64 s) ∧ w4.cell? ⟨Mb, 1, none⟩ = some (.slice am nm cm) ∧ w4.heap.size ≤ w4.heap.size := ⟨m0, m1, Nat.le_refl _⟩
    by_cases hzp : 0 < z
    · go_wp2_with fail
      refine wp_region_P (S := fun _ => True) (T := fun w' => w'.cell? ⟨Mb, 0, none⟩ = some (.int .i64 s) ∧ w'.cell? ⟨Mb, 1, none⟩ = some (.slice am nm cm)) (p := 8) (by kernel_rfl) ?_
      change wpAnyP _ _ _ _ _ _ _ _ _ _ (World.drew _)
      have hT : (World.drew w4).cell? ⟨Mb, 0, none⟩ = some (.int .i64 s) ∧ (World.drew w4).cell? ⟨Mb, 1, none⟩ = some (.slice am nm cm) := ⟨m0, m1⟩
      refine wpAnyP_takeT (i := 0) (v := ?_) rfl (by kernel_rfl) (by kernel_rfl) (by kernel_rfl) (fun _ _ _ h => h) (by decide) (by kernel_rfl) (by kernel_rfl) (Or.inl ⟨by rfl, fun w' hS' => ?_⟩) ⟨trivial, hT⟩ ?_
      rotate_left
      · have q0 := hS'.2.1; have q1 := hS'.2.2; go_simp; first | done | rfl
      simp only [Act.put]
      refine wpAnyP_takeT (i := 1) (v := ?_) rfl (by kernel_rfl) (by kernel_rfl) (by kernel_rfl) (fun _ _ _ h => h) (by decide) (by kernel_rfl) (by kernel_rfl) (Or.inl ⟨by rfl, fun w' hS' => ?_⟩) ⟨trivial, hT⟩ ?_
      rotate_left
      · go_simp; first | done | rfl
      simp only [Act.put]
      refine wpAnyP_takeT (i := 2) (v := ?_) rfl (by kernel_rfl) (by kernel_rfl) (by kernel_rfl) (fun _ _ _ h => h) (by decide) (by kernel_rfl) (by kernel_rfl) (Or.inl ⟨by rfl, fun w' hS' => ?_⟩) ⟨trivial, hT⟩ ?_
      rotate_left
      · go_simp; first | done | rfl
      simp only [Act.put]
      refine wpAnyP_takeT (i := 3) (v := ?_) rfl (by kernel_rfl) (by kernel_rfl) (by kernel_rfl) (fun _ _ _ h => h) (by decide) (by kernel_rfl) (by kernel_rfl) (Or.inl ⟨by rfl, fun w' hS' => ?_⟩) ⟨trivial, hT⟩ ?_
      rotate_left
      · go_simp; first | done | rfl
      simp only [Act.put]
      refine wpAnyP_takeT (i := 4) (v := ?_) rfl (by kernel_rfl) (by kernel_rfl) (by kernel_rfl) (fun _ _ _ h => h) (by decide) (by kernel_rfl) (by kernel_rfl) (Or.inl ⟨by rfl, fun w' hS' => ?_⟩) ⟨trivial, hT⟩ ?_
      rotate_left
      · have q0 := hS'.2.1; have q1 := hS'.2.2; go_simp; first | done | rfl
      simp only [Act.put]
      refine wpAnyP_step 5 rfl (by kernel_rfl) (by rfl) (fun K hK => ?_)
      go_simp
      refine (l3Draw_any R _ s w4.drew (hrd4.on (by (repeat (first | exact Below.refl _ _ | assumption | refine Below.alloc ?_ (by first | omega | (simp <;> omega)) _ | refine Below.setCell ?_ (by first | omega | (simp <;> omega)) _ | refine Below.drew ?_ | refine below_drewN ?_)))) (by omega) HSZ.out).mono ?_; rintro e wx ⟨_, rfl, ⟨px, us, rfl, hrx, hlx, hokx⟩, hrdx, hsx⟩
      obtain ⟨-, hx1, hx2, hx3, -⟩ := massOk_facts hokx
      have hxn := nsets_le HSZ.out
      obtain ⟨gx, cx, rfl, hgx1, hgx2, hix⟩ := hrx.form (by omega)
      have ht : Span R (R + 1) w4 wx := Span.trans (Span.of_below (by (repeat (first | exact Below.refl _ _ | assumption | refine Below.alloc ?_ (by first | omega | (simp <;> omega)) _ | refine Below.setCell ?_ (by first | omega | (simp <;> omega)) _ | refine Below.drew ?_ | refine below_drewN ?_)))) hsx
      have hSx := kept2_span hS3 ht (by omega)
      have hrmx := Span.row ht hrm (fun b e => by have := hvm b e; omega)
      have rbx := (show Bx w4 w.heap.size _ _ from ⟨r0, r1, fr0, fr1, hrl⟩).span ht (by omega)
      have qbx := (show Bx w4 (w.heap.size + 1) _ _ from ⟨q0, q1, fq0, fq1, hql⟩).span ht (by omega)
      have hspx := hsp.trans ht
      have hrxx : Row wx w4.heap.size (.slice (some ⟨gx, 0, none⟩) us.length cx) us := hrx.mono (by simp)
      have hzx := hSx.2.2
      have hx0 : 1 ≤ us.length := by omega
      clear hrx ht hsx hgx1 hgx2 hix hokx hlx hxn hx1
      go_simp
      refine hK _ _ trivial (fun _ => ⟨hSx.1, hSx.2.1⟩) ?_
      clear hK K hT
      refine wpAnyP_step 6 rfl (by kernel_rfl) (by rfl) (fun K hK => ?_)
      go_simp
      refine (l3Bad_any R _ wx s w4.heap.size gx _ cx us hrxx (by omega) hx0 hx2 hs10.1 hs10.2 (fun j hj => hx3 j hj) hrdx (by omega)).mono ?_; rintro e wy ⟨_, rfl, ⟨t, py, ys, rfl, hry, hly⟩, hrdy, hsy⟩
      obtain ⟨ay, ny, cy, rfl, hiy⟩ := hry.ints
      have rby := rbx.spanB hsy (by omega) (by omega)
      have qby := qbx.spanB hsy (by omega) (by omega)
      have hrmy : Row wy (w.heap.size + 1 + 1) (.slice am nm cm) xs := owns_below hrmx (fun k e => hsy.block k (by have := hvm1 k e; omega) (by have := hvm1 k e; omega) (by have := hvm k e; omega))
      have mb : wy.heap[Mb]? = wx.heap[Mb]? := hsy.block Mb (by omega) (by omega) (by omega)
      have j0 : wy.cell? ⟨Mb, 0, none⟩ = some (.int .i64 s) := (cell_block mb).trans hSx.1
      have j1 : wy.cell? ⟨Mb, 1, none⟩ = some (.slice am nm cm) := (cell_block mb).trans hSx.2.1
      have hspy := SpanB.span hspx hsy (by omega)
      have hvy : ∀ b, (Value.slice ay ny cy).ownBlock = some b → w4.heap.size ≤ b := fun b e => (hry.block b e).1
      have rb4 : Bx ((((wy.setCell ⟨w.heap.size, 0, none⟩ (.int .i64 s)).setCell ⟨w.heap.size, 1, none⟩ (.slice am nm cm)).setCell ⟨w.heap.size + 1, 0, none⟩ (.int .i64 t)).setCell ⟨w.heap.size + 1, 1, none⟩ (.slice ay ny cy)) w.heap.size (.int .i64 s) (.slice am nm cm) := (rby.put2 _ _).of_block (World.setCell2_other _ _ _ _ _ (by omega)) (by simp)
      have qb4 : Bx ((((wy.setCell ⟨w.heap.size, 0, none⟩ (.int .i64 s)).setCell ⟨w.heap.size, 1, none⟩ (.slice am nm cm)).setCell ⟨w.heap.size + 1, 0, none⟩ (.int .i64 t)).setCell ⟨w.heap.size + 1, 1, none⟩ (.slice ay ny cy)) (w.heap.size + 1) (.int .i64 t) (.slice ay ny cy) := (qby.of_block (World.setCell2_other _ _ _ _ _ (by omega)) (by simp)).put2 _ _
      have hr4 := ((hrmy.mono (base' := w.heap.size) (by omega)).put2 (b := w.heap.size) (x := .int .i64 s) (y := .slice am nm cm) (fun k e => by have := hvm k e; omega)).put2 (b := w.heap.size + 1) (x := .int .i64 t) (y := .slice ay ny cy) (fun k e => by have := hvm k e; omega)
      have hrq4 := ((hry.mono (base' := w.heap.size) (by omega)).put2 (b := w.heap.size) (x := .int .i64 s) (y := .slice am nm cm) (fun k e => by have := hvy k e; omega)).put2 (b := w.heap.size + 1) (x := .int .i64 t) (y := .slice ay ny cy) (fun k e => by have := hvy k e; omega)
      have s0 := rby.c0; have s1 := rby.c1; have s2 := rby.f0; have s3 := rby.f1; have s4 := rby.lt
      have u0 := qby.c0; have u1 := qby.c1; have u2 := qby.f0; have u3 := qby.f1; have u4 := qby.lt
      clear rbx qbx hrmx hSx hspx hsy hrdx mb hry hrmy hiy rby qby r0 r1 fr0 fr1 q0 q1 fq0 fq1 hS3 m0 m1 hrm hrd4 hsp
      go_simp
      refine hK _ _ trivial (fun _ => ⟨j0, j1⟩) ?_
      clear hK K
      refine wpAnyP_step 7 rfl (by kernel_rfl) (by rfl) (fun K hK => ?_)
      go_simp
      refine hK _ _ trivial (fun _ => ⟨?_, ?_⟩) ?_
      · exact (World.cell?_setCell_other _ _ _ _ (by simp <;> omega)).trans ((World.cell?_setCell_other _ _ _ _ (by simp <;> omega)).trans j0)
      · exact (World.cell?_setCell_other _ _ _ _ (by simp <;> omega)).trans ((World.cell?_setCell_other _ _ _ _ (by simp <;> omega)).trans j1)
      clear hK K
      refine wpAnyP_step 8 rfl (by kernel_rfl) (by rfl) (fun K hK => ?_)
      go_simp
      refine hK _ _ trivial (fun h => absurd h (by decide)) ?_
      clear hK K
      refine wpAnyP_done (by kernel_rfl) ?_ _
      have c0 := rb4.c0; have c1 := rb4.c1; have d0 := qb4.c0; have d1 := qb4.c1
      go_wp2
      refine bodyPost_ret (v := .tuple #[.agg #[.int .i64 s, .slice am nm cm], .agg #[.int .i64 t, .slice ay ny cy]]) (by simp [results, Tryz.results33, go_sem, c0, c1, d0, d1]; first | done | rfl) rfl ⟨_, rfl, ⟨_, _, xs, _, _, ys, rfl, hr4, hlm, hrq4, hly⟩, ?_, ?_⟩
      · exact (hrdy.below (B := R + 1) (by (repeat (first | exact Below.refl _ _ | assumption | refine Below.alloc ?_ (by first | omega | (simp <;> omega)) _ | refine Below.setCell ?_ (by first | omega | (simp <;> omega)) _ | refine Below.drew ?_ | refine below_drewN ?_))) (by omega)).mono (by omega)
      · exact hspy.on (by (repeat (first | exact Below.refl _ _ | assumption | refine Below.alloc ?_ (by first | omega | (simp <;> omega)) _ | refine Below.setCell ?_ (by first | omega | (simp <;> omega)) _ | refine Below.drew ?_ | refine below_drewN ?_)))
    · go_wp2
      refine wp_region_joinF (ι := Value) (fun a i => Act.put (Act.put (Act.put a (some 21) (.agg #[.int .i64 s, .slice am nm cm])) (some 22) (.pointer (some ⟨R, 0, none⟩))) (some 23) i) (fun i W => ∃ t ay ny cy ys, i = .agg #[.int .i64 t, .slice ay ny cy] ∧ Row W (w.heap.size + 1 + 1) (.slice am nm cm) xs ∧ Row W (w.heap.size + 1 + 1) (.slice ay ny cy) ys ∧ ys.length ≤ 17 ∧ Bx W w.heap.size (.int .i64 s) (.slice am nm cm) ∧ Bx W (w.heap.size + 1) (.int .i64 t) (.slice ay ny cy) ∧ Rd W R (P + 110) ∧ Span R (R + 1) w W) ?_ ?_
      · go_region_held3 (fun w' => w'.cell? ⟨Mb, 0, none⟩ = some (.int .i64 s) ∧ w'.cell? ⟨Mb, 1, none⟩ = some (.slice am nm cm) ∧ w4.heap.size ≤ w'.heap.size) (first | ((repeat (first | (with_reducible assumption) | (with_reducible refine kept2_set ?_ _ _ (by simp <;> omega)) | (with_reducible refine kept2_alloc hmx ?_ _) | (with_reducible refine kept2_drew ?_))); done)) (first | (go_at_call 81; refine (l3Open_any R _ w4.drew (hrd4.on (by (repeat (first | exact Below.refl _ _ | assumption | refine Below.alloc ?_ (by first | omega | (simp <;> omega)) _ | refine Below.setCell ?_ (by first | omega | (simp <;> omega)) _ | refine Below.drew ?_ | refine below_drewN ?_)))) (by omega)).mono ?_; rintro e wy ⟨_, rfl, ⟨t, py, ys, rfl, hry, hly⟩, hrdy, hsy⟩; obtain ⟨ay, ny, cy, rfl, hiy⟩ := hry.ints; have ht : Span R (R + 1) w4 wy := Span.trans (Span.of_below (by (repeat (first | exact Below.refl _ _ | assumption | refine Below.alloc ?_ (by first | omega | (simp <;> omega)) _ | refine Below.setCell ?_ (by first | omega | (simp <;> omega)) _ | refine Below.drew ?_ | refine below_drewN ?_)))) hsy; have hSy := kept2_span hS3 ht (by omega); have k0 := hSy.1; have k1 := hSy.2.1; have ksz := hSy.2.2; have hrmy := Span.row ht hrm (fun b e => by have := hvm b e; omega); have rby := (show Bx w4 w.heap.size _ _ from ⟨r0, r1, fr0, fr1, hrl⟩).span ht (by omega); have qby := (show Bx w4 (w.heap.size + 1) _ _ from ⟨q0, q1, fq0, fq1, hql⟩).span ht (by omega); have s0 := rby.c0; have s1 := rby.c1; have s2 := rby.f0; have s3 := rby.f1; have s4 := rby.lt; have u0 := qby.c0; have u1 := qby.c1; have u2 := qby.f0; have u3 := qby.f1; have u4 := qby.lt; have hspy := hsp.trans ht))
        have hvy : ∀ b, (Value.slice ay ny cy).ownBlock = some b → w4.heap.size ≤ b := fun b e => (hry.block b e).1
        refine ⟨_, rfl, t, ay, ny, cy, ys, rfl, ?_, ?_, hly, ?_, ?_, ?_, hspy.on (by (repeat (first | exact Below.refl _ _ | assumption | refine Below.alloc ?_ (by first | omega | (simp <;> omega)) _ | refine Below.setCell ?_ (by first | omega | (simp <;> omega)) _ | refine Below.drew ?_ | refine below_drewN ?_)))⟩
        · exact ((hrmy.mono (by omega)).put2 (fun k e => by have := hvm k e; omega)).put2 (fun k e => by have := hvm k e; omega)
        · exact ((hry.mono (by first | omega | (simp <;> omega))).put2 (fun k e => by have := hvy k e; omega)).put2 (fun k e => by have := hvy k e; omega)
        · exact (rby.put2 _ _).of_block (World.setCell2_other _ _ _ _ _ (by omega)) (by simp)
        · exact (qby.of_block (World.setCell2_other _ _ _ _ _ (by omega)) (by simp)).put2 _ _
        · exact (hrdy.below (B := R + 1) (by (repeat (first | exact Below.refl _ _ | assumption | refine Below.alloc ?_ (by first | omega | (simp <;> omega)) _ | refine Below.setCell ?_ (by first | omega | (simp <;> omega)) _ | refine Below.drew ?_ | refine below_drewN ?_))) (by omega)).mono (by omega)
      · rintro i w5 ⟨t, ay, ny, cy, ys, rfl, hrm4, hry, hly, rb, qb, hrd5, hsp4⟩
        clear hS3 m0 m1 hmx r0 r1 fr0 fr1 q0 q1 fq0 fq1 hrm hrd4
        obtain ⟨r0, r1, fr0, fr1, hrl4⟩ := rb
        obtain ⟨q0, q1, fq0, fq1, hql4⟩ := qb
        go_wp2
        refine bodyPost_ret (v := .tuple #[.agg #[.int .i64 s, .slice am nm cm], .agg #[.int .i64 t, .slice ay ny cy]]) (by simp [results, Tryz.results33, go_sem, r0, r1, q0, q1]) rfl ⟨_, rfl, ⟨_, _, xs, _, _, ys, rfl, ?_, hlm, ?_, hly⟩, ?_, ?_⟩
        · exact (hrm4.below (by (repeat (first | exact Below.refl _ _ | assumption | refine Below.alloc ?_ (by first | omega | (simp <;> omega)) _ | refine Below.setCell ?_ (by first | omega | (simp <;> omega)) _ | refine Below.drew ?_ | refine below_drewN ?_)))).mono (by omega)
        · exact (hry.below (by (repeat (first | exact Below.refl _ _ | assumption | refine Below.alloc ?_ (by first | omega | (simp <;> omega)) _ | refine Below.setCell ?_ (by first | omega | (simp <;> omega)) _ | refine Below.drew ?_ | refine below_drewN ?_)))).mono (by omega)
        · exact hrd5.on (by (repeat (first | exact Below.refl _ _ | assumption | refine Below.alloc ?_ (by first | omega | (simp <;> omega)) _ | refine Below.setCell ?_ (by first | omega | (simp <;> omega)) _ | refine Below.drew ?_ | refine below_drewN ?_)))
        · exact hsp4.on (by (repeat (first | exact Below.refl _ _ | assumption | refine Below.alloc ?_ (by first | omega | (simp <;> omega)) _ | refine Below.setCell ?_ (by first | omega | (simp <;> omega)) _ | refine Below.drew ?_ | refine below_drewN ?_)))
set_option maxRecDepth 100000 in
set_option maxHeartbeats 2000000 in
theorem DrawJoinMasses_any (ao : Option Addr) (n c : Nat) (w : World) (hx : BytesIn w w.heap.size ao n) (hnc : n ≤ c) :
    Calls Tryz.prog 5 #[.slice ao n c] w fun e w' => (∃ s p xs t q ys, e = .returned (.tuple #[.agg #[.int .i64 s, p], .agg #[.int .i64 t, q]]) ∧ Row w' w.heap.size p xs ∧ xs.length ≤ 17 ∧ Row w' w.heap.size q ys ∧ ys.length ≤ 17) ∧ Below w.heap.size w w' := by
  obtain ⟨R, hRe⟩ : ∃ R, w.heap.size + 1 + 1 = R := ⟨_, rfl⟩
  have HX := hid hx
  clear hx
  go_enter Tryz.func5, Tryz.ntmps5
  go_wp2_with fail
  refine (l14OpenR_any ao n c R _ (by simp; exact hRe) (HX.out.on (by (repeat (first | exact Below.refl _ _ | assumption | refine Below.alloc ?_ (by first | omega | (simp <;> omega)) _ | refine Below.setCell ?_ (by first | omega | (simp <;> omega)) _ | refine Below.drew ?_ | refine below_drewN ?_))) (by omega)) hnc).mono ?_; rintro e w1 ⟨rfl, hrd, hb⟩
  have hz : R ≤ w1.heap.size := by have := hb.size; simp at this; omega
  have r0 := hb.cell (p := ⟨w.heap.size, 0, none⟩) (by simp; omega)
  have r1 := hb.cell (p := ⟨w.heap.size, 1, none⟩) (by simp; omega)
  have fr0 := hb.frozen (p := ⟨w.heap.size, 0, none⟩) (by simp; omega)
  have fr1 := hb.frozen (p := ⟨w.heap.size, 1, none⟩) (by simp; omega)
  have q0 := hb.cell (p := ⟨w.heap.size + 1, 0, none⟩) (by simp; omega)
  have q1 := hb.cell (p := ⟨w.heap.size + 1, 1, none⟩) (by simp; omega)
  have fq0 := hb.frozen (p := ⟨w.heap.size + 1, 0, none⟩) (by simp; omega)
  have fq1 := hb.frozen (p := ⟨w.heap.size + 1, 1, none⟩) (by simp; omega)
  simp at r0 r1 fr0 fr1 q0 q1 fq0 fq1
  have hB : Below w.heap.size w w1 := Below.trans (by (repeat (first | exact Below.refl _ _ | assumption | refine Below.alloc ?_ (by first | omega | (simp <;> omega)) _ | refine Below.setCell ?_ (by first | omega | (simp <;> omega)) _ | refine Below.drew ?_ | refine below_drewN ?_))) (hb.mono (by omega))
  have hR1 := hrd.1
  have rb : Bx w1 w.heap.size (.int .i64 0) (.slice none 0 0) := ⟨r0, r1, fr0, fr1, by omega⟩
  have qb : Bx w1 (w.heap.size + 1) (.int .i64 0) (.slice none 0 0) := ⟨q0, q1, fq0, fq1, by omega⟩
  have hRl : w.heap.size + 1 < R := by omega
  clear hb r0 r1 fr0 fr1 q0 q1 fq0 fq1 hRe HX
  go_wp2_with fail
  refine (l3Pair_any R _ _ hrd (by omega)).mono ?_; rintro e w2 ⟨_, rfl, ⟨s, p, xs, t, q, ys, rfl, hr, hl, hrq, hlq⟩, hrd2, ht⟩
  obtain ⟨am, nm, cm, rfl, him⟩ := hr.ints
  obtain ⟨aq, nq, cq, rfl, hiq⟩ := hrq.ints
  clear him hiq
  replace rb := rb.span ht (by omega)
  replace qb := qb.span ht (by omega)
  replace hB := Span.below hB hB.size ht (by omega)
  have hvm : ∀ b, (Value.slice am nm cm).ownBlock = some b → w1.heap.size ≤ b := fun b e => (hr.block b e).1
  have hvq : ∀ b, (Value.slice aq nq cq).ownBlock = some b → w1.heap.size ≤ b := fun b e => (hrq.block b e).1
  clear ht hrd hrd2
  have rb4 : Bx (((w2.setCell ⟨w.heap.size, 0, none⟩ (.int .i64 s)).setCell ⟨w.heap.size, 1, none⟩ (.slice am nm cm)).setCell ⟨w.heap.size + 1, 0, none⟩ (.int .i64 t) |>.setCell ⟨w.heap.size + 1, 1, none⟩ (.slice aq nq cq)) w.heap.size (.int .i64 s) (.slice am nm cm) := (rb.put2 _ _).of_block (World.setCell2_other _ _ _ _ _ (by omega)) (by simp)
  have qb4 : Bx (((w2.setCell ⟨w.heap.size, 0, none⟩ (.int .i64 s)).setCell ⟨w.heap.size, 1, none⟩ (.slice am nm cm)).setCell ⟨w.heap.size + 1, 0, none⟩ (.int .i64 t) |>.setCell ⟨w.heap.size + 1, 1, none⟩ (.slice aq nq cq)) (w.heap.size + 1) (.int .i64 t) (.slice aq nq cq) := (qb.of_block (World.setCell2_other _ _ _ _ _ (by omega)) (by simp)).put2 _ _
  have hr4 := ((hr.mono (base' := w.heap.size) (by omega)).put2 (b := w.heap.size) (x := .int .i64 s) (y := .slice am nm cm) (fun k e => by have := hvm k e; omega)).put2 (b := w.heap.size + 1) (x := .int .i64 t) (y := .slice aq nq cq) (fun k e => by have := hvm k e; omega)
  have hrq4 := ((hrq.mono (base' := w.heap.size) (by omega)).put2 (b := w.heap.size) (x := .int .i64 s) (y := .slice am nm cm) (fun k e => by have := hvq k e; omega)).put2 (b := w.heap.size + 1) (x := .int .i64 t) (y := .slice aq nq cq) (fun k e => by have := hvq k e; omega)
  obtain ⟨r0, r1, fr0, fr1, hrl⟩ := rb
  obtain ⟨q0, q1, fq0, fq1, hql⟩ := qb
  have c0 := rb4.c0; have c1 := rb4.c1; have d0 := qb4.c0; have d1 := qb4.c1
  go_wp2
  refine bodyPost_ret (v := .tuple #[.agg #[.int .i64 s, .slice am nm cm], .agg #[.int .i64 t, .slice aq nq cq]]) (by simp [results, Tryz.results5, go_sem, c0, c1, d0, d1]; first | done | rfl) rfl ⟨⟨_, _, xs, _, _, ys, rfl, hr4, hl, hrq4, hlq⟩, ?_⟩
  (repeat (first | exact Below.refl _ _ | assumption | refine Below.alloc ?_ (by first | omega | (simp <;> omega)) _ | refine Below.setCell ?_ (by first | omega | (simp <;> omega)) _ | refine Below.drew ?_ | refine below_drewN ?_))
end Go.Proofs.YtefmlbahmakboaaGreatDoor
