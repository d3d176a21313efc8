/- What the reference's drawing functions draw: some value, in new memory (printed by drawgen.py). What the reference's drawing functions draw: some value, in new memory (printed by drawgen.py). -/
import Derived.Test.YtchjnjmlambpjaaD12
import Derived.Test.YtchjnjmlambpjaaK2
import Derived.Test.YtchjnjmlambpjaaM2
import Derived.Deep.RegionHeld3
set_option linter.unusedSimpArgs false
set_option linter.unusedVariables false
namespace Go.Proofs.Ytchjnjmlambpjaa
open Go.RowKit
set_option maxRecDepth 100000 in
set_option maxHeartbeats 4000000 in
theorem l10Normal_any (R P : Nat) (w : World) (hr : Rd w R P) (hP : P ≤ 340000000) :
    Calls Try.prog 75 #[.pointer (some ⟨R, 0, none⟩)] w (Drew R (P + 60) w (SomeMass w.heap.size)) := by
  have hR := hr.1
  have hrd := hr
  clear hr
  have hsp := Span.refl R (R + 1) w
  go_enter Try.func75, Try.ntmps75
  go_wp2_with fail
  refine (l3Some_any R _ _ (hrd.on (by (repeat (first | exact Below.refl _ _ | assumption | refine Below.alloc ?_ (by first | omega | (simp <;> omega)) _ | refine Below.setCell ?_ (by first | omega | (simp <;> omega)) _ | refine Below.drew ?_ | refine below_drewN ?_)))) (by omega)).mono ?_; rintro e w1 ⟨_, rfl, ⟨s, hsz, p, xs, rfl, hrm, hl, hok⟩, hrdn, hs⟩
  clear hrd
  have hrd := hrdn
  clear hrdn
  have hY1 : w.heap.size + 1 ≤ w1.heap.size := by have := hs.size; simp at this; omega
  have r0 := Span.keep hs (b := w.heap.size) (o := 0) (v := .int .i64 0) (by simp) (by omega)
  have fr0 := Span.keepF hs (b := w.heap.size) (o := 0) ⟨by simp <;> omega, by simp⟩ (by omega)
  have r1 := Span.keep hs (b := w.heap.size) (o := 1) (v := .slice none 0 0) (by simp) (by omega)
  have fr1 := Span.keepF hs (b := w.heap.size) (o := 1) ⟨by simp <;> omega, by simp⟩ (by omega)
  have ht : Span R (R + 1) w w1 := Span.trans (Span.of_below (by (repeat (first | exact Below.refl _ _ | assumption | refine Below.alloc ?_ (by first | omega | (simp <;> omega)) _ | refine Below.setCell ?_ (by first | omega | (simp <;> omega)) _ | refine Below.drew ?_ | refine below_drewN ?_)))) hs
  replace hsp := hsp.trans ht
  have hZ1 := ht.size
  clear ht hs
  have gfr0 := fr0.2
  have gfr1 := fr1.2
  replace hrm : Row w1 (w.heap.size + 1) p xs := hrm.mono (by simp)
  obtain ⟨hf1, -, hf3, hf4, -⟩ := massOk_facts hok
  have hs10 : -10 ≤ s ∧ s ≤ 10 := by rcases okSize_iff.1 hf1 with h | h | h | h <;> omega
  have hn2 := nsets_le hf1
  have hln : 1 ≤ xs.length := by omega
  have HF := hid hf4
  have HOK := hid hok
  clear hl hok hn2 hf1 hf4
  obtain ⟨gm, cm, rfl, hgm1, hgm2, him⟩ := hrm.form (by omega)
  clear him
  have hvm : ∀ b, (Value.slice (some ⟨gm, 0, none⟩) xs.length cm).ownBlock = some b → w.heap.size + 1 ≤ b ∧ b = gm := fun b e => by have := own_eq e; omega
  go_wp2_with fail
  refine (specNormalMass_any s gm _ cm xs _ (hrm.view.below (by (repeat (first | exact Below.refl _ _ | assumption | refine Below.alloc ?_ (by first | omega | (simp <;> omega)) _ | refine Below.setCell ?_ (by first | omega | (simp <;> omega)) _ | refine Below.drew ?_ | refine below_drewN ?_)))) HOK.out).mono ?_; rintro e w2 ⟨⟨vk, rfl, hrk⟩, hb⟩
  have hY2 : w1.heap.size + 1 ≤ w2.heap.size := by have := hb.size; simp at this; omega
  have m0 := keep hb (a := ⟨w1.heap.size, 0, none⟩) (v := .int .i64 s) (by simp)
  have fm0 := Span.belowKeepF hb (b := w1.heap.size) (o := 0) ⟨by simp <;> omega, by simp⟩ (by simp <;> omega)
  have m1 := keep hb (a := ⟨w1.heap.size, 1, none⟩) (v := .slice (some ⟨gm, 0, none⟩) xs.length cm) (by simp)
  have fm1 := Span.belowKeepF hb (b := w1.heap.size) (o := 1) ⟨by simp <;> omega, by simp⟩ (by simp <;> omega)
  have ht : Below w1.heap.size w1 w2 := Below.trans (by (repeat (first | exact Below.refl _ _ | assumption | refine Below.alloc ?_ (by first | omega | (simp <;> omega)) _ | refine Below.setCell ?_ (by first | omega | (simp <;> omega)) _ | refine Below.drew ?_ | refine below_drewN ?_))) (hb.mono (by simp <;> omega))
  replace r0 := keep ht r0
  replace r1 := keep ht r1
  replace fr0 := Span.belowKeepF ht fr0 (by omega)
  replace fr1 := Span.belowKeepF ht fr1 (by omega)
  replace hrm := hrm.below ht
  replace hrd := hrd.on ht
  replace hsp := hsp.trans (Span.of_below ht)
  have hZ2 := ht.size
  clear ht hb
  have gfm0 := fm0.2
  have gfm1 := fm1.2
  replace gfr0 := fr0.2
  replace gfr1 := fr1.2
  have HK : Hid ((mkMass s (xs.set 0 0)).ok = true → massOk (mkMass s (xs.set 0 0)).size (mkMass s (xs.set 0 0)).parts = true) := fun h => by have h2 := mkMass_parts h; rw [h2.2.1]; exact h2.2.2.2.1
  generalize (mkMass s (xs.set 0 0)).ok = ok at *
  generalize (mkMass s (xs.set 0 0)).size = sk at *
  generalize (mkMass s (xs.set 0 0)).parts = ks at *
  have hkb : ∀ b, vk.ownBlock = some b → w1.heap.size < b := fun b e => by have h_q := (hrk.block b e).1; simp at h_q; omega
  replace hrk := hrk.mono (base' := w.heap.size + 1) (by first | omega | (simp <;> omega))
  have rb : Bx _ w.heap.size _ _ := ⟨r0, r1, gfr0, gfr1, fr0.1⟩
  cases ok
  · obtain ⟨ak, nk, ck, rfl, hik⟩ := hrk.ints
    clear hik hrk
    clear r0 r1 gfr0 gfr1 fr0 fr1
    go_wp2_with fail
    refine (l3Bad_any R _ _ s (w.heap.size + 1) gm _ cm xs (hrm.below (by (repeat (first | exact Below.refl _ _ | assumption | refine Below.alloc ?_ (by first | omega | (simp <;> omega)) _ | refine Below.setCell ?_ (by first | omega | (simp <;> omega)) _ | refine Below.drew ?_ | refine below_drewN ?_)))) (by omega) (by omega) hf3 hs10.1 hs10.2 (fun j hj => HF.out j hj) (hrd.on (by (repeat (first | exact Below.refl _ _ | assumption | refine Below.alloc ?_ (by first | omega | (simp <;> omega)) _ | refine Below.setCell ?_ (by first | omega | (simp <;> omega)) _ | refine Below.drew ?_ | refine below_drewN ?_)))) (by omega)).mono ?_; rintro e wb ⟨_, rfl, ⟨sb, pb, xb, rfl, hrb, hlb⟩, hrdn, hs⟩
    have rbb := Bx.spanB (rb.below (by (repeat (first | exact Below.refl _ _ | assumption | refine Below.alloc ?_ (by first | omega | (simp <;> omega)) _ | refine Below.setCell ?_ (by first | omega | (simp <;> omega)) _ | refine Below.drew ?_ | refine below_drewN ?_)))) hs (by omega) (by omega)
    have hspb := SpanB.span (hsp.on (by (repeat (first | exact Below.refl _ _ | assumption | refine Below.alloc ?_ (by first | omega | (simp <;> omega)) _ | refine Below.setCell ?_ (by first | omega | (simp <;> omega)) _ | refine Below.drew ?_ | refine below_drewN ?_)))) hs (by omega)
    obtain ⟨ab, nb, cb, rfl, hib⟩ := hrb.ints
    clear hib
    obtain ⟨r0, r1, gfr0, gfr1, hrl⟩ := rbb
    go_wp2
    refine bodyPost_ret (v := .agg #[.int .i64 sb, .slice ab nb cb]) (by simp [results, Try.results75, go_sem, r0, r1]) rfl ⟨_, rfl, ⟨_, _, xb, rfl, ?_, hlb⟩, ?_, ?_⟩
    · refine Row.mono (base := w.heap.size + 1) ?_ (by omega)
      (repeat (first | exact hrb | (refine Row.setBelow ?_ ?_ _; rotate_left; focus (first | (omega) | (simp; done) | (simp; omega))) | (refine Row.setOther ?_ ?_ _; rotate_left; focus (intro h_own; have h_own2 := own_eq h_own; first | (omega) | (simp at h_own2; omega))) | refine Row.below ?_ (below_alloc _ _)))
    · exact (hrdn.below (B := R + 1) (by (repeat (first | exact Below.refl _ _ | assumption | refine Below.alloc ?_ (by first | omega | (simp <;> omega)) _ | refine Below.setCell ?_ (by first | omega | (simp <;> omega)) _ | refine Below.drew ?_ | refine below_drewN ?_))) (by omega)).mono (by omega)
    · exact hspb.on (by (repeat (first | exact Below.refl _ _ | assumption | refine Below.alloc ?_ (by first | omega | (simp <;> omega)) _ | refine Below.setCell ?_ (by first | omega | (simp <;> omega)) _ | refine Below.drew ?_ | refine below_drewN ?_)))
  · obtain ⟨hk1, -, hk3, hk4, -⟩ := massOk_facts (HK.out rfl)
    have hk10 : -10 ≤ sk ∧ sk ≤ 10 := by rcases okSize_iff.1 hk1 with h | h | h | h <;> omega
    have hkl : 1 ≤ ks.length := by have h1 := (massOk_facts (HK.out rfl)).2.1; have h2 := nsets_le hk1; omega
    have HKB := hid hk4
    clear hk4 hk1
    obtain ⟨gk, ck, rfl, hgk1, hgk2, hik⟩ := hrk.form (by omega)
    clear hik
    have hvk : ∀ b, (Value.slice (some ⟨gk, 0, none⟩) ks.length ck).ownBlock = some b → w.heap.size + 1 ≤ b ∧ b = gk := fun b e => by have := own_eq e; omega
    have hmb : w1.heap.size < w2.heap.size := World.block_lt_of_cell? _ _ m0
    have hmk : gk ≠ w1.heap.size := by have := hkb gk rfl; omega
    clear rb
    go_wp2_with fail
    refine (pick_any R _ _ _ (hrd.on (by (repeat (first | exact Below.refl _ _ | assumption | refine Below.alloc ?_ (by first | omega | (simp <;> omega)) _ | refine Below.setCell ?_ (by first | omega | (simp <;> omega)) _ | refine Below.drew ?_ | refine below_drewN ?_)))) (by omega) (by omega)).mono ?_; rintro e w3 ⟨_, rfl, ⟨z, rfl, hz0, hz1⟩, hrdn, hs⟩
    clear hrd
    have hrd := hrdn
    clear hrdn
    have hY3 : w2.heap.size + 1 ≤ w3.heap.size := by have := hs.size; simp at this; omega
    have k0 := Span.keep hs (b := w2.heap.size) (o := 0) (v := .int .i64 sk) (by simp) (by omega)
    have fk0 := Span.keepF hs (b := w2.heap.size) (o := 0) ⟨by simp <;> omega, by simp⟩ (by omega)
    have k1 := Span.keep hs (b := w2.heap.size) (o := 1) (v := .slice (some ⟨gk, 0, none⟩) ks.length ck) (by simp) (by omega)
    have fk1 := Span.keepF hs (b := w2.heap.size) (o := 1) ⟨by simp <;> omega, by simp⟩ (by omega)
    have ht : Span R (R + 1) w2 w3 := Span.trans (Span.of_below (by (repeat (first | exact Below.refl _ _ | assumption | refine Below.alloc ?_ (by first | omega | (simp <;> omega)) _ | refine Below.setCell ?_ (by first | omega | (simp <;> omega)) _ | refine Below.drew ?_ | refine below_drewN ?_)))) hs
    replace r0 := Span.keep ht r0 (by omega)
    replace r1 := Span.keep ht r1 (by omega)
    replace m0 := Span.keep ht m0 (by omega)
    replace m1 := Span.keep ht m1 (by omega)
    replace fr0 := Span.keepF ht fr0 (by omega)
    replace fr1 := Span.keepF ht fr1 (by omega)
    replace fm0 := Span.keepF ht fm0 (by omega)
    replace fm1 := Span.keepF ht fm1 (by omega)
    replace hrm := Span.row ht hrm (fun b e => by have := hvm b e; omega)
    replace hrk := Span.row ht hrk (fun b e => by have := hvk b e; omega)
    replace hsp := hsp.trans ht
    have hZ3 := ht.size
    clear ht hs
    have gfk0 := fk0.2
    have gfk1 := fk1.2
    replace gfr0 := fr0.2
    replace gfr1 := fr1.2
    replace gfm0 := fm0.2
    replace gfm1 := fm1.2
    have rb : Bx _ w.heap.size _ _ := ⟨r0, r1, gfr0, gfr1, fr0.1⟩
    clear r0 r1 gfr0 gfr1 fr0 fr1
    by_cases e0 : 0 < z
    · go_wp2_with fail
      obtain ⟨wq, hwq⟩ : ∃ q, (World.setCell w3 ⟨w1.heap.size, 0, none⟩ (.int .i64 sk)).setCell ⟨w1.heap.size, 1, none⟩ (.slice (some ⟨gk, 0, none⟩) ks.length ck) = q := ⟨_, rfl⟩
      rw [hwq]
      have rbq : Bx wq w.heap.size (.int .i64 0) (.slice none 0 0) := by rw [← hwq]; exact rb.of_block (World.setCell2_other _ _ _ _ _ (by omega)) (by simp)
      have hrdq : Rd wq R (P + 42) := by rw [← hwq]; exact hrd.below (B := R + 1) (by (repeat (first | exact Below.refl _ _ | assumption | refine Below.alloc ?_ (by first | omega | (simp <;> omega)) _ | refine Below.setCell ?_ (by first | omega | (simp <;> omega)) _ | refine Below.drew ?_ | refine below_drewN ?_))) (by omega)
      have hspq : Span R (R + 1) w wq := by rw [← hwq]; exact hsp.on (by (repeat (first | exact Below.refl _ _ | assumption | refine Below.alloc ?_ (by first | omega | (simp <;> omega)) _ | refine Below.setCell ?_ (by first | omega | (simp <;> omega)) _ | refine Below.drew ?_ | refine below_drewN ?_)))
      have hrowq : Row wq (w.heap.size + 1) (.slice (some ⟨gk, 0, none⟩) ks.length ck) ks := by rw [← hwq]; exact hrk.put2 (fun k e => by have := own_eq e; omega)
      clear hwq
      refine (l3Bad_any R _ _ sk (w.heap.size + 1) gk _ ck ks hrowq (by omega) (by omega) hk3 hk10.1 hk10.2 (fun j hj => HKB.out j hj) hrdq (by omega)).mono ?_; rintro e wb ⟨_, rfl, ⟨sb, pb, xb, rfl, hrb, hlb⟩, hrdn, hs⟩
      have rbb := Bx.spanB rbq hs (by omega) (by omega)
      have hspb := SpanB.span hspq hs (by omega)
      obtain ⟨ab, nb, cb, rfl, hib⟩ := hrb.ints
      clear hib
      obtain ⟨r0, r1, gfr0, gfr1, hrl⟩ := rbb
      go_wp2
      refine bodyPost_ret (v := .agg #[.int .i64 sb, .slice ab nb cb]) (by simp [results, Try.results75, go_sem, r0, r1]) rfl ⟨_, rfl, ⟨_, _, xb, rfl, ?_, hlb⟩, ?_, ?_⟩
      · refine Row.mono (base := w.heap.size + 1) ?_ (by omega)
        (repeat (first | exact hrb | (refine Row.setBelow ?_ ?_ _; rotate_left; focus (first | (omega) | (simp; done) | (simp; omega))) | (refine Row.setOther ?_ ?_ _; rotate_left; focus (intro h_own; have h_own2 := own_eq h_own; first | (omega) | (simp at h_own2; omega))) | refine Row.below ?_ (below_alloc _ _)))
      · exact (hrdn.below (B := R + 1) (by (repeat (first | exact Below.refl _ _ | assumption | refine Below.alloc ?_ (by first | omega | (simp <;> omega)) _ | refine Below.setCell ?_ (by first | omega | (simp <;> omega)) _ | refine Below.drew ?_ | refine below_drewN ?_))) (by omega)).mono (by omega)
      · exact hspb.on (by (repeat (first | exact Below.refl _ _ | assumption | refine Below.alloc ?_ (by first | omega | (simp <;> omega)) _ | refine Below.setCell ?_ (by first | omega | (simp <;> omega)) _ | refine Below.drew ?_ | refine below_drewN ?_)))
    · go_wp2_with fail
      refine (l3Bad_any R _ _ s (w.heap.size + 1) gm _ cm xs hrm (by omega) (by omega) hf3 hs10.1 hs10.2 (fun j hj => HF.out j hj) hrd (by omega)).mono ?_; rintro e wb ⟨_, rfl, ⟨sb, pb, xb, rfl, hrb, hlb⟩, hrdn, hs⟩
      have rbb := Bx.spanB rb hs (by omega) (by omega)
      have hspb := SpanB.span hsp hs (by omega)
      obtain ⟨ab, nb, cb, rfl, hib⟩ := hrb.ints
      clear hib
      obtain ⟨r0, r1, gfr0, gfr1, hrl⟩ := rbb
      go_wp2
      refine bodyPost_ret (v := .agg #[.int .i64 sb, .slice ab nb cb]) (by simp [results, Try.results75, go_sem, r0, r1]) rfl ⟨_, rfl, ⟨_, _, xb, rfl, ?_, hlb⟩, ?_, ?_⟩
      · refine Row.mono (base := w.heap.size + 1) ?_ (by omega)
        (repeat (first | exact hrb | (refine Row.setBelow ?_ ?_ _; rotate_left; focus (first | (omega) | (simp; done) | (simp; omega))) | (refine Row.setOther ?_ ?_ _; rotate_left; focus (intro h_own; have h_own2 := own_eq h_own; first | (omega) | (simp at h_own2; omega))) | refine Row.below ?_ (below_alloc _ _)))
      · exact (hrdn.below (B := R + 1) (by (repeat (first | exact Below.refl _ _ | assumption | refine Below.alloc ?_ (by first | omega | (simp <;> omega)) _ | refine Below.setCell ?_ (by first | omega | (simp <;> omega)) _ | refine Below.drew ?_ | refine below_drewN ?_))) (by omega)).mono (by omega)
      · exact hspb.on (by (repeat (first | exact Below.refl _ _ | assumption | refine Below.alloc ?_ (by first | omega | (simp <;> omega)) _ | refine Below.setCell ?_ (by first | omega | (simp <;> omega)) _ | refine Below.drew ?_ | refine below_drewN ?_)))
def SomeList (base : Nat) (v : Value) (w' : World) : Prop := ∃ xs, Row w' base v xs ∧ xs.length ≤ 6
set_option maxRecDepth 100000 in
set_option maxHeartbeats 4000000 in
theorem l10List_any (R P sz : Nat) (w : World) (hr : Rd w R P) (hP : P ≤ 340000000) (hsz : sz ≤ 5) :
    Calls Try.prog 92 #[.pointer (some ⟨R, 0, none⟩), .int .i64 sz] w (Drew R (P + 20) w (SomeList w.heap.size)) := by
  have hR := hr.1
  go_enter Try.func92, Try.ntmps92
  go_wp2
  go_loopw [5, 6] (fun o i wr => ∃ (k : Nat) (v : Value) (xs : List Int), k ≤ sz ∧ i = .int .i64 k ∧ o = v ∧ Row wr w.heap.size v xs ∧ xs.length = k ∧ Rd wr R (P + k) ∧ Span R (R + 1) w wr) (fun o i _ => sz - (intOf i).toNat)
  case atStart =>
    exact ⟨0, _, [], by omega, rfl, rfl, World.ownsRow_lit w #[] 0 (Nat.le_refl _) (by unfold maxLen; omega) rfl, rfl, hr.on (below_alloc w _), Span.of_below (below_alloc w _)⟩
  case round =>
    obtain ⟨k, v, xs, hk, rfl, rfl, hrow, hlx, hrd, hsp⟩ := hrel
    have hzr := hsp.size
    have hvb := hrow.block
    by_cases hlt : k < sz
    · have hk0 : (0 : Int) ≤ (k : Int) := by omega
      have hk1 : (k : Int) < (sz : Int) := by omega
      go_wp2_with fail
      refine (pick_any R _ _ _ hrd (by omega) (by omega)).mono ?_; rintro e w2 ⟨_, rfl, ⟨x, rfl, hx0, hx1⟩, hrd2, hs⟩
      have hrow2 := Span.row hs hrow (fun b e => by have := (hvb b e).1; omega)
      have hsub : IntKind.i64.wrap (x - 4) = x - 4 := IntWalk.i64_in _ (by omega)
      have hsp2 := hsp.trans hs
      have hz2 := hs.size
      clear hrow hrd hsp hs
      go_wp2_with (at_builtin; refine wpList_append_int rfl _ _ rfl w.heap.size _ _ k hlx (by rfl) (hrow2.below ((Below.refl _ _).alloc (Nat.le_refl _) _)) _ _ (x - 4) (by rfl) (by simp; first | done | exact hsub) (by omega) (by simp; omega) ?_; intro g' c' w' hrow' hgrow)
      have HB1 := below_grownBy (B := R + 1) (show Below (R + 1) w2 (w2.alloc _) from (below_alloc w2 _).mono (by omega)) (by simp; omega) hgrow (fun b e => by have := (hvb b e).1; omega)
      have HB2 := below_grownBy (B := w.heap.size) (show Below w.heap.size w2 (w2.alloc _) from (below_alloc w2 _).mono (by omega)) (by simp; omega) hgrow (fun b e => (hvb b e).1)
      have HR2 := hid (hrd2.below HB1 (by omega))
      have HS2 := hid (hsp2.on HB2)
      clear hgrow hrow2 hrd2 hsp2 HB1 HB2
      go_roundw
      case rel => first | exact ⟨k + 1, _, xs ++ [x - 4], by omega, by go_num, rfl, hrow', by rw [List.length_append, hlx]; rfl, HR2.out.mono (by omega), HS2.out⟩ | exact ⟨_, ⟨k + 1, _, xs ++ [x - 4], by omega, by go_num, rfl, hrow', by rw [List.length_append, hlx]; rfl, HR2.out.mono (by omega), HS2.out⟩, rfl⟩ | exact ⟨_, _, ⟨k + 1, _, xs ++ [x - 4], by omega, by go_num, rfl, hrow', by rw [List.length_append, hlx]; rfl, HR2.out.mono (by omega), HS2.out⟩, rfl, rfl⟩ | exact ⟨_, _, _, ⟨k + 1, _, xs ++ [x - 4], by omega, by go_num, rfl, hrow', by rw [List.length_append, hlx]; rfl, HR2.out.mono (by omega), HS2.out⟩, rfl, rfl, rfl⟩ | exact ⟨_, _, _, _, ⟨k + 1, _, xs ++ [x - 4], by omega, by go_num, rfl, hrow', by rw [List.length_append, hlx]; rfl, HR2.out.mono (by omega), HS2.out⟩, rfl, rfl, rfl, rfl⟩ | exact ⟨_, _, _, _, _, ⟨k + 1, _, xs ++ [x - 4], by omega, by go_num, rfl, hrow', by rw [List.length_append, hlx]; rfl, HR2.out.mono (by omega), HS2.out⟩, rfl, rfl, rfl, rfl, rfl⟩
      case measure => simp [intOf]; omega
    · obtain rfl : k = sz := by omega
      subst hlx
      obtain ⟨av, nv, cv, rfl, hi⟩ := hrow.ints
      obtain rfl : xs.length = nv := hi.len
      go_wp2_with fail
      refine (pick_any R _ _ _ hrd (by omega) (by omega)).mono ?_; rintro e w2 ⟨_, rfl, ⟨z, rfl, hz0, hz1⟩, hrd2, hs⟩
      have hrow2 := Span.row hs hrow (fun b e => by have := (hvb b e).1; omega)
      have hsp2 := hsp.trans hs
      have hz2 := hs.size
      clear hrow hrd hsp hs hi
      by_cases e0 : z = 0
      · subst e0
        go_wp2_with (at_builtin; refine wpList_append_int rfl _ _ rfl w.heap.size _ _ xs.length rfl (by rfl) (hrow2.below ((Below.refl _ _).alloc (Nat.le_refl _) _)) _ _ 0 (by rfl) (by simp) (by omega) (by simp; omega) ?_; intro g' c' w' hrow' hgrow)
        have HB1 := below_grownBy (B := R + 1) (show Below (R + 1) w2 (w2.alloc _) from (below_alloc w2 _).mono (by omega)) (by simp; omega) hgrow (fun b e => by have := (hvb b e).1; omega)
        have HB2 := below_grownBy (B := w.heap.size) (show Below w.heap.size w2 (w2.alloc _) from (below_alloc w2 _).mono (by omega)) (by simp; omega) hgrow (fun b e => (hvb b e).1)
        have HR2 := hrd2.below HB1 (by omega)
        have HS2 := hsp2.on HB2
        clear hgrow hrow2 hrd2 hsp2 HB1 HB2
        go_wp2
        go_ret
        exact ⟨_, rfl, ⟨_, hrow', by rw [List.length_append]; simp; omega⟩, HR2.mono (by omega), HS2⟩
      · have hz0' : (z == 0) = false := by simpa using e0
        by_cases e1 : z = 1
        · subst e1
          by_cases h0 : 0 < xs.length
          · obtain ⟨g, cg, he, hg1, hg2, hig⟩ := hrow2.form h0
            rw [he] at hrow2 hvb
            injection he with he1 he2 he3
            subst he1 he3
            have hgt : (0 : Int) < (xs.length : Int) := by omega
            go_wp2_with fail
            refine (num_any R _ _ 5 _ [1000, -1000, 1001, -1001, -9223372036854775808] _ (hrd2.on (by (repeat (first | exact Below.refl _ _ | assumption | refine Below.alloc ?_ (by first | omega | (simp <;> omega)) _ | refine Below.setCell ?_ (by first | omega | (simp <;> omega)) _ | refine Below.drew ?_ | refine below_drewN ?_)))) (by omega) (ints_lit w2 _ 3 [1000, -1000, 1001, -1001, -9223372036854775808] w2.heap.size 5 rfl (by simp) rfl (by omega)) (by omega) (by omega) (by omega)).mono ?_; rintro e w3 ⟨_, rfl, ⟨i, hi, rfl⟩, hrd3, hs⟩
            have ht : Span R (R + 1) w2 w3 := Span.trans (Span.of_below (by (repeat (first | exact Below.refl _ _ | assumption | refine Below.alloc ?_ (by first | omega | (simp <;> omega)) _ | refine Below.setCell ?_ (by first | omega | (simp <;> omega)) _ | refine Below.drew ?_ | refine below_drewN ?_)))) hs
            have hrow3 := Span.row ht hrow2 (fun b e => by have := (hvb b e).1; omega)
            have hsp3 := hsp2.trans ht
            have hz3 := ht.size
            clear hrow2 hrd2 hsp2 hs ht hig
            generalize nth [1000, -1000, 1001, -1001, -9223372036854775808] i = q
            obtain ⟨c0, d0, _⟩ := hrow3.cellAt h0
            obtain ⟨w4, hw4, hr4, hg4⟩ := store_gen hrow3 h0 q
            have HR4 := hid (hrd3.grown hg4 (by omega))
            have HS4 := hid (hsp3.grownOn hg4 (by omega))
            have HW := hid hw4
            clear hw4 hg4 hrow3 hrd3 hsp3
            go_wp2
            rw [HW.out]
            go_wp2
            go_ret
            exact ⟨_, rfl, ⟨_, hr4, by rw [List.length_set]; omega⟩, HR4.out.mono (by omega), HS4.out⟩
          · have h00 : xs.length = 0 := by omega
            rw [h00] at hrow2 ⊢
            go_wp2
            go_ret
            exact ⟨_, rfl, ⟨xs, hrow2, by omega⟩, hrd2.mono (by omega), hsp2⟩
        · have hz1' : (z == 1) = false := by simpa using e1
          go_wp2
          go_ret
          exact ⟨_, rfl, ⟨xs, hrow2, by omega⟩, hrd2.mono (by omega), hsp2⟩
/-- a drawn mass and a drawn list -/
def SomeWith (base : Nat) (v : Value) (w' : World) : Prop := ∃ s p xs q ys, v = .tuple #[.agg #[.int .i64 s, p], q] ∧ Row w' base p xs ∧ xs.length ≤ 17 ∧ Row w' base q ys ∧ ys.length ≤ 6
set_option maxRecDepth 100000 in
set_option maxHeartbeats 4000000 in
theorem l10With_any (R P : Nat) (w : World) (hr : Rd w R P) (hP : P ≤ 330000000) :
    Calls Try.prog 83 #[.pointer (some ⟨R, 0, none⟩)] w (Drew R (P + 100) w (SomeWith w.heap.size)) := by
  have hR := hr.1
  have hrd := hr
  clear hr
  have hsp := Span.refl R (R + 1) w
  go_enter Try.func83, Try.ntmps83
  go_wp2_with fail
  refine (l10Normal_any R _ _ (hrd.on (by (repeat (first | exact Below.refl _ _ | assumption | refine Below.alloc ?_ (by first | omega | (simp <;> omega)) _ | refine Below.setCell ?_ (by first | omega | (simp <;> omega)) _ | refine Below.drew ?_ | refine below_drewN ?_)))) (by omega)).mono ?_; rintro e w1 ⟨_, rfl, ⟨s, p, xs, rfl, hrm, hlm⟩, hrdn, hs⟩
  clear hrd
  have hrd := hrdn
  clear hrdn
  have hY1 : w.heap.size + 1 ≤ w1.heap.size := by have := hs.size; simp at this; omega
  have r0 := Span.keep hs (b := w.heap.size) (o := 0) (v := .int .i64 0) (by simp) (by omega)
  have fr0 := Span.keepF hs (b := w.heap.size) (o := 0) ⟨by simp <;> omega, by simp⟩ (by omega)
  have r1 := Span.keep hs (b := w.heap.size) (o := 1) (v := .slice none 0 0) (by simp) (by omega)
  have fr1 := Span.keepF hs (b := w.heap.size) (o := 1) ⟨by simp <;> omega, by simp⟩ (by omega)
  have ht : Span R (R + 1) w w1 := Span.trans (Span.of_below (by (repeat (first | exact Below.refl _ _ | assumption | refine Below.alloc ?_ (by first | omega | (simp <;> omega)) _ | refine Below.setCell ?_ (by first | omega | (simp <;> omega)) _ | refine Below.drew ?_ | refine below_drewN ?_)))) hs
  replace hsp := hsp.trans ht
  have hZ1 := ht.size
  clear ht hs
  have gfr0 := fr0.2
  have gfr1 := fr1.2
  replace hrm : Row w1 (w.heap.size + 1) p xs := hrm.mono (by simp)
  obtain ⟨am, nm, cm, rfl, him⟩ := hrm.ints
  clear him
  have hvm : ∀ b, (Value.slice am nm cm).ownBlock = some b → w.heap.size + 1 ≤ b := fun b e => (hrm.block b e).1
  go_wp2
  obtain ⟨w3, hw3⟩ : ∃ W, w1.alloc (.cells #[.int .i64 s, .slice am nm cm] 28) = W := ⟨_, rfl⟩
  rw [hw3]
  have hd : Below w1.heap.size w1 w3 := by rw [← hw3]; (repeat (first | exact Below.refl _ _ | assumption | refine Below.alloc ?_ (by first | omega | (simp <;> omega)) _ | refine Below.setCell ?_ (by first | omega | (simp <;> omega)) _ | refine Below.drew ?_ | refine below_drewN ?_))
  have m0 : w3.cell? ⟨w1.heap.size, 0, none⟩ = some (.int .i64 s) := by rw [← hw3]; simp
  have m1 : w3.cell? ⟨w1.heap.size, 1, none⟩ = some (.slice am nm cm) := by rw [← hw3]; simp
  have hN : w1.heap.size + 1 = w3.heap.size := by rw [← hw3]; simp
  replace hrm := hrm.below hd
  replace hrd := hrd.on hd
  replace hsp := hsp.trans (Span.of_below hd)
  have rb : Bx w3 w.heap.size _ _ := (show Bx w1 w.heap.size _ _ from ⟨r0, r1, gfr0, gfr1, fr0.1⟩).below hd
  clear hd hw3 r0 r1 fr0 fr1 gfr0 gfr1
  have hmx : w1.heap.size < w3.heap.size := by omega
  have hS3 : w3.cell? ⟨w1.heap.size, 0, none⟩ = some (.int .i64 s) ∧ w3.cell? ⟨w1.heap.size, 1, none⟩ = some (.slice am nm cm) ∧ w3.heap.size ≤ w3.heap.size := ⟨m0, m1, Nat.le_refl _⟩
  rcases (show s < 0 ∨ (0 ≤ s ∧ s ≤ 5) ∨ 5 < s by omega) with hs | ⟨hs, hs5⟩ | hs
  · have hs2 : ¬ 0 < s := by omega
    go_region_held3 (fun w' => w'.cell? ⟨w1.heap.size, 0, none⟩ = some (.int .i64 s) ∧ w'.cell? ⟨w1.heap.size, 1, none⟩ = some (.slice am nm cm) ∧ w3.heap.size ≤ w'.heap.size) (first | ((repeat (first | (with_reducible assumption) | (with_reducible refine kept2_set ?_ _ _ (by simp <;> omega)) | (with_reducible refine kept2_alloc hmx ?_ _) | (with_reducible refine kept2_drew ?_))); done)) (first | (go_at_call 92; refine (l10List_any R _ 0 w3.drew (hrd.on (by (repeat (first | exact Below.refl _ _ | assumption | refine Below.alloc ?_ (by first | omega | (simp <;> omega)) _ | refine Below.setCell ?_ (by first | omega | (simp <;> omega)) _ | refine Below.drew ?_ | refine below_drewN ?_)))) (by omega) (by omega)).mono ?_; rintro e wy ⟨vy, rfl, ⟨ys, hry, hly⟩, hrdy, hsy⟩; have ht : Span R (R + 1) w3 wy := Span.trans (Span.of_below (by (repeat (first | exact Below.refl _ _ | assumption | refine Below.alloc ?_ (by first | omega | (simp <;> omega)) _ | refine Below.setCell ?_ (by first | omega | (simp <;> omega)) _ | refine Below.drew ?_ | refine below_drewN ?_)))) hsy; have hSy := kept2_span hS3 ht (by omega); have k0 := hSy.1; have k1 := hSy.2.1; have ksz := hSy.2.2; have hrmy := Span.row ht hrm (fun b e => by have := hvm b e; omega); have rby := rb.span ht (by omega); have hspy := hsp.trans ht; have s0 := rby.c0; have s1 := rby.c1; have s2 := rby.f0; have s3 := rby.f1; have s4 := rby.lt))
    have hvy := hry.block
    have rb2 := rby.put2 (.int .i64 s) (.slice am nm cm)
    have r20 := rb2.c0
    have r21 := rb2.c1
    have hr2 := (hrmy.mono (base' := w.heap.size + 1) (by omega)).put2 (b := w.heap.size) (x := .int .i64 s) (y := .slice am nm cm) (fun k e => by have := hvm k e; omega)
    have hy2 := (hry.mono (base' := w.heap.size + 1) (by first | omega | (simp <;> omega))).put2 (b := w.heap.size) (x := .int .i64 s) (y := .slice am nm cm) (fun k e => by have := (hvy k e).1; first | omega | (simp at this; omega))
    clear hS3 m0 m1 k0 k1 hSy hrd hsp rb hrm
    go_wp2
    refine bodyPost_ret (v := .tuple #[.agg #[.int .i64 s, .slice am nm cm], vy]) (by simp [results, Try.results83, go_sem, r20, r21]) rfl ⟨_, rfl, ⟨_, _, xs, _, ys, rfl, hr2.mono (by omega), hlm, hy2.mono (by omega), hly⟩, ?_, ?_⟩
    · exact (hrdy.below (B := R + 1) (by (repeat (first | exact Below.refl _ _ | assumption | refine Below.alloc ?_ (by first | omega | (simp <;> omega)) _ | refine Below.setCell ?_ (by first | omega | (simp <;> omega)) _ | refine Below.drew ?_ | refine below_drewN ?_))) (by omega)).mono (by omega)
    · exact hspy.on (by (repeat (first | exact Below.refl _ _ | assumption | refine Below.alloc ?_ (by first | omega | (simp <;> omega)) _ | refine Below.setCell ?_ (by first | omega | (simp <;> omega)) _ | refine Below.drew ?_ | refine below_drewN ?_)))
  · obtain ⟨sz, rfl⟩ : ∃ sz : Nat, s = (sz : Int) := ⟨s.toNat, by omega⟩
    have hs2 : ¬ 5 < (sz : Int) := by omega
    have hs3 : ¬ (sz : Int) < 0 := by omega
    go_region_held3 (fun w' => w'.cell? ⟨w1.heap.size, 0, none⟩ = some (.int .i64 (sz : Int)) ∧ w'.cell? ⟨w1.heap.size, 1, none⟩ = some (.slice am nm cm) ∧ w3.heap.size ≤ w'.heap.size) (first | ((repeat (first | (with_reducible assumption) | (with_reducible refine kept2_set ?_ _ _ (by simp <;> omega)) | (with_reducible refine kept2_alloc hmx ?_ _) | (with_reducible refine kept2_drew ?_))); done)) (first | (go_at_call 92; refine (l10List_any R _ sz w3.drew (hrd.on (by (repeat (first | exact Below.refl _ _ | assumption | refine Below.alloc ?_ (by first | omega | (simp <;> omega)) _ | refine Below.setCell ?_ (by first | omega | (simp <;> omega)) _ | refine Below.drew ?_ | refine below_drewN ?_)))) (by omega) (by omega)).mono ?_; rintro e wy ⟨vy, rfl, ⟨ys, hry, hly⟩, hrdy, hsy⟩; have ht : Span R (R + 1) w3 wy := Span.trans (Span.of_below (by (repeat (first | exact Below.refl _ _ | assumption | refine Below.alloc ?_ (by first | omega | (simp <;> omega)) _ | refine Below.setCell ?_ (by first | omega | (simp <;> omega)) _ | refine Below.drew ?_ | refine below_drewN ?_)))) hsy; have hSy := kept2_span hS3 ht (by omega); have k0 := hSy.1; have k1 := hSy.2.1; have ksz := hSy.2.2; have hrmy := Span.row ht hrm (fun b e => by have := hvm b e; omega); have rby := rb.span ht (by omega); have hspy := hsp.trans ht; have s0 := rby.c0; have s1 := rby.c1; have s2 := rby.f0; have s3 := rby.f1; have s4 := rby.lt))
    have hvy := hry.block
    have rb2 := rby.put2 (.int .i64 (sz : Int)) (.slice am nm cm)
    have r20 := rb2.c0
    have r21 := rb2.c1
    have hr2 := (hrmy.mono (base' := w.heap.size + 1) (by omega)).put2 (b := w.heap.size) (x := .int .i64 (sz : Int)) (y := .slice am nm cm) (fun k e => by have := hvm k e; omega)
    have hy2 := (hry.mono (base' := w.heap.size + 1) (by first | omega | (simp <;> omega))).put2 (b := w.heap.size) (x := .int .i64 (sz : Int)) (y := .slice am nm cm) (fun k e => by have := (hvy k e).1; first | omega | (simp at this; omega))
    clear hS3 m0 m1 k0 k1 hSy hrd hsp rb hrm
    go_wp2
    refine bodyPost_ret (v := .tuple #[.agg #[.int .i64 (sz : Int), .slice am nm cm], vy]) (by simp [results, Try.results83, go_sem, r20, r21]) rfl ⟨_, rfl, ⟨_, _, xs, _, ys, rfl, hr2.mono (by omega), hlm, hy2.mono (by omega), hly⟩, ?_, ?_⟩
    · exact (hrdy.below (B := R + 1) (by (repeat (first | exact Below.refl _ _ | assumption | refine Below.alloc ?_ (by first | omega | (simp <;> omega)) _ | refine Below.setCell ?_ (by first | omega | (simp <;> omega)) _ | refine Below.drew ?_ | refine below_drewN ?_))) (by omega)).mono (by omega)
    · exact hspy.on (by (repeat (first | exact Below.refl _ _ | assumption | refine Below.alloc ?_ (by first | omega | (simp <;> omega)) _ | refine Below.setCell ?_ (by first | omega | (simp <;> omega)) _ | refine Below.drew ?_ | refine below_drewN ?_)))
  · have hs2 : ¬ s < 0 := by omega
    go_region_held3 (fun w' => w'.cell? ⟨w1.heap.size, 0, none⟩ = some (.int .i64 s) ∧ w'.cell? ⟨w1.heap.size, 1, none⟩ = some (.slice am nm cm) ∧ w3.heap.size ≤ w'.heap.size) (first | ((repeat (first | (with_reducible assumption) | (with_reducible refine kept2_set ?_ _ _ (by simp <;> omega)) | (with_reducible refine kept2_alloc hmx ?_ _) | (with_reducible refine kept2_drew ?_))); done)) (first | (go_at_call 92; refine (l10List_any R _ 5 w3.drew (hrd.on (by (repeat (first | exact Below.refl _ _ | assumption | refine Below.alloc ?_ (by first | omega | (simp <;> omega)) _ | refine Below.setCell ?_ (by first | omega | (simp <;> omega)) _ | refine Below.drew ?_ | refine below_drewN ?_)))) (by omega) (by omega)).mono ?_; rintro e wy ⟨vy, rfl, ⟨ys, hry, hly⟩, hrdy, hsy⟩; have ht : Span R (R + 1) w3 wy := Span.trans (Span.of_below (by (repeat (first | exact Below.refl _ _ | assumption | refine Below.alloc ?_ (by first | omega | (simp <;> omega)) _ | refine Below.setCell ?_ (by first | omega | (simp <;> omega)) _ | refine Below.drew ?_ | refine below_drewN ?_)))) hsy; have hSy := kept2_span hS3 ht (by omega); have k0 := hSy.1; have k1 := hSy.2.1; have ksz := hSy.2.2; have hrmy := Span.row ht hrm (fun b e => by have := hvm b e; omega); have rby := rb.span ht (by omega); have hspy := hsp.trans ht; have s0 := rby.c0; have s1 := rby.c1; have s2 := rby.f0; have s3 := rby.f1; have s4 := rby.lt))
    have hvy := hry.block
    have rb2 := rby.put2 (.int .i64 s) (.slice am nm cm)
    have r20 := rb2.c0
    have r21 := rb2.c1
    have hr2 := (hrmy.mono (base' := w.heap.size + 1) (by omega)).put2 (b := w.heap.size) (x := .int .i64 s) (y := .slice am nm cm) (fun k e => by have := hvm k e; omega)
    have hy2 := (hry.mono (base' := w.heap.size + 1) (by first | omega | (simp <;> omega))).put2 (b := w.heap.size) (x := .int .i64 s) (y := .slice am nm cm) (fun k e => by have := (hvy k e).1; first | omega | (simp at this; omega))
    clear hS3 m0 m1 k0 k1 hSy hrd hsp rb hrm
    go_wp2
    refine bodyPost_ret (v := .tuple #[.agg #[.int .i64 s, .slice am nm cm], vy]) (by simp [results, Try.results83, go_sem, r20, r21]) rfl ⟨_, rfl, ⟨_, _, xs, _, ys, rfl, hr2.mono (by omega), hlm, hy2.mono (by omega), hly⟩, ?_, ?_⟩
    · exact (hrdy.below (B := R + 1) (by (repeat (first | exact Below.refl _ _ | assumption | refine Below.alloc ?_ (by first | omega | (simp <;> omega)) _ | refine Below.setCell ?_ (by first | omega | (simp <;> omega)) _ | refine Below.drew ?_ | refine below_drewN ?_))) (by omega)).mono (by omega)
    · exact hspy.on (by (repeat (first | exact Below.refl _ _ | assumption | refine Below.alloc ?_ (by first | omega | (simp <;> omega)) _ | refine Below.setCell ?_ (by first | omega | (simp <;> omega)) _ | refine Below.drew ?_ | refine below_drewN ?_)))
set_option maxRecDepth 100000 in
set_option maxHeartbeats 1000000 in
theorem DrawLowestMean_any (ao : Option Addr) (n c : Nat) (w : World) (hx : BytesIn w w.heap.size ao n) (hnc : n ≤ c) :
    Calls Try.prog 34 #[.slice ao n c] w fun e w' => (∃ s p xs q ys, e = .returned (.tuple #[.agg #[.int .i64 s, p], q]) ∧ Row w' w.heap.size p xs ∧ xs.length ≤ 17 ∧ Row w' w.heap.size q ys ∧ ys.length ≤ 6) ∧ Below w.heap.size w w' := by
  obtain ⟨R, hRe⟩ : ∃ R, w.heap.size + 1 = R := ⟨_, rfl⟩
  have HX := hid hx
  clear hx
  go_enter Try.func34, Try.ntmps34
  go_wp2_with fail
  refine (l14OpenR_any ao n c R _ (by simp; exact hRe) (HX.out.on (below_alloc w _) (by omega)) hnc).mono ?_; rintro e w1 ⟨rfl, hrd, hb⟩
  have hz : R ≤ w1.heap.size := by have := hb.size; simp at this; omega
  have r0 := hb.cell (p := ⟨w.heap.size, 0, none⟩) (by simp; omega)
  have r1 := hb.cell (p := ⟨w.heap.size, 1, none⟩) (by simp; omega)
  have fr0 := hb.frozen (p := ⟨w.heap.size, 0, none⟩) (by simp; omega)
  have fr1 := hb.frozen (p := ⟨w.heap.size, 1, none⟩) (by simp; omega)
  simp at r0 r1 fr0 fr1
  have hB : Below w.heap.size w w1 := (below_alloc w _).trans (hb.mono (by omega))
  have hR1 := hrd.1
  clear hb
  go_wp2_with fail
  refine (l10With_any R _ _ hrd (by omega)).mono ?_; rintro e w2 ⟨_, rfl, ⟨s, p, xs, q, ys, rfl, hr, hl, hr2, hl2⟩, hrd2, ht⟩
  obtain ⟨a2, n2, c2, rfl, hi2⟩ := hr.ints
  obtain ⟨a3, n3, c3, rfl, hi3⟩ := hr2.ints
  have gr0 := (Span.keepF ht ⟨by omega, fr0⟩ (by omega)).2
  have gr1 := (Span.keepF ht ⟨by omega, fr1⟩ (by omega)).2
  replace r0 := Span.keep ht r0 (by omega)
  replace r1 := Span.keep ht r1 (by omega)
  replace hB := Span.below hB hB.size ht (by omega)
  have hz2 := ht.size
  replace hr : Row w2 (w.heap.size + 1) (.slice a2 n2 c2) xs := hr.mono (by omega)
  replace hr2 : Row w2 (w.heap.size + 1) (.slice a3 n3 c3) ys := hr2.mono (by omega)
  clear ht hrd fr0 fr1
  go_wp2
  refine bodyPost_ret (v := .tuple #[.agg #[.int .i64 s, .slice a2 n2 c2], .slice a3 n3 c3]) (by simp [results, Try.results34, go_sem, r0, r1]) rfl ⟨⟨_, _, xs, _, ys, rfl, ?_, hl, ?_, hl2⟩, ?_⟩
  · refine Row.mono (base := w.heap.size + 1) ?_ (by omega)
    (repeat (first | exact hr | (refine Row.setBelow ?_ ?_ _; rotate_left; focus (first | (omega) | (simp; done) | (simp; omega))) | (refine Row.setOther ?_ ?_ _; rotate_left; focus (intro h_own; have h_own2 := own_eq h_own; first | (omega) | (simp at h_own2; omega))) | refine Row.below ?_ (below_alloc _ _)))
  · refine Row.mono (base := w.heap.size + 1) ?_ (by omega)
    (repeat (first | exact hr2 | (refine Row.setBelow ?_ ?_ _; rotate_left; focus (first | (omega) | (simp; done) | (simp; omega))) | (refine Row.setOther ?_ ?_ _; rotate_left; focus (intro h_own; have h_own2 := own_eq h_own; first | (omega) | (simp at h_own2; omega))) | refine Row.below ?_ (below_alloc _ _)))
  · (repeat (first | exact Below.refl _ _ | assumption | refine Below.alloc ?_ (by first | omega | (simp <;> omega)) _ | refine Below.setCell ?_ (by first | omega | (simp <;> omega)) _ | refine Below.drew ?_ | refine below_drewN ?_))
set_option maxRecDepth 100000 in
set_option maxHeartbeats 1000000 in
theorem DrawWorstChance_any (ao : Option Addr) (n c : Nat) (w : World) (hx : BytesIn w w.heap.size ao n) (hnc : n ≤ c) :
    Calls Try.prog 41 #[.slice ao n c] w fun e w' => (∃ s p xs q ys, e = .returned (.tuple #[.agg #[.int .i64 s, p], q]) ∧ Row w' w.heap.size p xs ∧ xs.length ≤ 17 ∧ Row w' w.heap.size q ys ∧ ys.length ≤ 6) ∧ Below w.heap.size w w' := by
  obtain ⟨R, hRe⟩ : ∃ R, w.heap.size + 1 = R := ⟨_, rfl⟩
  have HX := hid hx
  clear hx
  go_enter Try.func41, Try.ntmps41
  go_wp2_with fail
  refine (l14OpenR_any ao n c R _ (by simp; exact hRe) (HX.out.on (below_alloc w _) (by omega)) hnc).mono ?_; rintro e w1 ⟨rfl, hrd, hb⟩
  have hz : R ≤ w1.heap.size := by have := hb.size; simp at this; omega
  have r0 := hb.cell (p := ⟨w.heap.size, 0, none⟩) (by simp; omega)
  have r1 := hb.cell (p := ⟨w.heap.size, 1, none⟩) (by simp; omega)
  have fr0 := hb.frozen (p := ⟨w.heap.size, 0, none⟩) (by simp; omega)
  have fr1 := hb.frozen (p := ⟨w.heap.size, 1, none⟩) (by simp; omega)
  simp at r0 r1 fr0 fr1
  have hB : Below w.heap.size w w1 := (below_alloc w _).trans (hb.mono (by omega))
  have hR1 := hrd.1
  clear hb
  go_wp2_with fail
  refine (l10With_any R _ _ hrd (by omega)).mono ?_; rintro e w2 ⟨_, rfl, ⟨s, p, xs, q, ys, rfl, hr, hl, hr2, hl2⟩, hrd2, ht⟩
  obtain ⟨a2, n2, c2, rfl, hi2⟩ := hr.ints
  obtain ⟨a3, n3, c3, rfl, hi3⟩ := hr2.ints
  have gr0 := (Span.keepF ht ⟨by omega, fr0⟩ (by omega)).2
  have gr1 := (Span.keepF ht ⟨by omega, fr1⟩ (by omega)).2
  replace r0 := Span.keep ht r0 (by omega)
  replace r1 := Span.keep ht r1 (by omega)
  replace hB := Span.below hB hB.size ht (by omega)
  have hz2 := ht.size
  replace hr : Row w2 (w.heap.size + 1) (.slice a2 n2 c2) xs := hr.mono (by omega)
  replace hr2 : Row w2 (w.heap.size + 1) (.slice a3 n3 c3) ys := hr2.mono (by omega)
  clear ht hrd fr0 fr1
  go_wp2
  refine bodyPost_ret (v := .tuple #[.agg #[.int .i64 s, .slice a2 n2 c2], .slice a3 n3 c3]) (by simp [results, Try.results41, go_sem, r0, r1]) rfl ⟨⟨_, _, xs, _, ys, rfl, ?_, hl, ?_, hl2⟩, ?_⟩
  · refine Row.mono (base := w.heap.size + 1) ?_ (by omega)
    (repeat (first | exact hr | (refine Row.setBelow ?_ ?_ _; rotate_left; focus (first | (omega) | (simp; done) | (simp; omega))) | (refine Row.setOther ?_ ?_ _; rotate_left; focus (intro h_own; have h_own2 := own_eq h_own; first | (omega) | (simp at h_own2; omega))) | refine Row.below ?_ (below_alloc _ _)))
  · refine Row.mono (base := w.heap.size + 1) ?_ (by omega)
    (repeat (first | exact hr2 | (refine Row.setBelow ?_ ?_ _; rotate_left; focus (first | (omega) | (simp; done) | (simp; omega))) | (refine Row.setOther ?_ ?_ _; rotate_left; focus (intro h_own; have h_own2 := own_eq h_own; first | (omega) | (simp at h_own2; omega))) | refine Row.below ?_ (below_alloc _ _)))
  · (repeat (first | exact Below.refl _ _ | assumption | refine Below.alloc ?_ (by first | omega | (simp <;> omega)) _ | refine Below.setCell ?_ (by first | omega | (simp <;> omega)) _ | refine Below.drew ?_ | refine below_drewN ?_))
set_option maxRecDepth 100000 in
set_option maxHeartbeats 1000000 in
theorem DrawCornersOf_any (ao : Option Addr) (n c : Nat) (w : World) (hx : BytesIn w w.heap.size ao n) (hnc : n ≤ c) :
    Calls Try.prog 27 #[.slice ao n c] w fun e w' => (∃ s p xs, e = .returned (.agg #[.int .i64 s, p]) ∧ Row w' w.heap.size p xs ∧ xs.length ≤ 17) ∧ Below w.heap.size w w' := by
  obtain ⟨R, hRe⟩ : ∃ R, w.heap.size + 1 = R := ⟨_, rfl⟩
  have HX := hid hx
  clear hx
  go_enter Try.func27, Try.ntmps27
  go_wp2_with fail
  refine (l14OpenR_any ao n c R _ (by simp; exact hRe) (HX.out.on (below_alloc w _) (by omega)) hnc).mono ?_; rintro e w1 ⟨rfl, hrd, hb⟩
  have hz : R ≤ w1.heap.size := by have := hb.size; simp at this; omega
  have r0 := hb.cell (p := ⟨w.heap.size, 0, none⟩) (by simp; omega)
  have r1 := hb.cell (p := ⟨w.heap.size, 1, none⟩) (by simp; omega)
  have fr0 := hb.frozen (p := ⟨w.heap.size, 0, none⟩) (by simp; omega)
  have fr1 := hb.frozen (p := ⟨w.heap.size, 1, none⟩) (by simp; omega)
  simp at r0 r1 fr0 fr1
  have hB : Below w.heap.size w w1 := (below_alloc w _).trans (hb.mono (by omega))
  have hR1 := hrd.1
  clear hb
  go_wp2_with fail
  refine (l10Normal_any R _ _ hrd (by omega)).mono ?_; rintro e w2 ⟨_, rfl, ⟨s, p, xs, rfl, hr, hl⟩, hrd2, ht⟩
  obtain ⟨a2, n2, c2, rfl, hi2⟩ := hr.ints
  have gr0 := (Span.keepF ht ⟨by omega, fr0⟩ (by omega)).2
  have gr1 := (Span.keepF ht ⟨by omega, fr1⟩ (by omega)).2
  replace r0 := Span.keep ht r0 (by omega)
  replace r1 := Span.keep ht r1 (by omega)
  replace hB := Span.below hB hB.size ht (by omega)
  have hz2 := ht.size
  replace hr : Row w2 (w.heap.size + 1) (.slice a2 n2 c2) xs := hr.mono (by omega)
  clear ht hrd fr0 fr1
  go_wp2
  refine bodyPost_ret (v := .agg #[.int .i64 s, .slice a2 n2 c2]) (by simp [results, Try.results27, go_sem, r0, r1]) rfl ⟨⟨_, _, xs, rfl, ?_, hl⟩, ?_⟩
  · refine Row.mono (base := w.heap.size + 1) ?_ (by omega)
    (repeat (first | exact hr | (refine Row.setBelow ?_ ?_ _; rotate_left; focus (first | (omega) | (simp; done) | (simp; omega))) | (refine Row.setOther ?_ ?_ _; rotate_left; focus (intro h_own; have h_own2 := own_eq h_own; first | (omega) | (simp at h_own2; omega))) | refine Row.below ?_ (below_alloc _ _)))
  · (repeat (first | exact Below.refl _ _ | assumption | refine Below.alloc ?_ (by first | omega | (simp <;> omega)) _ | refine Below.setCell ?_ (by first | omega | (simp <;> omega)) _ | refine Below.drew ?_ | refine below_drewN ?_))
end Go.Proofs.Ytchjnjmlambpjaa
