/- The reference's draws for means: l6Normal, NormalMass. What the reference's drawing functions draw: some value, in new memory (printed by drawgen.py). What the reference's drawing functions draw: some value, in new memory (printed by drawgen.py). -/
import Derived.Test.YtefmlbahmakboaaGreatDoorD6
import Derived.Test.YtefmlbahmakboaaGreatDoorD3
import Derived.Test.YtefmlbahmakboaaGreatDoorD2
import Derived.Test.YtefmlbahmakboaaGreatDoorM2
import Derived.Deep.RegionHeld3
set_option linter.unusedSimpArgs false
set_option linter.unusedVariables false
namespace Go.Proofs.YtefmlbahmakboaaGreatDoor
open Go.RowKit
set_option maxHeartbeats 1000000 in
theorem l6Normal_any (s : Int) (g n c : Nat) (xs : List Int) (w : World) (hx : IntsAt w (some ⟨g, 0, none⟩) n xs) (hn1 : 1 ≤ n) (hn2 : n ≤ 16) (hb : ∀ k, k < n → 0 ≤ nth xs k ∧ nth xs k ≤ 4000000000000000000) :
    Calls Tryz.prog 39 #[.int .i64 s, .slice (some ⟨g, 0, none⟩) n c] w fun e w' => RetM (mkMass s (xs.set 0 0)) w.heap.size e w' ∧ Below w.heap.size w w' := by
  obtain ⟨w1, hw1⟩ : ∃ w1, w.alloc (.cells #[.int .i64 0, .slice none 0 0] 25) = w1 := ⟨_, rfl⟩
  have hz : w1.heap.size = w.heap.size + 1 := by rw [← hw1]; simp
  have hlit : Row ((w.alloc (.cells #[.int .i64 0, .slice none 0 0] 25)).alloc (.cells #[] 3)) (w.heap.size + 1) (.slice (some ⟨w.heap.size + 1, 0, none⟩) 0 0) [] := by
    rw [hw1, ← hz]; exact World.ownsRow_lit w1 #[] 0 (Nat.le_refl _) (by unfold maxLen; omega) rfl
  have hx1 : IntsAt ((w.alloc (.cells #[.int .i64 0, .slice none 0 0] 25)).alloc (.cells #[] 3)) (some ⟨g, 0, none⟩) n xs := hx.below (by (repeat (first | exact Below.refl _ _ | assumption | refine Below.alloc ?_ (by first | omega | (simp <;> omega)) _ | refine Below.setCell ?_ (by first | omega | (simp <;> omega)) _ | refine Below.drew ?_ | refine below_drewN ?_)))
  have rb : Bx ((w.alloc (.cells #[.int .i64 0, .slice none 0 0] 25)).alloc (.cells #[] 3)) w.heap.size (.int .i64 0) (.slice none 0 0) := (Bx.mk2 rfl).below (below_alloc _ _)
  have hlx := hx.len
  have HB := hid hb
  clear hb hw1 hz w1 hx
  go_enter Tryz.func39, Tryz.ntmps39
  go_wp2_with (at_builtin; refine wpList_append_many rfl _ _ rfl (w.heap.size + 1) (.slice (some ⟨w.heap.size + 1, 0, none⟩) 0 0) [] 0 rfl (by rfl) hlit g n c xs (by rfl) hx1 (by omega) (by omega) (by simp) ?_; intro g2 c2 w2 hrow2 hgrow; simp only [Nat.zero_add, List.nil_append] at hrow2; have rb2 := rb.grown (g := w.heap.size + 1) hgrow (by omega); have r0 := rb2.c0; have r1 := rb2.c1; have hB2 := below_grownBy (B := w.heap.size) (show Below w.heap.size w ((w.alloc (.cells #[.int .i64 0, .slice none 0 0] 25)).alloc (.cells #[] 3)) by (repeat (first | exact Below.refl _ _ | assumption | refine Below.alloc ?_ (by first | omega | (simp <;> omega)) _ | refine Below.setCell ?_ (by first | omega | (simp <;> omega)) _ | refine Below.drew ?_ | refine below_drewN ?_))) (by simp; omega) hgrow (fun b e => by have := own_eq e; omega); obtain ⟨c0, d0, _⟩ := hrow2.cellAt (show 0 < n by omega); clear hgrow rb hlit hx1)
  obtain ⟨w3, hw3, hr3, hg3⟩ := store_gen hrow2 (show 0 < n by omega) 0
  rw [hw3]
  have hgb := hrow2.block g2 rfl
  have hB3 := belowG hB2 hB2.size hg3 (by omega)
  have rb3 := rb2.grown hg3 (by omega)
  have hz3 := rb3.lt
  obtain ⟨h10, h11, f20, f21, _⟩ := rb3
  clear hw3 hg3 hrow2 c0 d0 r0 r1 rb2 hB2
  obtain ⟨ao', n', c', e', hi⟩ := hr3.ints
  injection e' with e1 e2 e3
  subst e1 e2 e3
  go_wp2_with fail
  refine (l3Made_any s _ _ _ (xs.set 0 0) _ hi hn2 (fun k hk => by have := HB.out k hk; rw [nth_set]; split <;> omega)).mono ?_; rintro e w5 ⟨⟨v, rfl, hr5⟩, hb5⟩
  obtain ⟨a5, n5, c5, rfl, hi5⟩ := hr5.ints
  replace f20 := keepF hb5 h10 f20
  replace f21 := keepF hb5 h11 f21
  replace h10 := keep hb5 h10
  replace h11 := keep hb5 h11
  have hB5 := chain hB3 hb5
  have hz5 := hb5.size
  clear hb5
  go_wp2
  refine bodyPost_ret (v := .tuple #[.agg #[.int .i64 (mkMass s (xs.set 0 0)).size, .slice a5 n5 c5], .bool (mkMass s (xs.set 0 0)).ok]) (by simp [results, Tryz.results39, go_sem, h10, h11, f20, f21]) rfl ⟨?_, ?_⟩
  · exact ⟨_, rfl, (((hr5.mono (base' := w.heap.size + 1) (by omega)).setBelow (by simp) _).setBelow (by simp) _).mono (by omega)⟩
  · (repeat (first | exact Below.refl _ _ | assumption | refine Below.alloc ?_ (by first | omega | (simp <;> omega)) _ | refine Below.setCell ?_ (by first | omega | (simp <;> omega)) _ | refine Below.drew ?_ | refine below_drewN ?_))
set_option maxHeartbeats 1000000 in
theorem specNormalMass_any (s : Int) (g n c : Nat) (xs : List Int) (w : World) (hx : IntsAt w (some ⟨g, 0, none⟩) n xs) (hm : massOk s xs = true) :
    Calls Tryz.prog 177 #[.agg #[.int .i64 s, .slice (some ⟨g, 0, none⟩) n c]] w fun e w' => RetM (mkMass s (xs.set 0 0)) w.heap.size e w' ∧ Below w.heap.size w w' := by
  obtain ⟨hs, hl, h16, hb, _⟩ := massOk_facts hm
  have hN := nsets_le hs
  have hlx := hx.len
  have HB : Hid (∀ k, k < n → 0 ≤ nth xs k ∧ nth xs k ≤ 1000000) := fun k hk => hb k (by omega)
  clear hb
  go_enter Tryz.func177, Tryz.ntmps177
  go_wp2_with fail
  refine (MassValid_any _ _ _ _ xs _ (hx.below (by (repeat (first | exact Below.refl _ _ | assumption | refine Below.alloc ?_ (by first | omega | (simp <;> omega)) _ | refine Below.setCell ?_ (by first | omega | (simp <;> omega)) _ | refine Below.drew ?_ | refine below_drewN ?_))))).mono ?_; rw [hm]; rintro e w1 ⟨rfl, hb1⟩
  obtain ⟨h10, h11, f20, f21⟩ := boxG (w.heap.size + 1) hb1 (by simp)
  have p0 := keep hb1 (a := ⟨w.heap.size, 0, none⟩) (v := .int .i64 s) (by simp)
  have p1 := keep hb1 (a := ⟨w.heap.size, 1, none⟩) (v := .slice (some ⟨g, 0, none⟩) n c) (by simp)
  have hz1 : w.heap.size + 1 < w1.heap.size := by have := hb1.size; simp at this; omega
  have hB1 : Below w.heap.size w w1 := Below.trans (by (repeat (first | exact Below.refl _ _ | assumption | refine Below.alloc ?_ (by simp <;> omega) _ | refine Below.setCell ?_ (by simp <;> omega) _ | refine Below.drew ?_ | refine below_drewN ?_))) (hb1.mono (by simp <;> omega))
  clear hb1
  go_wp2_with fail
  refine (l6Normal_any s g n c xs _ (hx.below hB1) (by omega) (by omega) (fun k hk => by have := HB.out k hk; omega)).mono ?_; rintro e w5 ⟨⟨v, rfl, hr5⟩, hb5⟩
  obtain ⟨a5, n5, c5, rfl, hi5⟩ := hr5.ints
  replace f20 := keepF hb5 h10 f20
  replace f21 := keepF hb5 h11 f21
  replace h10 := keep hb5 h10
  replace h11 := keep hb5 h11
  have hB5 := chain hB1 hb5
  have hz5 := hb5.size
  clear hb5
  go_wp2
  refine bodyPost_ret (v := .tuple #[.agg #[.int .i64 (mkMass s (xs.set 0 0)).size, .slice a5 n5 c5], .bool (mkMass s (xs.set 0 0)).ok]) (by simp [results, Tryz.results177, go_sem, h10, h11, f20, f21]) rfl ⟨?_, ?_⟩
  · exact ⟨_, rfl, (((hr5.mono (base' := w.heap.size + 1 + 1) (by omega)).setBelow (by simp) _).setBelow (by simp) _).mono (by omega)⟩
  · (repeat (first | exact Below.refl _ _ | assumption | refine Below.alloc ?_ (by first | omega | (simp <;> omega)) _ | refine Below.setCell ?_ (by first | omega | (simp <;> omega)) _ | refine Below.drew ?_ | refine below_drewN ?_))
set_option maxRecDepth 100000 in
set_option maxHeartbeats 4000000 in
theorem l10Normal_any (R P : Nat) (w : World) (hr : Rd w R P) (hP : P ≤ 340000000) :
    Calls Tryz.prog 108 #[.pointer (some ⟨R, 0, none⟩)] w (Drew R (P + 60) w (SomeMass w.heap.size)) := by
  have hR := hr.1
  have hrd := hr
  clear hr
  have hsp := Span.refl R (R + 1) w
  go_enter Tryz.func108, Tryz.ntmps108
  go_wp2_with fail
  refine (l3Some_any R _ _ (hrd.on (by (repeat (first | exact Below.refl _ _ | assumption | refine Below.alloc ?_ (by first | omega | (simp <;> omega)) _ | refine Below.setCell ?_ (by first | omega | (simp <;> omega)) _ | refine Below.drew ?_ | refine below_drewN ?_)))) (by omega)).mono ?_; rintro e w1 ⟨_, rfl, ⟨s, hsz, p, xs, rfl, hrm, hl, hok⟩, hrdn, hs⟩
  clear hrd
  have hrd := hrdn
  clear hrdn
  have hY1 : w.heap.size + 1 ≤ w1.heap.size := by have := hs.size; simp at this; omega
  have r0 := Span.keep hs (b := w.heap.size) (o := 0) (v := .int .i64 0) (by simp) (by omega)
  have fr0 := Span.keepF hs (b := w.heap.size) (o := 0) ⟨by simp <;> omega, by simp⟩ (by omega)
  have r1 := Span.keep hs (b := w.heap.size) (o := 1) (v := .slice none 0 0) (by simp) (by omega)
  have fr1 := Span.keepF hs (b := w.heap.size) (o := 1) ⟨by simp <;> omega, by simp⟩ (by omega)
  have ht : Span R (R + 1) w w1 := Span.trans (Span.of_below (by (repeat (first | exact Below.refl _ _ | assumption | refine Below.alloc ?_ (by first | omega | (simp <;> omega)) _ | refine Below.setCell ?_ (by first | omega | (simp <;> omega)) _ | refine Below.drew ?_ | refine below_drewN ?_)))) hs
  replace hsp := hsp.trans ht
  have hZ1 := ht.size
  clear ht hs
  have gfr0 := fr0.2
  have gfr1 := fr1.2
  replace hrm : Row w1 (w.heap.size + 1) p xs := hrm.mono (by simp)
  obtain ⟨hf1, -, hf3, hf4, -⟩ := massOk_facts hok
  have hs10 : -10 ≤ s ∧ s ≤ 10 := by rcases okSize_iff.1 hf1 with h | h | h | h <;> omega
  have hn2 := nsets_le hf1
  have hln : 1 ≤ xs.length := by omega
  have HF := hid hf4
  have HOK := hid hok
  clear hl hok hn2 hf1 hf4
  obtain ⟨gm, cm, rfl, hgm1, hgm2, him⟩ := hrm.form (by omega)
  clear him
  have hvm : ∀ b, (Value.slice (some ⟨gm, 0, none⟩) xs.length cm).ownBlock = some b → w.heap.size + 1 ≤ b ∧ b = gm := fun b e => by have := own_eq e; omega
  go_wp2_with fail
  refine (specNormalMass_any s gm _ cm xs _ (hrm.view.below (by (repeat (first | exact Below.refl _ _ | assumption | refine Below.alloc ?_ (by first | omega | (simp <;> omega)) _ | refine Below.setCell ?_ (by first | omega | (simp <;> omega)) _ | refine Below.drew ?_ | refine below_drewN ?_)))) HOK.out).mono ?_; rintro e w2 ⟨⟨vk, rfl, hrk⟩, hb⟩
  have hY2 : w1.heap.size + 1 ≤ w2.heap.size := by have := hb.size; simp at this; omega
  have m0 := keep hb (a := ⟨w1.heap.size, 0, none⟩) (v := .int .i64 s) (by simp)
  have fm0 := Span.belowKeepF hb (b := w1.heap.size) (o := 0) ⟨by simp <;> omega, by simp⟩ (by simp <;> omega)
  have m1 := keep hb (a := ⟨w1.heap.size, 1, none⟩) (v := .slice (some ⟨gm, 0, none⟩) xs.length cm) (by simp)
  have fm1 := Span.belowKeepF hb (b := w1.heap.size) (o := 1) ⟨by simp <;> omega, by simp⟩ (by simp <;> omega)
  have ht : Below w1.heap.size w1 w2 := Below.trans (by (repeat (first | exact Below.refl _ _ | assumption | refine Below.alloc ?_ (by first | omega | (simp <;> omega)) _ | refine Below.setCell ?_ (by first | omega | (simp <;> omega)) _ | refine Below.drew ?_ | refine below_drewN ?_))) (hb.mono (by simp <;> omega))
  replace r0 := keep ht r0
  replace r1 := keep ht r1
  replace fr0 := Span.belowKeepF ht fr0 (by omega)
  replace fr1 := Span.belowKeepF ht fr1 (by omega)
  replace hrm := hrm.below ht
  replace hrd := hrd.on ht
  replace hsp := hsp.trans (Span.of_below ht)
  have hZ2 := ht.size
  clear ht hb
  have gfm0 := fm0.2
  have gfm1 := fm1.2
  replace gfr0 := fr0.2
  replace gfr1 := fr1.2
  have HK : Hid ((mkMass s (xs.set 0 0)).ok = true → massOk (mkMass s (xs.set 0 0)).size (mkMass s (xs.set 0 0)).parts = true) := fun h => by have h2 := mkMass_parts h; rw [h2.2.1]; exact h2.2.2.2.1
  generalize (mkMass s (xs.set 0 0)).ok = ok at *
  generalize (mkMass s (xs.set 0 0)).size = sk at *
  generalize (mkMass s (xs.set 0 0)).parts = ks at *
  have hkb : ∀ b, vk.ownBlock = some b → w1.heap.size < b := fun b e => by have h_q := (hrk.block b e).1; simp at h_q; omega
  replace hrk := hrk.mono (base' := w.heap.size + 1) (by first | omega | (simp <;> omega))
  have rb : Bx _ w.heap.size _ _ := ⟨r0, r1, gfr0, gfr1, fr0.1⟩
  cases ok
  · obtain ⟨ak, nk, ck, rfl, hik⟩ := hrk.ints
    clear hik hrk
    clear r0 r1 gfr0 gfr1 fr0 fr1
    go_wp2_with fail
    refine (l3Bad_any R _ _ s (w.heap.size + 1) gm _ cm xs (hrm.below (by (repeat (first | exact Below.refl _ _ | assumption | refine Below.alloc ?_ (by first | omega | (simp <;> omega)) _ | refine Below.setCell ?_ (by first | omega | (simp <;> omega)) _ | refine Below.drew ?_ | refine below_drewN ?_)))) (by omega) (by omega) hf3 hs10.1 hs10.2 (fun j hj => HF.out j hj) (hrd.on (by (repeat (first | exact Below.refl _ _ | assumption | refine Below.alloc ?_ (by first | omega | (simp <;> omega)) _ | refine Below.setCell ?_ (by first | omega | (simp <;> omega)) _ | refine Below.drew ?_ | refine below_drewN ?_)))) (by omega)).mono ?_; rintro e wb ⟨_, rfl, ⟨sb, pb, xb, rfl, hrb, hlb⟩, hrdn, hs⟩
    have rbb := Bx.spanB (rb.below (by (repeat (first | exact Below.refl _ _ | assumption | refine Below.alloc ?_ (by first | omega | (simp <;> omega)) _ | refine Below.setCell ?_ (by first | omega | (simp <;> omega)) _ | refine Below.drew ?_ | refine below_drewN ?_)))) hs (by omega) (by omega)
    have hspb := SpanB.span (hsp.on (by (repeat (first | exact Below.refl _ _ | assumption | refine Below.alloc ?_ (by first | omega | (simp <;> omega)) _ | refine Below.setCell ?_ (by first | omega | (simp <;> omega)) _ | refine Below.drew ?_ | refine below_drewN ?_)))) hs (by omega)
    obtain ⟨ab, nb, cb, rfl, hib⟩ := hrb.ints
    clear hib
    obtain ⟨r0, r1, gfr0, gfr1, hrl⟩ := rbb
    go_wp2
    refine bodyPost_ret (v := .agg #[.int .i64 sb, .slice ab nb cb]) (by simp [results, Tryz.results108, go_sem, r0, r1]) rfl ⟨_, rfl, ⟨_, _, xb, rfl, ?_, hlb⟩, ?_, ?_⟩
    · refine Row.mono (base := w.heap.size + 1) ?_ (by omega)
      (repeat (first | exact hrb | (refine Row.setBelow ?_ ?_ _; rotate_left; focus (first | (omega) | (simp; done) | (simp; omega))) | (refine Row.setOther ?_ ?_ _; rotate_left; focus (intro h_own; have h_own2 := own_eq h_own; first | (omega) | (simp at h_own2; omega))) | refine Row.below ?_ (below_alloc _ _)))
    · exact (hrdn.below (B := R + 1) (by (repeat (first | exact Below.refl _ _ | assumption | refine Below.alloc ?_ (by first | omega | (simp <;> omega)) _ | refine Below.setCell ?_ (by first | omega | (simp <;> omega)) _ | refine Below.drew ?_ | refine below_drewN ?_))) (by omega)).mono (by omega)
    · exact hspb.on (by (repeat (first | exact Below.refl _ _ | assumption | refine Below.alloc ?_ (by first | omega | (simp <;> omega)) _ | refine Below.setCell ?_ (by first | omega | (simp <;> omega)) _ | refine Below.drew ?_ | refine below_drewN ?_)))
  · obtain ⟨hk1, -, hk3, hk4, -⟩ := massOk_facts (HK.out rfl)
    have hk10 : -10 ≤ sk ∧ sk ≤ 10 := by rcases okSize_iff.1 hk1 with h | h | h | h <;> omega
    have hkl : 1 ≤ ks.length := by have h1 := (massOk_facts (HK.out rfl)).2.1; have h2 := nsets_le hk1; omega
    have HKB := hid hk4
    clear hk4 hk1
    obtain ⟨gk, ck, rfl, hgk1, hgk2, hik⟩ := hrk.form (by omega)
    clear hik
    have hvk : ∀ b, (Value.slice (some ⟨gk, 0, none⟩) ks.length ck).ownBlock = some b → w.heap.size + 1 ≤ b ∧ b = gk := fun b e => by have := own_eq e; omega
    have hmb : w1.heap.size < w2.heap.size := World.block_lt_of_cell? _ _ m0
    have hmk : gk ≠ w1.heap.size := by have := hkb gk rfl; omega
    clear rb
    go_wp2_with fail
    refine (pick_any R _ _ _ (hrd.on (by (repeat (first | exact Below.refl _ _ | assumption | refine Below.alloc ?_ (by first | omega | (simp <;> omega)) _ | refine Below.setCell ?_ (by first | omega | (simp <;> omega)) _ | refine Below.drew ?_ | refine below_drewN ?_)))) (by omega) (by omega)).mono ?_; rintro e w3 ⟨_, rfl, ⟨z, rfl, hz0, hz1⟩, hrdn, hs⟩
    clear hrd
    have hrd := hrdn
    clear hrdn
    have hY3 : w2.heap.size + 1 ≤ w3.heap.size := by have := hs.size; simp at this; omega
    have k0 := Span.keep hs (b := w2.heap.size) (o := 0) (v := .int .i64 sk) (by simp) (by omega)
    have fk0 := Span.keepF hs (b := w2.heap.size) (o := 0) ⟨by simp <;> omega, by simp⟩ (by omega)
    have k1 := Span.keep hs (b := w2.heap.size) (o := 1) (v := .slice (some ⟨gk, 0, none⟩) ks.length ck) (by simp) (by omega)
    have fk1 := Span.keepF hs (b := w2.heap.size) (o := 1) ⟨by simp <;> omega, by simp⟩ (by omega)
    have ht : Span R (R + 1) w2 w3 := Span.trans (Span.of_below (by (repeat (first | exact Below.refl _ _ | assumption | refine Below.alloc ?_ (by first | omega | (simp <;> omega)) _ | refine Below.setCell ?_ (by first | omega | (simp <;> omega)) _ | refine Below.drew ?_ | refine below_drewN ?_)))) hs
    replace r0 := Span.keep ht r0 (by omega)
    replace r1 := Span.keep ht r1 (by omega)
    replace m0 := Span.keep ht m0 (by omega)
    replace m1 := Span.keep ht m1 (by omega)
    replace fr0 := Span.keepF ht fr0 (by omega)
    replace fr1 := Span.keepF ht fr1 (by omega)
    replace fm0 := Span.keepF ht fm0 (by omega)
    replace fm1 := Span.keepF ht fm1 (by omega)
    replace hrm := Span.row ht hrm (fun b e => by have := hvm b e; omega)
    replace hrk := Span.row ht hrk (fun b e => by have := hvk b e; omega)
    replace hsp := hsp.trans ht
    have hZ3 := ht.size
    clear ht hs
    have gfk0 := fk0.2
    have gfk1 := fk1.2
    replace gfr0 := fr0.2
    replace gfr1 := fr1.2
    replace gfm0 := fm0.2
    replace gfm1 := fm1.2
    have rb : Bx _ w.heap.size _ _ := ⟨r0, r1, gfr0, gfr1, fr0.1⟩
    clear r0 r1 gfr0 gfr1 fr0 fr1
    by_cases e0 : 0 < z
    · go_wp2_with fail
      obtain ⟨wq, hwq⟩ : ∃ q, (World.setCell w3 ⟨w1.heap.size, 0, none⟩ (.int .i64 sk)).setCell ⟨w1.heap.size, 1, none⟩ (.slice (some ⟨gk, 0, none⟩) ks.length ck) = q := ⟨_, rfl⟩
      rw [hwq]
      have rbq : Bx wq w.heap.size (.int .i64 0) (.slice none 0 0) := by rw [← hwq]; exact rb.of_block (World.setCell2_other _ _ _ _ _ (by omega)) (by simp)
      have hrdq : Rd wq R (P + 42) := by rw [← hwq]; exact hrd.below (B := R + 1) (by (repeat (first | exact Below.refl _ _ | assumption | refine Below.alloc ?_ (by first | omega | (simp <;> omega)) _ | refine Below.setCell ?_ (by first | omega | (simp <;> omega)) _ | refine Below.drew ?_ | refine below_drewN ?_))) (by omega)
      have hspq : Span R (R + 1) w wq := by rw [← hwq]; exact hsp.on (by (repeat (first | exact Below.refl _ _ | assumption | refine Below.alloc ?_ (by first | omega | (simp <;> omega)) _ | refine Below.setCell ?_ (by first | omega | (simp <;> omega)) _ | refine Below.drew ?_ | refine below_drewN ?_)))
      have hrowq : Row wq (w.heap.size + 1) (.slice (some ⟨gk, 0, none⟩) ks.length ck) ks := by rw [← hwq]; exact hrk.put2 (fun k e => by have := own_eq e; omega)
      clear hwq
      refine (l3Bad_any R _ _ sk (w.heap.size + 1) gk _ ck ks hrowq (by omega) (by omega) hk3 hk10.1 hk10.2 (fun j hj => HKB.out j hj) hrdq (by omega)).mono ?_; rintro e wb ⟨_, rfl, ⟨sb, pb, xb, rfl, hrb, hlb⟩, hrdn, hs⟩
      have rbb := Bx.spanB rbq hs (by omega) (by omega)
      have hspb := SpanB.span hspq hs (by omega)
      obtain ⟨ab, nb, cb, rfl, hib⟩ := hrb.ints
      clear hib
      obtain ⟨r0, r1, gfr0, gfr1, hrl⟩ := rbb
      go_wp2
      refine bodyPost_ret (v := .agg #[.int .i64 sb, .slice ab nb cb]) (by simp [results, Tryz.results108, go_sem, r0, r1]) rfl ⟨_, rfl, ⟨_, _, xb, rfl, ?_, hlb⟩, ?_, ?_⟩
      · refine Row.mono (base := w.heap.size + 1) ?_ (by omega)
        (repeat (first | exact hrb | (refine Row.setBelow ?_ ?_ _; rotate_left; focus (first | (omega) | (simp; done) | (simp; omega))) | (refine Row.setOther ?_ ?_ _; rotate_left; focus (intro h_own; have h_own2 := own_eq h_own; first | (omega) | (simp at h_own2; omega))) | refine Row.below ?_ (below_alloc _ _)))
      · exact (hrdn.below (B := R + 1) (by (repeat (first | exact Below.refl _ _ | assumption | refine Below.alloc ?_ (by first | omega | (simp <;> omega)) _ | refine Below.setCell ?_ (by first | omega | (simp <;> omega)) _ | refine Below.drew ?_ | refine below_drewN ?_))) (by omega)).mono (by omega)
      · exact hspb.on (by (repeat (first | exact Below.refl _ _ | assumption | refine Below.alloc ?_ (by first | omega | (simp <;> omega)) _ | refine Below.setCell ?_ (by first | omega | (simp <;> omega)) _ | refine Below.drew ?_ | refine below_drewN ?_)))
    · go_wp2_with fail
      refine (l3Bad_any R _ _ s (w.heap.size + 1) gm _ cm xs hrm (by omega) (by omega) hf3 hs10.1 hs10.2 (fun j hj => HF.out j hj) hrd (by omega)).mono ?_; rintro e wb ⟨_, rfl, ⟨sb, pb, xb, rfl, hrb, hlb⟩, hrdn, hs⟩
      have rbb := Bx.spanB rb hs (by omega) (by omega)
      have hspb := SpanB.span hsp hs (by omega)
      obtain ⟨ab, nb, cb, rfl, hib⟩ := hrb.ints
      clear hib
      obtain ⟨r0, r1, gfr0, gfr1, hrl⟩ := rbb
      go_wp2
      refine bodyPost_ret (v := .agg #[.int .i64 sb, .slice ab nb cb]) (by simp [results, Tryz.results108, go_sem, r0, r1]) rfl ⟨_, rfl, ⟨_, _, xb, rfl, ?_, hlb⟩, ?_, ?_⟩
      · refine Row.mono (base := w.heap.size + 1) ?_ (by omega)
        (repeat (first | exact hrb | (refine Row.setBelow ?_ ?_ _; rotate_left; focus (first | (omega) | (simp; done) | (simp; omega))) | (refine Row.setOther ?_ ?_ _; rotate_left; focus (intro h_own; have h_own2 := own_eq h_own; first | (omega) | (simp at h_own2; omega))) | refine Row.below ?_ (below_alloc _ _)))
      · exact (hrdn.below (B := R + 1) (by (repeat (first | exact Below.refl _ _ | assumption | refine Below.alloc ?_ (by first | omega | (simp <;> omega)) _ | refine Below.setCell ?_ (by first | omega | (simp <;> omega)) _ | refine Below.drew ?_ | refine below_drewN ?_))) (by omega)).mono (by omega)
      · exact hspb.on (by (repeat (first | exact Below.refl _ _ | assumption | refine Below.alloc ?_ (by first | omega | (simp <;> omega)) _ | refine Below.setCell ?_ (by first | omega | (simp <;> omega)) _ | refine Below.drew ?_ | refine below_drewN ?_)))
def SomeList (base : Nat) (v : Value) (w' : World) : Prop := ∃ xs, Row w' base v xs ∧ xs.length ≤ 6
set_option maxRecDepth 100000 in
set_option maxHeartbeats 4000000 in
theorem l10List_any (R P sz : Nat) (w : World) (hr : Rd w R P) (hP : P ≤ 340000000) (hsz : sz ≤ 5) :
    Calls Tryz.prog 178 #[.pointer (some ⟨R, 0, none⟩), .int .i64 sz] w (Drew R (P + 20) w (SomeList w.heap.size)) := by
  have hR := hr.1
  go_enter Tryz.func178, Tryz.ntmps178
  go_wp2
  go_loopw [5, 6] (fun o i wr => ∃ (k : Nat) (v : Value) (xs : List Int), k ≤ sz ∧ i = .int .i64 k ∧ o = v ∧ Row wr w.heap.size v xs ∧ xs.length = k ∧ Rd wr R (P + k) ∧ Span R (R + 1) w wr) (fun o i _ => sz - (intOf i).toNat)
  case atStart =>
    exact ⟨0, _, [], by omega, rfl, rfl, World.ownsRow_lit w #[] 0 (Nat.le_refl _) (by unfold maxLen; omega) rfl, rfl, hr.on (below_alloc w _), Span.of_below (below_alloc w _)⟩
  case round =>
    obtain ⟨k, v, xs, hk, rfl, rfl, hrow, hlx, hrd, hsp⟩ := hrel
    have hzr := hsp.size
    have hvb := hrow.block
    by_cases hlt : k < sz
    · have hk0 : (0 : Int) ≤ (k : Int) := by omega
      have hk1 : (k : Int) < (sz : Int) := by omega
      go_wp2_with fail
      refine (pick_any R _ _ _ hrd (by omega) (by omega)).mono ?_; rintro e w2 ⟨_, rfl, ⟨x, rfl, hx0, hx1⟩, hrd2, hs⟩
      have hrow2 := Span.row hs hrow (fun b e => by have := (hvb b e).1; omega)
      have hsub : IntKind.i64.wrap (x - 4) = x - 4 := IntWalk.i64_in _ (by omega)
      have hsp2 := hsp.trans hs
      have hz2 := hs.size
      clear hrow hrd hsp hs
      go_wp2_with (at_builtin; refine wpList_append_int rfl _ _ rfl w.heap.size _ _ k hlx (by rfl) (hrow2.below ((Below.refl _ _).alloc (Nat.le_refl _) _)) _ _ (x - 4) (by rfl) (by simp; first | done | exact hsub) (by omega) (by simp; omega) ?_; intro g' c' w' hrow' hgrow)
      have HB1 := below_grownBy (B := R + 1) (show Below (R + 1) w2 (w2.alloc _) from (below_alloc w2 _).mono (by omega)) (by simp; omega) hgrow (fun b e => by have := (hvb b e).1; omega)
      have HB2 := below_grownBy (B := w.heap.size) (show Below w.heap.size w2 (w2.alloc _) from (below_alloc w2 _).mono (by omega)) (by simp; omega) hgrow (fun b e => (hvb b e).1)
      have HR2 := hid (hrd2.below HB1 (by omega))
      have HS2 := hid (hsp2.on HB2)
      clear hgrow hrow2 hrd2 hsp2 HB1 HB2
      go_roundw
      case rel => first | exact ⟨k + 1, _, xs ++ [x - 4], by omega, by go_num, rfl, hrow', by rw [List.length_append, hlx]; rfl, HR2.out.mono (by omega), HS2.out⟩ | exact ⟨_, ⟨k + 1, _, xs ++ [x - 4], by omega, by go_num, rfl, hrow', by rw [List.length_append, hlx]; rfl, HR2.out.mono (by omega), HS2.out⟩, rfl⟩ | exact ⟨_, _, ⟨k + 1, _, xs ++ [x - 4], by omega, by go_num, rfl, hrow', by rw [List.length_append, hlx]; rfl, HR2.out.mono (by omega), HS2.out⟩, rfl, rfl⟩ | exact ⟨_, _, _, ⟨k + 1, _, xs ++ [x - 4], by omega, by go_num, rfl, hrow', by rw [List.length_append, hlx]; rfl, HR2.out.mono (by omega), HS2.out⟩, rfl, rfl, rfl⟩ | exact ⟨_, _, _, _, ⟨k + 1, _, xs ++ [x - 4], by omega, by go_num, rfl, hrow', by rw [List.length_append, hlx]; rfl, HR2.out.mono (by omega), HS2.out⟩, rfl, rfl, rfl, rfl⟩ | exact ⟨_, _, _, _, _, ⟨k + 1, _, xs ++ [x - 4], by omega, by go_num, rfl, hrow', by rw [List.length_append, hlx]; rfl, HR2.out.mono (by omega), HS2.out⟩, rfl, rfl, rfl, rfl, rfl⟩
      case measure => simp [intOf]; omega
    · obtain rfl : k = sz := by omega
      subst hlx
      obtain ⟨av, nv, cv, rfl, hi⟩ := hrow.ints
      obtain rfl : xs.length = nv := hi.len
      go_wp2_with fail
      refine (pick_any R _ _ _ hrd (by omega) (by omega)).mono ?_; rintro e w2 ⟨_, rfl, ⟨z, rfl, hz0, hz1⟩, hrd2, hs⟩
      have hrow2 := Span.row hs hrow (fun b e => by have := (hvb b e).1; omega)
      have hsp2 := hsp.trans hs
      have hz2 := hs.size
      clear hrow hrd hsp hs hi
      by_cases e0 : z = 0
      · subst e0
        go_wp2_with (at_builtin; refine wpList_append_int rfl _ _ rfl w.heap.size _ _ xs.length rfl (by rfl) (hrow2.below ((Below.refl _ _).alloc (Nat.le_refl _) _)) _ _ 0 (by rfl) (by simp) (by omega) (by simp; omega) ?_; intro g' c' w' hrow' hgrow)
        have HB1 := below_grownBy (B := R + 1) (show Below (R + 1) w2 (w2.alloc _) from (below_alloc w2 _).mono (by omega)) (by simp; omega) hgrow (fun b e => by have := (hvb b e).1; omega)
        have HB2 := below_grownBy (B := w.heap.size) (show Below w.heap.size w2 (w2.alloc _) from (below_alloc w2 _).mono (by omega)) (by simp; omega) hgrow (fun b e => (hvb b e).1)
        have HR2 := hrd2.below HB1 (by omega)
        have HS2 := hsp2.on HB2
        clear hgrow hrow2 hrd2 hsp2 HB1 HB2
        go_wp2
        go_ret
        exact ⟨_, rfl, ⟨_, hrow', by rw [List.length_append]; simp; omega⟩, HR2.mono (by omega), HS2⟩
      · have hz0' : (z == 0) = false := by simpa using e0
        by_cases e1 : z = 1
        · subst e1
          by_cases h0 : 0 < xs.length
          · obtain ⟨g, cg, he, hg1, hg2, hig⟩ := hrow2.form h0
            rw [he] at hrow2 hvb
            injection he with he1 he2 he3
            subst he1 he3
            have hgt : (0 : Int) < (xs.length : Int) := by omega
            go_wp2_with fail
            refine (num_any R _ _ 5 _ [1000, -1000, 1001, -1001, -9223372036854775808] _ (hrd2.on (by (repeat (first | exact Below.refl _ _ | assumption | refine Below.alloc ?_ (by first | omega | (simp <;> omega)) _ | refine Below.setCell ?_ (by first | omega | (simp <;> omega)) _ | refine Below.drew ?_ | refine below_drewN ?_)))) (by omega) (ints_lit w2 _ 3 [1000, -1000, 1001, -1001, -9223372036854775808] w2.heap.size 5 rfl (by simp) rfl (by omega)) (by omega) (by omega) (by omega)).mono ?_; rintro e w3 ⟨_, rfl, ⟨i, hi, rfl⟩, hrd3, hs⟩
            have ht : Span R (R + 1) w2 w3 := Span.trans (Span.of_below (by (repeat (first | exact Below.refl _ _ | assumption | refine Below.alloc ?_ (by first | omega | (simp <;> omega)) _ | refine Below.setCell ?_ (by first | omega | (simp <;> omega)) _ | refine Below.drew ?_ | refine below_drewN ?_)))) hs
            have hrow3 := Span.row ht hrow2 (fun b e => by have := (hvb b e).1; omega)
            have hsp3 := hsp2.trans ht
            have hz3 := ht.size
            clear hrow2 hrd2 hsp2 hs ht hig
            generalize nth [1000, -1000, 1001, -1001, -9223372036854775808] i = q
            obtain ⟨c0, d0, _⟩ := hrow3.cellAt h0
            obtain ⟨w4, hw4, hr4, hg4⟩ := store_gen hrow3 h0 q
            have HR4 := hid (hrd3.grown hg4 (by omega))
            have HS4 := hid (hsp3.grownOn hg4 (by omega))
            have HW := hid hw4
            clear hw4 hg4 hrow3 hrd3 hsp3
            go_wp2
            rw [HW.out]
            go_wp2
            go_ret
            exact ⟨_, rfl, ⟨_, hr4, by rw [List.length_set]; omega⟩, HR4.out.mono (by omega), HS4.out⟩
          · have h00 : xs.length = 0 := by omega
            rw [h00] at hrow2 ⊢
            go_wp2
            go_ret
            exact ⟨_, rfl, ⟨xs, hrow2, by omega⟩, hrd2.mono (by omega), hsp2⟩
        · have hz1' : (z == 1) = false := by simpa using e1
          go_wp2
          go_ret
          exact ⟨_, rfl, ⟨xs, hrow2, by omega⟩, hrd2.mono (by omega), hsp2⟩
/-- a drawn mass and a drawn list -/
def SomeWith (base : Nat) (v : Value) (w' : World) : Prop := ∃ s p xs q ys, v = .tuple #[.agg #[.int .i64 s, p], q] ∧ Row w' base p xs ∧ xs.length ≤ 17 ∧ Row w' base q ys ∧ ys.length ≤ 6
end Go.Proofs.YtefmlbahmakboaaGreatDoor
