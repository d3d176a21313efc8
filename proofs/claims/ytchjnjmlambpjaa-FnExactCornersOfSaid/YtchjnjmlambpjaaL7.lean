/- Contracts of the laws' helpers: lists of masses. -/
import Derived.Test.YtchjnjmlambpjaaC4
import Derived.Test.YtchjnjmlambpjaaX1
import Derived.Test.YtchjnjmlambpjaaLK
import Derived.Test.YtchjnjmlambpjaaL6
set_option linter.unusedSimpArgs false
set_option linter.unusedVariables false
namespace Go.Proofs.Ytchjnjmlambpjaa
open Go.RowKit
set_option maxHeartbeats 400000 in
theorem eqMassS_same (ao bo : Option Addr) (n c c' : Nat) (t : Nat → Int) (p : Nat → List Int) (w : World) (hx : MassesAt w ao n t p) (hy : MassesAt w bo n t p) :
    Calls Try.prog 16 #[.slice ao n c, .slice bo n c'] w fun e w' => e = .returned (.bool true) ∧ Below w.heap.size w w' := by
  have hcap := hx.cap
  have hnn : ((n : Int) != (n : Int)) = false := by simp
  go_enter Try.func16, Try.ntmps16
  go_wp2
  go_loopw [4, 5] (fun _ i wr => ∃ k : Nat, k ≤ n ∧ i = .int .i64 k ∧ Below w.heap.size w wr) (fun _ i _ => n - (intOf i).toNat)
  case atStart => exact ⟨0, by omega, rfl, Below.refl _ _⟩
  case round =>
    obtain ⟨k, hk, rfl, hB⟩ := hrel
    by_cases hlt : k < n
    · obtain ⟨b, a1, n1, c1, rfl, hbs, hbs', hc0, hc1, hi⟩ := hx.at hB hlt
      obtain ⟨b2, a2, n2, c2, rfl, hbs2, hbs2', hd0, hd1, hi2⟩ := hy.at hB hlt
      obtain rfl := hi.len
      obtain rfl := hi2.len
      have hk0 : (0 : Int) ≤ (k : Int) := by omega
      have hk1 : (k : Int) < (n : Int) := by omega
      go_wp2
      refine wp_region_ov_tail 8 (by kernel_rfl) (by kernel_rfl) (fun _ _ _ _ _ h => h) ?_
      simp only [List.take_succ_cons, List.take_zero, List.drop_succ_cons, List.drop_zero]
      repeat (first | go_big_quiet_step ((fail)) | quiet_step ((fail)))
      refine wpQuiet_nil ?_
      intro _ hw_ov
      obtain ⟨x_ov, hw_ov2⟩ := hw_ov
      subst hw_ov2
      obtain ⟨w3, hw_ov3, hb3⟩ := ov_gen _ x_ov
      rw [hw_ov3]
      clear hw_ov3 x_ov
      go_wp2_with fail
      refine (eqMass_same _ _ _ _ _ _ _ _ (hi.below hb3) (hi2.below hb3)).mono ?_; rintro e w4 ⟨rfl, hb4⟩
      have hB4 := hid (chain (chain hB hb3) hb4)
      clear hb3 hb4
      go_wp2
      go_roundw
      case rel => first | exact ⟨k + 1, by omega, by go_num, hB4.out⟩ | exact ⟨_, ⟨k + 1, by omega, by go_num, hB4.out⟩, rfl⟩ | exact ⟨_, _, ⟨k + 1, by omega, by go_num, hB4.out⟩, rfl, rfl⟩ | exact ⟨_, _, _, ⟨k + 1, by omega, by go_num, hB4.out⟩, rfl, rfl, rfl⟩ | exact ⟨_, _, _, _, ⟨k + 1, by omega, by go_num, hB4.out⟩, rfl, rfl, rfl, rfl⟩ | exact ⟨_, _, _, _, _, ⟨k + 1, by omega, by go_num, hB4.out⟩, rfl, rfl, rfl, rfl, rfl⟩
      case measure => simp [intOf]; omega
    · go_wp2
      go_ret
      exact ⟨rfl, hB⟩
/-- the mark before the mass k -/
def mq (q : Int) (p : Nat → List Int) (k : Nat) : Int := iter (fun j t => t + 1 + ((p j).length : Int)) q k
theorem mq_succ (q : Int) (p : Nat → List Int) (k : Nat) : mq q p (k + 1) = mq q p k + 1 + ((p k).length : Int) := rfl
theorem mq_bd (q : Int) (p : Nat → List Int) (n : Nat) (hp : ∀ k, k < n → (p k).length ≤ 1000) : ∀ k, k ≤ n → q ≤ mq q p k ∧ mq q p k ≤ q + 1001 * (k : Int) := by
  intro k
  induction k with
  | zero => intro _; exact ⟨Int.le_refl _, by show q ≤ q + 1001 * ((0 : Nat) : Int); omega⟩
  | succ k ih =>
    intro hk
    have h1 := ih (by omega)
    have h2 := hp k (by omega)
    rw [mq_succ]
    omega
theorem MassesO.size {w : World} {base g n c : Nat} {t p} (h : MassesO w base (.slice (some ⟨g, 0, none⟩) n c) n t p) {k : Nat} (hk : k < n) (z : Int) :
    MassesO (w.setCell ⟨g, k * 2, none⟩ (.int .i64 z)) base (.slice (some ⟨g, 0, none⟩) n c) n (fun i => if i = k then z else t i) p ∧ w.grownBy (w.setCell ⟨g, k * 2, none⟩ (.int .i64 z)) (some g) ∧ w.frozen? ⟨g, k * 2, none⟩ = false ∧ w.cell? ⟨g, k * 2, none⟩ = some (.int .i64 (t k)) := by
  obtain ⟨vals, u, h1, h3, h4⟩ := h.own
  have hst := World.ownsRow.stored h1 (k * 2) (.int .i64 z)
  have hvl : vals.length = n * 2 := h1.1
  refine ⟨⟨vals.set (k * 2) (.int .i64 z), u, hst.1, fun i hi => ?_, h4⟩, hst.2, World.ownsRow.frozenAt h1 _, ?_⟩
  · obtain ⟨e0, e1, e2, e3⟩ := h3 i hi
    refine ⟨?_, ?_, e2.grown hst.2 ?_, e3⟩
    · rw [List.getElem?_set]
      by_cases e : i = k
      · subst e; rw [if_pos rfl, if_pos (by omega)]; simp
      · rw [if_neg (by omega), e0]; simp [e]
    · rw [List.getElem?_set, if_neg (by omega), e1]
    · cases hz : (u i).ownBlock with
      | none => exact .inl rfl
      | some b => exact .inr (fun e => e3 b hz (by rw [e]; rfl))
  · rw [World.ownsRow.cellAt h1 _ (by omega)]; exact (h3 k hk).1
theorem MassesO.part {w : World} {base g n c : Nat} {t p} (h : MassesO w base (.slice (some ⟨g, 0, none⟩) n c) n t p) {k : Nat} (hk : k < n) :
    ∃ z, w.cell? ⟨g, k * 2 + 1, none⟩ = some z ∧ Row w base z (p k) ∧ ∀ w1 ys, w.grownBy w1 z.ownBlock → Row w1 base z ys → MassesO w1 base (.slice (some ⟨g, 0, none⟩) n c) n t (fun i => if i = k then ys else p i) := by
  obtain ⟨vals, u, h1, h3, h4⟩ := h.own
  obtain ⟨e0, e1, e2, e3⟩ := h3 k hk
  refine ⟨u k, by rw [World.ownsRow.cellAt h1 _ (by omega)]; exact e1, e2, fun w1 ys hg hr => ⟨vals, u, h1.kept hg (.inr fun e => ?_), fun i hi => ?_, h4⟩⟩
  · exact e3 g (by rw [← e]; rfl) rfl
  · obtain ⟨d0, d1, d2, d3⟩ := h3 i hi
    refine ⟨d0, d1, ?_, d3⟩
    by_cases e : i = k
    · subst e; simpa using hr
    · simp only [if_neg e]
      refine d2.grown hg ?_
      cases hz : (u i).ownBlock with
      | none => exact .inl rfl
      | some b =>
        refine .inr fun e' => ?_
        rcases Nat.lt_or_gt_of_ne e with hl | hl
        · exact h4 i k hl hk b hz e'.symm
        · exact h4 k i hl hi b e'.symm hz
set_option maxHeartbeats 1000000 in
theorem markMassS_any (v : Value) (n base : Nat) (q : Int) (t : Nat → Int) (p : Nat → List Int) (w : World) (hm : MassesO w base v n t p) (hn : n ≤ 1000) (hp : ∀ k, k < n → (p k).length ≤ 1000) (hq0 : 0 ≤ q) (hq : q ≤ 1000000000) :
    Calls Try.prog 19 #[v, .int .i64 q] w fun e w' => e = .returned (.int .i64 (mq q p n)) ∧ MassesO w' base v n (fun i => mq q p i) (fun i => marks (mq q p i + 1) (p i).length) ∧ Span base w.heap.size w w' := by
  have HBD := hid (mq_bd q p n hp)
  have HP := hid hp; clear hp
  obtain ⟨ao, c, he, _⟩ := hm.form
  subst he
  go_enter Try.func19, Try.ntmps19
  go_wp2
  go_loopw [1, 5] (fun u i wr => ∃ k : Nat, k ≤ n ∧ i = .int .i64 k ∧ u = .int .i64 (mq q p k) ∧ MassesO wr base (.slice ao n c) n (fun i => if i < k then mq q p i else t i) (fun i => if i < k then marks (mq q p i + 1) (p i).length else p i) ∧ Span base w.heap.size w wr) (fun _ i _ => n - (intOf i).toNat)
  case atStart => exact ⟨0, by omega, rfl, rfl, hm.congr (fun k _ => by simp) (fun k _ => by simp), Span.refl _ _ _⟩
  case round =>
    clear hm
    obtain ⟨k, hk, rfl, rfl, hmk, hS⟩ := hrel
    obtain ⟨wo, rfl⟩ : ∃ q : World, q = wr := ⟨_, rfl⟩
    have hbd := HBD.out k hk
    have hk3 : (k : Int) ≤ 1000 := by omega
    by_cases hlt : k < n
    · obtain ⟨g, c', he, hgb, hgs⟩ := hmk.form2 (by omega)
      injection he with e1 e2 e3
      subst e1 e3
      clear e2
      have hpk := HP.out k hlt
      obtain ⟨hm2, hg2, hf2, hc2⟩ := hmk.size hlt (mq q p k)
      obtain ⟨w2, hw2⟩ : ∃ w2, wo.setCell ⟨g, k * 2, none⟩ (.int .i64 (mq q p k)) = w2 := ⟨_, rfl⟩
      rw [hw2] at hm2 hg2
      obtain ⟨z, hcz, hrz, hz⟩ := hm2.part hlt
      have HZ := hid hz; clear hz
      simp only [Nat.lt_irrefl, if_false] at hrz
      obtain ⟨az, nz, cz, rfl, hiz⟩ := hrz.ints
      have hnz := hiz.len
      subst hnz
      have HS2 := hid (hS.grown2 hg2 (fun b e => by injection e with e; subst e; have := hgs; omega))
      have HRB := hid hrz.block
      have hgs2 : g < w2.heap.size := Nat.lt_of_lt_of_le hgs hg2.size
      have hcw : wo.cell? ⟨g, k * 2 + 1, none⟩ = some (.slice az (p k).length cz) := by rw [← hw2] at hcz; exact (World.cell?_setCell_other _ ⟨g, k * 2, none⟩ ⟨g, k * 2 + 1, none⟩ _ (by simp)).symm.trans hcz
      have HW2 := hid hw2
      clear hw2 hg2 hmk hS
      go_wp2_with fail
      rw [HW2.out]
      refine (markIntS_any _ (p k) (p k).length _ base _ hrz rfl (by omega) (by omega) (by omega)).mono ?_; rintro e w3 ⟨rfl, hr3, hg3⟩
      have HM3 := hid ((HZ.out w3 _ hg3 hr3).congr (t' := fun i => if i < k + 1 then mq q p i else t i) (p' := fun i => if i < k + 1 then marks (mq q p i + 1) (p i).length else p i) (fun i hi => by
        by_cases e : i = k
        · subst e; simp
        · by_cases e2 : i < k
          · simp [e, e2, show i < k + 1 by omega]
          · simp [e, e2, show ¬ i < k + 1 by omega]) (fun i hi => by
        by_cases e : i = k
        · subst e; simp
        · by_cases e2 : i < k
          · simp [e, e2, show i < k + 1 by omega]
          · simp [e, e2, show ¬ i < k + 1 by omega]))
      have HS3 := hid (HS2.out.grown2 hg3 (fun b e => by have := HRB.out b e; omega))
      clear hr3 hg3 HZ
      go_wp2
      go_roundw
      case rel => first | exact ⟨k + 1, by omega, by go_num, by rw [mq_succ], HM3.out, HS3.out⟩ | exact ⟨_, ⟨k + 1, by omega, by go_num, by rw [mq_succ], HM3.out, HS3.out⟩, rfl⟩ | exact ⟨_, _, ⟨k + 1, by omega, by go_num, by rw [mq_succ], HM3.out, HS3.out⟩, rfl, rfl⟩ | exact ⟨_, _, _, ⟨k + 1, by omega, by go_num, by rw [mq_succ], HM3.out, HS3.out⟩, rfl, rfl, rfl⟩ | exact ⟨_, _, _, _, ⟨k + 1, by omega, by go_num, by rw [mq_succ], HM3.out, HS3.out⟩, rfl, rfl, rfl, rfl⟩ | exact ⟨_, _, _, _, _, ⟨k + 1, by omega, by go_num, by rw [mq_succ], HM3.out, HS3.out⟩, rfl, rfl, rfl, rfl, rfl⟩
      case measure => simp [intOf]; omega
    · have hkn : k = n := by omega
      have HK := hid hkn
      have HMQ : Hid (mq q p n = mq q p k) := by rw [Hid, hkn]
      clear hkn
      go_wp2
      go_ret
      exact ⟨by rw [HMQ.out]; rfl, hmk.congr (fun i hi => by rw [if_pos (by rw [HK.out]; exact hi)]) (fun i hi => by rw [if_pos (by rw [HK.out]; exact hi)]), hS⟩
set_option maxHeartbeats 400000 in
theorem heldMassS_any (ao : Option Addr) (n c : Nat) (q : Int) (p : Nat → List Int) (w : World) (hx : MassesAt w ao n (fun i => mq q p i) (fun i => marks (mq q p i + 1) (p i).length)) (hn : n ≤ 1000) (hp : ∀ k, k < n → (p k).length ≤ 1000) (hq0 : 0 ≤ q) (hq : q ≤ 1000000000) :
    Calls Try.prog 20 #[.slice ao n c, .int .i64 q] w fun e w' => e = .returned (.int .i64 (mq q p n)) ∧ w = w' := by
  have HBD := hid (mq_bd q p n hp)
  have HP := hid hp; clear hp
  go_enter Try.func20, Try.ntmps20
  go_wp2
  go_loop [1, 4, 5] (fun u _ i => ∃ k : Nat, k ≤ n ∧ i = .int .i64 k ∧ u = .int .i64 (mq q p k)) (fun _ _ i => n - (intOf i).toNat)
  case atStart => exact ⟨0, by omega, rfl, rfl⟩
  case round =>
    obtain ⟨k, hk, rfl, rfl⟩ := hrel
    have hbd := HBD.out k hk
    have hk3 : (k : Int) ≤ 1000 := by omega
    by_cases hlt : k < n
    · obtain ⟨b, a', n', c', rfl, hbs, hbs', hc0, hc1, hi⟩ := hx.at (Below.refl _ _) hlt
      have hpk := HP.out k hlt
      have hil := hi.len
      rw [marks_len] at hil
      subst hil
      have hneq : (mq q p k != mq q p k) = false := by simp
      go_wp2_with fail
      refine (heldIntS_any _ _ _ _ _ hi (by omega) (by omega) (by omega)).mono ?_; rintro e w1 ⟨rfl, rfl⟩
      go_wp2
      go_round
      case rel => first | exact ⟨k + 1, by omega, by go_num, by rw [mq_succ]⟩ | exact ⟨_, ⟨k + 1, by omega, by go_num, by rw [mq_succ]⟩, rfl⟩ | exact ⟨_, _, ⟨k + 1, by omega, by go_num, by rw [mq_succ]⟩, rfl, rfl⟩ | exact ⟨_, _, _, ⟨k + 1, by omega, by go_num, by rw [mq_succ]⟩, rfl, rfl, rfl⟩ | exact ⟨_, _, _, _, ⟨k + 1, by omega, by go_num, by rw [mq_succ]⟩, rfl, rfl, rfl, rfl⟩ | exact ⟨_, _, _, _, _, ⟨k + 1, by omega, by go_num, by rw [mq_succ]⟩, rfl, rfl, rfl, rfl, rfl⟩
      case measure => simp [intOf]; omega
    · have hkn : k = n := by omega
      have HK := hid hkn
      have HMQ : Hid (mq q p n = mq q p k) := by rw [Hid, hkn]
      clear hkn
      go_wp2
      go_ret
      exact ⟨by rw [HMQ.out]; rfl, rfl⟩
end Go.Proofs.Ytchjnjmlambpjaa
