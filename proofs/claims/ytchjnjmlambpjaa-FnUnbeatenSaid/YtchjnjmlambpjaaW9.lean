/- Acts compared: impl.BeatsAct. -/
import Derived.Test.YtchjnjmlambpjaaW8
import Derived.Deep.RegionHeld3
set_option linter.unusedSimpArgs false
set_option linter.unusedVariables false
namespace Go.Proofs.Ytchjnjmlambpjaa
open Go.RowKit
section
variable {P : Program} {md : Region.Mode} {ops : Array Oper} {Q : Exit → Act → World → Prop} {S : World → Prop}
/-- the one operation that may come up is carried out; behind it S is shown anew -/
theorem heldStep (i : Nat) {o : Oper} {fuel : Nat} {listed : Array Bool} {a : Act} {w : World} (ho : ops[i]? = some o) (hr : Region.ready md ops listed = [i]) (hw : Region.wanted o (yielded ops a.tmps) = true)
    (h : ∀ K : Act → World → Prop, (∀ a' w', S w' → wpAnyH P md ops Q S fuel (listed.setIfInBounds i true) a' w' → K a' w') → Oper.wp P o a w K Q) : wpAnyH P md ops Q S (fuel + 1) listed a w := by
  refine wpAnyH_all hr (by simp) (fun j hj => ?_)
  obtain rfl : j = i := by simpa using hj
  unfold wpOp
  simp only [ho, hw, if_true]
  exact Or.inl (h _ fun a' w' h1 h2 => ⟨h1, h2⟩)
end
theorem rows_two (W : World) (g : Nat) (t : TypeId) (ao bo : Option Addr) (n c m d : Nat) (xs ys : List Int) (hg : g = W.heap.size) (hx : IntsAt W ao n xs) (hy : IntsAt W bo m ys) :
    RowsAt (W.alloc (.cells #[.slice ao n c, .slice bo m d] t)) (some ⟨g, 0, none⟩) 2 [xs, ys] := by
  subst hg
  refine ⟨rfl, by omega, fun _ => ⟨W.heap.size, 0, rfl, by simp, fun k hk => ?_⟩⟩
  match k, hk with
  | 0, _ => exact ⟨ao, n, c, by simp, hx.below (below_alloc _ _)⟩
  | 1, _ => exact ⟨bo, m, d, by simp, hy.below (below_alloc _ _)⟩
theorem actsOk_two (s : Int) (xs f g : List Int) : actsOk s xs [f, g] = (normalOk s xs && (gainsOk s f && gainsOk s g)) := by
  unfold actsOk
  show (normalOk s xs && (inB 1 8 2 && ((true && gainsOk s f) && gainsOk s g))) = _
  rw [Bool.true_and]; rfl
set_option maxHeartbeats 1000000 in
theorem BeatsAct_any (s : Int) (ao fo go : Option Addr) (n c m d p q : Nat) (xs f g : List Int) (w : World) (hx : IntsAt w ao n xs) (hf : IntsAt w fo m f) (hg : IntsAt w go p g) :
    Calls Try.prog 43 #[.agg #[.int .i64 s, .slice ao n c], .slice fo m d, .slice go p q] w fun e w' => e = .returned (.bool (beatsM s xs f g)) ∧ Below w.heap.size w w' := by
  have hBa := below_alloc w (.cells #[.int .i64 s, .slice ao n c] 28)
  have hx1 := hx.below hBa
  have hp0 : (w.alloc (.cells #[.int .i64 s, .slice ao n c] 28)).cell? ⟨w.heap.size, 0, none⟩ = some (.int .i64 s) := by simp
  have hp1 : (w.alloc (.cells #[.int .i64 s, .slice ao n c] 28)).cell? ⟨w.heap.size, 1, none⟩ = some (.slice ao n c) := by simp
  have hf1 := hf.below hBa
  have hg1 := hg.below hBa
  cases hA : actsOk s xs [f, g]
  · have HE : Hid (beatsM s xs f g = false) := by
      show beatsM s xs f g = false; rw [actsOk_two] at hA; unfold beatsM
      rw [← Bool.and_assoc (gainsOk s f), ← Bool.and_assoc (normalOk s xs), hA]; rfl
    go_enter Try.func43, Try.ntmps43
    go_wp2
    refine wp_region_held (S := (fun w' => w'.cell? ⟨w.heap.size, 0, none⟩ = some (.int .i64 s) ∧ w'.cell? ⟨w.heap.size, 1, none⟩ = some (.slice ao n c) ∧ Below (w.alloc (.cells #[.int .i64 s, .slice ao n c] 28)).heap.size (w.alloc (.cells #[.int .i64 s, .slice ao n c] 28)) w')) (by kernel_rfl) ?_
    change wpAnyH _ _ _ _ _ _ _ _ (World.drew _)
    have hS : (fun w' => w'.cell? ⟨w.heap.size, 0, none⟩ = some (.int .i64 s) ∧ w'.cell? ⟨w.heap.size, 1, none⟩ = some (.slice ao n c) ∧ Below (w.alloc (.cells #[.int .i64 s, .slice ao n c] 28)).heap.size (w.alloc (.cells #[.int .i64 s, .slice ao n c] 28)) w') (World.drew (w.alloc (.cells #[.int .i64 s, .slice ao n c] 28))) := ⟨by simp, by simp, by (repeat (first | exact Below.refl _ _ | assumption | refine Below.alloc ?_ (by simp <;> omega) _ | refine Below.setCell ?_ (by simp <;> omega) _ | refine Below.drew ?_ | refine below_drewN ?_))⟩
    refine wpAnyH_take (i := 0) (v := ?_) rfl (by kernel_rfl) (by kernel_rfl) (by kernel_rfl) (fun _ _ _ h => h) (Or.inl ⟨by rfl, fun w' hS' => ?_⟩) hS ?_
    rotate_left
    · obtain ⟨hs1, hs2, hs3⟩ := hS'
      go_simp
      first | done | rfl
    simp only [Act.put]
    refine wpAnyH_take (i := 1) (v := ?_) rfl (by kernel_rfl) (by kernel_rfl) (by kernel_rfl) (fun _ _ _ h => h) (Or.inl ⟨by rfl, fun w' hS' => ?_⟩) hS ?_
    rotate_left
    · obtain ⟨hs1, hs2, hs3⟩ := hS'
      go_simp
      first | done | rfl
    simp only [Act.put]
    refine wpAnyH_take (i := 2) (v := ?_) rfl (by kernel_rfl) (by kernel_rfl) (by kernel_rfl) (fun _ _ _ h => h) (Or.inl ⟨by rfl, fun w' hS' => ?_⟩) hS ?_
    rotate_left
    · obtain ⟨hs1, hs2, hs3⟩ := hS'
      go_simp
      first | done | rfl
    simp only [Act.put]
    refine heldStep 3 rfl (by kernel_rfl) (by rfl) (fun K hK => ?_)
    go_simp
    refine hK _ _ ⟨by simp, by simp, by (repeat (first | exact Below.refl _ _ | assumption | refine Below.alloc ?_ (by simp <;> omega) _ | refine Below.setCell ?_ (by simp <;> omega) _ | refine Below.drew ?_ | refine below_drewN ?_))⟩ ?_
    clear hK K hS
    refine heldStep 4 rfl (by kernel_rfl) (by rfl) (fun K hK => ?_)
    go_simp
    refine (areActs_any _ _ _ _ _ _ _ xs [f, g] _ (hx1.below (by (repeat (first | exact Below.refl _ _ | assumption | refine Below.alloc ?_ (by simp <;> omega) _ | refine Below.setCell ?_ (by simp <;> omega) _ | refine Below.drew ?_ | refine below_drewN ?_)))) ((rows_two _ _ _ _ _ _ _ _ _ f g (by simp) hf1 hg1).below (drew_below _))).mono ?_
    rw [hA]; rintro e w1 ⟨rfl, hb1⟩
    have hB1 : Below (w.alloc (.cells #[.int .i64 s, .slice ao n c] 28)).heap.size (w.alloc (.cells #[.int .i64 s, .slice ao n c] 28)) w1 := Below.trans (by (repeat (first | exact Below.refl _ _ | assumption | refine Below.alloc ?_ (by simp <;> omega) _ | refine Below.setCell ?_ (by simp <;> omega) _ | refine Below.drew ?_ | refine below_drewN ?_))) (hb1.mono (by simp <;> omega))
    have hS : (fun w' => w'.cell? ⟨w.heap.size, 0, none⟩ = some (.int .i64 s) ∧ w'.cell? ⟨w.heap.size, 1, none⟩ = some (.slice ao n c) ∧ Below (w.alloc (.cells #[.int .i64 s, .slice ao n c] 28)).heap.size (w.alloc (.cells #[.int .i64 s, .slice ao n c] 28)) w') w1 := ⟨keep hB1 hp0, keep hB1 hp1, hB1⟩
    go_simp
    refine hK _ _ hS ?_
    clear hK K
    refine wpAnyH_take (i := 5) (v := ?_) rfl (by kernel_rfl) (by kernel_rfl) (by kernel_rfl) (fun _ _ _ h => h) (Or.inl ⟨by rfl, fun w' hS' => ?_⟩) hS ?_
    rotate_left
    · obtain ⟨hs1, hs2, hs3⟩ := hS'
      go_simp
      first | done | rfl
    simp only [Act.put]
    refine wpAnyH_take (i := 6) (v := undef) rfl (by kernel_rfl) (by kernel_rfl) (by kernel_rfl) (fun _ _ _ h => h) (Or.inr ⟨by rfl, rfl⟩) hS ?_
    simp only [Act.put]
    refine wpAnyH_take (i := 7) (v := undef) rfl (by kernel_rfl) (by kernel_rfl) (by kernel_rfl) (fun _ _ _ h => h) (Or.inr ⟨by rfl, rfl⟩) hS ?_
    simp only [Act.put]
    refine wpAnyH_take (i := 8) (v := undef) rfl (by kernel_rfl) (by kernel_rfl) (by kernel_rfl) (fun _ _ _ h => h) (Or.inr ⟨by rfl, rfl⟩) hS ?_
    simp only [Act.put]
    refine wpAnyH_take (i := 9) (v := undef) rfl (by kernel_rfl) (by kernel_rfl) (by kernel_rfl) (fun _ _ _ h => h) (Or.inr ⟨by rfl, rfl⟩) hS ?_
    simp only [Act.put]
    refine wpAnyH_take (i := 10) (v := undef) rfl (by kernel_rfl) (by kernel_rfl) (by kernel_rfl) (fun _ _ _ h => h) (Or.inr ⟨by rfl, rfl⟩) hS ?_
    simp only [Act.put]
    refine wpAnyH_take (i := 11) (v := undef) rfl (by kernel_rfl) (by kernel_rfl) (by kernel_rfl) (fun _ _ _ h => h) (Or.inr ⟨by rfl, rfl⟩) hS ?_
    simp only [Act.put]
    refine wpAnyH_take (i := 12) (v := ?_) rfl (by kernel_rfl) (by kernel_rfl) (by kernel_rfl) (fun _ _ _ h => h) (Or.inl ⟨by rfl, fun w' hS' => ?_⟩) hS ?_
    rotate_left
    · obtain ⟨hs1, hs2, hs3⟩ := hS'
      go_simp
      first | done | rfl
    simp only [Act.put]
    refine wpAnyH_take (i := 13) (v := ?_) rfl (by kernel_rfl) (by kernel_rfl) (by kernel_rfl) (fun _ _ _ h => h) (Or.inl ⟨by rfl, fun w' hS' => ?_⟩) hS ?_
    rotate_left
    · obtain ⟨hs1, hs2, hs3⟩ := hS'
      go_simp
      first | done | rfl
    simp only [Act.put]
    refine wpAnyH_done (by kernel_rfl) ?_ _
    go_wp2
    go_ret
    exact ⟨by rw [HE.out]; rfl, hBa.trans (hB1.mono (by simp))⟩
  · rw [actsOk_two] at hA
    have hA2 := hA
    simp only [Bool.and_eq_true] at hA2
    obtain ⟨hN, hF, hG⟩ := hA2
    obtain ⟨hm, h0⟩ := normalOk_facts hN
    have HE : Hid (beatsM s xs f g = decide (0 < lowSumTo xs (subTo f g m) n)) := by show beatsM s xs f g = _; unfold beatsM; rw [hN, hF, hG, hf.len, hx.len]; rfl
    obtain ⟨hfl, hfb⟩ := gainsOk_facts hF
    obtain ⟨hgl, hgb⟩ := gainsOk_facts hG
    obtain ⟨hsz, hlen, h16, hbd, _, _, _⟩ := massOk_facts' hm
    have hpm : p = m := by have := hf.len; have := hg.len; omega
    subst hpm
    have hs4 := okSize_iff.1 hsz
    have h29 : p ≤ 29 := by have := hf.len; omega
    have h100 : p ≤ 100 := by omega
    have hn16 : n ≤ 16 := by have := hx.len; omega
    have HFB : Hid (∀ k, k < p → -1000 ≤ nth f k ∧ nth f k ≤ 1000) := fun k hk => hfb k (by rw [hf.len]; exact hk)
    have HGB : Hid (∀ k, k < p → -1000 ≤ nth g k ∧ nth g k ≤ 1000) := fun k hk => hgb k (by rw [hg.len]; exact hk)
    have HXB : Hid (∀ k, k < n → 0 ≤ nth xs k ∧ nth xs k ≤ 1000000) := fun k hk => hbd k (by rw [hx.len]; exact hk)
    have HSL := hid (subTo_len f g p)
    have HSB : Hid (∀ k, k < p → inG (nth (subTo f g p) k)) := fun k hk => by
      rw [subTo_nth _ _ _ _ hk]; have := HFB.out k hk; have := HGB.out k hk; unfold inG; omega
    have HGL : Hid (gainSum min xs (subTo f g p) = lowSumTo xs (subTo f g p) n) := by
      show gainTo min xs (subTo f g p) xs.length = _
      rw [hx.len]
      refine gain_low xs _ h0 (fun k hk => HSB.out k (by rw [← HSL.out]; exact hk)) n ?_ n (Nat.le_refl _)
      rw [HSL.out]
      have h1 := hx.len
      have h2 : s.toNat = p := by have := hf.len; omega
      rw [← h1, hlen, ← h2]; exact Nat.le_refl _
    have hA1 : actsOk s xs [f, g] = true := by rw [actsOk_two]; exact hA
    clear hfl hgl hlen h0 hs4 hfb hgb hbd hA hsz h16
    go_enter Try.func43, Try.ntmps43
    go_wp2
    go_region_held3 (fun w' => w'.cell? ⟨w.heap.size, 0, none⟩ = some (.int .i64 s) ∧ w'.cell? ⟨w.heap.size, 1, none⟩ = some (.slice ao n c) ∧ Below (w.alloc (.cells #[.int .i64 s, .slice ao n c] 28)).heap.size (w.alloc (.cells #[.int .i64 s, .slice ao n c] 28)) w') (first | (refine ⟨by assumption, by assumption, by assumption⟩; done) | (refine ⟨by simp [*], by simp [*], ?_⟩; (repeat (first | exact Below.refl _ _ | assumption | refine Below.alloc ?_ (by simp <;> omega) _ | refine Below.setCell ?_ (by simp <;> omega) _ | refine Below.drew ?_ | refine below_drewN ?_)); done)) (first | (go_at_call 93; refine (areActs_any _ _ _ _ _ _ _ xs [f, g] _ (hx1.below (by (repeat (first | exact Below.refl _ _ | assumption | refine Below.alloc ?_ (by simp <;> omega) _ | refine Below.setCell ?_ (by simp <;> omega) _ | refine Below.drew ?_ | refine below_drewN ?_)))) ((rows_two _ _ _ _ _ _ _ _ _ f g (by simp) hf1 hg1).below (drew_below _))).mono ?_; rw [hA1]; rintro e w1 ⟨rfl, hb1⟩; have hB1 : Below (w.alloc (.cells #[.int .i64 s, .slice ao n c] 28)).heap.size (w.alloc (.cells #[.int .i64 s, .slice ao n c] 28)) w1 := Below.trans (by (repeat (first | exact Below.refl _ _ | assumption | refine Below.alloc ?_ (by simp <;> omega) _ | refine Below.setCell ?_ (by simp <;> omega) _ | refine Below.drew ?_ | refine below_drewN ?_))) (hb1.mono (by simp <;> omega)); have k0 := keep hB1 hp0; have k1 := keep hB1 hp1) | (go_at_call 94; refine (lessAct_any _ _ _ _ _ f g _ (hf1.below hB1) (hg1.below hB1) h100 HFB.out HGB.out).mono ?_; rintro e w2 ⟨v, rfl, hr2, hb2⟩; obtain ⟨av, nv, cv, rfl, hv⟩ := hr2.ints; have hnv : nv = p := (by rw [← hv.len]; exact HSL.out); subst hnv; have hB2 := chain hB1 hb2; have k0 := keep hB2 hp0; have k1 := keep hB2 hp1) | (go_at_call 85; refine (lowestSum_any s _ _ _ _ _ _ xs (subTo f g _) _ (hx1.below hB2) hv hn16 h29 HXB.out HSB.out).mono ?_; rintro e w3 ⟨rfl, hb3⟩; have hB3 := chain hB2 hb3; have k0 := keep hB3 hp0; have k1 := keep hB3 hp1))
    all_goals
      go_wp2
      go_ret
      exact ⟨ret_bool (by rw [HE.out, ← HGL.out]), hBa.trans (hB3.mono (by simp))⟩
end Go.Proofs.Ytchjnjmlambpjaa
