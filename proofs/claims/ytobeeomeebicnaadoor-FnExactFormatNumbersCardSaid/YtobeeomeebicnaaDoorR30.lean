/- The law FnExactFormatNumbers: the given row, from its walk, and the tied card. No condition: every input. -/
import Derived.Test.YtobeeomeebicnaaDoorRKD
import Derived.Test.YtobeeomeebicnaaDoorX30
import Derived.Test.YtobeeomeebicnaaDoorTie
import Derived.Test.YtobeeomeebicnaaDoorCards
import Derived.SevenTiedAt
set_option linter.unusedSimpArgs false
set_option linter.unusedVariables false
namespace Go.Proofs.YtobeeomeebicnaaDoor
open Go.ChangeShapes Go.WideShapes Go.ChangeAt Go.RowKit Go.Joins
set_option maxRecDepth 100000 in
theorem FnExactFormatNumbers_met (os : Os) (args : Array Value) : laidMetH Tryd.prog Rows.fnExactFormatNumbersRow.laid ((World.laidAll Tryd.prog os Rows.fnExactFormatNumbersRow.laid).forCall (fun _ _ => 0) ⟨#[], args, []⟩).memory := by
  rw [MakeChecks.laidMetH_plain _ _ _ (by kernel_rfl)]; exact laidMet_laidAll _ (by kernel_rfl) (by kernel_rfl)
set_option maxRecDepth 100000 in
theorem FnExactFormatNumbers_lifted (os : Os) (started : os.Started) (H : Type) (enc : TypeId × Value → H) :
    ReturnsInHanded {} Tryd.checked os 3 .any (fun w args => (Rows.fnExactFormatNumbersSpec.pre enc Tryd.prog Tryd.f3 Rows.fnExactFormatNumbersRow.domain false w args ∧ laidMetH Tryd.prog Rows.fnExactFormatNumbersRow.laid w) ∧ sizedMet enc Tryd.prog Tryd.f3 (OpenSpec.ofChange Rows.fnExactFormatNumbersSpec) false w args)
      (Rows.fnExactFormatNumbersSpec.post enc Tryd.prog Tryd.f3 false true false false) := by
  refine returns_laid (C := Tryd.checked) (X := fun w _ => laidMetH Tryd.prog Rows.fnExactFormatNumbersRow.laid w) (fun _ _ _ hh h => h.of_heap hh) own started (by kernel_rfl) Tryd.func3
    (ChangeSpec.witness_shaped (enc := enc) (C := Tryd.checked) (os := os) (X := fun w _ => laidMetH Tryd.prog Rows.fnExactFormatNumbersRow.laid w) false (World.laidAll Tryd.prog os Rows.fnExactFormatNumbersRow.laid) #[.slice none 0 0] 8 (World.laidAll_os _ _ _)
      (World.shaped_of_ZipB (by kernel_rfl) (by kernel_rfl)) (by kernel_rfl) (by kernel_rfl) (by kernel_rfl) (FnExactFormatNumbers_met os _)) ?_
  intro W base args ds gs before hval0 hW hL0 hsh
  have hval : ∀ (j : Nat) t v, Tryd.f3.params[j]? = some t → args[j]? = some v → Value.okWide Tryd.prog W .any base t v := hval0
  have hW' := hW
  obtain ⟨p, q, hA0, hV, rfl, hfz, hnd⟩ := hW
  have hA : DataW.TrodAll enc Tryd.prog W 0 (fun _ => true) true Tryd.f3.params.toList args.toList ds p := hA0
  rw [Tryd.params3] at hA hval
  obtain ⟨v0, vs0, d0, ds0, p0, q0, hargs, rfl, rfl, h0, r0⟩ := trodAll_cons hA
  obtain ⟨rfl, rfl, rfl⟩ := trodAll_nil r0
  obtain rfl : args = #[v0] := by cases args; simp_all
  obtain ⟨rfl, rfl⟩ := trodVars_none hV
  have k0 := h0
  have lt0 : ∀ x ∈ p0, x.block < W.heap.size := by obtain ⟨m, hm⟩ := k0; exact DataW.trod_lt m _ _ _ hm
  obtain ⟨o0, n0, z0, rfl⟩ := okWide_slice Tryd.underlying22 (hval 0 22 v0 rfl rfl)
  obtain ⟨x0, hx0, hb0⟩ : ∃ xs, IntsAt W o0 n0 xs ∧ I64 xs := by
    obtain ⟨fuel, hf⟩ := h0
    obtain ⟨o, n, z, xs, e, hx, hb⟩ := ints64_of_trod (v := .slice o0 n0 z0) (by simpa [Value.cells] using hf)
    injection e with e1 e2 e3; subst e1 e2 e3; exact ⟨xs, hx, hb⟩
  have hL : laidMet Tryd.prog Rows.fnExactFormatNumbersRow.laid W := by have h := hL0; rw [MakeChecks.laidMetH_plain _ _ _ (by kernel_rfl)] at h; exact h
  have hP : Pow W := pow_of_laid hL.tail.tail
  clear hA0 hval0 hL0
  refine (FnExactFormatNumbers_walk o0 n0 z0 x0 W hx0 hb0 hP).mono fun e W' ⟨he, bel⟩ => ?_
  subst he
  exact ⟨_, rfl, _, _, _, [], _, [], hW', trodAll_mk1 (shut_bool Tryd.underlying4 _), (trodAll_cons_mk (Below.trod laidOut (by kernel_rfl) (of_decide_eq_true (by kernel_rfl)) k0 bel lt0) trodAll_mk0), rfl, bel.frame _, fun h => by cases h⟩
set_option maxHeartbeats 8000000 in
theorem FnExactFormatNumbers_facts : joinedFacts Tryd.prog 3 Tryd.f3 Rows.fnExactFormatNumbersSpec Rows.fnExactFormatNumbersRow = true := by
  unfold joinedFacts
  repeat' (with_reducible refine Bool.and_eq_true_iff.2 ⟨?_, ?_⟩)
  all_goals (as_aux_lemma => kernel_rfl)
theorem FnExactFormatNumbers_named : Tryd.pinned.checked.prog.funcNamed Rows.fnExactFormatNumbersRow.func = some 3 := by kernel_rfl
theorem FnExactFormatNumbers_inst : Tryd.f3.isInstance Tryd.pinned.checked.prog Rows.fnExactFormatNumbersRow.origin Rows.fnExactFormatNumbersRow.targs := of_decide_eq_true (by kernel_rfl)
theorem FnExactFormatNumbers_wrap : Tryd.f3.isWrapper Tryd.pinned.checked.prog Rows.fnExactFormatNumbersRow.wrapper Rows.fnExactFormatNumbersRow.mainSum := by unfold Func.isWrapper; first | (rw [if_pos (by decide +kernel)]; kernel_rfl) | (rw [if_neg (by decide +kernel)]; exact ⟨rfl, rfl⟩)
theorem FnExactFormatNumbers_row : Rows.FnExactFormatNumbersSaid :=
  OpenClaim.holds_of_wide 3 Tryd.f3 rfl rfl rfl rfl rfl rfl rfl ⟨rfl, rfl, rfl, rfl, rfl⟩ rfl rfl rfl rfl rfl FnExactFormatNumbers_named Tryd.func3 FnExactFormatNumbers_facts
    FnExactFormatNumbers_inst FnExactFormatNumbers_wrap (fun os started H enc _ => FnExactFormatNumbers_lifted os started H enc)
theorem FnExactFormatNumbers_wants : ∀ (j : Nat) t, Tryd.f3.params[j]? = some t → Tryd.prog.wantsStandIn t = false := fun j t ht => by
  have hall : (Tryd.f3.params.all fun u => !Tryd.prog.wantsStandIn u) = true := by kernel_rfl
  have hm := Array.mem_of_getElem? ht
  have := Array.all_eq_true_iff_forall_mem.1 hall t hm
  simpa using this
theorem FnExactFormatNumbers_holds : Rows.FnExactFormatNumbersCardSaid :=
  Claim7.holds_tied_plain_at .later [] Rows.fnExactFormatNumbersCard.laidKinds true Rows.fnExactFormatNumbersCard.stood.harness true FnExactFormatNumbers_row (fun _ h => by cases h) (by kernel_rfl) (fun _ h => by cases h) fnExactFormatNumbers_row_tie rfl ⟨rfl, rfl⟩ (by kernel_rfl) rfl
    (fun f fn hf hfn => by
      obtain rfl : f = 3 := Option.some.inj (hf.symm.trans FnExactFormatNumbers_named)
      obtain rfl : fn = Tryd.f3 := (Option.some.inj (Tryd.func3.symm.trans hfn)).symm
      exact ⟨by kernel_rfl, FnExactFormatNumbers_wants⟩)
    (by kernel_rfl)
#print axioms FnExactFormatNumbers_holds
end Go.Proofs.YtobeeomeebicnaaDoor
