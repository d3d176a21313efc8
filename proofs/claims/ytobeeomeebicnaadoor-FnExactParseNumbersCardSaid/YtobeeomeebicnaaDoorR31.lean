/- The law FnExactParseNumbers: the given row, from its walk, and the tied card. No condition: every input. -/
import Derived.Test.YtobeeomeebicnaaDoorRKD
import Derived.Test.YtobeeomeebicnaaDoorX31
import Derived.Test.YtobeeomeebicnaaDoorTie
import Derived.Test.YtobeeomeebicnaaDoorCards
import Derived.SevenTiedAt
import Derived.ShutString
set_option linter.unusedSimpArgs false
set_option linter.unusedVariables false
namespace Go.Proofs.YtobeeomeebicnaaDoor
open Go.ChangeShapes Go.WideShapes Go.ChangeAt Go.RowKit Go.Joins
open Go.ChangeMaps (open_string shut_string)
set_option maxRecDepth 100000 in
theorem FnExactParseNumbers_met (os : Os) (args : Array Value) : laidMetH Tryd.prog Rows.fnExactParseNumbersRow.laid ((World.laidAll Tryd.prog os Rows.fnExactParseNumbersRow.laid).forCall (fun _ _ => 0) ⟨#[], args, []⟩).memory := by
  rw [MakeChecks.laidMetH_plain _ _ _ (by kernel_rfl)]; exact laidMet_laidAll _ (by kernel_rfl) (by kernel_rfl)
set_option maxRecDepth 100000 in
theorem FnExactParseNumbers_lifted (os : Os) (started : os.Started) (H : Type) (enc : TypeId × Value → H) :
    ReturnsInHanded {} Tryd.checked os 4 .any (fun w args => (Rows.fnExactParseNumbersSpec.pre enc Tryd.prog Tryd.f4 Rows.fnExactParseNumbersRow.domain false w args ∧ laidMetH Tryd.prog Rows.fnExactParseNumbersRow.laid w) ∧ sizedMet enc Tryd.prog Tryd.f4 (OpenSpec.ofChange Rows.fnExactParseNumbersSpec) false w args)
      (Rows.fnExactParseNumbersSpec.post enc Tryd.prog Tryd.f4 false true false false) := by
  refine returns_laid (C := Tryd.checked) (X := fun w _ => laidMetH Tryd.prog Rows.fnExactParseNumbersRow.laid w) (fun _ _ _ hh h => h.of_heap hh) own started (by kernel_rfl) Tryd.func4
    (ChangeSpec.witness_shaped (enc := enc) (C := Tryd.checked) (os := os) (X := fun w _ => laidMetH Tryd.prog Rows.fnExactParseNumbersRow.laid w) false (World.laidAll Tryd.prog os Rows.fnExactParseNumbersRow.laid) #[.string ⟨#[]⟩] 8 (World.laidAll_os _ _ _)
      (World.shaped_of_ZipB (by kernel_rfl) (by kernel_rfl)) (by kernel_rfl) (by kernel_rfl) (by kernel_rfl) (FnExactParseNumbers_met os _)) ?_
  intro W base args ds gs before hval0 hW hL0 hsh
  have hval : ∀ (j : Nat) t v, Tryd.f4.params[j]? = some t → args[j]? = some v → Value.okWide Tryd.prog W .any base t v := hval0
  have hW' := hW
  obtain ⟨p, q, hA0, hV, rfl, hfz, hnd⟩ := hW
  have hA : DataW.TrodAll enc Tryd.prog W 0 (fun _ => true) true Tryd.f4.params.toList args.toList ds p := hA0
  rw [Tryd.params4] at hA hval
  obtain ⟨v0, vs0, d0, ds0, p0, q0, hargs, rfl, rfl, h0, r0⟩ := trodAll_cons hA
  obtain ⟨rfl, rfl, rfl⟩ := trodAll_nil r0
  obtain rfl : args = #[v0] := by cases args; simp_all
  obtain ⟨rfl, rfl⟩ := trodVars_none hV
  obtain ⟨s0, rfl, rfl, rfl, hs0⟩ := open_string Tryd.underlying9 (hval 0 9 v0 rfl rfl) h0
  have hL : laidMet Tryd.prog Rows.fnExactParseNumbersRow.laid W := by have h := hL0; rw [MakeChecks.laidMetH_plain _ _ _ (by kernel_rfl)] at h; exact h
  have hP : Pow W := pow_of_laid hL.tail.tail
  have hSE := errSyntax_of_laid hL.tail.tail.tail.tail.tail
  have hRE := errRange_of_laid hL.tail.tail.tail.tail
  clear hA0 hval0 hL0
  refine (FnExactParseNumbers_walk s0 W hs0 hP hSE hRE hsh).mono fun e W' ⟨he, bel⟩ => ?_
  subst he
  exact ⟨_, rfl, _, _, _, [], _, [], hW', trodAll_mk1 (shut_bool Tryd.underlying4 _), (trodAll_cons_mk (shut_string Tryd.underlying9 hs0) trodAll_mk0), rfl, bel.frame _, fun h => by cases h⟩
set_option maxHeartbeats 8000000 in
theorem FnExactParseNumbers_facts : joinedFacts Tryd.prog 4 Tryd.f4 Rows.fnExactParseNumbersSpec Rows.fnExactParseNumbersRow = true := by
  unfold joinedFacts
  repeat' (with_reducible refine Bool.and_eq_true_iff.2 ⟨?_, ?_⟩)
  all_goals (as_aux_lemma => kernel_rfl)
theorem FnExactParseNumbers_named : Tryd.pinned.checked.prog.funcNamed Rows.fnExactParseNumbersRow.func = some 4 := by kernel_rfl
theorem FnExactParseNumbers_inst : Tryd.f4.isInstance Tryd.pinned.checked.prog Rows.fnExactParseNumbersRow.origin Rows.fnExactParseNumbersRow.targs := of_decide_eq_true (by kernel_rfl)
theorem FnExactParseNumbers_wrap : Tryd.f4.isWrapper Tryd.pinned.checked.prog Rows.fnExactParseNumbersRow.wrapper Rows.fnExactParseNumbersRow.mainSum := by unfold Func.isWrapper; first | (rw [if_pos (by decide +kernel)]; kernel_rfl) | (rw [if_neg (by decide +kernel)]; exact ⟨rfl, rfl⟩)
theorem FnExactParseNumbers_row : Rows.FnExactParseNumbersSaid :=
  OpenClaim.holds_of_wide 4 Tryd.f4 rfl rfl rfl rfl rfl rfl rfl ⟨rfl, rfl, rfl, rfl, rfl⟩ rfl rfl rfl rfl rfl FnExactParseNumbers_named Tryd.func4 FnExactParseNumbers_facts
    FnExactParseNumbers_inst FnExactParseNumbers_wrap (fun os started H enc _ => FnExactParseNumbers_lifted os started H enc)
theorem FnExactParseNumbers_wants : ∀ (j : Nat) t, Tryd.f4.params[j]? = some t → Tryd.prog.wantsStandIn t = false := fun j t ht => by
  have hall : (Tryd.f4.params.all fun u => !Tryd.prog.wantsStandIn u) = true := by kernel_rfl
  have hm := Array.mem_of_getElem? ht
  have := Array.all_eq_true_iff_forall_mem.1 hall t hm
  simpa using this
theorem FnExactParseNumbers_holds : Rows.FnExactParseNumbersCardSaid :=
  Claim7.holds_tied_plain_at .later [] Rows.fnExactParseNumbersCard.laidKinds true Rows.fnExactParseNumbersCard.stood.harness true FnExactParseNumbers_row (fun _ h => by cases h) (by kernel_rfl) (fun _ h => by cases h) fnExactParseNumbers_row_tie rfl ⟨rfl, rfl⟩ (by kernel_rfl) rfl
    (fun f fn hf hfn => by
      obtain rfl : f = 4 := Option.some.inj (hf.symm.trans FnExactParseNumbers_named)
      obtain rfl : fn = Tryd.f4 := (Option.some.inj (Tryd.func4.symm.trans hfn)).symm
      exact ⟨by kernel_rfl, FnExactParseNumbers_wants⟩)
    (by kernel_rfl)
#print axioms FnExactParseNumbers_holds
end Go.Proofs.YtobeeomeebicnaaDoor
