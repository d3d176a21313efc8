/- The law FnScriptTogether: the given row, from its walk, and the tied card. No condition: every input. -/
import Derived.Test.YtefmlbahmakboaaGreatDoorRKD
import Derived.Test.YtefmlbahmakboaaGreatDoorY25
import Derived.Test.YtefmlbahmakboaaGreatDoorTie
import Derived.Test.YtefmlbahmakboaaGreatDoorCards
import Derived.SevenTiedAt
import Derived.Test.YtefmlbahmakboaaGreatDoorRK3
import Derived.ShutString
set_option linter.unusedSimpArgs false
set_option linter.unusedVariables false
namespace Go.Proofs.YtefmlbahmakboaaGreatDoor
open Go.ChangeShapes Go.WideShapes Go.ChangeAt Go.RowKit Go.Joins
set_option maxRecDepth 100000 in
theorem FnScriptTogether_met (os : Os) (args : Array Value) : laidMetH Tryz.prog Rows.fnScriptTogetherRow.laid ((World.laidAll Tryz.prog os Rows.fnScriptTogetherRow.laid).forCall (fun _ _ => 0) ⟨#[], args, []⟩).memory := by
  rw [MakeChecks.laidMetH_plain _ _ _ (by kernel_rfl)]; exact laidMet_laidAll _ (by kernel_rfl) (by kernel_rfl)
set_option maxRecDepth 100000 in
theorem FnScriptTogether_lifted (os : Os) (started : os.Started) (H : Type) (enc : TypeId × Value → H) :
    ReturnsInHanded {} Tryz.checked os 3 .any (fun w args => (Rows.fnScriptTogetherSpec.pre enc Tryz.prog Tryz.f3 Rows.fnScriptTogetherRow.domain false w args ∧ laidMetH Tryz.prog Rows.fnScriptTogetherRow.laid w) ∧ sizedMet enc Tryz.prog Tryz.f3 (OpenSpec.ofChange Rows.fnScriptTogetherSpec) false w args)
      (Rows.fnScriptTogetherSpec.post enc Tryz.prog Tryz.f3 false true false false) := by
  refine returns_laid (C := Tryz.checked) (X := fun w _ => laidMetH Tryz.prog Rows.fnScriptTogetherRow.laid w) (fun _ _ _ hh h => h.of_heap hh) own started (by kernel_rfl) Tryz.func3
    (ChangeSpec.witness_shaped (enc := enc) (C := Tryz.checked) (os := os) (X := fun w _ => laidMetH Tryz.prog Rows.fnScriptTogetherRow.laid w) false (World.laidAll Tryz.prog os Rows.fnScriptTogetherRow.laid) #[.slice none 0 0] 8 (World.laidAll_os _ _ _)
      (World.shaped_of_ZipB (by kernel_rfl) (by kernel_rfl)) (by kernel_rfl) (by kernel_rfl) (by kernel_rfl) (FnScriptTogether_met os _)) ?_
  intro W base args ds gs before hval0 hW hL0 hsh
  have hval : ∀ (j : Nat) t v, Tryz.f3.params[j]? = some t → args[j]? = some v → Value.okWide Tryz.prog W .any base t v := hval0
  have hW' := hW
  obtain ⟨p, q, hA0, hV, rfl, hfz, hnd⟩ := hW
  have hA : DataW.TrodAll enc Tryz.prog W 0 (fun _ => true) true Tryz.f3.params.toList args.toList ds p := hA0
  rw [Tryz.params3] at hA hval
  obtain ⟨v0, vs0, d0, ds0, p0, q0, hargs, rfl, rfl, h0, r0⟩ := trodAll_cons hA
  obtain ⟨rfl, rfl, rfl⟩ := trodAll_nil r0
  obtain rfl : args = #[v0] := by cases args; simp_all
  obtain ⟨rfl, rfl⟩ := trodVars_none hV
  have k0 := h0
  have lt0 : ∀ x ∈ p0, x.block < W.heap.size := by obtain ⟨m, hm⟩ := k0; exact DataW.trod_lt m _ _ _ hm
  obtain ⟨o0, n0, z0, rfl⟩ := okWide_slice Tryz.underlying22 (hval 0 22 v0 rfl rfl)
  obtain ⟨hx0, hc0⟩ : (n0 ≤ 1048576 → BytesIn W W.heap.size o0 n0) ∧ n0 ≤ z0 ∧ n0 ≤ 9223372036854775807 := by
    obtain ⟨fuel, hf⟩ := h0
    obtain ⟨o, n, z, e, hx⟩ := bytes_of_trod (v := .slice o0 n0 z0) (by simpa [Value.cells] using hf)
    injection e with e1 e2 e3; subst e1 e2 e3; exact hx
  have hL : laidMet Tryz.prog Rows.fnScriptTogetherRow.laid W := by have h := hL0; rw [MakeChecks.laidMetH_plain _ _ _ (by kernel_rfl)] at h; exact h
  have hP : Pow W := pow_of_laid hL.tail.tail
  have hSE := errSyntax_of_laid hL.tail.tail.tail.tail.tail
  have hRE := errRange_of_laid hL.tail.tail.tail.tail
  clear hA0 hval0 hL0
  refine (FnScriptTogether_walk o0 n0 z0 W hx0 hc0.1 hc0.2 hP hSE hRE hsh).mono fun e W' ⟨he, bel⟩ => ?_
  subst he
  exact ⟨_, rfl, _, _, _, [], _, [], hW', trodAll_mk1 (shut_bool Tryz.underlying4 _), (trodAll_cons_mk (Below.trod laidOut (by kernel_rfl) (of_decide_eq_true (by kernel_rfl)) k0 bel lt0) trodAll_mk0), rfl, bel.frame _, fun h => by cases h⟩
set_option maxHeartbeats 8000000 in
theorem FnScriptTogether_facts : joinedFacts Tryz.prog 3 Tryz.f3 Rows.fnScriptTogetherSpec Rows.fnScriptTogetherRow = true := by
  unfold joinedFacts
  repeat' (with_reducible refine Bool.and_eq_true_iff.2 ⟨?_, ?_⟩)
  all_goals (as_aux_lemma => kernel_rfl)
theorem FnScriptTogether_named : Tryz.pinned.checked.prog.funcNamed Rows.fnScriptTogetherRow.func = some 3 := by kernel_rfl
theorem FnScriptTogether_inst : Tryz.f3.isInstance Tryz.pinned.checked.prog Rows.fnScriptTogetherRow.origin Rows.fnScriptTogetherRow.targs := of_decide_eq_true (by kernel_rfl)
theorem FnScriptTogether_wrap : Tryz.f3.isWrapper Tryz.pinned.checked.prog Rows.fnScriptTogetherRow.wrapper Rows.fnScriptTogetherRow.mainSum := by unfold Func.isWrapper; first | (rw [if_pos (by decide +kernel)]; kernel_rfl) | (rw [if_neg (by decide +kernel)]; exact ⟨rfl, rfl⟩)
theorem FnScriptTogether_row : Rows.FnScriptTogetherSaid :=
  OpenClaim.holds_of_wide 3 Tryz.f3 rfl rfl rfl rfl rfl rfl rfl ⟨rfl, rfl, rfl, rfl, rfl⟩ rfl rfl rfl rfl rfl FnScriptTogether_named Tryz.func3 FnScriptTogether_facts
    FnScriptTogether_inst FnScriptTogether_wrap (fun os started H enc _ => FnScriptTogether_lifted os started H enc)
theorem FnScriptTogether_wants : ∀ (j : Nat) t, Tryz.f3.params[j]? = some t → Tryz.prog.wantsStandIn t = false := fun j t ht => by
  have hall : (Tryz.f3.params.all fun u => !Tryz.prog.wantsStandIn u) = true := by kernel_rfl
  have hm := Array.mem_of_getElem? ht
  have := Array.all_eq_true_iff_forall_mem.1 hall t hm
  simpa using this
theorem FnScriptTogether_holds : Rows.FnScriptTogetherCardSaid :=
  Claim7.holds_tied_plain_at .later [] Rows.fnScriptTogetherCard.laidKinds true Rows.fnScriptTogetherCard.stood.harness true FnScriptTogether_row (fun _ h => by cases h) (by kernel_rfl) (fun _ h => by cases h) fnScriptTogether_row_tie rfl ⟨rfl, rfl⟩ (by kernel_rfl) rfl
    (fun f fn hf hfn => by
      obtain rfl : f = 3 := Option.some.inj (hf.symm.trans FnScriptTogether_named)
      obtain rfl : fn = Tryz.f3 := (Option.some.inj (Tryz.func3.symm.trans hfn)).symm
      exact ⟨by kernel_rfl, FnScriptTogether_wants⟩)
    (by kernel_rfl)
#print axioms FnScriptTogether_holds
end Go.Proofs.YtefmlbahmakboaaGreatDoor
