/- The law FnNumbers: the given row, from its walk, and the tied card. No condition: every input. -/
import Derived.Test.YtobeeomeebicnaaDoorRKD
import Derived.Test.YtobeeomeebicnaaDoorX32
import Derived.Test.YtobeeomeebicnaaDoorTie
import Derived.Test.YtobeeomeebicnaaDoorCards
import Derived.SevenTiedAt
import Derived.Test.YtobeeomeebicnaaDoorRK3
import Derived.ShutString
set_option linter.unusedSimpArgs false
set_option linter.unusedVariables false
namespace Go.Proofs.YtobeeomeebicnaaDoor
open Go.ChangeShapes Go.WideShapes Go.ChangeAt Go.RowKit Go.Joins
set_option maxRecDepth 100000 in
theorem FnNumbers_met (os : Os) (args : Array Value) : laidMetH Tryd.prog Rows.fnNumbersRow.laid ((World.laidAll Tryd.prog os Rows.fnNumbersRow.laid).forCall (fun _ _ => 0) ⟨#[], args, []⟩).memory := by
  rw [MakeChecks.laidMetH_plain _ _ _ (by kernel_rfl)]; exact laidMet_laidAll _ (by kernel_rfl) (by kernel_rfl)
set_option maxRecDepth 100000 in
theorem FnNumbers_lifted (os : Os) (started : os.Started) (H : Type) (enc : TypeId × Value → H) :
    ReturnsInHanded {} Tryd.checked os 5 .any (fun w args => (Rows.fnNumbersSpec.pre enc Tryd.prog Tryd.f5 Rows.fnNumbersRow.domain false w args ∧ laidMetH Tryd.prog Rows.fnNumbersRow.laid w) ∧ sizedMet enc Tryd.prog Tryd.f5 (OpenSpec.ofChange Rows.fnNumbersSpec) false w args)
      (Rows.fnNumbersSpec.post enc Tryd.prog Tryd.f5 false true false false) := by
  refine returns_laid (C := Tryd.checked) (X := fun w _ => laidMetH Tryd.prog Rows.fnNumbersRow.laid w) (fun _ _ _ hh h => h.of_heap hh) own started (by kernel_rfl) Tryd.func5
    (ChangeSpec.witness_shaped (enc := enc) (C := Tryd.checked) (os := os) (X := fun w _ => laidMetH Tryd.prog Rows.fnNumbersRow.laid w) false (World.laidAll Tryd.prog os Rows.fnNumbersRow.laid) #[.slice none 0 0, .slice none 0 0] 8 (World.laidAll_os _ _ _)
      (World.shaped_of_ZipB (by kernel_rfl) (by kernel_rfl)) (by kernel_rfl) (by kernel_rfl) (by kernel_rfl) (FnNumbers_met os _)) ?_
  intro W base args ds gs before hval0 hW hL0 hsh
  have hval : ∀ (j : Nat) t v, Tryd.f5.params[j]? = some t → args[j]? = some v → Value.okWide Tryd.prog W .any base t v := hval0
  have hW' := hW
  obtain ⟨p, q, hA0, hV, rfl, hfz, hnd⟩ := hW
  have hA : DataW.TrodAll enc Tryd.prog W 0 (fun _ => true) true Tryd.f5.params.toList args.toList ds p := hA0
  rw [Tryd.params5] at hA hval
  obtain ⟨v0, vs0, d0, ds0, p0, q0, hargs, rfl, rfl, h0, r0⟩ := trodAll_cons hA
  obtain ⟨v1, vs1, d1, ds1, p1, q1, rfl, rfl, rfl, h1, r1⟩ := trodAll_cons r0
  obtain ⟨rfl, rfl, rfl⟩ := trodAll_nil r1
  obtain rfl : args = #[v0, v1] := by cases args; simp_all
  obtain ⟨rfl, rfl⟩ := trodVars_none hV
  have k0 := h0
  have lt0 : ∀ x ∈ p0, x.block < W.heap.size := by obtain ⟨m, hm⟩ := k0; exact DataW.trod_lt m _ _ _ hm
  obtain ⟨o0, n0, z0, rfl⟩ := okWide_slice Tryd.underlying31 (hval 0 31 v0 rfl rfl)
  obtain ⟨hx0, hc0⟩ : (n0 ≤ 1048576 → BytesIn W W.heap.size o0 n0) ∧ n0 ≤ z0 ∧ n0 ≤ 9223372036854775807 := by
    obtain ⟨fuel, hf⟩ := h0
    obtain ⟨o, n, z, e, hx⟩ := bytes_of_trod (v := .slice o0 n0 z0) (by simpa [Value.cells] using hf)
    injection e with e1 e2 e3; subst e1 e2 e3; exact hx
  have k1 := h1
  have lt1 : ∀ x ∈ p1, x.block < W.heap.size := by obtain ⟨m, hm⟩ := k1; exact DataW.trod_lt m _ _ _ hm
  obtain ⟨o1, n1, z1, rfl⟩ := okWide_slice Tryd.underlying31 (hval 1 31 v1 rfl rfl)
  obtain ⟨hx1, hc1⟩ : (n1 ≤ 1048576 → BytesIn W W.heap.size o1 n1) ∧ n1 ≤ z1 ∧ n1 ≤ 9223372036854775807 := by
    obtain ⟨fuel, hf⟩ := h1
    obtain ⟨o, n, z, e, hx⟩ := bytes_of_trod (v := .slice o1 n1 z1) (by simpa [Value.cells] using hf)
    injection e with e1 e2 e3; subst e1 e2 e3; exact hx
  have hL : laidMet Tryd.prog Rows.fnNumbersRow.laid W := by have h := hL0; rw [MakeChecks.laidMetH_plain _ _ _ (by kernel_rfl)] at h; exact h
  have hP : Pow W := pow_of_laid hL.tail.tail
  have hSE := errSyntax_of_laid hL.tail.tail.tail.tail.tail
  have hRE := errRange_of_laid hL.tail.tail.tail.tail
  clear hA0 hval0 hL0
  refine (FnNumbers_walk o0 n0 z0 o1 n1 z1 W hx0 hc0.1 hc0.2 hx1 hc1.1 hc1.2 hP hSE hRE hsh).mono fun e W' ⟨he, bel⟩ => ?_
  subst he
  exact ⟨_, rfl, _, _, _, [], _, [], hW', trodAll_mk1 (shut_bool Tryd.underlying4 _), (trodAll_cons_mk (Below.trod laidOut (by kernel_rfl) (of_decide_eq_true (by kernel_rfl)) k0 bel lt0) (trodAll_cons_mk (Below.trod laidOut (by kernel_rfl) (of_decide_eq_true (by kernel_rfl)) k1 bel lt1) trodAll_mk0)), rfl, bel.frame _, fun h => by cases h⟩
set_option maxHeartbeats 8000000 in
theorem FnNumbers_facts : joinedFacts Tryd.prog 5 Tryd.f5 Rows.fnNumbersSpec Rows.fnNumbersRow = true := by
  unfold joinedFacts
  repeat' (with_reducible refine Bool.and_eq_true_iff.2 ⟨?_, ?_⟩)
  all_goals (as_aux_lemma => kernel_rfl)
theorem FnNumbers_named : Tryd.pinned.checked.prog.funcNamed Rows.fnNumbersRow.func = some 5 := by kernel_rfl
theorem FnNumbers_inst : Tryd.f5.isInstance Tryd.pinned.checked.prog Rows.fnNumbersRow.origin Rows.fnNumbersRow.targs := of_decide_eq_true (by kernel_rfl)
theorem FnNumbers_wrap : Tryd.f5.isWrapper Tryd.pinned.checked.prog Rows.fnNumbersRow.wrapper Rows.fnNumbersRow.mainSum := by unfold Func.isWrapper; first | (rw [if_pos (by decide +kernel)]; kernel_rfl) | (rw [if_neg (by decide +kernel)]; exact ⟨rfl, rfl⟩)
theorem FnNumbers_row : Rows.FnNumbersSaid :=
  OpenClaim.holds_of_wide 5 Tryd.f5 rfl rfl rfl rfl rfl rfl rfl ⟨rfl, rfl, rfl, rfl, rfl⟩ rfl rfl rfl rfl rfl FnNumbers_named Tryd.func5 FnNumbers_facts
    FnNumbers_inst FnNumbers_wrap (fun os started H enc _ => FnNumbers_lifted os started H enc)
theorem FnNumbers_wants : ∀ (j : Nat) t, Tryd.f5.params[j]? = some t → Tryd.prog.wantsStandIn t = false := fun j t ht => by
  have hall : (Tryd.f5.params.all fun u => !Tryd.prog.wantsStandIn u) = true := by kernel_rfl
  have hm := Array.mem_of_getElem? ht
  have := Array.all_eq_true_iff_forall_mem.1 hall t hm
  simpa using this
theorem FnNumbers_holds : Rows.FnNumbersCardSaid :=
  Claim7.holds_tied_plain_at .later [] Rows.fnNumbersCard.laidKinds true Rows.fnNumbersCard.stood.harness true FnNumbers_row (fun _ h => by cases h) (by kernel_rfl) (fun _ h => by cases h) fnNumbers_row_tie rfl ⟨rfl, rfl⟩ (by kernel_rfl) rfl
    (fun f fn hf hfn => by
      obtain rfl : f = 5 := Option.some.inj (hf.symm.trans FnNumbers_named)
      obtain rfl : fn = Tryd.f5 := (Option.some.inj (Tryd.func5.symm.trans hfn)).symm
      exact ⟨by kernel_rfl, FnNumbers_wants⟩)
    (by kernel_rfl)
#print axioms FnNumbers_holds
end Go.Proofs.YtobeeomeebicnaaDoor
