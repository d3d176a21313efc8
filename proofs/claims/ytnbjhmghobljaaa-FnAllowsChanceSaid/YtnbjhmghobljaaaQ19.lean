/- The law FnAllowsChance: the given statement, from its walk. No condition: every input. -/
import Derived.Test.YtnbjhmghobljaaaRK
import Derived.Test.YtnbjhmghobljaaaY19
import Derived.Test.YtnbjhmghobljaaaRK3
set_option linter.unusedSimpArgs false
set_option linter.unusedVariables false
namespace Go.Proofs.Ytnbjhmghobljaaa
open Go.ChangeShapes Go.WideShapes Go.ChangeAt Go.RowKit Go.Joins
set_option maxRecDepth 100000 in
theorem FnAllowsChance_lifted (os : Os) (started : os.Started) (H : Type) (enc : TypeId × Value → H) :
    ReturnsInHanded {} Try.checked os 4 .any (Rows.fnAllowsChanceSpec.pre6 enc Try.prog Try.f4 Rows.fnAllowsChanceRow.domain false) (Rows.fnAllowsChanceSpec.post enc Try.prog Try.f4 false true false false) := by
  refine returnsInHanded_of_change (C := Try.checked) own started (by kernel_rfl) Try.func4
    (ChangeSpec.witness6 (enc := enc) (C := Try.checked) false ⟨#[], #[.slice none 0 0], []⟩ 8 (by kernel_rfl) (by kernel_rfl) (by kernel_rfl) (by kernel_rfl)) ?_
  intro W base args ds gs before hval0 hW hcnd _
  have hval : ∀ (j : Nat) t v, Try.f4.params[j]? = some t → args[j]? = some v → Value.okWide Try.prog W .any base t v := hval0
  have hW' := hW
  obtain ⟨p, q, hA0, hV, rfl, hfz, hnd⟩ := hW
  have hA : DataW.TrodAll enc Try.prog W 0 (fun _ => true) true Try.f4.params.toList args.toList ds p := hA0
  rw [Try.params4] at hA hval
  obtain ⟨v0, vs0, d0, ds0, p0, q0, hargs, rfl, rfl, h0, r0⟩ := trodAll_cons hA
  obtain ⟨rfl, rfl, rfl⟩ := trodAll_nil r0
  obtain rfl : args = #[v0] := by cases args; simp_all
  obtain ⟨rfl, rfl⟩ := trodVars_none hV
  have k0 := h0
  have lt0 : ∀ x ∈ p0, x.block < W.heap.size := by obtain ⟨m, hm⟩ := k0; exact DataW.trod_lt m _ _ _ hm
  obtain ⟨o0, n0, z0, rfl⟩ := okWide_slice Try.underlying22 (hval 0 22 v0 rfl rfl)
  obtain ⟨hx0, hc0⟩ : (n0 ≤ 1048576 → BytesIn W W.heap.size o0 n0) ∧ n0 ≤ z0 ∧ n0 ≤ 9223372036854775807 := by
    obtain ⟨fuel, hf⟩ := h0
    obtain ⟨o, n, z, e, hx⟩ := bytes_of_trod (v := .slice o0 n0 z0) (by simpa [Value.cells] using hf)
    injection e with e1 e2 e3; subst e1 e2 e3; exact hx
  clear hA0 hval0
  refine (FnAllowsChance_walk o0 n0 z0 W hx0 hc0.1 hc0.2).mono fun e W' ⟨he, bel⟩ => ?_
  subst he
  exact ⟨_, rfl, _, _, _, [], _, [], hW', trodAll_mk1 (shut_bool Try.underlying4 _), (trodAll_cons_mk (Below.trod laidOut (by kernel_rfl) (of_decide_eq_true (by kernel_rfl)) k0 bel lt0) trodAll_mk0), rfl, bel.frame _, fun h => by cases h⟩
set_option maxHeartbeats 8000000 in
theorem FnAllowsChance_facts : joinedFacts Try.prog 4 Try.f4 Rows.fnAllowsChanceSpec Rows.fnAllowsChanceRow = true := by
  unfold joinedFacts
  repeat' (with_reducible refine Bool.and_eq_true_iff.2 ⟨?_, ?_⟩)
  all_goals (as_aux_lemma => kernel_rfl)
theorem FnAllowsChance_named : Try.pinned.checked.prog.funcNamed Rows.fnAllowsChanceRow.func = some 4 := by kernel_rfl
theorem FnAllowsChance_inst : Try.f4.isInstance Try.pinned.checked.prog Rows.fnAllowsChanceRow.origin Rows.fnAllowsChanceRow.targs := of_decide_eq_true (by kernel_rfl)
theorem FnAllowsChance_wrap : Try.f4.isWrapper Try.pinned.checked.prog Rows.fnAllowsChanceRow.wrapper Rows.fnAllowsChanceRow.mainSum := by unfold Func.isWrapper; first | (rw [if_pos (by decide +kernel)]; kernel_rfl) | (rw [if_neg (by decide +kernel)]; exact ⟨rfl, rfl⟩)
theorem FnAllowsChance_holds : Rows.FnAllowsChanceSaid :=
  OpenClaim.holds_of_wide 4 Try.f4 rfl rfl rfl rfl rfl rfl rfl ⟨rfl, rfl, rfl, rfl, rfl⟩ rfl rfl rfl rfl rfl FnAllowsChance_named Try.func4 FnAllowsChance_facts
    FnAllowsChance_inst FnAllowsChance_wrap (fun os started H enc _ => FnAllowsChance_lifted os started H enc)
#print axioms FnAllowsChance_holds
end Go.Proofs.Ytnbjhmghobljaaa
