/- The law FnMeansTogether: the given statement, from its walk. No condition: every input. -/
import Derived.Test.YtaplpgmkobokhaaRK
import Derived.Test.YtaplpgmkobokhaaY7
import Derived.Test.YtaplpgmkobokhaaRK3
set_option linter.unusedSimpArgs false
set_option linter.unusedVariables false
namespace Go.Proofs.Ytaplpgmkobokhaa
open Go.ChangeShapes Go.WideShapes Go.ChangeAt Go.RowKit Go.Joins
set_option maxRecDepth 100000 in
theorem FnMeansTogether_lifted (os : Os) (started : os.Started) (H : Type) (enc : TypeId × Value → H) :
    ReturnsInHanded {} Try.checked os 4 .any (Rows.fnMeansTogetherSpec.pre6 enc Try.prog Try.f4 Rows.fnMeansTogetherRow.domain false) (Rows.fnMeansTogetherSpec.post enc Try.prog Try.f4 false true false false) := by
  refine returnsInHanded_of_change (C := Try.checked) own started (by kernel_rfl) Try.func4
    (ChangeSpec.witness6 (enc := enc) (C := Try.checked) false ⟨#[], #[.slice none 0 0, .slice none 0 0], []⟩ 8 (by kernel_rfl) (by kernel_rfl) (by kernel_rfl) (by kernel_rfl)) ?_
  intro W base args ds gs before hval0 hW hcnd _
  have hval : ∀ (j : Nat) t v, Try.f4.params[j]? = some t → args[j]? = some v → Value.okWide Try.prog W .any base t v := hval0
  have hW' := hW
  obtain ⟨p, q, hA0, hV, rfl, hfz, hnd⟩ := hW
  have hA : DataW.TrodAll enc Try.prog W 0 (fun _ => true) true Try.f4.params.toList args.toList ds p := hA0
  rw [Try.params4] at hA hval
  obtain ⟨v0, vs0, d0, ds0, p0, q0, hargs, rfl, rfl, h0, r0⟩ := trodAll_cons hA
  obtain ⟨v1, vs1, d1, ds1, p1, q1, rfl, rfl, rfl, h1, r1⟩ := trodAll_cons r0
  obtain ⟨rfl, rfl, rfl⟩ := trodAll_nil r1
  obtain rfl : args = #[v0, v1] := by cases args; simp_all
  obtain ⟨rfl, rfl⟩ := trodVars_none hV
  have k0 := h0
  have lt0 : ∀ x ∈ p0, x.block < W.heap.size := by obtain ⟨m, hm⟩ := k0; exact DataW.trod_lt m _ _ _ hm
  obtain ⟨o0, n0, z0, rfl⟩ := okWide_slice Try.underlying22 (hval 0 22 v0 rfl rfl)
  obtain ⟨hx0, hc0⟩ : (n0 ≤ 1048576 → BytesIn W W.heap.size o0 n0) ∧ n0 ≤ z0 ∧ n0 ≤ 9223372036854775807 := by
    obtain ⟨fuel, hf⟩ := h0
    obtain ⟨o, n, z, e, hx⟩ := bytes_of_trod (v := .slice o0 n0 z0) (by simpa [Value.cells] using hf)
    injection e with e1 e2 e3; subst e1 e2 e3; exact hx
  have k1 := h1
  have lt1 : ∀ x ∈ p1, x.block < W.heap.size := by obtain ⟨m, hm⟩ := k1; exact DataW.trod_lt m _ _ _ hm
  obtain ⟨o1, n1, z1, rfl⟩ := okWide_slice Try.underlying22 (hval 1 22 v1 rfl rfl)
  obtain ⟨hx1, hc1⟩ : (n1 ≤ 1048576 → BytesIn W W.heap.size o1 n1) ∧ n1 ≤ z1 ∧ n1 ≤ 9223372036854775807 := by
    obtain ⟨fuel, hf⟩ := h1
    obtain ⟨o, n, z, e, hx⟩ := bytes_of_trod (v := .slice o1 n1 z1) (by simpa [Value.cells] using hf)
    injection e with e1 e2 e3; subst e1 e2 e3; exact hx
  clear hA0 hval0
  refine (FnMeansTogether_walk o0 n0 z0 o1 n1 z1 W hx0 hc0.1 hc0.2 hx1 hc1.1 hc1.2).mono fun e W' ⟨he, bel⟩ => ?_
  subst he
  exact ⟨_, rfl, _, _, _, [], _, [], hW', trodAll_mk1 (shut_bool Try.underlying4 _), (trodAll_cons_mk (Below.trod laidOut (by kernel_rfl) (of_decide_eq_true (by kernel_rfl)) k0 bel lt0) (trodAll_cons_mk (Below.trod laidOut (by kernel_rfl) (of_decide_eq_true (by kernel_rfl)) k1 bel lt1) trodAll_mk0)), rfl, bel.frame _, fun h => by cases h⟩
set_option maxHeartbeats 8000000 in
theorem FnMeansTogether_facts : joinedFacts Try.prog 4 Try.f4 Rows.fnMeansTogetherSpec Rows.fnMeansTogetherRow = true := by
  unfold joinedFacts
  repeat' (with_reducible refine Bool.and_eq_true_iff.2 ⟨?_, ?_⟩)
  all_goals (as_aux_lemma => kernel_rfl)
theorem FnMeansTogether_named : Try.pinned.checked.prog.funcNamed Rows.fnMeansTogetherRow.func = some 4 := by kernel_rfl
theorem FnMeansTogether_inst : Try.f4.isInstance Try.pinned.checked.prog Rows.fnMeansTogetherRow.origin Rows.fnMeansTogetherRow.targs := of_decide_eq_true (by kernel_rfl)
theorem FnMeansTogether_wrap : Try.f4.isWrapper Try.pinned.checked.prog Rows.fnMeansTogetherRow.wrapper Rows.fnMeansTogetherRow.mainSum := by unfold Func.isWrapper; first | (rw [if_pos (by decide +kernel)]; kernel_rfl) | (rw [if_neg (by decide +kernel)]; exact ⟨rfl, rfl⟩)
theorem FnMeansTogether_holds : Rows.FnMeansTogetherSaid :=
  OpenClaim.holds_of_wide 4 Try.f4 rfl rfl rfl rfl rfl rfl rfl ⟨rfl, rfl, rfl, rfl, rfl⟩ rfl rfl rfl rfl rfl FnMeansTogether_named Try.func4 FnMeansTogether_facts
    FnMeansTogether_inst FnMeansTogether_wrap (fun os started H enc _ => FnMeansTogether_lifted os started H enc)
#print axioms FnMeansTogether_holds
end Go.Proofs.Ytaplpgmkobokhaa
