/- The program's WorstChance returns what the reference's returns, for all arguments: the given statement, from its walk. No condition: every input. -/
import Derived.Test.YtchjnjmlambpjaaRK
import Derived.Test.YtchjnjmlambpjaaX26
set_option linter.unusedSimpArgs false
set_option linter.unusedVariables false
namespace Go.Proofs.Ytchjnjmlambpjaa
open Go.ChangeShapes Go.WideShapes Go.ChangeAt Go.RowKit Go.Joins
set_option maxRecDepth 100000 in
theorem FnExactWorstChance_lifted (os : Os) (started : os.Started) (H : Type) (enc : TypeId × Value → H) :
    ReturnsInHanded {} Try.checked os 4 .any (Rows.fnExactWorstChanceSpec.pre6 enc Try.prog Try.f4 Rows.fnExactWorstChanceRow.domain false) (Rows.fnExactWorstChanceSpec.post enc Try.prog Try.f4 false true false false) := by
  refine returnsInHanded_of_change (C := Try.checked) own started (by kernel_rfl) Try.func4
    (ChangeSpec.witness6 (enc := enc) (C := Try.checked) false ⟨#[], #[.agg #[.int .i64 0, .slice none 0 0], .slice none 0 0], []⟩ 8 (by kernel_rfl) (by kernel_rfl) (by kernel_rfl) (by kernel_rfl)) ?_
  intro W base args ds gs before hval0 hW hcnd _
  have hval : ∀ (j : Nat) t v, Try.f4.params[j]? = some t → args[j]? = some v → Value.okWide Try.prog W .any base t v := hval0
  have hW' := hW
  obtain ⟨p, q, hA0, hV, rfl, hfz, hnd⟩ := hW
  have hA : DataW.TrodAll enc Try.prog W 0 (fun _ => true) true Try.f4.params.toList args.toList ds p := hA0
  rw [Try.params4] at hA hval
  obtain ⟨v0, vs0, d0, ds0, p0, q0, hargs, rfl, rfl, h0, r0⟩ := trodAll_cons hA
  obtain ⟨v1, vs1, d1, ds1, p1, q1, rfl, rfl, rfl, h1, r1⟩ := trodAll_cons r0
  obtain ⟨rfl, rfl, rfl⟩ := trodAll_nil r1
  obtain rfl : args = #[v0, v1] := by cases args; simp_all
  obtain ⟨rfl, rfl⟩ := trodVars_none hV
  have k0 := h0
  have lt0 : ∀ x ∈ p0, x.block < W.heap.size := by obtain ⟨m, hm⟩ := k0; exact DataW.trod_lt m _ _ _ hm
  obtain ⟨c00, c01, y00, y01, m0, rfl, _, _, hy00, hy01⟩ := open_agg2 Try.underlying24 (by kernel_rfl) (show Try.prog.cellsOf 24 = 2 by kernel_rfl) (hval 0 24 v0 rfl rfl) h0
  obtain ⟨a00, e00, _, w00⟩ := DataW.trod_int Try.underlying3 hy00
  simp at e00
  subst e00
  obtain ⟨o0, n0, z0, x0, rfl, hx0⟩ := ints_of_trod hy01
  have k1 := h1
  have lt1 : ∀ x ∈ p1, x.block < W.heap.size := by obtain ⟨m, hm⟩ := k1; exact DataW.trod_lt m _ _ _ hm
  obtain ⟨o1, n1, z1, rfl⟩ := okWide_slice Try.underlying22 (hval 1 22 v1 rfl rfl)
  obtain ⟨x1, hx1⟩ : ∃ xs, IntsAt W o1 n1 xs := by
    obtain ⟨fuel, hf⟩ := h1
    obtain ⟨o, n, z, xs, e, hx⟩ := ints_of_trod (v := .slice o1 n1 z1) (by simpa [Value.cells] using hf)
    injection e with e1 e2 e3; subst e1 e2 e3; exact ⟨xs, hx⟩
  clear hA0 hval0
  refine (FnExactWorstChance_walk a00 o0 n0 z0 x0 o1 n1 z1 x1 W hx0 hx1).mono fun e W' ⟨he, bel⟩ => ?_
  subst he
  exact ⟨_, rfl, _, _, _, [], _, [], hW', trodAll_mk1 (shut_bool Try.underlying4 _), (trodAll_cons_mk (Below.trod laidOut (by kernel_rfl) (of_decide_eq_true (by kernel_rfl)) k0 bel lt0) (trodAll_cons_mk (Below.trod laidOut (by kernel_rfl) (of_decide_eq_true (by kernel_rfl)) k1 bel lt1) trodAll_mk0)), rfl, bel.frame _, fun h => by cases h⟩
set_option maxHeartbeats 8000000 in
theorem FnExactWorstChance_facts : joinedFacts Try.prog 4 Try.f4 Rows.fnExactWorstChanceSpec Rows.fnExactWorstChanceRow = true := by
  unfold joinedFacts
  repeat' (with_reducible refine Bool.and_eq_true_iff.2 ⟨?_, ?_⟩)
  all_goals (as_aux_lemma => kernel_rfl)
theorem FnExactWorstChance_named : Try.pinned.checked.prog.funcNamed Rows.fnExactWorstChanceRow.func = some 4 := by kernel_rfl
theorem FnExactWorstChance_inst : Try.f4.isInstance Try.pinned.checked.prog Rows.fnExactWorstChanceRow.origin Rows.fnExactWorstChanceRow.targs := of_decide_eq_true (by kernel_rfl)
theorem FnExactWorstChance_wrap : Try.f4.isWrapper Try.pinned.checked.prog Rows.fnExactWorstChanceRow.wrapper Rows.fnExactWorstChanceRow.mainSum := by unfold Func.isWrapper; first | (rw [if_pos (by decide +kernel)]; kernel_rfl) | (rw [if_neg (by decide +kernel)]; exact ⟨rfl, rfl⟩)
theorem FnExactWorstChance_holds : Rows.FnExactWorstChanceSaid :=
  OpenClaim.holds_of_wide 4 Try.f4 rfl rfl rfl rfl rfl rfl rfl ⟨rfl, rfl, rfl, rfl, rfl⟩ rfl rfl rfl rfl rfl FnExactWorstChance_named Try.func4 FnExactWorstChance_facts
    FnExactWorstChance_inst FnExactWorstChance_wrap (fun os started H enc _ => FnExactWorstChance_lifted os started H enc)
#print axioms FnExactWorstChance_holds
end Go.Proofs.Ytchjnjmlambpjaa
