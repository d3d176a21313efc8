/- Plain: unbeaten acts, and acts that are possibly best. No program in sight. -/
import Derived.Test.YtchjnjmlambpjaaN10
import Derived.Test.YtchjnjmlambpjaaW19
import Derived.Test.YtchjnjmlambpjaaW24
set_option linter.unusedSimpArgs false
set_option linter.unusedVariables false
namespace Go.Proofs.Ytchjnjmlambpjaa
open Go.RowKit
theorem beats_over {s : Int} {xs : List Int} {acts : List (List Int)} (hA : actsOk s xs acts = true) {i j : Nat} (hi : i < acts.length) (hj : j < acts.length) : beatsM s xs (nthL acts j) (nthL acts i) = decide (0 < overS xs (nthL acts j) (nthL acts i)) := by
  obtain ⟨hn, _, _, hga⟩ := acts_gains hA
  unfold beatsM overS
  rw [hn, hga i hi, hga j hj]; rfl
/-- is act i beaten by one of the first acts? -/
def beatenN (s : Int) (xs : List Int) (acts : List (List Int)) (i k : Nat) : Bool := !allN (fun j => !beatsM s xs (nthL acts j) (nthL acts i)) k
theorem beatenN_succ (s : Int) (xs : List Int) (acts : List (List Int)) (i k : Nat) : beatenN s xs acts i (k + 1) = (beatenN s xs acts i k || beatsM s xs (nthL acts k) (nthL acts i)) := by
  unfold beatenN; rw [allN_step]; cases allN (fun j => !beatsM s xs (nthL acts j) (nthL acts i)) k <;> cases beatsM s xs (nthL acts k) (nthL acts i) <;> rfl
theorem beaten_free {s : Int} {xs : List Int} {acts : List (List Int)} (hA : actsOk s xs acts = true) {i : Nat} (hi : i < acts.length) : beatenN s xs acts i acts.length = !freeK xs acts i := by
  unfold beatenN freeK
  rw [allN_congr fun j hj => by rw [beats_over hA hi hj]]
theorem free_more (xs : List Int) (acts : List (List Int)) (i d : Nat) : ∃ r, freeTo xs acts (i + d) = freeTo xs acts i ++ r := by
  induction d with
  | zero => exact ⟨[], by simp⟩
  | succ d ih =>
    obtain ⟨r, e⟩ := ih
    rw [show i + (d + 1) = (i + d) + 1 from rfl, freeTo_succ, e]
    split
    · exact ⟨r ++ [((i + d : Nat) : Int)], by rw [List.append_assoc]⟩
    · exact ⟨r, rfl⟩
theorem free_at {xs : List Int} {acts : List (List Int)} {i M : Nat} (hi : i < M) (hf : freeK xs acts i = true) : (freeTo xs acts i).length < (freeTo xs acts M).length ∧ nth (freeTo xs acts M) (freeTo xs acts i).length = (i : Int) := by
  obtain ⟨r, e⟩ := free_more xs acts (i + 1) (M - (i + 1))
  rw [show i + 1 + (M - (i + 1)) = M by omega, freeTo_succ, if_pos hf, List.append_assoc] at e
  rw [e]
  refine ⟨by rw [List.length_append, List.length_append]; simp; omega, ?_⟩
  unfold nth
  rw [List.getD_eq_getElem?_getD, List.getElem?_append_right (Nat.le_refl _)]
  simp
theorem free_le (xs : List Int) (acts : List (List Int)) {i M : Nat} (h : i ≤ M) : (freeTo xs acts i).length ≤ (freeTo xs acts M).length := by
  obtain ⟨r, e⟩ := free_more xs acts i (M - i)
  rw [show i + (M - i) = M by omega] at e
  rw [e, List.length_append]; omega
theorem poss_more (C acts : List (List Int)) (i d : Nat) : ∃ r, possTo C acts (i + d) = possTo C acts i ++ r := by
  induction d with
  | zero => exact ⟨[], by simp⟩
  | succ d ih =>
    obtain ⟨r, e⟩ := ih
    rw [show i + (d + 1) = (i + d) + 1 from rfl, possTo_succ, e]
    split
    · exact ⟨r ++ [((i + d : Nat) : Int)], by rw [List.append_assoc]⟩
    · exact ⟨r, rfl⟩
theorem poss_mem {C acts : List (List Int)} {M : Nat} {x : Int} (h : x ∈ possTo C acts M) : ∃ i : Nat, i < M ∧ x = (i : Int) ∧ possB C acts i = true := by
  induction M with
  | zero => simp [possTo, iter] at h
  | succ M ih =>
    rw [possTo_succ] at h
    split at h
    · rename_i hb
      rcases List.mem_append.1 h with h | h
      · obtain ⟨i, hi, e, hp⟩ := ih h
        exact ⟨i, by omega, e, hp⟩
      · exact ⟨M, by omega, List.mem_singleton.1 h, hb⟩
    · obtain ⟨i, hi, e, hp⟩ := ih h
      exact ⟨i, by omega, e, hp⟩
theorem poss_free {s : Int} {xs : List Int} {acts : List (List Int)} (hA : actsOk s xs acts = true) {i : Nat} (hi : i < acts.length) (hp : possB (cornersL s xs) acts i = true) : freeK xs acts i = true := by
  obtain ⟨hn, _, _, hga⟩ := acts_gains hA
  unfold possB at hp
  rw [Bool.not_eq_true'] at hp
  obtain ⟨j, hj, ht⟩ := allN_ex hp
  rw [Bool.not_eq_false'] at ht
  refine (allN_iff _ _).2 fun a ha => ?_
  rw [← beats_over hA hi ha]
  cases hb : beatsM s xs (nthL acts a) (nthL acts i)
  · rfl
  · exfalso
    rw [beats_law hn (hga a ha) (hga i hi)] at hb
    have h1 := (allN_iff _ _).1 hb j hj
    have h2 := (allN_iff _ _).1 ht a ha
    obtain ⟨_, o, _, ho2, e⟩ := corners_nth hj
    simp only [e] at h1 h2
    rw [corner_less hn ho2 (hga a ha) (hga i hi)] at h1
    rw [h1] at h2
    cases h2
theorem top_some (p : List Int) (acts : List (List Int)) (h : 1 ≤ acts.length) : ∃ i, i < acts.length ∧ topB p acts i = true := by
  have key : ∀ n, 1 ≤ n → ∃ i, i < n ∧ ∀ a, a < n → ¬ loS p (nthL acts i) < loS p (nthL acts a) := by
    intro n
    induction n with
    | zero => intro h; omega
    | succ n ih =>
      intro _
      by_cases hn : n = 0
      · subst hn
        exact ⟨0, by omega, fun a ha => by obtain rfl : a = 0 := by omega
                                           omega⟩
      · obtain ⟨i, hi, hm⟩ := ih (by omega)
        by_cases hc : loS p (nthL acts i) < loS p (nthL acts n)
        · refine ⟨n, by omega, fun a ha => ?_⟩
          by_cases e : a = n
          · subst e; omega
          · have := hm a (by omega); omega
        · refine ⟨i, by omega, fun a ha => ?_⟩
          by_cases e : a = n
          · subst e; exact hc
          · exact hm a (by omega)
  obtain ⟨i, hi, hm⟩ := key acts.length h
  exact ⟨i, hi, (allN_iff _ _).2 fun a ha => by simp [hm a ha]⟩
/-- what the law asks of both lists -/
theorem unbeaten_law {s : Int} {xs : List Int} {acts : List (List Int)} (hA : actsOk s xs acts = true) :
    unbeaten s xs acts = freeTo xs acts acts.length ∧ 1 ≤ (possL s xs acts).length ∧ ∀ q, q < (possL s xs acts).length → ∃ r, r < (unbeaten s xs acts).length ∧ nth (unbeaten s xs acts) r = nth (possL s xs acts) q := by
  obtain ⟨hn, a1, _, _⟩ := acts_gains hA
  have hU : unbeaten s xs acts = freeTo xs acts acts.length := by unfold unbeaten; rw [hA]; rfl
  have hP : possL s xs acts = possTo (cornersL s xs) acts acts.length := by unfold possL; rw [hA]; rfl
  refine ⟨hU, ?_, fun q hq => ?_⟩
  · obtain ⟨i, hi, ht⟩ := top_some (nthL (cornersL s xs) 0) acts a1
    have hb : possB (cornersL s xs) acts i = true := by
      unfold possB
      rw [allN_false (p := fun j => !topB (nthL (cornersL s xs) j) acts i) (corners_some hn) (by show (!topB (nthL (cornersL s xs) 0) acts i) = false; rw [ht]; rfl)]
      rfl
    obtain ⟨r, e⟩ := poss_more (cornersL s xs) acts (i + 1) (acts.length - (i + 1))
    rw [show i + 1 + (acts.length - (i + 1)) = acts.length by omega, possTo_succ, if_pos hb] at e
    rw [hP, e, List.length_append, List.length_append]
    simp; omega
  · have hm : nth (possL s xs acts) q ∈ possL s xs acts := nth_mem _ _ hq
    rw [hP] at hm
    obtain ⟨i, hi, e, hp⟩ := poss_mem hm
    have hf := poss_free hA hi hp
    obtain ⟨h1, h2⟩ := free_at hi hf
    rw [hU]
    exact ⟨_, h1, by rw [h2, hP, ← e]⟩
end Go.Proofs.Ytchjnjmlambpjaa
