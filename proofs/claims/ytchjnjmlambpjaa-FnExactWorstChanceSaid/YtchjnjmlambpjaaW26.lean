/- The order of the least mean: insertion, and the program's stable sort. -/
import Derived.Test.YtchjnjmlambpjaaC4
import Derived.Test.YtchjnjmlambpjaaN9
set_option linter.unusedSimpArgs false
set_option linter.unusedVariables false
namespace Go.Proofs.Ytchjnjmlambpjaa
open Go.RowKit
/-- the place among the first p ones of l at which x is put: behind all that are not greater -/
def downTo (gs l : List Int) (x : Nat) : Nat → Nat
  | 0 => 0
  | p + 1 => if nth gs x < nth gs (nth l p).toNat then downTo gs l x p else p + 1
def insL (gs l : List Int) (x : Nat) : List Int := l.take (downTo gs l x l.length) ++ [(x : Int)] ++ l.drop (downTo gs l x l.length)
def sortTo (gs : List Int) (k : Nat) : List Int := iter (fun x l => insL gs l x) [] k
theorem sortTo_succ (gs : List Int) (k : Nat) : sortTo gs (k + 1) = insL gs (sortTo gs k) k := rfl
theorem downTo_le (gs l : List Int) (x p : Nat) : downTo gs l x p ≤ p := by
  induction p with
  | zero => exact Nat.le_refl _
  | succ p ih => unfold downTo; split <;> omega
theorem sortTo_len (gs : List Int) (k : Nat) : (sortTo gs k).length = k := by
  induction k with
  | zero => rfl
  | succ k ih =>
    have := downTo_le gs (sortTo gs k) k (sortTo gs k).length
    rw [sortTo_succ]; unfold insL
    simp [ih]
    rw [ih] at this
    omega
theorem sortTo_mem (gs : List Int) (k : Nat) (x : Int) : x ∈ sortTo gs k ↔ 0 ≤ x ∧ x < (k : Int) := by
  induction k with
  | zero => first | (simp [sortTo, iter]; done) | (simp [sortTo, iter]; omega)
  | succ k ih =>
    rw [sortTo_succ]
    unfold insL
    have hm : x ∈ sortTo gs k ↔ x ∈ (sortTo gs k).take (downTo gs (sortTo gs k) k (sortTo gs k).length) ∨ x ∈ (sortTo gs k).drop (downTo gs (sortTo gs k) k (sortTo gs k).length) := by
      rw [← List.mem_append, List.take_append_drop]
    rw [List.mem_append, List.mem_append, List.mem_singleton]
    constructor
    · rintro ((h | h) | h)
      · have := ih.1 (hm.2 (.inl h)); omega
      · omega
      · have := ih.1 (hm.2 (.inr h)); omega
    · intro h
      by_cases e : x = (k : Int)
      · exact .inl (.inr e)
      · rcases hm.1 (ih.2 (by omega)) with h | h
        · exact .inl (.inl h)
        · exact .inr h
theorem sortTo_ok (gs : List Int) (k : Nat) : OrdOk k (sortTo gs k) := ⟨fun x hx => (sortTo_mem gs k x).1 hx, fun y hy => (sortTo_mem gs k y).2 (by omega)⟩
/-- what stands behind the place is greater -/
theorem downTo_gt (gs l : List Int) (x : Nat) : ∀ p q, downTo gs l x p ≤ q → q < p → nth gs x < nth gs (nth l q).toNat := by
  intro p
  induction p with
  | zero => intro q _ h; omega
  | succ p ih =>
    intro q h1 h2
    unfold downTo at h1
    split at h1
    · rename_i h
      by_cases e : q = p
      · subst e; exact h
      · exact ih q h1 (by omega)
    · omega
theorem downTo_ge (gs l : List Int) (x p : Nat) : ∀ q, q + 1 = downTo gs l x p → ¬ nth gs x < nth gs (nth l q).toNat := by
  induction p with
  | zero => intro q h; cases h
  | succ p ih =>
    intro q h
    unfold downTo at h
    split at h
    · exact ih q h
    · rename_i hc
      obtain rfl : q = p := by omega
      exact hc
theorem sortTo_asc (gs : List Int) (k : Nat) : Asc gs (sortTo gs k) := by
  induction k with
  | zero => exact List.Pairwise.nil
  | succ k ih =>
    rw [sortTo_succ]
    obtain ⟨l, hl⟩ : ∃ l, sortTo gs k = l := ⟨_, rfl⟩
    rw [hl] at ih ⊢
    unfold insL
    obtain ⟨p, hp⟩ : ∃ p, downTo gs l k l.length = p := ⟨_, rfl⟩
    have hple : p ≤ l.length := by rw [← hp]; exact downTo_le _ _ _ _
    rw [hp]
    have hpair := ih
    unfold Asc at hpair ⊢
    rw [← List.take_append_drop p l, List.pairwise_append] at hpair
    obtain ⟨h1, h2, h3⟩ := hpair
    have hdrop : ∀ y, y ∈ l.drop p → nth gs k < nth gs y.toNat := fun y hy => by
      obtain ⟨i, hi, e⟩ := List.getElem_of_mem hy
      rw [List.length_drop] at hi
      rw [List.getElem_drop] at e
      have := downTo_gt gs l k l.length (p + i) (by rw [hp]; omega) (by omega)
      rw [nth_eq l (p + i) (by omega), e] at this
      exact this
    have htake : ∀ y, y ∈ l.take p → nth gs y.toNat ≤ nth gs k := fun y hy => by
      have hp0 : p ≠ 0 := by rintro rfl; simp at hy
      obtain ⟨q, rfl⟩ : ∃ q, p = q + 1 := ⟨p - 1, by omega⟩
      have hge := downTo_ge gs l k l.length q hp.symm
      obtain ⟨i, hi, e⟩ := List.getElem_of_mem hy
      rw [List.length_take] at hi
      rw [List.getElem_take] at e
      have hasc := List.pairwise_iff_getElem.1 ih i q (by omega) (by omega)
      have hil : i < l.length := by omega
      by_cases hiq : i = q
      · rw [← hiq, nth_eq l i hil, e] at hge
        omega
      · have := hasc (by omega)
        rw [nth_eq l q (by omega)] at hge
        rw [e] at this
        omega
    rw [List.pairwise_append]
    refine ⟨?_, h2, fun a ha b hb => ?_⟩
    · rw [List.pairwise_append]
      refine ⟨h1, List.pairwise_singleton _ _, fun a ha b hb => ?_⟩
      rw [List.mem_singleton] at hb
      subst hb
      exact htake a ha
    · rcases List.mem_append.1 ha with ha | ha
      · exact h3 a ha b hb
      · rw [List.mem_singleton] at ha
        subst ha
        have := hdrop b hb
        show nth gs k ≤ _
        omega
/-- the numbers from i on -/
def restL (i n : Nat) : List Int := (List.range (n - i)).map fun k => (((i + k : Nat)) : Int)
theorem restL_len (i n : Nat) : (restL i n).length = n - i := by simp [restL]
theorem restL_cons {i n : Nat} (h : i < n) : restL i n = (i : Int) :: restL (i + 1) n := by
  unfold restL
  obtain ⟨d, hd⟩ : ∃ d, n - i = d + 1 := ⟨n - i - 1, by omega⟩
  rw [hd, List.range_succ_eq_map, show n - (i + 1) = d by omega]
  simp
  intro a _; omega
/-- the list while number i is put: it stands at place j -/
def putL (l : List Int) (i j n : Nat) : List Int := (l.take j ++ [(i : Int)] ++ l.drop j) ++ restL (i + 1) n
theorem putL_start {l : List Int} {i n : Nat} (hl : l.length = i) (hi : i < n) : putL l i i n = l ++ restL i n := by
  unfold putL
  rw [restL_cons hi, ← hl]; simp
theorem putL_end {gs l : List Int} {i n : Nat} : putL l i (downTo gs l i l.length) n = insL gs l i ++ restL (i + 1) n := rfl
theorem nth_app_left {l m : List Int} {k : Nat} (h : k < l.length) : nth (l ++ m) k = nth l k := by
  unfold nth; rw [List.getD_eq_getElem?_getD, List.getD_eq_getElem?_getD, List.getElem?_append_left h]
theorem nth_app_right {l m : List Int} {k : Nat} (h : l.length ≤ k) : nth (l ++ m) k = nth m (k - l.length) := by
  unfold nth; rw [List.getD_eq_getElem?_getD, List.getD_eq_getElem?_getD, List.getElem?_append_right h]
theorem putL_len {l : List Int} {i j n : Nat} (hl : l.length = i) (hj : j ≤ i) (hi : i < n) : (putL l i j n).length = n := by
  unfold putL
  rw [List.length_append, restL_len]
  simp [hl]
  omega
theorem nth_take {l : List Int} {j k : Nat} (h : k < j) : nth (l.take j) k = nth l k := by
  unfold nth; rw [List.getD_eq_getElem?_getD, List.getD_eq_getElem?_getD, List.getElem?_take, if_pos h]
theorem nth_drop (l : List Int) (j k : Nat) : nth (l.drop j) k = nth l (j + k) := by
  unfold nth; rw [List.getD_eq_getElem?_getD, List.getD_eq_getElem?_getD, List.getElem?_drop]
/-- what stands where -/
theorem putL_nth {l : List Int} {i j n : Nat} (hl : l.length = i) (hj : j ≤ i) (k : Nat) : nth (putL l i j n) k = if k < j then nth l k else if k = j then (i : Int) else if k ≤ i then nth l (k - 1) else nth (restL (i + 1) n) (k - (i + 1)) := by
  unfold putL
  have h1 : (l.take j).length = j := by rw [List.length_take]; omega
  have h2 : (l.take j ++ [(i : Int)]).length = j + 1 := by rw [List.length_append, h1]; rfl
  have h3 : (l.take j ++ [(i : Int)] ++ l.drop j).length = i + 1 := by rw [List.length_append, h2, List.length_drop]; omega
  by_cases a : k < j
  · rw [if_pos a, nth_app_left (by omega), nth_app_left (by omega), nth_app_left (by omega), nth_take a]
  · rw [if_neg a]
    by_cases b : k = j
    · subst b
      rw [if_pos rfl, nth_app_left (by omega), nth_app_left (by omega), nth_app_right (by omega), h1, Nat.sub_self]; rfl
    · rw [if_neg b]
      by_cases c : k ≤ i
      · rw [if_pos c, nth_app_left (by omega), nth_app_right (by omega), h2, nth_drop]
        congr 1; omega
      · rw [if_neg c, nth_app_right (by omega), h3]
/-- one exchange -/
theorem putL_swap {l : List Int} {i j n : Nat} (hl : l.length = i) (hj : j + 1 ≤ i) (hi : i < n) : ((putL l i (j + 1) n).set (j + 1) (nth l j)).set j (i : Int) = putL l i j n := by
  have e1 := putL_len (n := n) hl hj hi
  have e2 := putL_len (n := n) hl (show j ≤ i by omega) hi
  refine ext_nth _ _ (by rw [List.length_set, List.length_set, e1, e2]) fun k hk => ?_
  rw [List.length_set, List.length_set, e1] at hk
  rw [nth_set, nth_set, List.length_set, e1, putL_nth hl hj, putL_nth hl (by omega)]
  by_cases a : j = k
  · subst a; rw [if_pos ⟨rfl, by omega⟩, if_neg (by omega), if_pos rfl]
  · rw [if_neg (fun h => a h.1)]
    by_cases b : j + 1 = k
    · subst b; rw [if_pos ⟨rfl, by omega⟩, if_neg (by omega), if_neg (by omega), if_pos (by omega)]; congr 1
    · rw [if_neg (fun h => b h.1)]
      by_cases c : k < j
      · rw [if_pos (by omega), if_pos c]
      · rw [if_neg (show ¬ k < j + 1 by omega), if_neg (show ¬ k = j + 1 by omega), if_neg (show ¬ k < j by omega), if_neg (show ¬ k = j by omega)]
/-- the chance of the least mean -/
def worstM (s : Int) (xs gs : List Int) : MR := if normalOk s xs && gainsOk s gs then chanceM s xs (sortTo gs gs.length) else MR.no
theorem worstM_bad {s : Int} {xs gs : List Int} (h : normalOk s xs = false ∨ gainsOk s gs = false) : worstM s xs gs = MR.no := by
  unfold worstM
  rcases h with h | h <;> simp [h]
end Go.Proofs.Ytchjnjmlambpjaa
