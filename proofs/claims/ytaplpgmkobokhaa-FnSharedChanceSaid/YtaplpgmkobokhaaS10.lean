/- Pairs: PairMasses, PassOn, IsIndependent, each both ways. -/
import Derived.Test.YtaplpgmkobokhaaS8
import Derived.Test.YtaplpgmkobokhaaS9
set_option linter.unusedSimpArgs false
set_option linter.unusedVariables false
namespace Go.Proofs.Ytaplpgmkobokhaa
open Go.RowKit
def andT : Nat → Nat → Nat := fun a b => a &&& b
/-- what two independent masses tell of pairs -/
def pairM (s : Int) (xs : List Int) (u : Int) (ys : List Int) : MR :=
  if (extendM false s xs).ok && (extendM true u ys).ok then togM (fun a b => a &&& b) (extendM false s xs).size (extendM false s xs).parts (extendM true u ys).size (extendM true u ys).parts else MR.no
theorem pairM_len (s : Int) (xs : List Int) (u : Int) (ys : List Int) : (pairM s xs u ys).parts.length ≤ 100000000 := by
  unfold pairM; split
  · have := togM_len (fun a b => a &&& b) (extendM false s xs).size (extendM false s xs).parts (extendM true u ys).size (extendM true u ys).parts; omega
  · simp [MR.no]
theorem mkMass_ok {s : Int} {xs : List Int} (h : (mkMass s xs).ok = true) : (mkMass s xs).size = s ∧ massOk s (mkMass s xs).parts = true := by
  unfold mkMass at *
  split at h
  · cases h
  · rename_i h1
    rw [if_neg h1]
    split at h
    · rename_i h2; rw [if_pos h2]; exact ⟨rfl, h2⟩
    · cases h
theorem extend_ok {second : Bool} {s : Int} {xs : List Int} (h : (extendM second s xs).ok = true) : (extendM second s xs).size = 4 ∧ massOk 4 (extendM second s xs).parts = true := by
  unfold extendM at *
  split at h
  · rename_i h1
    rw [if_pos h1]
    unfold refineM at *
    split at h
    · rename_i h2
      rw [if_pos h2]
      exact mkMass_ok h
    · cases h
  · cases h
theorem togM_ok {T : Nat → Nat → Nat} {s : Int} {xs : List Int} {u : Int} {ys : List Int} (h : (togM T s xs u ys).ok = true) : (togM T s xs u ys).size = s ∧ massOk s (togM T s xs u ys).parts = true := by
  unfold togM at *
  split at h
  · rename_i h1
    rw [if_pos h1]
    exact mkMass_ok h
  · cases h
/-- what is passed on to the second question -/
def passM (s : Int) (xs : List Int) (u : Int) (ys : List Int) : MR :=
  if (extendM false s xs).ok then (if (togM (fun a b => a &&& b) (extendM false s xs).size (extendM false s xs).parts u ys).ok then sideM true (togM (fun a b => a &&& b) (extendM false s xs).size (extendM false s xs).parts u ys).size (togM (fun a b => a &&& b) (extendM false s xs).size (extendM false s xs).parts u ys).parts else MR.no) else MR.no
theorem passM_len (s : Int) (xs : List Int) (u : Int) (ys : List Int) : (passM s xs u ys).parts.length ≤ 100000000 := by
  unfold passM; split
  · split
    · exact sideM_len _ _ _
    · simp [MR.no]
  · simp [MR.no]
theorem pass_bad {s : Int} {xs : List Int} {u : Int} {ys : List Int} (h : (massOk u ys && (u == 4)) = false) : passM s xs u ys = MR.no := by
  unfold passM
  cases h1 : (extendM false s xs).ok
  · rfl
  · have h2 := extend_ok h1
    have h3 : oneQ (extendM false s xs).size (extendM false s xs).parts u ys = false := by
      unfold oneQ
      rw [h2.1, h2.2]
      cases h4 : massOk u ys
      · rfl
      · rw [h4, Bool.true_and] at h
        rw [Bool.true_and, Bool.true_and]
        simp at h ⊢; omega
    rw [togM_bad h3]; rfl
def sameL (xs ys : List Int) : Bool := (xs.length == ys.length) && allN (fun k => nth xs k == nth ys k) xs.length
/-- is a mass of pairs that of its sides? -/
def indepM (s : Int) (xs : List Int) : Bool :=
  (sideM false s xs).ok && ((sideM true s xs).ok && ((pairM (sideM false s xs).size (sideM false s xs).parts (sideM true s xs).size (sideM true s xs).parts).ok && sameL (pairM (sideM false s xs).size (sideM false s xs).parts (sideM true s xs).size (sideM true s xs).parts).parts xs))
theorem pair_ok {s : Int} {xs : List Int} {u : Int} {ys : List Int} (h : (pairM s xs u ys).ok = true) : (pairM s xs u ys).size = 4 ∧ massOk 4 (pairM s xs u ys).parts = true := by
  unfold pairM at *
  split at h
  · rename_i h1
    rw [if_pos h1]
    simp only [Bool.and_eq_true] at h1
    have h2 := togM_ok h
    have h3 := extend_ok h1.1
    rw [h3.1] at h2
    rw [h3.1]
    exact h2
  · cases h
theorem sameL_bad {xs ys : List Int} {k : Nat} (hk : k < xs.length) (h : nth xs k ≠ nth ys k) : sameL xs ys = false := by
  unfold sameL; rw [allN_false (p := fun k => nth xs k == nth ys k) hk (by simpa using h)]; simp
theorem sameL_all {xs ys : List Int} (hl : xs.length = ys.length) (h : ∀ k, k < xs.length → nth xs k = nth ys k) : sameL xs ys = true := by
  unfold sameL; rw [(allN_iff _ _).2 fun k hk => by simpa using h k hk, hl]; simp
theorem same_cases (xs ys : List Int) (n : Nat) (hn : xs.length = n) : (∀ k, k < n → nth xs k = nth ys k) ∨ ∃ k, k < n ∧ nth xs k ≠ nth ys k := by
  by_cases h : ∃ k, k < n ∧ nth xs k ≠ nth ys k
  · exact .inr h
  · exact .inl fun k hk => Classical.byContradiction fun hc => h ⟨k, hk, hc⟩
end Go.Proofs.Ytaplpgmkobokhaa
