/- Rows of strings that a call owns; the table of powers of ten that strconv reads. -/
import Derived.Test.YtobeeomeebicnaaDoorT1
import Derived.Test.YtobeeomeebicnaaDoorL1
import Derived.Test.YtobeeomeebicnaaDoorShelf
import Derived.Lib.AppendIntMem
set_option linter.unusedSimpArgs false
set_option linter.unusedVariables false
namespace Go.Proofs.YtobeeomeebicnaaDoor
open Go.RowKit
theorem info_str : (Tryd.prog.info? 9).map (fun i => (i.zero, i.size, i.bytes)) = some (some (.string ByteArray.empty), 1, 16) := by kernel_rfl
/-- v owns these strings -/
def SRow (w : World) (base : Nat) (v : Value) (xs : List ByteArray) : Prop := w.ownsRow base 9 1 v xs.length (xs.map Value.string)
theorem SRow.below {w w' : World} {base : Nat} {v : Value} {xs : List ByteArray} (h : SRow w base v xs) (hb : Below w.heap.size w w') : SRow w' base v xs := by
  have hl := World.ownsRow.lt h
  refine ⟨h.1, ?_⟩
  rcases h.2 with h2 | ⟨g, cap, cur, hv, hg, hh, r⟩
  · exact .inl h2
  · exact .inr ⟨g, cap, cur, hv, hg, by rw [hb.block g (hl g (by rw [hv]; rfl)).2]; exact hh, r⟩
theorem SRow.lit (w : World) : SRow (w.alloc (.cells #[] 9)) w.heap.size (.slice (some ⟨w.heap.size, 0, none⟩) 0 0) [] :=
  World.ownsRow_lit w #[] 0 (Nat.le_refl _) (by unfold maxLen; omega) rfl
theorem SRow.block {w : World} {base : Nat} {v : Value} {xs : List ByteArray} (h : SRow w base v xs) : ∀ k, v.ownBlock = some k → base ≤ k ∧ k < w.heap.size := World.ownsRow.lt h
theorem SRow.at {w : World} {base g n c : Nat} {xs : List ByteArray} (h : SRow w base (.slice (some ⟨g, 0, none⟩) n c) xs) : n = xs.length ∧ n ≤ c ∧ base ≤ g ∧ g < w.heap.size ∧ ∀ (j : Nat) x, xs[j]? = some x → w.cell? ⟨g, 0 + j, none⟩ = some (.string x) := by
  have hb := SRow.block h g rfl
  have hc : n = xs.length ∧ n ≤ c := by
    rcases h.2 with ⟨h', _⟩ | ⟨g', cap', cur, hv, _, _, hn, hcap, _⟩
    · simp at h'
    · injection hv with e1 e2 e3; subst e2 e3; exact ⟨rfl, by omega⟩
  refine ⟨hc.1, hc.2, hb.1, hb.2, fun j x hj => ?_⟩
  have e := World.ownsRow.cells h (g := g) rfl j (.string x) (by rw [List.getElem?_map, hj]; rfl)
  have ha : (⟨g, 0, none⟩ : Addr).add j = ⟨g, 0 + j, none⟩ := by unfold Addr.add; split <;> simp_all
  rw [ha] at e; exact e
/-- one string appended -/
theorem wpList_append_str {w : World} {ops : Array Oper} {rest : List Oper} {o : Oper} {a : Act} {Q : Exit → Act → World → Prop} (hgd : o.guard = none) (s x : Operand)
    (ho : o.op = .call { callee := .builtin .append, args := #[s, x], argTypes := #[36, 36] })
    (base : Nat) (v : Value) (xs : List ByteArray) (n : Nat) (hl : xs.length = n) (hs : a.eval s = v) (hown : SRow w base v xs)
    (ad : Addr) (c : Nat) (u : ByteArray) (hx : a.eval x = .slice (some ad) 1 c) (hnew : w.cell? ad = some (.string u))
    (hn : n < 1000000000) (hbase : base ≤ w.heap.size)
    (h : ∀ g cap w', SRow w' base (.slice (some ⟨g, 0, none⟩) (n + 1) cap) (xs ++ [u]) → w.grownBy w' v.ownBlock → wpList Tryd.prog ops Q rest (a.put o.dst (.slice (some ⟨g, 0, none⟩) (n + 1) cap)) w') :
    wpList Tryd.prog ops Q (o :: rest) a w := by
  obtain ⟨i0, hi, hz0, hz1, hz2⟩ := info_parts info_str
  subst hl
  refine wpList_plain hgd fun _ hK => wp_append_lies w s x 36 ho base 9 i0 (.string ByteArray.empty) 1 16 Tryd.underlying36 hi hz0 hz1 hz2 rfl (by decide) v xs.length (xs.map Value.string) hs hown ad 1 c [.string u] hx rfl ?_ ?_ (by decide) (by unfold maxLen; omega) (by omega) hbase _ rfl fun g cap w' k1 k2 k3 k4 => hK _ _ (h g cap w' ?_ k2)
  · intro j u' hj
    match j, hj with
    | 0, hj => simp at hj; subst hj; simpa [Addr.add] using hnew
  · intro u' hu'; simp at hu'; subst hu'; rfl
  · simpa [SRow] using k1
/-- the table of powers of ten reads as its text lays it -/
def Pow (w : World) : Prop := Lib.TabIs Tryd.prog w "internal/strconv.uint64pow10" .u64 Lib.pow10Tab
theorem Pow.below {w w' : World} (h : Pow w) (hb : Below w.heap.size w w') : Pow w' := Lib.tabBelow_of_tabIs h _ hb
theorem Itoa_any (n : Int) (h0 : -9223372036854775808 ≤ n) (h1 : n ≤ 9223372036854775807) (w : World) (hp : Pow w) :
    Calls Tryd.prog 29 #[.int .i64 n] w fun e w' => e = .returned (.string (bs (Lib.itoa n))) ∧ Below w.heap.size w w' :=
  (Tryd.strconv_Itoa n h0 h1 w hp).mono fun e w' ⟨he, k, os, hw⟩ => ⟨he, by subst hw; exact Lib.below_grow _ _ (Nat.le_refl _) k os⟩
end Go.Proofs.YtobeeomeebicnaaDoor
