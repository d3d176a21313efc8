/- Plain: the texts of numbers (no program). spec.l14Dec: the decimal text of every int. Rows of strings that a call owns; the table of powers of ten that strconv reads. FormatNumbers: the reference's and the program's. Plain: words between spaces; canonical numerals (no program). spec.l14Cut: the words of a text. spec.l14Num: a canonical numeral of at most 17 digits (printed by numgen.py). spec.ParseNumbers. impl.ParseNumbers. The law that the program's ParseNumbers is the reference's: its walk. -/
import Derived.Test.YtefmlbahmakboaaGreatDoorP0
import Derived.Lib.ItoaLen
import Derived.Lib.ItoaMem
import Derived.Lib.Join
import Derived.Test.YtefmlbahmakboaaGreatDoorB0
import Derived.Laws.IdiomStrings
import Derived.Test.YtefmlbahmakboaaGreatDoorW3
import Derived.Test.YtefmlbahmakboaaGreatDoorShelf
import Derived.Lib.AppendIntMem
import Derived.Lib.SplitLaws
import Derived.Lib.AtoiTie
import Derived.Lib.AtoiAllCases
import Derived.Lib.AtoiErrMem
import Derived.Test.YtefmlbahmakboaaGreatDoorL2
set_option linter.unusedSimpArgs false
set_option linter.unusedVariables false
namespace Go.Proofs.YtefmlbahmakboaaGreatDoor
open Go.RowKit
/-- the bytes as a string -/
def bs (l : List UInt8) : ByteArray := ⟨l.toArray⟩
theorem bs_append (a b : List UInt8) : bs a ++ bs b = bs (a ++ b) := by
  apply ByteArray.ext; simp [bs]
theorem bs_size (l : List UInt8) : (bs l).size = l.length := by simp [bs, ByteArray.size]
theorem bs_data (l : List UInt8) : (bs l).data.toList = l := by simp [bs]
theorem bs_inj {a b : List UInt8} (h : bs a = bs b) : a = b := by rw [← bs_data a, h, bs_data]
/-- the text of the first k numbers, one space between -/
def txt (xs : List Int) (k : Nat) : List UInt8 := Lib.join ((xs.take k).map Lib.itoa) [32]
/-- the text of numbers -/
def numT (xs : List Int) : List UInt8 := if xs.length = 0 then [45] else txt xs xs.length
theorem itoa_pos (n : Int) : 0 < (Lib.itoa n).length := by
  have h : ∀ u, 0 < (Lib.decDigits u).length := by
    intro u; rw [Lib.decDigits]; split <;> simp
  unfold Lib.itoa; split
  · simp
  · exact h _
theorem txt_zero (xs : List Int) : txt xs 0 = [] := by simp [txt, Lib.join_nil]
theorem join_snoc (l : List (List UInt8)) (y : List UInt8) (h : l ≠ []) (sep : List UInt8) : Lib.join (l ++ [y]) sep = Lib.join l sep ++ sep ++ y := by
  cases l with
  | nil => exact absurd rfl h
  | cons x r =>
    rw [List.cons_append, Lib.join_cons, Lib.join_cons]
    simp [Lib.joinTail, List.append_assoc]
theorem take_one (xs : List Int) (k : Nat) (hk : k < xs.length) : xs.take (k + 1) = xs.take k ++ [nth xs k] := by
  rw [List.take_add_one, nth_eq _ _ hk]; simp [hk]
theorem words_data (l : List Int) : (l.map fun x => bs (Lib.itoa x)).map (·.data.toList) = l.map Lib.itoa := by
  induction l with
  | nil => rfl
  | cons x r ih => simp only [List.map_cons, ih, bs_data]
theorem txt_succ (xs : List Int) (k : Nat) (hk : k < xs.length) : txt xs (k + 1) = if k = 0 then Lib.itoa (nth xs k) else txt xs k ++ [32] ++ Lib.itoa (nth xs k) := by
  have e : xs.take (k + 1) = xs.take k ++ [nth xs k] := by
    rw [List.take_add_one, nth_eq _ _ hk]; simp [hk]
  unfold txt
  rw [e, List.map_append]
  split
  · next h => subst h; simp [Lib.join_one]
  · next h => exact join_snoc _ _ (by simp; exact ⟨h, fun e => by rw [e] at hk; simp at hk⟩) _
theorem txt_len (xs : List Int) (h : ∀ k, k < xs.length → -9223372036854775808 ≤ nth xs k ∧ nth xs k ≤ 9223372036854775807) : ∀ k, k ≤ xs.length → (txt xs k).length ≤ 22 * k
  | 0, _ => by simp [txt_zero]
  | k + 1, hk => by
    have ih := txt_len xs h k (by omega)
    have hl := Lib.itoa_length_le (nth xs k) (h k (by omega)).1 (h k (by omega)).2
    rw [txt_succ _ _ (by omega)]
    split
    · omega
    · simp; omega
theorem txt_pos (xs : List Int) (k : Nat) (h0 : 0 < k) (hk : k ≤ xs.length) : txt xs k ≠ [] := by
  obtain ⟨j, rfl⟩ : ∃ j, k = j + 1 := ⟨k - 1, by omega⟩
  rw [txt_succ _ _ (by omega)]
  intro h
  have hp := itoa_pos (nth xs j)
  split at h
  · rw [h] at hp; simp at hp
  · simp at h
theorem numT_pos (xs : List Int) : numT xs ≠ [] := by
  unfold numT; split
  · simp
  · exact txt_pos _ _ (by omega) (Nat.le_refl _)
theorem dec_step (m : Nat) (h : 9 < m) (s : List UInt8) : Lib.decDigits m ++ s = Lib.decDigits (m / 10) ++ (UInt8.ofNat (48 + m % 10) :: s) := by
  rw [Lib.decDigits, dif_neg (by omega)]; simp
theorem dec_last (m : Nat) (h : m ≤ 9) (s : List UInt8) : Lib.decDigits m ++ s = UInt8.ofNat (48 + m) :: s := by
  rw [Lib.decDigits, dif_pos (by omega)]; simp
theorem itoa_nn (n : Int) (h : 0 ≤ n) : Lib.itoa n = Lib.decDigits n.toNat := by unfold Lib.itoa; rw [if_neg (by omega)]
theorem itoa_ng (n : Int) (h : n < 0) : Lib.itoa n = 45 :: Lib.decDigits (-n).toNat := by
  unfold Lib.itoa; rw [if_pos h, show n.natAbs = (-n).toNat by omega]
theorem itoa_min : Lib.itoa (-9223372036854775808) = [45, 57, 50, 50, 51, 51, 55, 50, 48, 51, 54, 56, 53, 52, 55, 55, 53, 56, 48, 56] := by decide +kernel
theorem conv1 (W : World) (x : Int) (h0 : 0 ≤ x) (h1 : x < 256) :
    (convert 22 9 (.slice (some ⟨W.heap.size, 0, none⟩) 1 1)).run Tryz.prog (W.alloc (.cells #[.int .u8 x] 5)) = .ok (.string (bs [UInt8.ofNat x.toNat])) (W.alloc (.cells #[.int .u8 x] 5)) := by
  refine run_convert_bytes_back (W.alloc (.cells #[.int .u8 x] 5)) 22 9 5 ⟨W.heap.size, 0, none⟩ 1 [UInt8.ofNat x.toNat] Tryz.underlying22 Tryz.underlying5 Tryz.underlying9 (fun j hj => ?_)
  obtain rfl : j = 0 := by simpa using hj
  have e : (⟨W.heap.size, 0, none⟩ : Addr).add 0 = ⟨W.heap.size, 0, none⟩ := rfl
  rw [e]
  have : ((UInt8.ofNat x.toNat).toNat : Int) = x := by
    simp [UInt8.toNat_ofNat']; omega
  simp [World.cell?_alloc_new, this]
  omega
theorem info_str : (Tryz.prog.info? 9).map (fun i => (i.zero, i.size, i.bytes)) = some (some (.string ByteArray.empty), 1, 16) := by kernel_rfl
/-- v owns these strings -/
def SRow (w : World) (base : Nat) (v : Value) (xs : List ByteArray) : Prop := w.ownsRow base 9 1 v xs.length (xs.map Value.string)
theorem SRow.below {w w' : World} {base : Nat} {v : Value} {xs : List ByteArray} (h : SRow w base v xs) (hb : Below w.heap.size w w') : SRow w' base v xs := by
  have hl := World.ownsRow.lt h
  refine ⟨h.1, ?_⟩
  rcases h.2 with h2 | ⟨g, cap, cur, hv, hg, hh, r⟩
  · exact .inl h2
  · exact .inr ⟨g, cap, cur, hv, hg, by rw [hb.block g (hl g (by rw [hv]; rfl)).2]; exact hh, r⟩
theorem SRow.lit (w : World) : SRow (w.alloc (.cells #[] 9)) w.heap.size (.slice (some ⟨w.heap.size, 0, none⟩) 0 0) [] :=
  World.ownsRow_lit w #[] 0 (Nat.le_refl _) (by unfold maxLen; omega) rfl
theorem SRow.block {w : World} {base : Nat} {v : Value} {xs : List ByteArray} (h : SRow w base v xs) : ∀ k, v.ownBlock = some k → base ≤ k ∧ k < w.heap.size := World.ownsRow.lt h
theorem SRow.at {w : World} {base g n c : Nat} {xs : List ByteArray} (h : SRow w base (.slice (some ⟨g, 0, none⟩) n c) xs) : n = xs.length ∧ n ≤ c ∧ base ≤ g ∧ g < w.heap.size ∧ ∀ (j : Nat) x, xs[j]? = some x → w.cell? ⟨g, 0 + j, none⟩ = some (.string x) := by
  have hb := SRow.block h g rfl
  have hc : n = xs.length ∧ n ≤ c := by
    rcases h.2 with ⟨h', _⟩ | ⟨g', cap', cur, hv, _, _, hn, hcap, _⟩
    · simp at h'
    · injection hv with e1 e2 e3; subst e2 e3; exact ⟨rfl, by omega⟩
  refine ⟨hc.1, hc.2, hb.1, hb.2, fun j x hj => ?_⟩
  have e := World.ownsRow.cells h (g := g) rfl j (.string x) (by rw [List.getElem?_map, hj]; rfl)
  have ha : (⟨g, 0, none⟩ : Addr).add j = ⟨g, 0 + j, none⟩ := by unfold Addr.add; split <;> simp_all
  rw [ha] at e; exact e
/-- one string appended -/
theorem wpList_append_str {w : World} {ops : Array Oper} {rest : List Oper} {o : Oper} {a : Act} {Q : Exit → Act → World → Prop} (hgd : o.guard = none) (s x : Operand)
    (ho : o.op = .call { callee := .builtin .append, args := #[s, x], argTypes := #[61, 61] })
    (base : Nat) (v : Value) (xs : List ByteArray) (n : Nat) (hl : xs.length = n) (hs : a.eval s = v) (hown : SRow w base v xs)
    (ad : Addr) (c : Nat) (u : ByteArray) (hx : a.eval x = .slice (some ad) 1 c) (hnew : w.cell? ad = some (.string u))
    (hn : n < 1000000000) (hbase : base ≤ w.heap.size)
    (h : ∀ g cap w', SRow w' base (.slice (some ⟨g, 0, none⟩) (n + 1) cap) (xs ++ [u]) → w.grownBy w' v.ownBlock → wpList Tryz.prog ops Q rest (a.put o.dst (.slice (some ⟨g, 0, none⟩) (n + 1) cap)) w') :
    wpList Tryz.prog ops Q (o :: rest) a w := by
  obtain ⟨i0, hi, hz0, hz1, hz2⟩ := info_parts info_str
  subst hl
  refine wpList_plain hgd fun _ hK => wp_append_lies w s x 61 ho base 9 i0 (.string ByteArray.empty) 1 16 Tryz.underlying61 hi hz0 hz1 hz2 rfl (by decide) v xs.length (xs.map Value.string) hs hown ad 1 c [.string u] hx rfl ?_ ?_ (by decide) (by unfold maxLen; omega) (by omega) hbase _ rfl fun g cap w' k1 k2 k3 k4 => hK _ _ (h g cap w' ?_ k2)
  · intro j u' hj
    match j, hj with
    | 0, hj => simp at hj; subst hj; simpa [Addr.add] using hnew
  · intro u' hu'; simp at hu'; subst hu'; rfl
  · simpa [SRow] using k1
/-- the table of powers of ten reads as its text lays it -/
def Pow (w : World) : Prop := Lib.TabIs Tryz.prog w "internal/strconv.uint64pow10" .u64 Lib.pow10Tab
theorem Pow.below {w w' : World} (h : Pow w) (hb : Below w.heap.size w w') : Pow w' := Lib.tabBelow_of_tabIs h _ hb
theorem Itoa_any (n : Int) (h0 : -9223372036854775808 ≤ n) (h1 : n ≤ 9223372036854775807) (w : World) (hp : Pow w) :
    Calls Tryz.prog 51 #[.int .i64 n] w fun e w' => e = .returned (.string (bs (Lib.itoa n))) ∧ Below w.heap.size w w' :=
  (Tryz.strconv_Itoa n h0 h1 w hp).mono fun e w' ⟨he, k, os, hw⟩ => ⟨he, by subst hw; exact Lib.below_grow _ _ (Nat.le_refl _) k os⟩
def I64 (xs : List Int) : Prop := ∀ k, k < xs.length → -9223372036854775808 ≤ nth xs k ∧ nth xs k ≤ 9223372036854775807
theorem bs_empty (l : List UInt8) (b : Bool) (h : l.isEmpty = b) : (bs l).toList.isEmpty = b := by rw [Lib.toList_data, bs_data, h]
set_option maxRecDepth 100000 in
set_option maxHeartbeats 800000 in
theorem numbersText_any (ao : Option Addr) (n c : Nat) (xs : List Int) (w : World) (hx : IntsAt w ao n xs) (hb : I64 xs) (hn : n ≤ 2000000) (hp : Pow w) :
    Calls Tryz.prog 67 #[.slice ao n c] w fun e w' => e = .returned (.string (bs (numT xs))) ∧ Below w.heap.size w w' := by
  have hcap := hx.cap
  have hlx := hx.len
  have HL := hid hlx
  have HB := hid hb
  by_cases hn0 : n = 0
  · have HV : Hid (numT xs = [45]) := by show _ = _; unfold numT; rw [if_pos (by omega)]
    subst hn0
    go_enter Tryz.func67, Tryz.ntmps67
    go_wp2
    go_ret
    exact ⟨by rw [HV.out]; rfl, Below.refl _ _⟩
  have HV : Hid (numT xs = txt xs n) := by show _ = _; unfold numT; rw [if_neg (by omega), hlx]
  have hn1 : ((n : Int) == 0) = false := by simp; omega
  go_enter Tryz.func67, Tryz.ntmps67
  go_wp2
  obtain ⟨q0, hq0⟩ : ∃ q : World, q = w.alloc (.cells #[] 9) := ⟨_, rfl⟩
  rw [← hq0]
  go_loopw [3, 5, 12] (fun ws u i wr => Below w.heap.size w wr ∧ ∃ k : Nat, k ≤ n ∧ i = .int .i64 k ∧ ∃ g cp, ws = .slice (some ⟨g, 0, none⟩) k cp ∧ SRow wr w.heap.size (.slice (some ⟨g, 0, none⟩) k cp) ((xs.take k).map fun x => bs (Lib.itoa x))) (fun _ _ i _ => n - (intOf i).toNat)
  case atStart => exact ⟨by rw [hq0]; exact below_alloc w _, 0, by omega, rfl, _, _, rfl, by rw [hq0]; exact SRow.lit w⟩
  case round =>
    obtain ⟨hB, k, hk, rfl, g, cp, rfl, hrow⟩ := hrel
    have hBs := hB.size
    by_cases hlt : k < n
    · obtain ⟨b, off, rfl, hbs0, hbs, hck⟩ := hx.at hB hlt
      have hr := HB.out k (by omega)
      have hpr := hp.below hB
      have hlk : ((xs.take k).map fun x => bs (Lib.itoa x)).length = k := by simp; omega
      have HT : Hid ((xs.take (k + 1)).map (fun x => bs (Lib.itoa x)) = ((xs.take k).map fun x => bs (Lib.itoa x)) ++ [bs (Lib.itoa (nth xs k))]) := by
        show _ = _; rw [take_one _ _ (by omega), List.map_append]; rfl
      clear hlx hb
      go_wp2_with (first | (go_at_call 51; refine (Itoa_any _ hr.1 hr.2 _ hpr).mono ?_; rintro e w1 ⟨rfl, hb1⟩) | (at_builtin; refine wpList_append_str rfl _ _ rfl w.heap.size _ _ k hlk (by rfl) ((hrow.below hb1).below (below_alloc w1 _)) _ _ (bs (Lib.itoa (nth xs k))) (by rfl) (by simp) (by omega) (by have := hb1.size; simp; omega) ?_; intro g' c' w' hrow' hgrow))
      go_roundw
      case rel => first | exact ⟨below_grownBy ((hB.trans (hb1.mono hBs)).alloc (by have := hb1.size; omega) _) (by have := hb1.size; simp; omega) hgrow (fun b e => (hrow.block b e).1), k + 1, by omega, by go_num, g', c', rfl, by rw [HT.out]; exact hrow'⟩ | exact ⟨_, ⟨below_grownBy ((hB.trans (hb1.mono hBs)).alloc (by have := hb1.size; omega) _) (by have := hb1.size; simp; omega) hgrow (fun b e => (hrow.block b e).1), k + 1, by omega, by go_num, g', c', rfl, by rw [HT.out]; exact hrow'⟩, rfl⟩ | exact ⟨_, _, ⟨below_grownBy ((hB.trans (hb1.mono hBs)).alloc (by have := hb1.size; omega) _) (by have := hb1.size; simp; omega) hgrow (fun b e => (hrow.block b e).1), k + 1, by omega, by go_num, g', c', rfl, by rw [HT.out]; exact hrow'⟩, rfl, rfl⟩ | exact ⟨_, _, _, ⟨below_grownBy ((hB.trans (hb1.mono hBs)).alloc (by have := hb1.size; omega) _) (by have := hb1.size; simp; omega) hgrow (fun b e => (hrow.block b e).1), k + 1, by omega, by go_num, g', c', rfl, by rw [HT.out]; exact hrow'⟩, rfl, rfl, rfl⟩ | exact ⟨_, _, _, _, ⟨below_grownBy ((hB.trans (hb1.mono hBs)).alloc (by have := hb1.size; omega) _) (by have := hb1.size; simp; omega) hgrow (fun b e => (hrow.block b e).1), k + 1, by omega, by go_num, g', c', rfl, by rw [HT.out]; exact hrow'⟩, rfl, rfl, rfl, rfl⟩ | exact ⟨_, _, _, _, _, ⟨below_grownBy ((hB.trans (hb1.mono hBs)).alloc (by have := hb1.size; omega) _) (by have := hb1.size; simp; omega) hgrow (fun b e => (hrow.block b e).1), k + 1, by omega, by go_num, g', c', rfl, by rw [HT.out]; exact hrow'⟩, rfl, rfl, rfl, rfl, rfl⟩
      case measure => simp [intOf]; omega
    · have hkn : k = n := by omega
      have et : xs.take k = xs := by rw [hkn, ← hlx]; exact List.take_length
      rw [et] at hrow
      obtain ⟨hq, hkc, hg1, hg2, hcs⟩ := hrow.at
      have HJ : Hid (Lib.join ((xs.map fun x => bs (Lib.itoa x)).map (·.data.toList)) (bs [32]).data.toList = txt xs n) := by
        show _ = _; rw [words_data, bs_data]; unfold txt; rw [← hkn, et]
      have hjl : (Lib.join ((xs.map fun x => bs (Lib.itoa x)).map (·.data.toList)) (bs [32]).data.toList).length ≤ 140737488355328 := by
        rw [HJ.out]; have := txt_len xs HB.out n (by omega); omega
      have hml : (xs.map fun x => bs (Lib.itoa x)).length = k := by simp; omega
      have hj := Tryz.strings_Join g 0 cp (xs.map fun x => bs (Lib.itoa x)) (bs [32]) wr hcs hg2 (by omega) (by omega) hjl
      rw [hml, HJ.out, show bs [32] = ByteArray.mk #[32] from rfl] at hj
      clear hb hlx et hjl hkn hq hml hcs
      go_wp2_with (go_at_call 52; refine hj.mono ?_; rintro e w1 ⟨rfl, hb1⟩)
      go_ret
      exact ⟨by rw [HV.out]; rfl, hB.trans (hb1.mono hBs)⟩
theorem implFormat_any (ao : Option Addr) (n c : Nat) (xs : List Int) (w : World) (hx : IntsAt w ao n xs) (hb : I64 xs) (hn : n ≤ 2000000) (hp : Pow w) :
    Calls Tryz.prog 25 #[.slice ao n c] w fun e w' => e = .returned (.string (bs (numT xs))) ∧ Below w.heap.size w w' := by
  go_enter Tryz.func25, Tryz.ntmps25
  go_wp2_with (go_at_call 67; refine (numbersText_any _ _ _ xs _ hx hb hn hp).mono ?_; rintro e w1 ⟨rfl, hb1⟩)
  go_ret
  exact ⟨rfl, hb1⟩
/-- the pieces between the bytes c -/
def cutAt (c : UInt8) : List UInt8 → List (List UInt8)
  | [] => [[]]
  | b :: r => if b = c then [] :: cutAt c r else match cutAt c r with
    | [] => [[b]]
    | h :: t => (b :: h) :: t
theorem cutAt_pos (c : UInt8) (l : List UInt8) : 0 < (cutAt c l).length := by
  cases l with
  | nil => simp [cutAt]
  | cons b r => unfold cutAt; split; · simp
                split <;> simp
theorem cutAt_app (c : UInt8) : ∀ (p r : List UInt8), c ∉ p → cutAt c (p ++ c :: r) = p :: cutAt c r
  | [], r, _ => by simp [cutAt]
  | b :: p, r, h => by
    have hb : b ≠ c := fun e => h (by simp [e])
    have ih := cutAt_app c p r (fun e => h (List.mem_cons_of_mem _ e))
    rw [List.cons_append, cutAt, if_neg hb, ih]
theorem cutAt_none (c : UInt8) : ∀ (p : List UInt8), c ∉ p → cutAt c p = [p]
  | [], _ => rfl
  | b :: p, h => by
    have hb : b ≠ c := fun e => h (by simp [e])
    rw [cutAt, if_neg hb, cutAt_none c p (fun e => h (List.mem_cons_of_mem _ e))]
theorem join_cut (c : UInt8) : ∀ l, Lib.join (cutAt c l) [c] = l
  | [] => by simp [cutAt, Lib.join_one]
  | b :: r => by
    have ih := join_cut c r
    have hp := cutAt_pos c r
    unfold cutAt
    cases hc : cutAt c r with
    | nil => rw [hc] at hp; simp at hp
    | cons h t =>
      rw [hc] at ih
      rw [Lib.join_cons] at ih
      split
      · next e => subst e; rw [Lib.join_cons]; simp [Lib.joinTail]; simpa [Lib.joinTail] using ih
      · rw [Lib.join_cons, List.cons_append, ih]
theorem cut_join (c : UInt8) : ∀ ws : List (List UInt8), ws ≠ [] → (∀ x ∈ ws, c ∉ x) → cutAt c (Lib.join ws [c]) = ws
  | [], h, _ => absurd rfl h
  | [x], _, h => by rw [Lib.join_one]; exact cutAt_none c x (h x (by simp))
  | x :: y :: r, _, h => by
    have ih := cut_join c (y :: r) (by simp) (fun z hz => h z (List.mem_cons_of_mem _ hz))
    rw [Lib.join_cons] at ih ⊢
    have e : x ++ Lib.joinTail [c] (y :: r) = x ++ c :: (y ++ Lib.joinTail [c] r) := by simp [Lib.joinTail]
    rw [e, cutAt_app c x _ (h x (by simp)), ih]
theorem splitK_cut (c : UInt8) : ∀ l : List UInt8, Lib.splitK [c] 0 (Lib.count l [c]) l = cutAt c l
  | [] => by rw [Lib.count_one]; rfl
  | b :: l => by
    have ih := splitK_cut c l
    by_cases hb : b = c
    · subst hb
      rw [Lib.count_cons_eq, Nat.add_comm, Lib.splitK]
      have hix : Lib.index (b :: l) [b] = 0 := by rw [Lib.index]; simp [List.isPrefixOf]
      rw [hix, if_neg (by decide), cutAt, if_pos rfl]
      simp [ih]
    · have hp : ([c] : List UInt8).isPrefixOf (b :: l) = false := by simp [List.isPrefixOf, Ne.symm hb]
      have hix : Lib.index (b :: l) [c] = if Lib.index l [c] == -1 then -1 else Lib.index l [c] + 1 := by rw [Lib.index, hp]; simp
      rw [Lib.count_cons_ne b c l hb, cutAt, if_neg hb, ← ih]
      cases hk : Lib.count l [c] with
      | zero => rfl
      | succ k =>
        by_cases hm : Lib.index l [c] = -1
        · rw [Lib.count_miss hm] at hk; cases hk
        · have hge := Lib.index_ge l [c]
          obtain ⟨j, hj⟩ : ∃ j : Nat, Lib.index l [c] = j := ⟨(Lib.index l [c]).toNat, by omega⟩
          rw [Lib.splitK, Lib.splitK, hix, if_neg (fun e => hm (beq_iff_eq.1 e)), hj, if_neg (by rw [beq_iff_eq]; omega), if_neg (by rw [beq_iff_eq]; omega)]
          have e1 : ((j : Int) + 1).toNat = j + 1 := by omega
          simp [e1]
theorem splitB_cut (c : UInt8) (s : ByteArray) : (Lib.splitB ⟨#[c]⟩ 0 (Lib.countB s ⟨#[c]⟩) s).map (·.data.toList) = cutAt c s.data.toList := by
  rw [Lib.splitB_data]; exact splitK_cut c s.data.toList
/-! one round of the cut -/
theorem piece_data (s : ByteArray) (a b : Nat) : (s.extract a b).data.toList = (s.data.toList.drop a).take (b - a) := by
  rw [Lib.extract_data]
theorem size_list (s : ByteArray) : s.data.toList.length = s.size := Array.length_toList
theorem byte_at (s : ByteArray) (k : Nat) (h : k < s.size) : s.data.toList[k]? = some s[k] := by
  rw [List.getElem?_eq_getElem (by rw [size_list]; exact h)]; rfl
theorem cut_hit {l : List UInt8} {k fr : Nat} (hk : l[k]? = some 32) (hf : fr ≤ k) (hno : (32 : UInt8) ∉ (l.drop fr).take (k - fr)) : cutAt 32 (l.drop fr) = (l.drop fr).take (k - fr) :: cutAt 32 (l.drop (k + 1)) := by
  obtain ⟨hkl, hkv⟩ := List.getElem?_eq_some_iff.1 hk
  have e : l.drop fr = (l.drop fr).take (k - fr) ++ 32 :: l.drop (k + 1) := by
    conv => lhs; rw [← List.take_append_drop (k - fr) (l.drop fr)]
    rw [List.drop_drop, show fr + (k - fr) = k by omega, List.drop_eq_getElem_cons hkl, hkv]
  conv => lhs; rw [e]
  exact cutAt_app 32 _ _ hno
theorem cut_end {l : List UInt8} {fr : Nat} (hno : (32 : UInt8) ∉ (l.drop fr).take (l.length - fr)) : cutAt 32 (l.drop fr) = [(l.drop fr).take (l.length - fr)] := by
  have e : (l.drop fr).take (l.length - fr) = l.drop fr := List.take_of_length_le (by simp)
  rw [e] at hno ⊢
  exact cutAt_none 32 _ hno
theorem no_step {l : List UInt8} {k fr : Nat} {b : UInt8} (hk : l[k]? = some b) (hb : b ≠ 32) (hf : fr ≤ k) (hno : (32 : UInt8) ∉ (l.drop fr).take (k - fr)) : (32 : UInt8) ∉ (l.drop fr).take (k + 1 - fr) := by
  rw [show k + 1 - fr = (k - fr) + 1 by omega, List.take_add_one, List.getElem?_drop, show fr + (k - fr) = k by omega, hk]
  intro h
  rcases List.mem_append.1 h with h | h
  · exact hno h
  · simp at h; exact hb h.symm
/-! numerals -/
theorem decFrom_snoc (x : UInt8) : ∀ (l : List UInt8) (a : Nat), Lib.decFrom a (l ++ [x]) = (Lib.decFrom a l).bind fun n => (Lib.digitVal x).map fun d => n * 10 + d
  | [], a => by simp only [List.nil_append, Lib.decFrom, Option.bind_some]; cases Lib.digitVal x <;> rfl
  | b :: l, a => by
    simp only [List.cons_append, Lib.decFrom]
    cases Lib.digitVal b with
    | none => rfl
    | some d => exact decFrom_snoc x l _
theorem digitVal_mk (d : Nat) (h : d < 10) : Lib.digitVal (UInt8.ofNat (48 + d)) = some d := by
  have : (UInt8.ofNat (48 + d)).toNat = 48 + d := by simp [UInt8.toNat_ofNat']; omega
  unfold Lib.digitVal; rw [this, if_pos (by omega)]; congr 1; omega
theorem digit_mk {x : UInt8} {d : Nat} (h : Lib.digitVal x = some d) : d < 10 ∧ x = UInt8.ofNat (48 + d) := by
  obtain ⟨h1, h2, h3⟩ := Lib.digitVal_eq h
  refine ⟨by omega, ?_⟩
  apply UInt8.toNat_inj.1
  simp [UInt8.toNat_ofNat']; omega
theorem decFrom_dec : ∀ m : Nat, Lib.decFrom 0 (Lib.decDigits m) = some m := by
  intro m
  induction m using Nat.strongRecOn with
  | _ m ih =>
    rw [Lib.decDigits]
    split
    · next h => simp only [Lib.decFrom, digitVal_mk m h]; simp
    · next h => rw [decFrom_snoc, ih (m / 10) (by omega), digitVal_mk _ (by omega)]; simp; omega
/-- a row of digits without a needless nought is the numeral of its value -/
theorem dec_of_decFrom : ∀ (b : List UInt8) (m : Nat), b ≠ [] → (b.head? ≠ some 48 ∨ b.length = 1) → Lib.decFrom 0 b = some m → Lib.decDigits m = b ∧ (b.head? ≠ some 48 → 0 < m) := by
  intro b
  induction hn : b.length generalizing b with
  | zero => intro m h; exact absurd (List.length_eq_zero_iff.1 hn) h
  | succ n ih =>
    intro m h0 hh hd
    obtain ⟨l, x, rfl⟩ : ∃ l x, b = l ++ [x] := ⟨b.dropLast, b.getLast h0, (List.dropLast_concat_getLast h0).symm⟩
    rw [decFrom_snoc] at hd
    cases hl : Lib.decFrom 0 l with
    | none => rw [hl] at hd; cases hd
    | some m' =>
      rw [hl] at hd
      cases hx : Lib.digitVal x with
      | none => rw [hx] at hd; cases hd
      | some d =>
        rw [hx] at hd
        obtain ⟨hd10, ex⟩ := digit_mk hx
        simp only [Option.bind_some, Option.map_some, Option.some.injEq] at hd
        by_cases hle : l = []
        · subst hle
          simp only [Lib.decFrom, Option.some.injEq] at hl
          subst hl
          have em : m = d := by omega
          subst em
          rw [Lib.decDigits, dif_pos hd10, ← ex]
          refine ⟨rfl, fun hne => ?_⟩
          rcases Nat.eq_zero_or_pos m with e | e
          · subst e; rw [ex] at hne; exact absurd rfl hne
          · exact e
        · have hlen : l.length = n := by simp at hn; exact hn
          have hln : 1 ≤ n := by cases l with | nil => exact absurd rfl hle | cons _ _ => simp at hlen; omega
          have hhl : l.head? ≠ some 48 := by
            rcases hh with h | h
            · rw [List.head?_append] at h
              cases hq : l.head? with
              | none => simp
              | some z => rw [hq] at h; exact h
            · simp at h; omega
          obtain ⟨i1, i2⟩ := ih l hlen m' hle (Or.inl hhl) hl
          have hpos := i2 hhl
          have e1 : m / 10 = m' := by omega
          have e2 : m % 10 = d := by omega
          rw [Lib.decDigits, dif_neg (by omega), e1, e2, i1, ← ex]
          exact ⟨rfl, fun _ => by omega⟩
theorem dec_head : ∀ m : Nat, ∃ d, d < 10 ∧ (0 < m → 0 < d) ∧ (Lib.decDigits m).head? = some (UInt8.ofNat (48 + d)) := by
  intro m
  induction m using Nat.strongRecOn with
  | _ m ih =>
    rw [Lib.decDigits]
    split
    · next h => exact ⟨m, h, fun h => h, rfl⟩
    · next h =>
      obtain ⟨d, h1, h2, h3⟩ := ih (m / 10) (by omega)
      exact ⟨d, h1, fun _ => h2 (by omega), by rw [List.head?_append, h3]; rfl⟩
theorem dec_mem : ∀ m : Nat, ∀ x ∈ Lib.decDigits m, 48 ≤ x.toNat ∧ x.toNat ≤ 57 := by
  intro m
  induction m using Nat.strongRecOn with
  | _ m ih =>
    have key : ∀ d, d < 10 → (UInt8.ofNat (48 + d)).toNat = 48 + d := fun d hd => by simp [UInt8.toNat_ofNat']; omega
    rw [Lib.decDigits]
    split
    · next h => intro x hx; simp only [List.mem_singleton] at hx; subst hx; rw [key m h]; omega
    · next h =>
      intro x hx
      rcases List.mem_append.1 hx with h1 | h1
      · exact ih (m / 10) (by omega) x h1
      · simp only [List.mem_singleton] at h1; subst h1; rw [key _ (by omega)]; omega
theorem dec_len : ∀ (k m : Nat), m < 10 ^ (k + 1) → (Lib.decDigits m).length ≤ k + 1
  | 0, m, h => by rw [Lib.decDigits, dif_pos (by omega)]; simp
  | k + 1, m, h => by
    rw [Lib.decDigits]
    split
    · simp
    · have := dec_len k (m / 10) (by rw [Nat.pow_succ] at h; omega)
      simp; omega
theorem dec_ne (m : Nat) : Lib.decDigits m ≠ [] := by
  obtain ⟨d, _, _, h⟩ := dec_head m
  intro e; rw [e] at h; cases h
/-- what the reference reads of a word behind its sign -/
def numB (neg : Bool) (b : List UInt8) : Option Int :=
  if b = [] ∨ 17 < b.length ∨ (b.head? = some 48 ∧ (1 < b.length ∨ neg = true)) then none
  else (Lib.decFrom 0 b).map fun (m : Nat) => if neg then -(m : Int) else (m : Int)
/-- what the reference reads of a word: a canonical numeral of at most 17 digits -/
def numR (w : List UInt8) : Option Int := if w.head? = some 45 then numB true w.tail else numB false w
theorem numR_itoa {w : List UInt8} {v : Int} (h : numR w = some v) : Lib.itoa v = w := by
  unfold numR at h
  split at h
  · next hw =>
    unfold numB at h
    split at h
    · cases h
    · next hc =>
      simp only [not_or, not_and] at hc
      cases hd : Lib.decFrom 0 w.tail with
      | none => rw [hd] at h; cases h
      | some m =>
        rw [hd] at h
        simp only [if_pos, Option.map_some, Option.some.injEq] at h
        have hh : w.tail.head? ≠ some 48 := fun e => (hc.2.2 e).2 trivial
        obtain ⟨e1, e2⟩ := dec_of_decFrom w.tail m hc.1 (Or.inl hh) hd
        have hp := e2 hh
        cases w with
        | nil => cases hw
        | cons a r =>
          simp only [List.head?_cons, Option.some.injEq] at hw
          subst hw
          subst h
          rw [itoa_ng _ (by omega), show (- -(m : Int)).toNat = m by omega, e1]; rfl
  · unfold numB at h
    split at h
    · cases h
    · next hc =>
      simp only [not_or, not_and] at hc
      cases hd : Lib.decFrom 0 w with
      | none => rw [hd] at h; cases h
      | some m =>
        rw [hd] at h
        simp only [Option.map_some, Option.some.injEq] at h
        have hh : w.head? ≠ some 48 ∨ w.length = 1 := by
          by_cases e : w.head? = some 48
          · right
            have := (hc.2.2 e).1
            have h0 : 0 < w.length := List.length_pos_iff.2 hc.1
            omega
          · exact Or.inl e
        obtain ⟨e1, _⟩ := dec_of_decFrom w m hc.1 hh hd
        have h' : (m : Int) = v := by simpa using h
        subst h'
        rw [itoa_nn _ (by omega), show (m : Int).toNat = m by omega, e1]
theorem numB_dec (neg : Bool) (m : Nat) (h : m < 10000000000000000) (hn : neg = true → 0 < m) : numB neg (Lib.decDigits m) = some (if neg then -(m : Int) else m) := by
  obtain ⟨d, h1, h2, h3⟩ := dec_head m
  have hl := dec_len 15 m (by omega)
  have hz : ∀ d, 0 < d → d < 10 → (UInt8.ofNat (48 + d)) ≠ 48 := fun d hd hd2 e => by
    have := congrArg UInt8.toNat e
    simp [UInt8.toNat_ofNat'] at this; omega
  unfold numB
  rw [if_neg, decFrom_dec]; · rfl
  simp only [not_or, not_and]
  refine ⟨dec_ne m, by omega, fun e => ?_⟩
  have hm0 : m = 0 := by
    rcases Nat.eq_zero_or_pos m with h0 | h0
    · exact h0
    · rw [h3] at e; exact absurd (Option.some.inj e) (hz d (h2 h0) h1)
  subst hm0
  refine ⟨by rw [Lib.decDigits, dif_pos (by omega)]; simp, fun e => absurd (hn e) (by omega)⟩
theorem numR_of_itoa (v : Int) (h0 : -1000000000 ≤ v) (h1 : v ≤ 1000000000) : numR (Lib.itoa v) = some v := by
  unfold numR
  by_cases hv : v < 0
  · rw [itoa_ng v hv, if_pos (show (45 :: Lib.decDigits (-v).toNat).head? = some 45 from rfl), List.tail_cons, numB_dec true _ (by omega) (fun _ => by omega)]
    simp; omega
  · rw [itoa_nn v (by omega)]
    have hh : (Lib.decDigits v.toNat).head? ≠ some 45 := by
      obtain ⟨d, h1, h2, h3⟩ := dec_head v.toNat
      rw [h3]; intro e
      have := congrArg UInt8.toNat (Option.some.inj e)
      simp [UInt8.toNat_ofNat'] at this; omega
    rw [if_neg hh, numB_dec false _ (by omega) (fun e => by cases e)]
    simp; omega
theorem atoi_of_itoa (v : Int) (h0 : -1000000000 ≤ v) (h1 : v ≤ 1000000000) : Lib.atoiAll (Lib.itoa v) = .ok v := by
  by_cases hv : v < 0
  · have hl := dec_len 9 (-v).toNat (by omega)
    rw [itoa_ng v hv, Lib.atoiAll_short _ (by simp; omega), Lib.atoi, if_pos (show ((45 : UInt8) == 45) = true from rfl)]
    unfold Lib.decNat
    rw [if_neg (by have := dec_ne (-v).toNat; cases h : Lib.decDigits (-v).toNat with | nil => exact absurd h this | cons _ _ => simp), decFrom_dec]
    simp only [Option.map_some, Lib.NumEnd.ofOption]
    congr 1; omega
  · have hl := dec_len 9 v.toNat (by omega)
    obtain ⟨d, h1, h2, h3⟩ := dec_head v.toNat
    rw [itoa_nn v (by omega), Lib.atoiAll_short _ (by omega)]
    have hdd := decFrom_dec v.toNat
    cases hd : Lib.decDigits v.toNat with
    | nil => exact absurd hd (dec_ne _)
    | cons b r =>
      rw [hd] at h3 hdd
      simp only [List.head?_cons, Option.some.injEq] at h3
      have hb : b.toNat = 48 + d := by rw [h3]; simp [UInt8.toNat_ofNat']; omega
      have n45 : ¬ (b == 45) = true := fun e => by have := congrArg UInt8.toNat (beq_iff_eq.1 e); simp at this; omega
      have n43 : ¬ (b == 43) = true := fun e => by have := congrArg UInt8.toNat (beq_iff_eq.1 e); simp at this; omega
      rw [Lib.atoi, if_neg n45, if_neg n43]
      unfold Lib.decNat
      rw [if_neg (by simp), hdd]
      simp only [Option.map_some, Lib.NumEnd.ofOption]
      congr 1; omega
theorem itoa_no_space (v : Int) : (32 : UInt8) ∉ Lib.itoa v := by
  have key : ∀ m, (32 : UInt8) ∉ Lib.decDigits m := fun m h => by have := (dec_mem m _ h).1; simp at this
  by_cases hv : v < 0
  · rw [itoa_ng v hv]; intro h
    rcases List.mem_cons.1 h with h | h
    · cases h
    · exact key _ h
  · rw [itoa_nn v (by omega)]; exact key _
/-! the two parsers -/
def partQ (v : Int) : Option Int := if -1000000000 ≤ v ∧ v ≤ 1000000000 then some v else none
def numP (w : List UInt8) : Option Int := (numR w).bind partQ
def atP (w : List UInt8) : Option Int := match Lib.atoiAll w with
  | .ok v => partQ v
  | _ => none
def valsOf (f : List UInt8 → Option Int) (ws : List (List UInt8)) : List Int := ws.map fun w => (f w).getD 0
def allOk (f : List UInt8 → Option Int) (ws : List (List UInt8)) : Prop := ∀ w ∈ ws, (f w).isSome = true
theorem partQ_some {v u : Int} (h : partQ v = some u) : u = v ∧ -1000000000 ≤ v ∧ v ≤ 1000000000 := by
  unfold partQ at h; split at h
  · next h2 => exact ⟨(Option.some.inj h).symm, h2⟩
  · cases h
theorem numP_some {w : List UInt8} {u : Int} (h : numP w = some u) : Lib.itoa u = w ∧ -1000000000 ≤ u ∧ u ≤ 1000000000 := by
  unfold numP at h
  cases hr : numR w with
  | none => rw [hr] at h; cases h
  | some v =>
    rw [hr] at h
    obtain ⟨rfl, h2⟩ := partQ_some h
    exact ⟨numR_itoa hr, h2⟩
theorem atP_some {w : List UInt8} {u : Int} (h : atP w = some u) : -1000000000 ≤ u ∧ u ≤ 1000000000 := by
  unfold atP at h
  split at h
  · next v _ => obtain ⟨rfl, h2⟩ := partQ_some h; exact h2
  · cases h
theorem atP_of_numP {w : List UInt8} {u : Int} (h : numP w = some u) : atP w = some u := by
  obtain ⟨e, h1, h2⟩ := numP_some h
  unfold atP
  rw [← e, atoi_of_itoa u h1 h2]
  show partQ u = some u
  unfold partQ; rw [if_pos ⟨h1, h2⟩]
theorem numP_of_itoa {u : Int} (h1 : -1000000000 ≤ u) (h2 : u ≤ 1000000000) : numP (Lib.itoa u) = some u := by
  unfold numP; rw [numR_of_itoa u h1 h2]
  show partQ u = some u
  unfold partQ; rw [if_pos ⟨h1, h2⟩]
theorem vals_itoa (ws : List (List UInt8)) (h : allOk numP ws) : (valsOf numP ws).map Lib.itoa = ws := by
  unfold valsOf
  rw [List.map_map]
  conv => rhs; rw [← List.map_id ws]
  refine List.map_congr_left fun w hw => ?_
  obtain ⟨u, hu⟩ := Option.isSome_iff_exists.1 (h w hw)
  simp only [Function.comp, hu, Option.getD_some, id]
  exact (numP_some hu).1
theorem vals_same (ws : List (List UInt8)) (h : allOk numP ws) : valsOf atP ws = valsOf numP ws ∧ allOk atP ws := by
  refine ⟨List.map_congr_left fun w hw => ?_, fun w hw => ?_⟩
  all_goals obtain ⟨u, hu⟩ := Option.isSome_iff_exists.1 (h w hw)
  · rw [hu, atP_of_numP hu]
  · rw [atP_of_numP hu]; rfl
/-- THE PLAIN LAW: both parsers take the same texts -/
theorem parse_iff (l : List UInt8) : allOk numP (cutAt 32 l) ↔ (allOk atP (cutAt 32 l) ∧ numT (valsOf atP (cutAt 32 l)) = l) := by
  have hpos := cutAt_pos 32 l
  have hnt : ∀ vs : List Int, vs ≠ [] → numT vs = Lib.join (vs.map Lib.itoa) [32] := fun vs h => by
    unfold numT txt; rw [if_neg (by intro e; exact h (List.length_eq_zero_iff.1 e)), List.take_length]
  have hne : ∀ f, valsOf f (cutAt 32 l) ≠ [] := fun f e => by
    have := congrArg List.length e
    simp [valsOf] at this
    rw [this] at hpos; simp at hpos
  constructor
  · intro h
    obtain ⟨e1, e2⟩ := vals_same _ h
    refine ⟨e2, ?_⟩
    rw [e1, hnt _ (hne numP), vals_itoa _ h, join_cut]
  · rintro ⟨h1, h2⟩
    rw [hnt _ (hne atP)] at h2
    have h3 := cut_join 32 ((valsOf atP (cutAt 32 l)).map Lib.itoa) (by intro e; exact hne atP (List.map_eq_nil_iff.1 e)) (fun x hx => by
      obtain ⟨v, _, rfl⟩ := List.mem_map.1 hx
      exact itoa_no_space v)
    rw [h2] at h3
    intro w hw
    rw [h3] at hw
    obtain ⟨v, hv, rfl⟩ := List.mem_map.1 hw
    obtain ⟨w', hw', rfl⟩ := List.mem_map.1 hv
    obtain ⟨u, hu⟩ := Option.isSome_iff_exists.1 (h1 w' hw')
    have hb := atP_some hu
    rw [hu, Option.getD_some, numP_of_itoa hb.1 hb.2]; rfl
/-! what both parsers give -/
def okAll (f : List UInt8 → Option Int) (ws : List (List UInt8)) : Bool := ws.all fun w => (f w).isSome
theorem okAll_iff (f : List UInt8 → Option Int) (ws : List (List UInt8)) : okAll f ws = true ↔ allOk f ws := by
  unfold okAll allOk; rw [List.all_eq_true]
theorem cut_len (c : UInt8) : ∀ (l : List UInt8), ∀ w ∈ cutAt c l, w.length ≤ l.length
  | [], w, h => by simp [cutAt] at h; subst h; simp
  | b :: l, w, h => by
    have ih := cut_len c l
    have hp := cutAt_pos c l
    rw [cutAt] at h
    split at h
    · rcases List.mem_cons.1 h with rfl | h
      · simp
      · have := ih w h; simp; omega
    · cases hc : cutAt c l with
      | nil => rw [hc] at hp; simp at hp
      | cons x t =>
        rw [hc] at h ih
        rcases List.mem_cons.1 h with rfl | h
        · have := ih x (by simp); simp; omega
        · have := ih w (by simp [h]); simp; omega
theorem cut_count (c : UInt8) : ∀ (l : List UInt8), (cutAt c l).length ≤ l.length + 1
  | [] => by simp [cutAt]
  | b :: l => by
    have ih := cut_count c l
    have hp := cutAt_pos c l
    rw [cutAt]
    split
    · simp; omega
    · cases hc : cutAt c l with
      | nil => rw [hc] at hp; simp at hp
      | cons x t => rw [hc] at ih; simp at ih ⊢; omega
theorem vals_len (f : List UInt8 → Option Int) (ws : List (List UInt8)) : (valsOf f ws).length = ws.length := by simp [valsOf]
theorem vals_step (f : List UInt8 → Option Int) {ws : List (List UInt8)} {k : Nat} {w : List UInt8} {v : Int} (h : ws[k]? = some w) (hv : f w = some v) : valsOf f (ws.take (k + 1)) = valsOf f (ws.take k) ++ [v] := by
  unfold valsOf
  rw [List.take_add_one, h, List.map_append]
  simp [hv]
theorem ok_step {f : List UInt8 → Option Int} {ws : List (List UInt8)} {k : Nat} {w : List UInt8} {v : Int} (h : ws[k]? = some w) (hv : f w = some v) (ho : okAll f (ws.take k) = true) : okAll f (ws.take (k + 1)) = true := by
  unfold okAll at *
  rw [List.take_add_one, h, List.all_append, ho]
  simp [hv]
theorem ok_bad {f : List UInt8 → Option Int} {ws : List (List UInt8)} {k : Nat} {w : List UInt8} (h : ws[k]? = some w) (hv : f w = none) : okAll f ws = false := by
  unfold okAll
  rw [List.all_eq_false]
  exact ⟨w, List.mem_of_getElem? h, by simp [hv]⟩
/-- what a text of numbers reads as -/
def parseR (l : List UInt8) : Option (List Int) := if okAll numP (cutAt 32 l) = true ∧ (cutAt 32 l).length ≤ 16 then some (valsOf numP (cutAt 32 l)) else none
theorem parseR_bad {l : List UInt8} {k : Nat} {w : List UInt8} (h : (cutAt 32 l)[k]? = some w) (hv : numP w = none) : parseR l = none := by
  unfold parseR; rw [if_neg]; rintro ⟨h1, _⟩; rw [ok_bad h hv] at h1; cases h1
theorem parseR_long {l : List UInt8} (h : 16 < (cutAt 32 l).length) : parseR l = none := by
  unfold parseR; rw [if_neg]; rintro ⟨_, h1⟩; omega
theorem parseR_good {l : List UInt8} (h : okAll numP (cutAt 32 l) = true) (hl : (cutAt 32 l).length ≤ 16) : parseR l = some (valsOf numP (cutAt 32 l)) := by
  unfold parseR; rw [if_pos ⟨h, hl⟩]
theorem parseR_len (l : List UInt8) : ((parseR l).getD []).length ≤ 16 := by
  unfold parseR; split
  · next h => simp [vals_len]; exact h.2
  · simp
theorem parseA_bad {l : List UInt8} {k : Nat} {w : List UInt8} (h : (cutAt 32 l)[k]? = some w) (hv : atP w = none) : parseR l = none := by
  refine parseR_bad h ?_
  cases hn : numP w with
  | none => rfl
  | some u => rw [atP_of_numP hn] at hv; cases hv
theorem parseA_good {l : List UInt8} (h : okAll atP (cutAt 32 l) = true) (hl : (cutAt 32 l).length ≤ 16) (ht : numT (valsOf atP (cutAt 32 l)) = l) : parseR l = some (valsOf atP (cutAt 32 l)) := by
  have h1 := (parse_iff l).2 ⟨(okAll_iff _ _).1 h, ht⟩
  rw [parseR_good ((okAll_iff _ _).2 h1) hl, (vals_same _ h1).1]
theorem parseA_odd {l : List UInt8} (ht : numT (valsOf atP (cutAt 32 l)) ≠ l) : parseR l = none := by
  unfold parseR; rw [if_neg]; rintro ⟨h1, _⟩
  exact ht ((parse_iff l).1 ((okAll_iff _ _).1 h1)).2
theorem vals_bound (ws : List (List UInt8)) : ∀ k, k < (valsOf atP ws).length → -9223372036854775808 ≤ nth (valsOf atP ws) k ∧ nth (valsOf atP ws) k ≤ 9223372036854775807 := by
  intro k hk
  rw [nth_eq _ _ hk]
  have hkw : k < ws.length := by simpa [valsOf] using hk
  have e : (valsOf atP ws)[k] = (atP ws[k]).getD 0 := by simp [valsOf]
  rw [e]
  cases hv : atP ws[k] with
  | none => simp
  | some u => have := atP_some hv; simp; omega
theorem numP_none1 {w : List UInt8} (h : numR w = none) : numP w = none := by unfold numP; rw [h]; rfl
theorem numP_none2 {w : List UInt8} {v : Int} (h : numR w = some v) (hv : inB (-1000000000) 1000000000 v = false) : numP w = none := by
  unfold numP; rw [h]; show partQ v = none; unfold partQ; rw [if_neg]; intro h2; unfold inB at hv; simp at hv; omega
theorem numP_some1 {w : List UInt8} {v : Int} (h : numR w = some v) (hv : inB (-1000000000) 1000000000 v = true) : numP w = some v := by
  unfold numP; rw [h]; show partQ v = some v; unfold partQ; rw [if_pos]; unfold inB at hv; simp at hv; omega
theorem atP_none1 {w : List UInt8} (h : ∀ v, Lib.atoiAll w ≠ .ok v) : atP w = none := by
  unfold atP; split
  · next v hv => exact absurd hv (h v)
  · rfl
theorem atP_none2 {w : List UInt8} {v : Int} (h : Lib.atoiAll w = .ok v) (hv : inB (-1000000000) 1000000000 v = false) : atP w = none := by
  unfold atP; rw [h]; show partQ v = none; unfold partQ; rw [if_neg]; intro h2; unfold inB at hv; simp at hv; omega
theorem atP_some1 {w : List UInt8} {v : Int} (h : Lib.atoiAll w = .ok v) (hv : inB (-1000000000) 1000000000 v = true) : atP w = some v := by
  unfold atP; rw [h]; show partQ v = some v; unfold partQ; rw [if_pos]; unfold inB at hv; simp at hv; omega
theorem numR_neg {l : List UInt8} (h : l.head? = some 45) : numR l = numB true l.tail := by unfold numR; rw [if_pos h]
theorem numR_pos {l : List UInt8} (h : l.head? ≠ some 45) : numR l = numB false l := by unfold numR; rw [if_neg h]
theorem numB_long {neg : Bool} {b : List UInt8} (h : b = [] ∨ 17 < b.length ∨ (b.head? = some 48 ∧ (1 < b.length ∨ neg = true))) : numB neg b = none := by unfold numB; rw [if_pos h]
theorem numB_rest {neg : Bool} {b : List UInt8} (h : ¬ (b = [] ∨ 17 < b.length ∨ (b.head? = some 48 ∧ (1 < b.length ∨ neg = true)))) : numB neg b = (Lib.decFrom 0 b).map fun (m : Nat) => if neg then -(m : Int) else (m : Int) := by unfold numB; rw [if_neg h]
theorem bytes_nil {b : ByteArray} (h : b.size = 0) : b.data.toList = [] := List.length_eq_zero_iff.1 (by rw [size_list]; exact h)
theorem bytes_head {b : ByteArray} (h : 0 < b.size) : b.data.toList.head? = some (b[0]'h) := by
  have := byte_at b 0 h
  rw [List.head?_eq_getElem?]; exact this
theorem decFrom_bad : ∀ (l : List UInt8) (a k : Nat) (x : UInt8), l[k]? = some x → Lib.digitVal x = none → Lib.decFrom a l = none
  | [], _, k, x, h, _ => by simp at h
  | b :: l, a, 0, x, h, hx => by
    simp at h; subst h
    simp only [Lib.decFrom, hx]
  | b :: l, a, k + 1, x, h, hx => by
    simp only [Lib.decFrom]
    cases Lib.digitVal b with
    | none => rfl
    | some d => exact decFrom_bad l _ k x (by simpa using h) hx
theorem decFrom_pow : ∀ (l : List UInt8) (k m : Nat), Lib.decFrom 0 (l.take k) = some m → m < 10 ^ k := fun l k m h => by
  have := Lib.decFrom_lt _ _ _ h
  have h2 : (l.take k).length ≤ k := by simp; omega
  have h3 : 10 ^ (l.take k).length ≤ 10 ^ k := Nat.pow_le_pow_right (by decide) h2
  omega
theorem pow_le17 {k : Nat} (h : k ≤ 17) : 10 ^ k ≤ 100000000000000000 := Nat.pow_le_pow_right (n := 10) (by decide) h
theorem drop1_data (s : ByteArray) : (s.extract 1 s.size).data.toList = s.data.toList.tail := by
  rw [piece_data, List.take_of_length_le (by rw [List.length_drop, size_list]; omega), List.drop_one]
theorem drop1_size (s : ByteArray) : (s.extract 1 s.size).size = s.size - 1 := by
  rw [← size_list, drop1_data, List.length_tail, size_list]
/-- one integer appended: where the new row lies -/
theorem wpList_append_int2 {ops : Array Oper} {rest : List Oper} {o : Oper} {a : Act} {w : World} {Q : Exit → Act → World → Prop} (hgd : o.guard = none) (s x : Operand)
    (ho : o.op = .call { callee := .builtin .append, args := #[s, x], argTypes := #[23, 23] })
    (base : Nat) (v : Value) (xs : List Int) (n : Nat) (hl : xs.length = n) (hs : a.eval s = v) (hown : Row w base v xs)
    (ad : Addr) (c : Nat) (q : Int) (hx : a.eval x = .slice (some ad) 1 c) (hnew : w.cell? ad = some (.int .i64 q))
    (hn : n < 1000000000) (hbase : base ≤ w.heap.size)
    (h : ∀ g cap w', Row w' base (.slice (some ⟨g, 0, none⟩) (n + 1) cap) (xs ++ [q]) → w.grownBy w' v.ownBlock → (v.ownBlock = some g ∨ g = w.heap.size) → wpList Tryz.prog ops Q rest (a.put o.dst (.slice (some ⟨g, 0, none⟩) (n + 1) cap)) w') :
    wpList Tryz.prog ops Q (o :: rest) a w := by
  obtain ⟨i0, hi, hz0, hz1, hz2⟩ := info_parts info_int
  subst hl
  refine wpList_plain hgd fun _ hK => wp_append_lies w s x 23 ho base 3 i0 (.int .i64 0) 1 8 Tryz.underlying23 hi hz0 hz1 hz2 rfl (by decide) v xs.length _ hs hown ad 1 c [.int .i64 q] hx rfl ?_ ?_ (by decide) (by unfold maxLen; omega) (by omega) hbase _ rfl fun g cap w' h1 h2 h3 _ => hK _ _ (h g cap w' ?_ h2 h3)
  · intro j u hj
    match j, hj with
    | 0, hj => simp at hj; subst hj; simpa [Addr.add] using hnew
  · intro u hu; simp at hu; subst hu; rfl
  · simpa [Row] using h1
theorem rowLit (w : World) : Row (w.alloc (.cells #[] 3)) w.heap.size (.slice (some ⟨w.heap.size, 0, none⟩) 0 0) [] := World.ownsRow_lit w #[] 0 (Nat.le_refl _) (by unfold maxLen; omega) rfl
theorem SRow.grown {w w' : World} {base g n c : Nat} {row : Option Nat} {xs : List ByteArray} (h : SRow w base (.slice (some ⟨g, 0, none⟩) n c) xs) (hg : w.grownBy w' row) (hne : some g ≠ row) : SRow w' base (.slice (some ⟨g, 0, none⟩) n c) xs := by
  have hl := SRow.block h g rfl
  refine ⟨h.1, ?_⟩
  rcases h.2 with h2 | ⟨g', cap, cur, hv, hg', hh, r⟩
  · exact .inl h2
  · refine .inr ⟨g', cap, cur, hv, hg', ?_, r⟩
    injection hv with e1 e2 e3
    injection e1 with e1; injection e1 with e1
    rw [← e1] at hh ⊢
    rw [hg.block g hl.2 hne]; exact hh
/-- what a parser gives back -/
def RetN (r : Option (List Int)) (base : Nat) (e : Ending) (w : World) : Prop := ∃ v, e = .returned (.tuple #[v, .bool r.isSome]) ∧ Row w base v (r.getD [])
/-- what the library's functions read -/
structure LibV (w : World) : Prop where
  pow : Pow w
  syn : ∃ tp p, w.var? Tryz.prog "strconv.ErrSyntax" = some #[.iface tp p]
  rng : ∃ tp p, w.var? Tryz.prog "strconv.ErrRange" = some #[.iface tp p]
  mx : ∃ m, w.cell? ⟨1, 0, none⟩ = some (.int .i64 m)
theorem var_below {w w' : World} {n : String} {cs : Array Value} (h : w.var? Tryz.prog n = some cs) (hb : Below w.heap.size w w') : w'.var? Tryz.prog n = some cs := by
  unfold World.var? at h ⊢
  cases hg : Tryz.prog.globalNamed n with
  | none => rw [hg] at h; cases h
  | some g =>
    rw [hg] at h
    simp only [Option.bind_some] at h ⊢
    have hlt : g < w.heap.size := by
      rcases Nat.lt_or_ge g w.heap.size with h' | h'
      · exact h'
      · rw [Array.getElem?_eq_none h'] at h; cases h
    rw [hb.block g hlt]; exact h
theorem LibV.below {w w' : World} (h : LibV w) (hb : Below w.heap.size w w') : LibV w' := by
  refine ⟨h.pow.below hb, ?_, ?_, ?_⟩
  · obtain ⟨tp, p, h1⟩ := h.syn; exact ⟨tp, p, var_below h1 hb⟩
  · obtain ⟨tp, p, h1⟩ := h.rng; exact ⟨tp, p, var_below h1 hb⟩
  · obtain ⟨m, h1⟩ := h.mx
    exact ⟨m, by rw [hb.cell (World.block_lt_of_cell? w _ h1)]; exact h1⟩
theorem split_row (s : ByteArray) (w : World) (hs : s.size ≤ 1048576) (hv : LibV w) :
    Calls Tryz.prog 57 #[.string s, .string ⟨#[32]⟩] w fun e w' => ∃ n ys, e = .returned (.slice (some ⟨w.heap.size, 0, none⟩) n n) ∧ SRow w' w.heap.size (.slice (some ⟨w.heap.size, 0, none⟩) n n) ys ∧ ys.map (·.data.toList) = cutAt 32 s.data.toList ∧ Below w.heap.size w w' := by
  obtain ⟨m, hm⟩ := hv.mx
  refine (Tryz.strings_Split s ⟨#[32]⟩ m w (by omega) hm (by decide)).mono ?_
  rintro e w' ⟨rfl, rfl⟩
  have hlen := Lib.splitB_all ⟨#[32]⟩ (by decide) 0 (Lib.countB s ⟨#[32]⟩) s rfl
  have hcut := splitB_cut 32 s
  have hcount : Lib.countB s ⟨#[32]⟩ + 1 ≤ 1048577 := by
    have h1 := cut_count 32 s.data.toList
    rw [← hcut, List.length_map, hlen, size_list] at h1; omega
  refine ⟨_, Lib.splitB ⟨#[32]⟩ 0 (Lib.countB s ⟨#[32]⟩) s, rfl, ?_, hcut, below_alloc w _⟩
  have := World.ownsRow_lit (base := w.heap.size) (e := 9) (size := 1) w (((Lib.splitB ⟨#[32]⟩ 0 (Lib.countB s ⟨#[32]⟩) s).map Value.string).toArray) (Lib.countB s ⟨#[32]⟩ + 1) (Nat.le_refl _) (by unfold maxLen; omega) (by simp [hlen])
  simpa [SRow, hlen] using this
/-- a word that Atoi takes -/
theorem atoi_good (y : ByteArray) (v : Int) (h : Lib.atoiAll y.data.toList = .ok v) (hs : y.size ≤ 1048576) (w : World) :
    Calls Tryz.prog 103 #[.string y] w fun e w' => e = .returned (.tuple #[.int .i64 v, .nilIface]) ∧ Below w.heap.size w w' :=
  (Tryz.strconv_Atoi_ok y (by omega) v h w).mono fun e w' ⟨he, hw⟩ => ⟨he, by
    rcases hw with rfl | ⟨t, rfl⟩
    · exact Below.refl _ _
    · exact Lib.bytesWorld_below _ _ _⟩
/-- a word that Atoi refuses -/
theorem atoi_bad (y : ByteArray) (h : ∀ v, Lib.atoiAll y.data.toList ≠ .ok v) (hs : y.size ≤ 1048576) (w : World) (hv : LibV w) :
    Calls Tryz.prog 103 #[.string y] w fun e w' => ∃ x N, e = .returned (.tuple #[.int .i64 x, .iface 175 (.pointer (some ⟨N, 0, none⟩))]) ∧ Below w.heap.size w w' := by
  cases hc : Lib.atoiAll y.data.toList with
  | ok v => exact absurd hc (h v)
  | «syntax» =>
    obtain ⟨tp, p, h1⟩ := hv.syn
    refine (Tryz.strconv_Atoi_syntax_var y (by omega) hc tp p w h1).mono ?_
    rintro e w' ⟨N, rfl, -, -, hb⟩
    exact ⟨_, N, rfl, hb⟩
  | range =>
    obtain ⟨tp, p, h1⟩ := hv.rng
    refine (Tryz.strconv_Atoi_range_var y (by omega) hc tp p w h1).mono ?_
    rintro e w' ⟨N, rfl, -, -, hb⟩
    exact ⟨_, N, rfl, hb⟩
set_option maxRecDepth 100000 in
set_option maxHeartbeats 1600000 in
theorem implParse_any (s : ByteArray) (w : World) (hs : s.size ≤ 1048576) (hv : LibV w) :
    Calls Tryz.prog 172 #[.string s] w fun e w' => RetN (parseR s.data.toList) w.heap.size e w' ∧ Below w.heap.size w w' := by
  go_enter Tryz.func172, Tryz.ntmps172
  go_wp2_with fail
  obtain ⟨q0, hq0⟩ : ∃ q : World, q = w.alloc (.cells #[] 3) := ⟨_, rfl⟩
  rw [← hq0]
  have hz0 : q0.heap.size = w.heap.size + 1 := by rw [hq0]; simp
  have hbq : Below w.heap.size w q0 := by rw [hq0]; exact below_alloc w _
  have hrq : Row q0 w.heap.size (.slice (some ⟨w.heap.size, 0, none⟩) 0 0) [] := by rw [hq0]; exact rowLit w
  have HQ := hid hq0; clear hq0
  refine (split_row s q0 hs (hv.below hbq)).mono ?_
  rintro e w1 ⟨n, ys, rfl, hsr, hW, hb1⟩
  obtain ⟨gw, hgw⟩ : ∃ g, g = q0.heap.size := ⟨_, rfl⟩
  rw [← hgw] at hsr ⊢
  obtain ⟨hyn, hnc, hgw1, hgw2, -⟩ := hsr.at
  have hn1 : n ≤ 1048577 := by
    have h1 := cut_count 32 s.data.toList
    rw [← hW, size_list] at h1; simp at h1; omega
  have HW := hid hW; clear hW
  have HYN := hid hyn; clear hyn
  have HK := hid hz0
  have hgne : w.heap.size < gw := by omega
  have HGW := hid hgw
  clear hz0 hgw
  have hrq1 := hrq.below hb1
  have hB1 := hbq.trans (hb1.mono hbq.size)
  go_wp2
  go_loopw [4, 6, 7, 8, 13, 17] (fun o _ _ _ i _ wr => Below w.heap.size w wr ∧ ∃ (k g cp : Nat), k ≤ n ∧ i = .int .i64 k ∧ o = .slice (some ⟨g, 0, none⟩) k cp ∧ Row wr w.heap.size (.slice (some ⟨g, 0, none⟩) k cp) (valsOf atP ((ys.map (·.data.toList)).take k)) ∧ SRow wr gw (.slice (some ⟨gw, 0, none⟩) n n) ys ∧ g ≠ gw ∧ Hid (okAll atP ((ys.map (·.data.toList)).take k) = true)) (fun _ _ _ _ i _ _ => n - (intOf i).toNat)
  case atStart => exact ⟨hB1, 0, w.heap.size, 0, by omega, rfl, rfl, hrq1, hsr, by omega, rfl⟩
  case round =>
    obtain ⟨hB, k, g, cp, hk, rfl, rfl, hrow, hsr, hgg, HO⟩ := hrel
    have hBs := hB.size
    have hrl : (valsOf atP ((ys.map (·.data.toList)).take k)).length = k := by rw [vals_len]; have := HYN.out; simp; omega
    have hvr := hv.below hB
    by_cases hlt : k < n
    · obtain ⟨y, hy⟩ : ∃ y, ys[k]? = some y := ⟨ys[k]'(by have := HYN.out; omega), List.getElem?_eq_getElem _⟩
      have hcell : wr.cell? ⟨gw, k, none⟩ = some (.string y) := by have := hsr.at.2.2.2.2 k y hy; simpa using this
      have hyw : (ys.map (·.data.toList))[k]? = some y.data.toList := by rw [List.getElem?_map, hy]; rfl
      have hyc : (cutAt 32 s.data.toList)[k]? = some y.data.toList := by rw [← HW.out]; exact hyw
      have hysz : y.size ≤ 1048576 := by
        have := cut_len 32 s.data.toList _ (List.mem_of_getElem? hyc)
        rw [size_list, size_list] at this; omega
      have HY := hid hyw
      have HYC := hid hyc
      clear hy hyw hyc
      by_cases hr : ∃ v, Lib.atoiAll y.data.toList = .ok v
      · obtain ⟨v, hr⟩ := hr
        have hc := atoi_good y v hr hysz
        have HR := hid hr; clear hr
        cases hin : inB (-1000000000) 1000000000 v with
        | false =>
          have HN : Hid (parseR s.data.toList = none) := parseA_bad HYC.out (atP_none2 HR.out hin)
          have hp : ∀ w2, Calls Tryz.prog 133 #[.int .i64 v] w2 fun e w' => e = .returned (.bool false) ∧ w2 = w' := fun w2 => by
            have := isPart_any v w2; rw [hin] at this; exact this
          clear hin
          go_wp2_with (first | (go_at_call 103; refine (hc _).mono ?_; rintro e w2 ⟨rfl, hb2⟩) | (go_at_call 133; refine (hp _).mono ?_; rintro e w3 ⟨rfl, rfl⟩))
          refine bodyPost_ret (v := .tuple #[.slice none 0 0, .bool false]) (by simp [results, Tryz.results172, go_sem]) rfl ⟨⟨_, by rw [HN.out]; rfl, by rw [HN.out]; exact Row.nil _ _⟩, hB.trans (hb2.mono hBs)⟩
        | true =>
          have hp : ∀ w2, Calls Tryz.prog 133 #[.int .i64 v] w2 fun e w' => e = .returned (.bool true) ∧ w2 = w' := fun w2 => by
            have := isPart_any v w2; rw [hin] at this; exact this
          have HV : Hid (atP y.data.toList = some v) := atP_some1 HR.out hin
          clear hin
          go_wp2_with (first | (go_at_call 103; refine (hc _).mono ?_; rintro e w2 ⟨rfl, hb2⟩) | (go_at_call 133; refine (hp _).mono ?_; rintro e w3 ⟨rfl, rfl⟩) | (at_builtin; refine wpList_append_int2 rfl _ _ rfl w.heap.size _ _ k hrl (by rfl) ((hrow.below hb2).below (below_alloc w2 _)) _ _ v (by rfl) (by simp) (by omega) (by have := hb2.size; simp; omega) ?_; intro g' c' w' hrow' hgrow hgn))
          have hz2 := hb2.size
          have HB2 := hid (below_grownBy ((hB.trans (hb2.mono hBs)).alloc (by omega) _) (by simp; omega) hgrow (fun b e => (hrow.block b e).1))
          have hg2 : g' ≠ gw := by
            rcases hgn with h | h
            · have h2 : some g = some g' := h
              injection h2 with h2; omega
            · have := hsr.at.2.2.2.1; simp at h; omega
          have hsr2 : SRow w' gw (.slice (some ⟨gw, 0, none⟩) n n) ys := ((hsr.below hb2).below (below_alloc w2 _)).grown hgrow (by intro e; injection e with e; exact hgg e.symm)
          have HT : Hid (valsOf atP ((ys.map (·.data.toList)).take (k + 1)) = valsOf atP ((ys.map (·.data.toList)).take k) ++ [v]) := vals_step atP HY.out HV.out
          have HO2 := hid (ok_step HY.out HV.out HO.out)
          clear hgrow hrow hgn hsr
          go_roundw
          case rel => first | exact ⟨HB2.out, k + 1, g', c', by omega, by go_num, rfl, by rw [HT.out]; exact hrow', hsr2, hg2, HO2.out⟩ | exact ⟨_, ⟨HB2.out, k + 1, g', c', by omega, by go_num, rfl, by rw [HT.out]; exact hrow', hsr2, hg2, HO2.out⟩, rfl⟩ | exact ⟨_, _, ⟨HB2.out, k + 1, g', c', by omega, by go_num, rfl, by rw [HT.out]; exact hrow', hsr2, hg2, HO2.out⟩, rfl, rfl⟩ | exact ⟨_, _, _, ⟨HB2.out, k + 1, g', c', by omega, by go_num, rfl, by rw [HT.out]; exact hrow', hsr2, hg2, HO2.out⟩, rfl, rfl, rfl⟩ | exact ⟨_, _, _, _, ⟨HB2.out, k + 1, g', c', by omega, by go_num, rfl, by rw [HT.out]; exact hrow', hsr2, hg2, HO2.out⟩, rfl, rfl, rfl, rfl⟩ | exact ⟨_, _, _, _, _, ⟨HB2.out, k + 1, g', c', by omega, by go_num, rfl, by rw [HT.out]; exact hrow', hsr2, hg2, HO2.out⟩, rfl, rfl, rfl, rfl, rfl⟩
          case measure => simp [intOf]; omega
      · have hr2 : ∀ v, Lib.atoiAll y.data.toList ≠ .ok v := fun v e => hr ⟨v, e⟩
        have HN : Hid (parseR s.data.toList = none) := parseA_bad HYC.out (atP_none1 hr2)
        have hc := atoi_bad y hr2 hysz
        clear hr hr2
        go_wp2_with (go_at_call 103; refine (hc _ hvr).mono ?_; rintro e w2 ⟨x, N, rfl, hb2⟩)
        refine bodyPost_ret (v := .tuple #[.slice none 0 0, .bool false]) (by simp [results, Tryz.results172, go_sem]) rfl ⟨⟨_, by rw [HN.out]; rfl, by rw [HN.out]; exact Row.nil _ _⟩, hB.trans (hb2.mono hBs)⟩
    · have hkn : k = n := by omega
      have et : (ys.map (·.data.toList)).take k = cutAt 32 s.data.toList := by
        have h1 := HW.out; have h2 := HYN.out
        rw [List.take_of_length_le (by simp; omega), h1]
      have HO2 := hid HO.out
      rw [et] at hrow HO2 hrl
      obtain ⟨V, hVe⟩ : ∃ V, V = valsOf atP (cutAt 32 s.data.toList) := ⟨_, rfl⟩
      have hbd := vals_bound (cutAt 32 s.data.toList)
      rw [← hVe] at hrow hrl hbd
      have hlen : (cutAt 32 s.data.toList).length = k := by rw [← hrl, hVe, vals_len]
      have HL := hid hlen; have HVE := hid hVe; have HRL := hid hrl
      clear hkn et hrl HO hlen hVe
      by_cases h16 : 16 < k
      · have HN : Hid (parseR s.data.toList = none) := parseR_long (by rw [HL.out]; exact h16)
        go_wp2
        refine bodyPost_ret (v := .tuple #[.slice none 0 0, .bool false]) (by simp [results, Tryz.results172, go_sem]) rfl ⟨⟨_, by rw [HN.out]; rfl, by rw [HN.out]; exact Row.nil _ _⟩, hB⟩
      · have z16 : decide (16 < (k : Int)) = false := by simp; omega
        obtain ⟨ao, nv, cv, ev, hi⟩ := hrow.ints
        injection ev with e1 e2 e3
        subst e1 e2
        have hnt := numbersText_any _ k cp V wr hi hbd (by omega) hvr.pow
        by_cases ht : numT V = s.data.toList
        · have HN : Hid (parseR s.data.toList = some V) := by
            show _ = _; rw [HVE.out]; exact parseA_good HO2.out (by rw [HL.out]; omega) (by rw [← HVE.out]; exact ht)
          have hbs : bs (numT V) = s := by rw [ht]; exact ByteArray.ext (Array.toList_inj.1 (by rw [bs_data]))
          rw [hbs] at hnt
          clear ht hbs e3 hi
          go_wp2_with (go_at_call 67; refine hnt.mono ?_; rintro e w2 ⟨rfl, hb2⟩)
          refine bodyPost_ret (v := .tuple #[.slice (some ⟨g, 0, none⟩) k cp, .bool true]) (by simp [results, Tryz.results172, go_sem]) rfl ⟨⟨_, by rw [HN.out]; rfl, by rw [HN.out]; exact hrow.below hb2⟩, hB.trans (hb2.mono hBs)⟩
        · have HN : Hid (parseR s.data.toList = none) := parseA_odd (by rw [← HVE.out]; exact ht)
          obtain ⟨u, hu⟩ : ∃ u, u = bs (numT V) := ⟨_, rfl⟩
          rw [← hu] at hnt
          have hn1 : (u.toList == s.toList) = false := by
            rw [beq_eq_false_iff_ne, Lib.toList_data, Lib.toList_data]
            intro e; exact ht (by rw [← e, hu, bs_data])
          clear ht hu hi e3
          go_wp2_with (go_at_call 67; refine hnt.mono ?_; rintro e w2 ⟨rfl, hb2⟩)
          refine bodyPost_ret (v := .tuple #[.slice none 0 0, .bool false]) (by simp [results, Tryz.results172, go_sem]) rfl ⟨⟨_, by rw [HN.out]; rfl, by rw [HN.out]; exact Row.nil _ _⟩, hB.trans (hb2.mono hBs)⟩
theorem libV_of (W : World) (hP : Pow W) (hSE : ∃ tp p, W.var? Tryz.prog "strconv.ErrSyntax" = some #[.iface tp p]) (hRE : ∃ tp p, W.var? Tryz.prog "strconv.ErrRange" = some #[.iface tp p]) (hsh : W.ShapedOpen Tryz.prog) : LibV W := by
  obtain ⟨m, hm⟩ := Tryz.laysM146.s1_3 W hsh
  exact ⟨hP, hSE, hRE, m, hm⟩
end Go.Proofs.YtefmlbahmakboaaGreatDoor
