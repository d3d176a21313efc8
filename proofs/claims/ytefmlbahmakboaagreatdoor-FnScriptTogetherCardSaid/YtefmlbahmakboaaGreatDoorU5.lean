/- Plain: texts of sets and masses, cut at a byte; no program in sight. Texts of sets and masses: setText, FormatSet, ParseSet, FormatMass. ParseMass takes the text of a mass back. The desk of the interpreter, and what it is for a line to be executed. RunScript: the lines of a script, one after the other; a mass laid on the desk; commands without a rest. -/
import Derived.Test.YtefmlbahmakboaaGreatDoorT9
import Derived.Test.YtefmlbahmakboaaGreatDoorW13
import Derived.Test.YtefmlbahmakboaaGreatDoorS2
import Derived.Lib.IndexMore
import Derived.Test.YtefmlbahmakboaaGreatDoorDR
import Derived.Test.YtefmlbahmakboaaGreatDoorD2
import Derived.Test.YtefmlbahmakboaaGreatDoorC4
import Derived.Test.YtefmlbahmakboaaGreatDoorE3
set_option linter.unusedSimpArgs false
set_option linter.unusedVariables false
namespace Go.Proofs.YtefmlbahmakboaaGreatDoor
open Go.RowKit
theorem index_cons_ne {b c : UInt8} (l : List UInt8) (h : b ≠ c) : Lib.index (b :: l) [c] = if Lib.index l [c] == -1 then -1 else Lib.index l [c] + 1 := by
  have h0 : ([c] : List UInt8).isPrefixOf (b :: l) = false := by
    simp [List.isPrefixOf]; exact fun e => h e.symm
  rw [Lib.index, h0]; rfl
theorem index_app (c : UInt8) : ∀ (p r : List UInt8), c ∉ p → Lib.index (p ++ c :: r) [c] = p.length
  | [], r, _ => by
    have h0 : ([c] : List UInt8).isPrefixOf (c :: r) = true := by simp [List.isPrefixOf]
    rw [List.nil_append, Lib.index, if_pos h0]; rfl
  | b :: p, r, h => by
    have h1 : b ≠ c := fun e => h (by rw [e]; exact List.mem_cons_self ..)
    have ih := index_app c p r (fun e => h (List.mem_cons_of_mem _ e))
    have h2 : (((p.length : Nat) : Int) == -1) = false := by rw [beq_eq_false_iff_ne]; omega
    rw [List.cons_append, index_cons_ne _ h1, ih, h2]
    show (p.length : Int) + 1 = ((p.length + 1 : Nat) : Int)
    omega
theorem index_miss (c : UInt8) : ∀ l : List UInt8, c ∉ l → Lib.index l [c] = -1
  | [], _ => rfl
  | b :: l, h => by
    have h1 : b ≠ c := fun e => h (by rw [e]; exact List.mem_cons_self ..)
    rw [index_cons_ne _ h1, index_miss c l (fun e => h (List.mem_cons_of_mem _ e))]
    rfl
theorem cut_app (c : UInt8) (p r : List UInt8) (h : c ∉ p) : Lib.cut (p ++ c :: r) [c] = (p, r, true) := by
  unfold Lib.cut
  rw [index_app c p r h, if_pos (by omega), Int.toNat_natCast]
  have e1 : (p ++ c :: r).take p.length = p := List.take_left
  have e2 : (p ++ c :: r).drop (p.length + ([c] : List UInt8).length) = r := by
    rw [show p.length + ([c] : List UInt8).length = (p ++ [c]).length by simp, show p ++ c :: r = (p ++ [c]) ++ r by simp]
    exact List.drop_left
  rw [e1, e2]
theorem cut_miss (c : UInt8) (l : List UInt8) (h : c ∉ l) : Lib.cut l [c] = (l, [], false) := by
  unfold Lib.cut
  rw [index_miss c l h, if_neg (by omega)]
/-- a text of lines, each ended -/
def lineT : List (List UInt8) → List UInt8
  | [] => []
  | x :: r => x ++ 10 :: lineT r
theorem lineT_app (a b : List (List UInt8)) : lineT (a ++ b) = lineT a ++ lineT b := by
  induction a with
  | nil => rfl
  | cons x r ih => show x ++ 10 :: lineT (r ++ b) = (x ++ 10 :: lineT r) ++ lineT b; rw [ih]; simp
theorem cut_lines : ∀ ls : List (List UInt8), (∀ l ∈ ls, (10 : UInt8) ∉ l) → cutAt 10 (lineT ls) = ls ++ [[]]
  | [], _ => rfl
  | x :: r, h => by
    show cutAt 10 (x ++ 10 :: lineT r) = x :: (r ++ [[]])
    rw [cutAt_app 10 x _ (h x (List.mem_cons_self ..)), cut_lines r (fun l hl => h l (List.mem_cons_of_mem _ hl))]
def letC (k : Nat) : UInt8 := UInt8.ofNat (97 + k)
/-- the letters of a set -/
def setTo (a k : Nat) : List UInt8 := iter (fun x l => if hasB a x then l ++ [letC x] else l) [] k
theorem setTo_succ (a k : Nat) : setTo a (k + 1) = if hasB a k then setTo a k ++ [letC k] else setTo a k := rfl
def setT (a : Nat) : List UInt8 := if setTo a 4 = [] then [45] else setTo a 4
theorem setT_inj : ∀ a b : Fin 16, setT a.val = setT b.val → a.val = b.val := by decide +kernel
theorem setT_len : ∀ a : Fin 16, (setT a.val).length ≤ 4 := by decide +kernel
theorem setTo_len : ∀ a : Fin 16, ∀ k : Fin 5, (setTo a.val k.val).length ≤ 4 := by decide +kernel
theorem setT_chars : ∀ a : Fin 16, ((setT a.val).all fun c => c == 45 || (97 ≤ c.toNat && c.toNat ≤ 100)) = true := by decide +kernel
theorem setT_char {a : Nat} (ha : a < 16) {c : UInt8} (h : c ∈ setT a) : c = 45 ∨ (97 ≤ c.toNat ∧ c.toNat ≤ 100) := by
  have h1 := setT_chars ⟨a, ha⟩
  rw [List.all_eq_true] at h1
  have := h1 c h
  simpa using this
def wordT (xs : List Int) (a : Int) : List UInt8 := setT a.toNat ++ 32 :: Lib.itoa (nth xs a.toNat)
/-- the words of a mass -/
def massW (xs : List Int) : List (List UInt8) := (focTo xs xs.length).map (wordT xs)
def massT (s : Int) (xs : List Int) : List UInt8 := if massOk s xs then Lib.itoa s ++ 58 :: Lib.join (massW xs) [44] else []
theorem itoa_char {x : Int} (h : 0 ≤ x) {c : UInt8} (hc : c ∈ Lib.itoa x) : 48 ≤ c.toNat ∧ c.toNat ≤ 57 := by
  rw [itoa_nn x h] at hc; exact dec_mem _ c hc
theorem word_chars {xs : List Int} {a : Int} (ha : 0 ≤ a ∧ a < 16) (hx : 0 ≤ nth xs a.toNat) {c : UInt8} (hc : c ∈ wordT xs a) : c = 32 ∨ c = 45 ∨ (48 ≤ c.toNat ∧ c.toNat ≤ 57) ∨ (97 ≤ c.toNat ∧ c.toNat ≤ 100) := by
  unfold wordT at hc
  rw [List.mem_append, List.mem_cons] at hc
  rcases hc with h | h | h
  · rcases setT_char (by omega) h with h | h
    · exact .inr (.inl h)
    · exact .inr (.inr (.inr h))
  · exact .inl h
  · exact .inr (.inr (.inl (itoa_char hx h)))
theorem foc_mem {xs : List Int} {k : Nat} {a : Int} (h : a ∈ focTo xs k) : 0 ≤ a ∧ a < k := by
  induction k with
  | zero => simp [focTo, iter] at h
  | succ k ih =>
    rw [focTo_succ] at h
    split at h
    · have := ih h; omega
    · rw [List.mem_append] at h
      rcases h with h | h
      · have := ih h; omega
      · simp at h; omega
theorem join_chars {P : UInt8 → Prop} {ws : List (List UInt8)} {sep : List UInt8} (hw : ∀ w ∈ ws, ∀ c ∈ w, P c) (hs : ∀ c ∈ sep, P c) : ∀ c ∈ Lib.join ws sep, P c := by
  induction ws with
  | nil => intro c hc; rw [Lib.join_nil] at hc; simp at hc
  | cons x r ih =>
    cases r with
    | nil => intro c hc; rw [Lib.join_one] at hc; exact hw x (by simp) c hc
    | cons y t =>
      intro c hc
      have e : Lib.join (x :: y :: t) sep = x ++ (sep ++ Lib.join (y :: t) sep) := by
        rw [Lib.join_cons, Lib.join_cons]; simp [Lib.joinTail, List.append_assoc]
      rw [e, List.mem_append, List.mem_append] at hc
      rcases hc with h | h | h
      · exact hw x (by simp) c h
      · exact hs c h
      · exact ih (fun w hw2 => hw w (List.mem_cons_of_mem _ hw2)) c h
/-- which bytes stand in the text of a mass -/
def goodC (c : UInt8) : Prop := c = 32 ∨ c = 44 ∨ c = 45 ∨ c = 58 ∨ (48 ≤ c.toNat ∧ c.toNat ≤ 57) ∨ (97 ≤ c.toNat ∧ c.toNat ≤ 100)
theorem massT_chars {s : Int} {xs : List Int} : ∀ c ∈ massT s xs, goodC c := by
  intro c hc
  unfold massT at hc
  split at hc
  · next hm =>
    obtain ⟨hs, hl, h16, hb, _⟩ := massOk_facts' hm
    have hs0 : 1 ≤ s := by rcases okSize_iff.1 hs with h | h | h | h <;> omega
    rw [List.mem_append, List.mem_cons] at hc
    rcases hc with h | h | h
    · exact .inr (.inr (.inr (.inr (.inl (itoa_char (by omega) h)))))
    · exact .inr (.inr (.inr (.inl h)))
    · refine join_chars (P := goodC) (fun w hw d hd => ?_) (fun d hd => ?_) c h
      · unfold massW at hw
        rw [List.mem_map] at hw
        obtain ⟨a, ha, rfl⟩ := hw
        have h1 := foc_mem ha
        rcases word_chars (by omega) (hb a.toNat (by omega)).1 hd with h | h | h | h
        · exact .inl h
        · exact .inr (.inr (.inl h))
        · exact .inr (.inr (.inr (.inr (.inl h))))
        · exact .inr (.inr (.inr (.inr (.inr h))))
      · simp at hd; exact .inr (.inl hd)
  · simp at hc
theorem massT_line {s : Int} {xs : List Int} : (10 : UInt8) ∉ massT s xs := fun h => by
  have := massT_chars _ h
  unfold goodC at this
  rcases this with h | h | h | h | h | h
  · exact absurd h (by decide)
  · exact absurd h (by decide)
  · exact absurd h (by decide)
  · exact absurd h (by decide)
  · have : (10 : UInt8).toNat = 10 := rfl
    omega
  · have : (10 : UInt8).toNat = 10 := rfl
    omega
theorem word_no {xs : List Int} {a : Int} (ha : 0 ≤ a ∧ a < 16) (hx : 0 ≤ nth xs a.toNat) : (44 : UInt8) ∉ wordT xs a := fun h => by
  rcases word_chars ha hx h with h | h | h | h
  · exact absurd h (by decide)
  · exact absurd h (by decide)
  · have : (44 : UInt8).toNat = 44 := rfl
    omega
  · have : (44 : UInt8).toNat = 44 := rfl
    omega
theorem setT_no {a : Nat} (ha : a < 16) : (32 : UInt8) ∉ setT a := fun h => by
  rcases setT_char ha h with h | h
  · exact absurd h (by decide)
  · have : (32 : UInt8).toNat = 32 := rfl
    omega
theorem itoa_no {x : Int} (h : 0 ≤ x) : (58 : UInt8) ∉ Lib.itoa x := fun hc => by
  have := itoa_char h hc
  have : (58 : UInt8).toNat = 58 := rfl
  omega
theorem join_len {ws : List (List UInt8)} {c : UInt8} {B : Nat} (h : ∀ w ∈ ws, w.length ≤ B) : (Lib.join ws [c]).length ≤ (B + 1) * ws.length := by
  induction ws with
  | nil => simp [Lib.join_nil]
  | cons x r ih =>
    have hx := h x (by simp)
    have ih := ih fun w hw => h w (List.mem_cons_of_mem _ hw)
    cases r with
    | nil => rw [Lib.join_one]; simp; omega
    | cons y t =>
      have e : Lib.join (x :: y :: t) [c] = x ++ ([c] ++ Lib.join (y :: t) [c]) := by
        rw [Lib.join_cons, Lib.join_cons]; simp [Lib.joinTail, List.append_assoc]
      have e1 : ([c] : List UInt8).length = 1 := rfl
      have e2 : (x :: y :: t).length = (y :: t).length + 1 := rfl
      rw [e, List.length_append, List.length_append, e2, Nat.mul_add]
      omega
theorem itoa_len7 {x : Int} (h0 : 0 ≤ x) (h1 : x ≤ 1000000) : (Lib.itoa x).length ≤ 7 := by
  rw [itoa_nn x h0]; exact dec_len 6 _ (by omega)
/-- the text of a mass is short -/
theorem massT_len (s : Int) (xs : List Int) : (massT s xs).length ≤ 220 := by
  unfold massT
  split
  · next hm =>
    obtain ⟨hs, hl, h16, hb, _⟩ := massOk_facts' hm
    have hs0 : 1 ≤ s ∧ s ≤ 4 := by rcases okSize_iff.1 hs with h | h | h | h <;> omega
    have h1 := itoa_len7 (x := s) (by omega) (by omega)
    have h2 : (massW xs).length ≤ 16 := by unfold massW; rw [List.length_map]; have := focTo_len xs xs.length; omega
    have h3 : (Lib.join (massW xs) [44]).length ≤ (12 + 1) * (massW xs).length := join_len fun w hw => by
      unfold massW at hw
      rw [List.mem_map] at hw
      obtain ⟨a, ha, rfl⟩ := hw
      have h4 := foc_mem ha
      have h5 := hb a.toNat (by omega)
      have h6 := itoa_len7 h5.1 h5.2
      have h7 := setT_len ⟨a.toNat, by omega⟩
      unfold wordT
      simp only at h7
      rw [List.length_append, List.length_cons]; omega
    rw [List.length_append, List.length_cons]; omega
  · simp
theorem foc_some {xs : List Int} {k : Nat} (hk : k < xs.length) (h : nth xs k ≠ 0) : focTo xs xs.length ≠ [] := by
  obtain ⟨m, hm⟩ : ∃ m, xs.length = k + 1 + m := ⟨xs.length - (k + 1), by omega⟩
  rw [hm]
  clear hm hk
  induction m with
  | zero => rw [Nat.add_zero, focTo_succ, if_neg h]; simp
  | succ m ih =>
    rw [← Nat.add_assoc, focTo_succ]
    split
    · exact ih
    · simp
theorem massW_ne {s : Int} {xs : List Int} (hm : massOk s xs = true) : massW xs ≠ [] := by
  obtain ⟨_, _, _, hb, h1, _⟩ := massOk_facts' hm
  have : ∃ k, k < xs.length ∧ nth xs k ≠ 0 := by
    refine Classical.byContradiction fun hc => ?_
    have h0 : ∀ k, k ≤ xs.length → isumTo xs k = 0 := by
      intro k hk
      induction k with
      | zero => rfl
      | succ k ih =>
        have h2 : nth xs k = 0 := Classical.byContradiction fun h3 => hc ⟨k, by omega, h3⟩
        show isumTo xs k + nth xs k = 0
        rw [ih (by omega), h2]; rfl
    have h3 := h0 xs.length (Nat.le_refl _)
    have h4 : isum xs = 0 := h3
    omega
  obtain ⟨k, hk, h⟩ := this
  unfold massW
  intro e
  exact foc_some hk h (List.map_eq_nil_iff.1 e)
/-- the text behind the colon, cut at commas -/
theorem massW_cut {s : Int} {xs : List Int} (hm : massOk s xs = true) : cutAt 44 (Lib.join (massW xs) [44]) = massW xs := by
  obtain ⟨_, _, h16, hb, _⟩ := massOk_facts' hm
  refine cut_join 44 _ (massW_ne hm) fun w hw => ?_
  unfold massW at hw
  rw [List.mem_map] at hw
  obtain ⟨a, ha, rfl⟩ := hw
  have h4 := foc_mem ha
  exact word_no (by omega) (hb a.toNat (by omega)).1
theorem massT_cut {s : Int} {xs : List Int} (hm : massOk s xs = true) : Lib.cut (massT s xs) [58] = (Lib.itoa s, Lib.join (massW xs) [44], true) := by
  have hs := (massOk_facts' hm).1
  have hs0 : 1 ≤ s := by rcases okSize_iff.1 hs with h | h | h | h <;> omega
  unfold massT
  rw [if_pos hm]
  exact cut_app 58 _ _ (itoa_no (by omega))
theorem word_cut {xs : List Int} {a : Int} (ha : 0 ≤ a ∧ a < 16) : Lib.cut (wordT xs a) [32] = (setT a.toNat, Lib.itoa (nth xs a.toNat), true) := by
  unfold wordT
  exact cut_app 32 _ _ (setT_no (by omega))
/-- the list that the first k words lay -/
def layTo (xs : List Int) (L : List Int) (N k : Nat) : List Int := iter (fun j l => l.set (nth L j).toNat (nth xs (nth L j).toNat)) (List.replicate N 0) k
theorem layTo_succ (xs L : List Int) (N k : Nat) : layTo xs L N (k + 1) = (layTo xs L N k).set (nth L k).toNat (nth xs (nth L k).toNat) := rfl
theorem layTo_len (xs L : List Int) (N k : Nat) : (layTo xs L N k).length = N := by
  induction k with
  | zero => simp [layTo, iter]
  | succ k ih => rw [layTo_succ, List.length_set]; exact ih
theorem layTo_bd {xs L : List Int} {N : Nat} (hb : ∀ j, j < xs.length → 0 ≤ nth xs j ∧ nth xs j ≤ 1000000) (k j : Nat) : nth (layTo xs L N k) j = 0 ∨ ∃ i, nth (layTo xs L N k) j = nth xs i := by
  induction k with
  | zero => left; show nth (List.replicate N 0) j = 0; rw [nth_replicate]
  | succ k ih =>
    rw [layTo_succ, nth_set]
    split
    · exact .inr ⟨_, rfl⟩
    · exact ih
theorem foc_app (xs : List Int) (a m : Nat) : ∃ r, focTo xs (a + m) = focTo xs a ++ r ∧ ∀ y ∈ r, (a : Int) ≤ y := by
  induction m with
  | zero => exact ⟨[], by simp, by simp⟩
  | succ m ih =>
    obtain ⟨r, h1, h2⟩ := ih
    rw [← Nat.add_assoc, focTo_succ]
    split
    · exact ⟨r, h1, h2⟩
    · refine ⟨r ++ [((a + m : Nat) : Int)], by rw [h1, List.append_assoc], fun y hy => ?_⟩
      rw [List.mem_append] at hy
      rcases hy with hy | hy
      · exact h2 y hy
      · simp at hy; omega
/-- which places are laid: the sets whose part is not 0 -/
theorem lay_foc (xs : List Int) (N : Nat) (hN : xs.length = N) : ∀ j, j < N → nth (layTo xs (focTo xs N) N (focTo xs N).length) j = nth xs j := by
  have key : ∀ a, a ≤ N → ∀ j, j < N → nth (layTo xs (focTo xs N) N (focTo xs a).length) j = if j < a then nth xs j else 0 := by
    intro a
    induction a with
    | zero => intro _ j _; show nth (List.replicate N 0) j = _; rw [nth_replicate, if_neg (by omega)]
    | succ a ih =>
      intro ha j hj
      have ih := ih (by omega)
      rw [focTo_succ]
      split
      · next h0 =>
        rw [ih j hj]
        by_cases h1 : j < a
        · rw [if_pos h1, if_pos (by omega)]
        · by_cases h2 : j = a
          · subst h2; rw [if_neg h1, if_pos (by omega), h0]
          · rw [if_neg h1, if_neg (by omega)]
      · next h0 =>
        obtain ⟨r, h1, _⟩ := foc_app xs (a + 1) (N - (a + 1))
        rw [show a + 1 + (N - (a + 1)) = N by omega, focTo_succ, if_neg h0] at h1
        have e : nth (focTo xs N) (focTo xs a).length = (a : Int) := by
          rw [h1]; unfold nth; simp
        rw [List.length_append, List.length_singleton, layTo_succ, e, nth_set, layTo_len, Int.toNat_natCast]
        by_cases h2 : a = j
        · subst h2; rw [if_pos ⟨rfl, by omega⟩, if_pos (by omega)]
        · rw [if_neg (by omega), ih j hj]
          by_cases h3 : j < a
          · rw [if_pos h3, if_pos (by omega)]
          · rw [if_neg h3, if_neg (by omega)]
  intro j hj
  rw [key N (Nat.le_refl _) j hj, if_pos hj]
theorem lay_all (xs : List Int) : layTo xs (focTo xs xs.length) xs.length (focTo xs xs.length).length = xs := by
  refine ext_nth _ _ (layTo_len _ _ _ _) fun j hj => ?_
  rw [layTo_len] at hj
  exact lay_foc xs _ rfl j hj
theorem bs_ne {a b : List UInt8} (h : a ≠ b) : ((bs a).toList == (bs b).toList) = false := by
  rw [beq_eq_false_iff_ne, Lib.toList_data, Lib.toList_data, bs_data, bs_data]; exact h
theorem bs_self (a : List UInt8) : ((bs a).toList == (bs a).toList) = true := beq_self_eq_true _
theorem bs_nil : bs [] = ByteArray.empty := rfl
/-- one string appended: where the new row lies -/
theorem wpList_append_str2 {w : World} {ops : Array Oper} {rest : List Oper} {o : Oper} {a : Act} {Q : Exit → Act → World → Prop} (hgd : o.guard = none) (s x : Operand)
    (ho : o.op = .call { callee := .builtin .append, args := #[s, x], argTypes := #[61, 61] })
    (base : Nat) (v : Value) (xs : List ByteArray) (n : Nat) (hl : xs.length = n) (hs : a.eval s = v) (hown : SRow w base v xs)
    (ad : Addr) (c : Nat) (u : ByteArray) (hx : a.eval x = .slice (some ad) 1 c) (hnew : w.cell? ad = some (.string u))
    (hn : n < 1000000000) (hbase : base ≤ w.heap.size)
    (h : ∀ g cap w', SRow w' base (.slice (some ⟨g, 0, none⟩) (n + 1) cap) (xs ++ [u]) → w.grownBy w' v.ownBlock → (v.ownBlock = some g ∨ g = w.heap.size) → wpList Tryz.prog ops Q rest (a.put o.dst (.slice (some ⟨g, 0, none⟩) (n + 1) cap)) w') :
    wpList Tryz.prog ops Q (o :: rest) a w := by
  obtain ⟨i0, hi, hz0, hz1, hz2⟩ := info_parts info_str
  subst hl
  refine wpList_plain hgd fun _ hK => wp_append_lies w s x 61 ho base 9 i0 (.string ByteArray.empty) 1 16 Tryz.underlying61 hi hz0 hz1 hz2 rfl (by decide) v xs.length (xs.map Value.string) hs hown ad 1 c [.string u] hx rfl ?_ ?_ (by decide) (by unfold maxLen; omega) (by omega) hbase _ rfl fun g cap w' k1 k2 k3 k4 => hK _ _ (h g cap w' ?_ k2 k3)
  · intro j u' hj
    match j, hj with
    | 0, hj => simp at hj; subst hj; simpa [Addr.add] using hnew
  · intro u' hu'; simp at hu'; subst hu'; rfl
  · simpa [SRow] using k1
theorem abcd (k : Nat) (hk : k < 4) : (ByteArray.mk #[97, 98, 99, 100]).extract k (k + 1) = bs [letC k] := by
  rcases (show k = 0 ∨ k = 1 ∨ k = 2 ∨ k = 3 by omega) with rfl | rfl | rfl | rfl <;> rfl
set_option maxRecDepth 100000 in
set_option maxHeartbeats 1000000 in
theorem setText_any (a : Nat) (w : World) (ha : a < 16) :
    Calls Tryz.prog 50 #[.int .i64 a] w fun e w' => e = .returned (.string (bs (setT a))) ∧ Below w.heap.size w w' := by
  go_enter Tryz.func50, Tryz.ntmps50
  go_wp2
  go_loopw [3, 4, 5] (fun s u i wr => Below w.heap.size w wr ∧ ∃ k : Nat, k ≤ 4 ∧ i = .int .i64 k ∧ s = .string (bs (setTo a k))) (fun _ _ i _ => 4 - (intOf i).toNat)
  case atStart => exact ⟨Below.refl _ _, 0, by omega, rfl, rfl⟩
  case round =>
    obtain ⟨hB, k, hk, rfl, rfl⟩ := hrel
    by_cases hlt : k < 4
    · have hk0 : (0 : Int) ≤ (k : Int) := by omega
      have hk1 : (k : Int) < 4 := by omega
      have hand := and_one a k (by omega)
      have hsz := setTo_len ⟨a, ha⟩ ⟨k, by omega⟩
      simp only at hsz
      have hx := abcd k hlt
      have kz : ¬ 9223372036854775807 < (bs (setTo a k)).size + (bs [letC k]).size := by rw [bs_size, bs_size]; simp; omega
      have HS := hid (setTo_succ a k)
      cases ht : hasB a k
      · have ht' : a.testBit k = false := ht
        rw [ht] at HS
        clear kz hx
        go_wp2
        go_roundw
        case rel => first | exact ⟨hB, k + 1, by omega, by go_num, by rw [HS.out]; rfl⟩ | exact ⟨_, ⟨hB, k + 1, by omega, by go_num, by rw [HS.out]; rfl⟩, rfl⟩ | exact ⟨_, _, ⟨hB, k + 1, by omega, by go_num, by rw [HS.out]; rfl⟩, rfl, rfl⟩ | exact ⟨_, _, _, ⟨hB, k + 1, by omega, by go_num, by rw [HS.out]; rfl⟩, rfl, rfl, rfl⟩ | exact ⟨_, _, _, _, ⟨hB, k + 1, by omega, by go_num, by rw [HS.out]; rfl⟩, rfl, rfl, rfl, rfl⟩ | exact ⟨_, _, _, _, _, ⟨hB, k + 1, by omega, by go_num, by rw [HS.out]; rfl⟩, rfl, rfl, rfl, rfl, rfl⟩
        case measure => simp [intOf]; omega
      · have ht' : a.testBit k = true := ht
        rw [ht] at HS
        have HE : Hid (bs (setTo a (k + 1)) = bs (setTo a k) ++ bs [letC k]) := by rw [Hid, HS.out, if_pos rfl, bs_append]
        clear HS
        go_wp2
        go_roundw
        case rel => first | exact ⟨by (repeat (first | exact Below.refl _ _ | assumption | refine Below.alloc ?_ (by first | omega | (simp <;> omega)) _ | refine Below.setCell ?_ (by first | omega | (simp <;> omega)) _ | refine Below.drew ?_ | refine below_drewN ?_)), k + 1, by omega, by go_num, by rw [HE.out]⟩ | exact ⟨_, ⟨by (repeat (first | exact Below.refl _ _ | assumption | refine Below.alloc ?_ (by first | omega | (simp <;> omega)) _ | refine Below.setCell ?_ (by first | omega | (simp <;> omega)) _ | refine Below.drew ?_ | refine below_drewN ?_)), k + 1, by omega, by go_num, by rw [HE.out]⟩, rfl⟩ | exact ⟨_, _, ⟨by (repeat (first | exact Below.refl _ _ | assumption | refine Below.alloc ?_ (by first | omega | (simp <;> omega)) _ | refine Below.setCell ?_ (by first | omega | (simp <;> omega)) _ | refine Below.drew ?_ | refine below_drewN ?_)), k + 1, by omega, by go_num, by rw [HE.out]⟩, rfl, rfl⟩ | exact ⟨_, _, _, ⟨by (repeat (first | exact Below.refl _ _ | assumption | refine Below.alloc ?_ (by first | omega | (simp <;> omega)) _ | refine Below.setCell ?_ (by first | omega | (simp <;> omega)) _ | refine Below.drew ?_ | refine below_drewN ?_)), k + 1, by omega, by go_num, by rw [HE.out]⟩, rfl, rfl, rfl⟩ | exact ⟨_, _, _, _, ⟨by (repeat (first | exact Below.refl _ _ | assumption | refine Below.alloc ?_ (by first | omega | (simp <;> omega)) _ | refine Below.setCell ?_ (by first | omega | (simp <;> omega)) _ | refine Below.drew ?_ | refine below_drewN ?_)), k + 1, by omega, by go_num, by rw [HE.out]⟩, rfl, rfl, rfl, rfl⟩ | exact ⟨_, _, _, _, _, ⟨by (repeat (first | exact Below.refl _ _ | assumption | refine Below.alloc ?_ (by first | omega | (simp <;> omega)) _ | refine Below.setCell ?_ (by first | omega | (simp <;> omega)) _ | refine Below.drew ?_ | refine below_drewN ?_)), k + 1, by omega, by go_num, by rw [HE.out]⟩, rfl, rfl, rfl, rfl, rfl⟩
        case measure => simp [intOf]; omega
    · obtain rfl : k = 4 := by omega
      by_cases he : setTo a 4 = []
      · have hb := hid (bs_empty (setTo a 4) true (by rw [he]; rfl))
        have ke : (bs (setTo a 4)).toList.isEmpty = true := hb.out
        have HV : Hid (setT a = [45]) := by show setT a = [45]; unfold setT; rw [if_pos he]
        clear he
        go_wp2
        go_ret
        exact ⟨by rw [HV.out]; rfl, hB⟩
      · have hb := hid (bs_empty (setTo a 4) false (by cases h : setTo a 4 with | nil => exact absurd h he | cons _ _ => rfl))
        have ke : (bs (setTo a 4)).toList.isEmpty = false := hb.out
        have HV : Hid (setT a = setTo a 4) := by show setT a = _; unfold setT; rw [if_neg he]
        clear he
        go_wp2
        go_ret
        exact ⟨by rw [HV.out]; rfl, hB⟩
set_option maxRecDepth 100000 in
set_option maxHeartbeats 1000000 in
theorem ParseSet_any (a : Nat) (w : World) (ha : a < 16) :
    Calls Tryz.prog 101 #[.string (bs (setT a))] w fun e w' => e = .returned (.tuple #[.int .i64 a, .bool true]) ∧ Below w.heap.size w w' := by
  obtain ⟨T, HT⟩ : ∃ T, Hid (bs (setT a) = T) := ⟨_, rfl⟩
  rw [HT.out]
  go_enter Tryz.func101, Tryz.ntmps101
  go_wp2
  go_loopw [4, 5] (fun u i wr => Below w.heap.size w wr ∧ ∃ k : Nat, k ≤ a ∧ i = .int .i64 k) (fun _ i _ => 16 - (intOf i).toNat)
  case atStart => exact ⟨Below.refl _ _, 0, by omega, rfl⟩
  case round =>
    obtain ⟨hB, k, hk, rfl⟩ := hrel
    have hk0 : (0 : Int) ≤ (k : Int) := by omega
    have hk1 : (k : Int) < 16 := by omega
    by_cases hlt : k < a
    · have hne : ((bs (setT k)).toList == T.toList) = false := by
        rw [← HT.out]
        exact bs_ne fun e => by have := setT_inj ⟨k, by omega⟩ ⟨a, ha⟩ e; simp only at this; omega
      go_wp2_with fail
      refine (setText_any k _ (by omega)).mono ?_; rintro e w1 ⟨rfl, hb1⟩
      have hB1 := chain hB hb1
      clear hb1
      go_wp2
      go_roundw
      case rel => first | exact ⟨hB1, k + 1, by omega, by go_num⟩ | exact ⟨_, ⟨hB1, k + 1, by omega, by go_num⟩, rfl⟩ | exact ⟨_, _, ⟨hB1, k + 1, by omega, by go_num⟩, rfl, rfl⟩ | exact ⟨_, _, _, ⟨hB1, k + 1, by omega, by go_num⟩, rfl, rfl, rfl⟩ | exact ⟨_, _, _, _, ⟨hB1, k + 1, by omega, by go_num⟩, rfl, rfl, rfl, rfl⟩ | exact ⟨_, _, _, _, _, ⟨hB1, k + 1, by omega, by go_num⟩, rfl, rfl, rfl, rfl, rfl⟩
      case measure => simp [intOf]; omega
    · obtain rfl : k = a := by omega
      go_wp2_with fail
      refine (setText_any k _ ha).mono ?_; rw [HT.out]; rintro e w1 ⟨rfl, hb1⟩
      have hB1 := chain hB hb1
      have hse : (T.toList == T.toList) = true := beq_self_eq_true _
      clear hb1
      go_wp2
      refine bodyPost_ret (v := .tuple #[.int .i64 (k : Int), .bool true]) (by simp [results, Tryz.results101, go_sem]) rfl ⟨rfl, hB1⟩
theorem rowS {w : World} {base g n c : Nat} {xs : List ByteArray} (h : SRow w base (.slice (some ⟨g, 0, none⟩) n c) xs) : n = xs.length := h.at.1
set_option maxRecDepth 100000 in
set_option maxHeartbeats 2000000 in
theorem FormatMass_any (s : Int) (ao : Option Addr) (n c : Nat) (xs : List Int) (w : World) (hx : IntsAt w ao n xs) (hv : LibV w) :
    Calls Tryz.prog 15 #[.agg #[.int .i64 s, .slice ao n c]] w fun e w' => e = .returned (.string (bs (massT s xs))) ∧ Below w.heap.size w w' := by
  cases hm : massOk s xs
  · have HV : Hid (massT s xs = []) := by show massT s xs = []; unfold massT; rw [hm]; rfl
    go_enter Tryz.func15, Tryz.ntmps15
    go_wp2_with fail
    refine (isMass_any _ _ _ _ xs _ (hx.below (by (repeat (first | exact Below.refl _ _ | assumption | refine Below.alloc ?_ (by first | omega | (simp <;> omega)) _ | refine Below.setCell ?_ (by first | omega | (simp <;> omega)) _ | refine Below.drew ?_ | refine below_drewN ?_))))).mono ?_; rw [hm]; rintro e w1 ⟨rfl, hb1⟩
    have hB1 : Below w.heap.size w w1 := Below.trans (by (repeat (first | exact Below.refl _ _ | assumption | refine Below.alloc ?_ (by first | omega | (simp <;> omega)) _ | refine Below.setCell ?_ (by first | omega | (simp <;> omega)) _ | refine Below.drew ?_ | refine below_drewN ?_))) (hb1.mono (by simp <;> omega))
    clear hb1
    go_wp2
    go_ret
    exact ⟨by rw [HV.out]; rfl, hB1⟩
  · obtain ⟨hs, hl, h16, hb, _⟩ := massOk_facts' hm
    have hs0 : 1 ≤ s ∧ s ≤ 4 := by rcases okSize_iff.1 hs with h | h | h | h <;> omega
    obtain rfl : n = xs.length := hx.len.symm
    have HM := hid hm
    have HB := hid hb
    have HV : Hid (massT s xs = Lib.itoa s ++ 58 :: Lib.join (massW xs) [44]) := by show massT s xs = _; unfold massT; rw [hm]; rfl
    have HLN := hid (massT_len s xs)
    obtain ⟨fo, hfo⟩ : ∃ fo, focTo xs xs.length = fo := ⟨_, rfl⟩
    have HFM : Hid (∀ a ∈ fo, 0 ≤ a ∧ a < (xs.length : Int)) := by rw [← hfo]; exact fun a ha => foc_mem ha
    have HW : Hid (massW xs = fo.map (wordT xs)) := by show massW xs = _; unfold massW; rw [hfo]
    have hfl : fo.length ≤ 16 := by rw [← hfo]; have := focTo_len xs xs.length; omega
    obtain ⟨K, hK⟩ : ∃ K, fo.length = K := ⟨_, rfl⟩
    rw [hK] at hfl
    have HK := hid hK
    have HFO := hid hfo
    obtain ⟨N, hN⟩ : ∃ N, xs.length = N := ⟨_, rfl⟩
    have HN := hid hN
    rw [hN] at hx h16 HFO HFM ⊢
    clear hm hb hl hfo hK hN
    go_enter Tryz.func15, Tryz.ntmps15
    go_wp2_with fail
    refine (isMass_any _ _ _ _ xs _ (hx.below (by (repeat (first | exact Below.refl _ _ | assumption | refine Below.alloc ?_ (by first | omega | (simp <;> omega)) _ | refine Below.setCell ?_ (by first | omega | (simp <;> omega)) _ | refine Below.drew ?_ | refine below_drewN ?_))))).mono ?_; rw [HM.out]; rintro e w1 ⟨rfl, hb1⟩
    have p0 := keep hb1 (a := ⟨w.heap.size, 0, none⟩) (v := .int .i64 s) (by simp)
    have p1 := keep hb1 (a := ⟨w.heap.size, 1, none⟩) (v := .slice ao N c) (by simp)
    have hz1 : w.heap.size < w1.heap.size := by have := hb1.size; simp at this; omega
    have hB1 : Below w.heap.size w w1 := Below.trans (by (repeat (first | exact Below.refl _ _ | assumption | refine Below.alloc ?_ (by first | omega | (simp <;> omega)) _ | refine Below.setCell ?_ (by first | omega | (simp <;> omega)) _ | refine Below.drew ?_ | refine below_drewN ?_))) (hb1.mono (by simp <;> omega))
    clear hb1
    go_wp2_with fail
    obtain ⟨q0, hq0⟩ : ∃ q : World, w1.alloc (.cells #[] 9) = q := ⟨_, rfl⟩
    rw [hq0]
    have hbq : Below w1.heap.size w1 q0 := by rw [← hq0]; exact below_alloc _ _
    have hsr0 : SRow q0 w1.heap.size (.slice (some ⟨w1.heap.size, 0, none⟩) 0 0) [] := by rw [← hq0]; exact SRow.lit _
    have hzq : w1.heap.size < q0.heap.size := by rw [← hq0]; simp
    replace p0 := keep hbq p0
    replace p1 := keep hbq p1
    have hBq := chain hB1 hbq
    clear hbq hq0
    refine (focalSets_any _ _ _ _ xs _ (hx.below hBq) (by omega)).mono ?_; rw [HFO.out]; rintro e w2 ⟨v, rfl, hr2, hb2⟩
    obtain ⟨fa, m, d, rfl, hfi⟩ := hr2.ints
    obtain rfl : m = K := by rw [← hfi.len, HK.out]
    replace p0 := keep hb2 p0
    replace p1 := keep hb2 p1
    have hB2 := chain hBq hb2
    have hsr2 := hsr0.below hb2
    have hz2 := hb2.size
    replace hr2 : Row w2 (w1.heap.size + 1) (.slice fa m d) fo := hr2.mono (by omega)
    obtain ⟨G, hG⟩ : ∃ G, w1.heap.size = G := ⟨_, rfl⟩
    rw [hG] at hsr2 hzq hr2 ⊢
    have hGw : w.heap.size < G := by omega
    clear hb2 hsr0 hG
    go_wp2
    go_loopw [3, 5, 13] (fun ws u i wr => ∃ (k g cp : Nat), k ≤ m ∧ i = .int .i64 k ∧ ws = .slice (some ⟨g, 0, none⟩) k cp ∧ SRow wr G (.slice (some ⟨g, 0, none⟩) k cp) ((fo.take k).map fun a => bs (wordT xs a)) ∧ Span G (G + 1) w2 wr ∧ (g = G ∨ w2.heap.size ≤ g)) (fun _ _ i _ => m - (intOf i).toNat)
    case atStart => exact ⟨0, G, 0, by omega, rfl, rfl, hsr2, Span.refl _ _ _, .inl rfl⟩
    case round =>
      obtain ⟨k, g, cp, hk, rfl, rfl, hrow, hsp, hgg⟩ := hrel
      have hB : Below w.heap.size w wr := Span.below hB2 hB2.size hsp (by omega)
      have r0 := Span.keep hsp p0 (by omega)
      have r1 := Span.keep hsp p1 (by omega)
      have hzr := hsp.size
      have hvr := hv.below hB
      by_cases hlt : k < m
      · have hk0 : (0 : Int) ≤ (k : Int) := by omega
        have hk1 : (k : Int) < (m : Int) := by omega
        have hrk := Span.row hsp hr2 (fun b e => by have := (hr2.block b e).1; omega)
        obtain ⟨b1, o1, rfl, _, _, hck⟩ := hrk.view.at (Below.refl _ _) hlt
        have hkl : k < fo.length := by rw [HK.out]; exact hlt
        have hfm := HFM.out (nth fo k) (by rw [nth_eq _ _ hkl]; exact List.getElem_mem _)
        obtain ⟨q, hq⟩ : ∃ q : Nat, nth fo k = (q : Int) := ⟨(nth fo k).toNat, by omega⟩
        have HT : Hid ((fo.take (k + 1)).map (fun a => bs (wordT xs a)) = ((fo.take k).map fun a => bs (wordT xs a)) ++ [bs (wordT xs (q : Int))]) := by
          rw [Hid, take_one _ _ hkl, List.map_append, hq]; rfl
        rw [hq] at hck hfm
        have hqN : q < N := by omega
        have hq0 : (0 : Int) ≤ (q : Int) := by omega
        have hq1 : (q : Int) < (N : Int) := by omega
        obtain ⟨b2, o2, rfl, _, _, hcx⟩ := hx.at hB hqN
        have hxb := HB.out q (by rw [HN.out]; exact hqN)
        have hsl := setT_len ⟨q, by omega⟩
        simp only at hsl
        have hWd : bs (setT q) ++ ByteArray.mk #[32] ++ bs (Lib.itoa (nth xs q)) = bs (wordT xs (q : Int)) := by
          rw [show ByteArray.mk #[32] = bs [32] from rfl, bs_append, bs_append]; unfold wordT; simp
        have HWd := hid hWd
        obtain ⟨x, hx9⟩ : ∃ x, nth xs q = x := ⟨_, rfl⟩
        rw [hx9] at hcx hxb HWd
        have hil := itoa_len7 hxb.1 hxb.2
        have kz : ¬ 9223372036854775807 < (bs (setT q)).size + (ByteArray.mk #[32]).size := by rw [bs_size]; simp [ByteArray.size]; omega
        have kz2 : ¬ 9223372036854775807 < (bs (setT q) ++ ByteArray.mk #[32]).size + (bs (Lib.itoa x)).size := by rw [ByteArray.size_append, bs_size, bs_size]; simp [ByteArray.size]; omega
        have hlk : ((fo.take k).map fun a => bs (wordT xs a)).length = k := by rw [List.length_map, List.length_take]; omega
        clear hq hkl hx9 hWd hsl hil
        go_wp2
        refine wp_region_ov_tail1 11 _ _ (by kernel_rfl) (by kernel_rfl) rfl rfl rfl (fun _ _ _ _ _ h => h) ⟨_, rfl⟩ ?_
        simp only [List.take_succ_cons, List.take_zero, List.drop_succ_cons, List.drop_zero]
        repeat (first | go_big_quiet_step ((first | (go_at_call 50; (with_reducible exact ov_call (setText_any q _ (by omega)))) | (go_at_call 51; (with_reducible exact ov_call (Itoa_any x (by omega) (by omega) _ (hvr.below (ov_below _ _)).pow))))) | quiet_step ((first | (go_at_call 50; (with_reducible exact ov_call (setText_any q _ (by omega)))) | (go_at_call 51; (with_reducible exact ov_call (Itoa_any x (by omega) (by omega) _ (hvr.below (ov_below _ _)).pow))))))
        refine wpQuiet_nil ?_
        intro _ hw_ov
        obtain ⟨x_ov, hw_ov2⟩ := hw_ov
        subst hw_ov2
        obtain ⟨w5, hw_ov3, hb5⟩ := ov_gen _ x_ov
        rw [hw_ov3]
        clear hw_ov3 x_ov
        have hrow5 := hrow.below hb5
        have hz5 := hb5.size
        rw [HWd.out]
        go_wp2_with (at_builtin; refine wpList_append_str2 rfl _ _ rfl G _ _ k hlk (by rfl) (hrow5.below (below_alloc w5 _)) _ _ (bs (wordT xs (q : Int))) (by rfl) (by simp) (by omega) (by simp; omega) ?_; intro g' c' w' hrow' hgrow hgn)
        have hsp5 : Span G (G + 1) w2 (w5.alloc (.cells #[.string (bs (wordT xs (q : Int)))] 9)) := (hsp.trans (Span.of_below hb5)).trans (Span.of_below (below_alloc _ _))
        have HS' := hid (hsp5.grown2 hgrow (fun b e => by have := own_eq e; omega))
        have hg' : g' = G ∨ w2.heap.size ≤ g' := by
          rcases hgn with h | h
          · have := own_eq h; omega
          · simp at h; omega
        clear hgrow hrow hrow5 hsp hsp5 hb5 hgn
        go_roundw
        case rel => first | exact ⟨k + 1, g', c', by omega, by go_num, rfl, by rw [HT.out]; exact hrow', HS'.out, hg'⟩ | exact ⟨_, ⟨k + 1, g', c', by omega, by go_num, rfl, by rw [HT.out]; exact hrow', HS'.out, hg'⟩, rfl⟩ | exact ⟨_, _, ⟨k + 1, g', c', by omega, by go_num, rfl, by rw [HT.out]; exact hrow', HS'.out, hg'⟩, rfl, rfl⟩ | exact ⟨_, _, _, ⟨k + 1, g', c', by omega, by go_num, rfl, by rw [HT.out]; exact hrow', HS'.out, hg'⟩, rfl, rfl, rfl⟩ | exact ⟨_, _, _, _, ⟨k + 1, g', c', by omega, by go_num, rfl, by rw [HT.out]; exact hrow', HS'.out, hg'⟩, rfl, rfl, rfl, rfl⟩ | exact ⟨_, _, _, _, _, ⟨k + 1, g', c', by omega, by go_num, rfl, by rw [HT.out]; exact hrow', HS'.out, hg'⟩, rfl, rfl, rfl, rfl, rfl⟩
        case measure => simp [intOf]; omega
      · obtain rfl : k = m := by omega
        have et : fo.take k = fo := by rw [← HK.out]; exact List.take_length
        rw [et] at hrow
        obtain ⟨hq, hkc, hg1, hg2, hcs⟩ := hrow.at
        have HJ : Hid (Lib.join ((fo.map fun a => bs (wordT xs a)).map (·.data.toList)) (bs [44]).data.toList = Lib.join (massW xs) [44]) := by
          rw [Hid, bs_data, HW.out, List.map_map]
          congr 1
        have hll := HLN.out
        rw [HV.out, List.length_append, List.length_cons] at hll
        have hjl : (Lib.join ((fo.map fun a => bs (wordT xs a)).map (·.data.toList)) (bs [44]).data.toList).length ≤ 140737488355328 := by
          rw [HJ.out]; omega
        have hml : (fo.map fun a => bs (wordT xs a)).length = k := by rw [List.length_map, HK.out]
        have hj := Tryz.strings_Join g 0 cp (fo.map fun a => bs (wordT xs a)) (bs [44]) wr hcs hg2 (by omega) (by omega) hjl
        rw [hml, HJ.out, show bs [44] = ByteArray.mk #[44] from rfl] at hj
        have hj2 : ∀ w', Below wr.heap.size wr w' → Calls Tryz.prog 52 #[.slice (some ⟨g, 0, none⟩) k cp, .string (ByteArray.mk #[44])] w' fun e w'' => e = .returned (.string (bs (Lib.join (massW xs) [44]))) ∧ Below w'.heap.size w' w'' := fun w' hb' => by
          have h := Tryz.strings_Join g 0 cp (fo.map fun a => bs (wordT xs a)) (bs [44]) w' (fun j x hjx => (keep hb' (hcs j x hjx))) (Nat.lt_of_lt_of_le hg2 hb'.size) (by omega) (by omega) hjl
          rw [hml, HJ.out, show bs [44] = ByteArray.mk #[44] from rfl] at h
          exact h
        have hI : Hid (∀ w', Below wr.heap.size wr w' → Calls Tryz.prog 51 #[.int .i64 s] w' fun e w'' => e = .returned (.string (bs (Lib.itoa s))) ∧ Below w'.heap.size w' w'') := fun w' hb' => Itoa_any s (by omega) (by omega) w' (hvr.below hb').pow
        have hJ2 := hid hj2
        have kz : ¬ 9223372036854775807 < (bs (Lib.itoa s)).size + (ByteArray.mk #[58]).size := by rw [bs_size]; simp [ByteArray.size]; omega
        have kz2 : ¬ 9223372036854775807 < (bs (Lib.itoa s) ++ ByteArray.mk #[58]).size + (bs (Lib.join (massW xs) [44])).size := by rw [ByteArray.size_append, bs_size, bs_size]; simp [ByteArray.size]; omega
        have HE : Hid (bs (Lib.itoa s) ++ ByteArray.mk #[58] ++ bs (Lib.join (massW xs) [44]) = bs (massT s xs)) := by
          rw [Hid, HV.out, show ByteArray.mk #[58] = bs [58] from rfl, bs_append, bs_append]; simp
        clear hj hj2 et hjl hq hml hcs hll hkc
        go_wp2_with fail
        refine (hI.out _ (Below.refl _ _)).mono ?_; rintro e w6 ⟨rfl, hb6⟩
        have hB6 := chain hB hb6
        go_wp2_with fail
        refine (hJ2.out _ hb6).mono ?_; rintro e w7 ⟨rfl, hb7⟩
        have hB7 := chain hB6 hb7
        go_wp2
        go_ret
        exact ⟨by rw [← HE.out]; rfl, hB7⟩
theorem bs_eq {y : ByteArray} {l : List UInt8} (h : y.data.toList = l) : y = bs l := ByteArray.ext (Array.toList_inj.1 (by rw [h, bs_data]))
/-- a text cut at the first place of a byte -/
theorem cut_any (l : List UInt8) (c : UInt8) (p r : List UInt8) (b : Bool) (hc : Lib.cut l [c] = (p, r, b)) (hl : l.length ≤ 2000000) (w : World) (hv : LibV w) :
    Calls Tryz.prog 98 #[.string (bs l), .string (ByteArray.mk #[c])] w fun e w' => e = .returned (.tuple #[.string (bs p), .string (bs r), .bool b]) ∧ Below w.heap.size w w' := by
  obtain ⟨m, hm⟩ := hv.mx
  refine (Tryz.strings_Cut (bs l) ⟨#[c]⟩ m w (by rw [bs_size]; omega) hm).mono ?_
  rintro e w' ⟨rfl, k, rfl⟩
  rw [bs_data, show (ByteArray.mk #[c]).data.toList = [c] from rfl, hc]
  exact ⟨rfl, below_drewN (Below.refl _ _)⟩
theorem split_at (c : UInt8) (l : List UInt8) (w : World) (hs : l.length ≤ 1048576) (hv : LibV w) :
    Calls Tryz.prog 57 #[.string (bs l), .string (ByteArray.mk #[c])] w fun e w' => ∃ n ys, e = .returned (.slice (some ⟨w.heap.size, 0, none⟩) n n) ∧ SRow w' w.heap.size (.slice (some ⟨w.heap.size, 0, none⟩) n n) ys ∧ ys = (cutAt c l).map bs ∧ Below w.heap.size w w' := by
  obtain ⟨m, hm⟩ := hv.mx
  refine (Tryz.strings_Split (bs l) ⟨#[c]⟩ m w (by rw [bs_size]; omega) hm (Nat.le_refl 1)).mono ?_
  rintro e w' ⟨rfl, rfl⟩
  have hlen := Lib.splitB_all ⟨#[c]⟩ (Nat.le_refl 1) 0 (Lib.countB (bs l) ⟨#[c]⟩) (bs l) rfl
  have hcut := splitB_cut c (bs l)
  rw [bs_data] at hcut
  have hcount : Lib.countB (bs l) ⟨#[c]⟩ + 1 ≤ 1048577 := by
    have h1 := cut_count c l
    rw [← hcut, List.length_map, hlen] at h1; omega
  have hys : Lib.splitB ⟨#[c]⟩ 0 (Lib.countB (bs l) ⟨#[c]⟩) (bs l) = (cutAt c l).map bs := by
    rw [← hcut, List.map_map]
    have : ∀ zs : List ByteArray, zs = zs.map (bs ∘ fun x => x.data.toList) := fun zs => by
      induction zs with
      | nil => rfl
      | cons z r ih => rw [List.map_cons, ← ih]; congr 1
    exact this _
  refine ⟨_, Lib.splitB ⟨#[c]⟩ 0 (Lib.countB (bs l) ⟨#[c]⟩) (bs l), rfl, ?_, hys, below_alloc w _⟩
  have := World.ownsRow_lit (base := w.heap.size) (e := 9) (size := 1) w (((Lib.splitB ⟨#[c]⟩ 0 (Lib.countB (bs l) ⟨#[c]⟩) (bs l)).map Value.string).toArray) (Lib.countB (bs l) ⟨#[c]⟩ + 1) (Nat.le_refl _) (by unfold maxLen; omega) (by simp [hlen])
  simpa [SRow, hlen] using this
/-- Atoi takes back what Itoa has told -/
theorem atoi_itoa (v : Int) (h0 : -1000000000 ≤ v) (h1 : v ≤ 1000000000) (w : World) :
    Calls Tryz.prog 103 #[.string (bs (Lib.itoa v))] w fun e w' => e = .returned (.tuple #[.int .i64 v, .nilIface]) ∧ Below w.heap.size w w' :=
  atoi_good (bs (Lib.itoa v)) v (by rw [bs_data]; exact atoi_of_itoa v h0 h1) (by rw [bs_size]; have := Lib.itoa_length_le v (by omega) (by omega); omega) w
set_option maxRecDepth 100000 in
set_option maxHeartbeats 4000000 in
theorem ParseMass_any (s : Int) (xs : List Int) (w : World) (hm : massOk s xs = true) (hv : LibV w) :
    Calls Tryz.prog 100 #[.string (bs (massT s xs))] w fun e w' => (∃ v, e = .returned (.tuple #[.agg #[.int .i64 s, v], .bool true]) ∧ Row w' w.heap.size v xs) ∧ Below w.heap.size w w' := by
  obtain ⟨hs, hl, h16, hb, _⟩ := massOk_facts' hm
  have hs0 : 1 ≤ s ∧ s ≤ 4 := by rcases okSize_iff.1 hs with h | h | h | h <;> omega
  have hnn := nsets_le hs
  have hsz := shl_size hs
  have HM := hid hm
  have HB := hid hb
  have HLN := hid (massT_len s xs)
  have HCUT := hid (massT_cut hm)
  have HWC := hid (massW_cut hm)
  obtain ⟨fo, hfo⟩ : ∃ fo, focTo xs xs.length = fo := ⟨_, rfl⟩
  have HFM : Hid (∀ a ∈ fo, 0 ≤ a ∧ a < (xs.length : Int)) := by rw [← hfo]; exact fun a ha => foc_mem ha
  have HW : Hid (massW xs = fo.map (wordT xs)) := by show massW xs = _; unfold massW; rw [hfo]
  have HLA : Hid (layTo xs fo xs.length fo.length = xs) := by have := lay_all xs; rw [hfo] at this; exact this
  obtain ⟨K, hK⟩ : ∃ K, fo.length = K := ⟨_, rfl⟩
  have HK := hid hK
  obtain ⟨N, hN⟩ : ∃ N, xs.length = N := ⟨_, rfl⟩
  have HN := hid hN
  rw [hN] at h16 hl HFM HLA
  rw [hK] at HLA
  rw [← hl] at hsz hnn
  have HNS : Hid (N = nsets s) := hl
  have hK16 : K ≤ 16 := by rw [← hK, ← hfo]; have := focTo_len xs xs.length; omega
  obtain ⟨J, hJ⟩ : ∃ J, Lib.join (massW xs) [44] = J := ⟨_, rfl⟩
  rw [hJ] at HCUT HWC
  have hJl : J.length ≤ 220 := by
    have h1 := HLN.out
    have h2 : massT s xs = Lib.itoa s ++ 58 :: J := by unfold massT; rw [hm, hJ]; rfl
    rw [h2, List.length_append, List.length_cons] at h1; omega
  obtain ⟨TL, hTL⟩ : ∃ T, massT s xs = T := ⟨_, rfl⟩
  have HTL := hid hTL
  rw [hTL] at HLN HCUT ⊢
  clear hm hb hfo hK hN hl hJ hTL
  go_enter Tryz.func100, Tryz.ntmps100
  go_wp2_with fail
  refine (cut_any TL 58 _ _ _ HCUT.out (by have := HLN.out; omega) _ (hv.below (by (repeat (first | exact Below.refl _ _ | assumption | refine Below.alloc ?_ (by first | omega | (simp <;> omega)) _ | refine Below.setCell ?_ (by first | omega | (simp <;> omega)) _ | refine Below.drew ?_ | refine below_drewN ?_))))).mono ?_; rintro e w1 ⟨rfl, hb1⟩
  obtain ⟨h10, h11, f20, f21⟩ := boxG (w.heap.size) hb1 (by simp)
  have hB1 : Below w.heap.size w w1 := Below.trans (by (repeat (first | exact Below.refl _ _ | assumption | refine Below.alloc ?_ (by first | omega | (simp <;> omega)) _ | refine Below.setCell ?_ (by first | omega | (simp <;> omega)) _ | refine Below.drew ?_ | refine below_drewN ?_))) (hb1.mono (by simp <;> omega))
  clear hb1
  go_wp2_with fail
  refine (atoi_itoa s (by omega) (by omega) _).mono ?_; rintro e w2 ⟨rfl, hb2⟩
  replace f20 := keepF hb2 h10 f20
  replace f21 := keepF hb2 h11 f21
  replace h10 := keep hb2 h10
  replace h11 := keep hb2 h11
  have hB2 := chain hB1 hb2
  have hz2 : w.heap.size < w2.heap.size := by have := World.block_lt_of_cell? w2 _ h10; simpa using this
  clear hb2
  go_wp2_with (first | (go_at_call 88; refine (isSize_any _ _).mono ?_; rintro e w' ⟨rfl, rfl⟩) | (at_make; refine wpList_make_ints rfl _ _ rfl N _ _ rfl rfl hsz hsz (by omega) ?_; intro w3 hrow hb3 hz3; (have h10' := keep hb3 h10); (have h11' := keep hb3 h11); (have f20' := keepF hb3 h10 f20); (have f21' := keepF hb3 h11 f21)))
  have hB3 := chain hB2 hb3
  obtain ⟨g, hg⟩ : ∃ g, w2.heap.size = g := ⟨_, rfl⟩
  rw [hg] at hrow hz3 hz2 ⊢
  clear hb3 hg h10 h11 f20 f21
  have hv3 := hv.below hB3
  refine (split_at 44 J _ (by omega) (hv3.below (by (repeat (first | exact Below.refl _ _ | assumption | refine Below.alloc ?_ (by first | omega | (simp <;> omega)) _ | refine Below.setCell ?_ (by first | omega | (simp <;> omega)) _ | refine Below.drew ?_ | refine below_drewN ?_))))).mono ?_; rintro e w4 ⟨n, ys, rfl, hsr, hys, hb4⟩
  rw [HWC.out, HW.out, List.map_map] at hys
  have m0 := keep hb4 (a := ⟨w3.heap.size, 0, none⟩) (v := .int .i64 s) (by simp)
  have m1 := keep hb4 (a := ⟨w3.heap.size, 1, none⟩) (v := .slice (some ⟨g, 0, none⟩) N N) (by simp)
  have hb34 : Below w3.heap.size w3 w4 := Below.trans (by (repeat (first | exact Below.refl _ _ | assumption | refine Below.alloc ?_ (by first | omega | (simp <;> omega)) _ | refine Below.setCell ?_ (by first | omega | (simp <;> omega)) _ | refine Below.drew ?_ | refine below_drewN ?_))) (hb4.mono (by simp <;> omega))
  have f20 := keepF hb34 h10' f20'
  have f21 := keepF hb34 h11' f21'
  have h10 := keep hb34 h10'
  have h11 := keep hb34 h11'
  have hrow4 := hrow.below hb34
  have hB4 := chain hB3 hb34
  have hz4 := hb34.size
  obtain ⟨M0, hM0⟩ : ∃ M, w3.heap.size = M := ⟨_, rfl⟩
  have hgw : M0 < w4.heap.size := by have := hb4.size; simp at this; omega
  obtain ⟨gw, hgwe⟩ : ∃ gw, (w3.alloc (.cells #[.int .i64 s, .slice (some ⟨g, 0, none⟩) N N] 25)).heap.size = gw := ⟨_, rfl⟩
  rw [hgwe] at hsr ⊢
  have hgM : M0 < gw := by rw [← hgwe, ← hM0]; simp
  rw [hM0] at m0 m1 ⊢
  have hgM0 : g < M0 := by omega
  have hnK : n = K := by rw [hsr.at.1, hys, List.length_map, HK.out]
  subst hnK
  have HYS := hid hys
  have hv4 := hv3.below hb34
  clear hb4 hb34 hrow h10' h11' f20' f21' hgwe hys hM0
  go_wp2
  go_loopw [50] (fun i wr => ∃ k : Nat, k ≤ n ∧ i = .int .i64 k ∧ Row wr g (.slice (some ⟨g, 0, none⟩) N N) (layTo xs fo N k) ∧ w4.grownBy wr (some g)) (fun i _ => n - (intOf i).toNat)
  case atStart => exact ⟨0, by omega, rfl, hrow4, grownBy_refl _ _⟩
  case round =>
    obtain ⟨k, hk, rfl, hr, hg⟩ := hrel
    have hB : Below w.heap.size w wr := below_grownBy hB4 hB4.size hg (fun k e => by injection e with e; omega)
    have hBg : Below g w4 wr := below_grownBy (Below.refl g w4) (by omega) hg (fun k e => by injection e with e; omega)
    have n0 := keepG hg m0 (by omega)
    have n1 := keepG hg m1 (by omega)
    have hvr : LibV wr := hv.below hB
    by_cases hlt : k < n
    · have hk0 : (0 : Int) ≤ (k : Int) := by omega
      have hk1 : (k : Int) < (n : Int) := by omega
      have hkl : k < fo.length := by rw [HK.out]; exact hlt
      have hfm := HFM.out (nth fo k) (by rw [nth_eq _ _ hkl]; exact List.getElem_mem _)
      obtain ⟨q, hq⟩ : ∃ q : Nat, nth fo k = (q : Int) := ⟨(nth fo k).toNat, by omega⟩
      have hsrr := hsr.grown hg (by intro e; injection e with e; omega)
      have hyk : ys[k]? = some (bs (wordT xs (q : Int))) := by
        rw [HYS.out, List.getElem?_map, List.getElem?_eq_getElem hkl, ← hq, nth_eq _ _ hkl]; rfl
      have hcell : wr.cell? ⟨gw, k, none⟩ = some (.string (bs (wordT xs (q : Int)))) := by have := hsrr.at.2.2.2.2 k _ hyk; simpa using this
      have HSK : Hid (layTo xs fo N (k + 1) = (layTo xs fo N k).set q (nth xs q)) := by rw [Hid, layTo_succ, hq, Int.toNat_natCast]
      rw [hq] at hfm
      have hqN : q < N := by omega
      have hq16 : q < 16 := by omega
      have hxb := HB.out q (by rw [HN.out]; exact hqN)
      have HWC2 : Hid (Lib.cut (wordT xs (q : Int)) [32] = (setT q, Lib.itoa (nth xs q), true)) := word_cut (xs := xs) (a := (q : Int)) (by omega)
      have hwl : (wordT xs (q : Int)).length ≤ 12 := by
        have h7 := setT_len ⟨q, hq16⟩
        have h6 := itoa_len7 hxb.1 hxb.2
        unfold wordT
        simp only [Int.toNat_natCast] at h7 ⊢
        rw [List.length_append, List.length_cons]; omega
      have hin : inB 0 ((nsets s : Int) - 1) (q : Int) = true := inB_iff.2 (by have := HNS.out; omega)
      have hq0 : (0 : Int) ≤ (q : Int) := by omega
      have hq1 : (q : Int) < (N : Int) := by omega
      obtain ⟨hc3, hf3, _⟩ := hr.cellAt hqN
      generalize wordT xs (q : Int) = W at *
      obtain ⟨x, hx⟩ : ∃ x, nth xs q = x := ⟨_, rfl⟩
      rw [hx] at HSK hxb HWC2
      clear hq hkl hyk hx
      go_wp2_with fail
      refine (cut_any W 32 _ _ _ HWC2.out (by omega) _ hvr).mono ?_; rintro e w5 ⟨rfl, hb5⟩
      replace n0 := keep hb5 n0
      replace n1 := keep hb5 n1
      go_wp2_with fail
      refine (ParseSet_any q _ hq16).mono ?_; rintro e w6 ⟨rfl, hb6⟩
      replace n0 := keep hb6 n0
      replace n1 := keep hb6 n1
      have hbb := chain hb5 hb6
      go_wp2_with fail
      refine (atoi_itoa x (by omega) (by omega) _).mono ?_; rintro e w7 ⟨rfl, hb7⟩
      replace n0 := keep hb7 n0
      replace n1 := keep hb7 n1
      replace hbb := chain hbb hb7
      have hr3 := hr.below hbb
      replace hf3 := keepF hbb hc3 hf3
      replace hc3 := keep hbb hc3
      obtain ⟨w8, hw8, hr8, hg8⟩ := store_gen hr3 hqN x
      have HG := hid (grownBy_trans (grownBy_trans hg (grownBy_below hbb (some g))) hg8)
      have HW8 := hid hw8
      clear hw8 hg8 hr3 hr hb5 hb6 hb7 hbb hg hsrr
      go_wp2_with (first | (go_at_call 159; refine (isSetOf_any s q _ hs).mono ?_; rintro e w' ⟨rfl, rfl⟩))
      rw [HW8.out]
      go_roundw
      case rel => first | exact ⟨k + 1, by omega, by go_num, by rw [HSK.out]; exact hr8, HG.out⟩ | exact ⟨_, ⟨k + 1, by omega, by go_num, by rw [HSK.out]; exact hr8, HG.out⟩, rfl⟩ | exact ⟨_, _, ⟨k + 1, by omega, by go_num, by rw [HSK.out]; exact hr8, HG.out⟩, rfl, rfl⟩ | exact ⟨_, _, _, ⟨k + 1, by omega, by go_num, by rw [HSK.out]; exact hr8, HG.out⟩, rfl, rfl, rfl⟩ | exact ⟨_, _, _, _, ⟨k + 1, by omega, by go_num, by rw [HSK.out]; exact hr8, HG.out⟩, rfl, rfl, rfl, rfl⟩ | exact ⟨_, _, _, _, _, ⟨k + 1, by omega, by go_num, by rw [HSK.out]; exact hr8, HG.out⟩, rfl, rfl, rfl, rfl, rfl⟩
      case measure => simp [intOf]; omega
    · obtain rfl : k = n := by omega
      have g20 := keepGF hg h10 (by omega) f20
      have g21 := keepGF hg h11 (by omega) f21
      have g10 := keepG hg h10 (by omega)
      have g11 := keepG hg h11 (by omega)
      have hzz := hg.size
      rw [HLA.out] at hr
      clear hg h10 h11 f20 f21 m0 m1
      go_wp2_with fail
      refine (FormatMass_any s _ _ _ xs _ hr.view hvr).mono ?_; rw [HTL.out]; rintro e w5 ⟨rfl, hb5⟩
      replace n0 := keep hb5 n0
      replace n1 := keep hb5 n1
      have h20 := keepF hb5 g10 g20
      have h21 := keepF hb5 g11 g21
      have h10 := keep hb5 g10
      have h11 := keep hb5 g11
      have hB5 := chain hB hb5
      have hr5 := hr.below hb5
      have hse : ((bs TL).toList == (bs TL).toList) = true := beq_self_eq_true _
      clear hb5 g10 g11 g20 g21 hr
      go_wp2
      refine bodyPost_ret (v := .tuple #[.agg #[.int .i64 s, .slice (some ⟨g, 0, none⟩) N N], .bool true]) (by simp [results, Tryz.results100, go_sem, h10, h11]) rfl ⟨⟨_, rfl, ((hr5.setBelow (a := ⟨w.heap.size, 0, none⟩) (by simp; omega) _).setBelow (a := ⟨w.heap.size, 1, none⟩) (by simp; omega) _).mono (by omega)⟩, ?_⟩
      (repeat (first | exact Below.refl _ _ | assumption | refine Below.alloc ?_ (by first | omega | (simp <;> omega)) _ | refine Below.setCell ?_ (by first | omega | (simp <;> omega)) _ | refine Below.drew ?_ | refine below_drewN ?_))
/-- what lies on the desk: two masses, a set, acts -/
structure DS where
  s : Int
  xs : List Int
  t : Int
  ys : List Int
  a : Int
/-- the desk lies in block D; what it points to lies elsewhere -/
structure Desk (w : World) (D : Nat) (d : DS) : Prop where
  lt : D < w.heap.size
  c0 : w.cell? ⟨D, 0, none⟩ = some (.int .i64 d.s)
  c2 : w.cell? ⟨D, 2, none⟩ = some (.int .i64 d.t)
  c4 : w.cell? ⟨D, 4, none⟩ = some (.int .i64 d.a)
  f0 : w.frozen? ⟨D, 0, none⟩ = false
  f1 : w.frozen? ⟨D, 1, none⟩ = false
  f2 : w.frozen? ⟨D, 2, none⟩ = false
  f3 : w.frozen? ⟨D, 3, none⟩ = false
  f4 : w.frozen? ⟨D, 4, none⟩ = false
  m : ∃ a n c, w.cell? ⟨D, 1, none⟩ = some (.slice a n c) ∧ Row w 0 (.slice a n c) d.xs ∧ (Value.slice a n c).ownBlock ≠ some D
  n : ∃ a n c, w.cell? ⟨D, 3, none⟩ = some (.slice a n c) ∧ Row w 0 (.slice a n c) d.ys ∧ (Value.slice a n c).ownBlock ≠ some D
theorem Desk.below {w w' : World} {D : Nat} {d : DS} (h : Desk w D d) (hb : Below w.heap.size w w') : Desk w' D d := by
  have hc : ∀ o, w'.cell? ⟨D, o, none⟩ = w.cell? ⟨D, o, none⟩ := fun o => hb.cell (p := ⟨D, o, none⟩) h.lt
  have hf : ∀ o, w'.frozen? ⟨D, o, none⟩ = w.frozen? ⟨D, o, none⟩ := fun o => hb.frozen (p := ⟨D, o, none⟩) h.lt
  refine ⟨Nat.lt_of_lt_of_le h.lt hb.size, (hc 0).trans h.c0, (hc 2).trans h.c2, (hc 4).trans h.c4, (hf 0).trans h.f0, (hf 1).trans h.f1, (hf 2).trans h.f2, (hf 3).trans h.f3, (hf 4).trans h.f4, ?_, ?_⟩
  · obtain ⟨a, n, c, h1, h2, h3⟩ := h.m; exact ⟨a, n, c, (hc 1).trans h1, h2.below hb, h3⟩
  · obtain ⟨a, n, c, h1, h2, h3⟩ := h.n; exact ⟨a, n, c, (hc 3).trans h1, h2.below hb, h3⟩
/-- the left mass is exchanged for another one -/
theorem Desk.putM {w : World} {D : Nat} {d : DS} (h : Desk w D d) (s : Int) (xs : List Int) (a : Option Addr) (n c : Nat) (hr : Row w 0 (.slice a n c) xs) (hD : (Value.slice a n c).ownBlock ≠ some D) :
    Desk ((w.setCell ⟨D, 0, none⟩ (.int .i64 s)).setCell ⟨D, 1, none⟩ (.slice a n c)) D ⟨s, xs, d.t, d.ys, d.a⟩ := by
  obtain ⟨a1, n1, c1, h1, h2, h3⟩ := h.m
  obtain ⟨a2, n2, c2, k1, k2, k3⟩ := h.n
  have ne : ∀ {v : Value}, v.ownBlock ≠ some D → ∀ k, v.ownBlock = some k → k ≠ D := fun hv k e e2 => hv (by rw [e, e2])
  refine ⟨by simp; exact h.lt, ?_, ?_, ?_, by simp [h.f0], by simp [h.f1], by simp [h.f2], by simp [h.f3], by simp [h.f4], ⟨a, n, c, ?_, hr.put2 (ne hD), hD⟩, ⟨a2, n2, c2, ?_, k2.put2 (ne k3), k3⟩⟩
  · exact (World.cell?_setCell_other _ _ _ _ (by simp)).trans (World.cell?_setCell_same _ _ _ h.c0)
  · exact (World.cell?_setCell_other _ _ _ _ (by simp)).trans ((World.cell?_setCell_other _ _ _ _ (by simp)).trans h.c2)
  · exact (World.cell?_setCell_other _ _ _ _ (by simp)).trans ((World.cell?_setCell_other _ _ _ _ (by simp)).trans h.c4)
  · exact World.cell?_setCell_same _ _ _ ((World.cell?_setCell_other _ _ _ _ (by simp)).trans h1)
  · exact (World.cell?_setCell_other _ _ _ _ (by simp)).trans ((World.cell?_setCell_other _ _ _ _ (by simp)).trans k1)
/-- the right mass is exchanged for another one -/
theorem Desk.putN {w : World} {D : Nat} {d : DS} (h : Desk w D d) (s : Int) (xs : List Int) (a : Option Addr) (n c : Nat) (hr : Row w 0 (.slice a n c) xs) (hD : (Value.slice a n c).ownBlock ≠ some D) :
    Desk ((w.setCell ⟨D, 2, none⟩ (.int .i64 s)).setCell ⟨D, 3, none⟩ (.slice a n c)) D ⟨d.s, d.xs, s, xs, d.a⟩ := by
  obtain ⟨a1, n1, c1, h1, h2, h3⟩ := h.m
  obtain ⟨a2, n2, c2, k1, k2, k3⟩ := h.n
  have ne : ∀ {v : Value}, v.ownBlock ≠ some D → ∀ k, v.ownBlock = some k → k ≠ D := fun hv k e e2 => hv (by rw [e, e2])
  have put : ∀ {v : Value} {l : List Int}, Row w 0 v l → (∀ k, v.ownBlock = some k → k ≠ D) → Row ((w.setCell ⟨D, 2, none⟩ (.int .i64 s)).setCell ⟨D, 3, none⟩ (.slice a n c)) 0 v l := fun hr hb =>
    (hr.setOther (a := ⟨D, 2, none⟩) (fun e => hb _ e rfl) _).setOther (a := ⟨D, 3, none⟩) (fun e => hb _ e rfl) _
  refine ⟨by simp; exact h.lt, ?_, ?_, ?_, by simp [h.f0], by simp [h.f1], by simp [h.f2], by simp [h.f3], by simp [h.f4], ⟨a1, n1, c1, ?_, put h2 (ne h3), h3⟩, ⟨a, n, c, ?_, put hr (ne hD), hD⟩⟩
  · exact (World.cell?_setCell_other _ _ _ _ (by simp)).trans ((World.cell?_setCell_other _ _ _ _ (by simp)).trans h.c0)
  · exact (World.cell?_setCell_other _ _ _ _ (by simp)).trans (World.cell?_setCell_same _ _ _ h.c2)
  · exact (World.cell?_setCell_other _ _ _ _ (by simp)).trans ((World.cell?_setCell_other _ _ _ _ (by simp)).trans h.c4)
  · exact (World.cell?_setCell_other _ _ _ _ (by simp)).trans ((World.cell?_setCell_other _ _ _ _ (by simp)).trans h1)
  · exact World.cell?_setCell_same _ _ _ ((World.cell?_setCell_other _ _ _ _ (by simp)).trans k1)
/-- only block D and newer blocks have changed -/
theorem Span.below_D {D : Nat} {w0 w w' : World} (hb : Below w0.heap.size w0 w) (hs : Span D (D + 1) w w') (hD : w0.heap.size ≤ D) : Below w0.heap.size w0 w' := Span.below hb hb.size hs hD
/-- a line is executed: what it prints, and what it leaves on the desk -/
def Ln (line : List UInt8) (d : DS) (out : List UInt8) (d' : DS) : Prop :=
  ∀ (w0 w : World) (D : Nat), LibV w0 → w0.heap.size ≤ D → Below w0.heap.size w0 w → Desk w D d →
    Calls Tryz.prog 58 #[.pointer (some ⟨D, 0, none⟩), .string (bs line)] w fun e w' => e = .returned (.string (bs out)) ∧ Desk w' D d' ∧ Span D (D + 1) w w'
inductive Chain : DS → List (List UInt8 × List UInt8) → DS → Prop
  | nil (d : DS) : Chain d [] d
  | cons {l o : List UInt8} {d d' d'' : DS} {r : List (List UInt8 × List UInt8)} : Ln l d o d' → Chain d' r d'' → Chain d ((l, o) :: r) d''
theorem SRow.span {lo hi : Nat} {w w' : World} {base g n c : Nat} {xs : List ByteArray} (h : SRow w base (.slice (some ⟨g, 0, none⟩) n c) xs) (hs : Span lo hi w w') (hne : g < lo ∨ hi ≤ g) : SRow w' base (.slice (some ⟨g, 0, none⟩) n c) xs := by
  have hl := SRow.block h g rfl
  refine ⟨h.1, ?_⟩
  rcases h.2 with h2 | ⟨g', cap, cur, hv, hg', hh, r⟩
  · exact .inl h2
  · refine .inr ⟨g', cap, cur, hv, hg', ?_, r⟩
    injection hv with e1 e2 e3
    injection e1 with e1; injection e1 with e1
    rw [← e1] at hh ⊢
    rw [hs.block g hl.2 hne]; exact hh
theorem lineT_take {steps : List (List UInt8 × List UInt8)} {k : Nat} (hk : k < steps.length) : lineT ((steps.take (k + 1)).map Prod.snd) = lineT ((steps.take k).map Prod.snd) ++ (steps[k].2 ++ [10]) := by
  rw [List.take_add_one, List.getElem?_eq_getElem hk, List.map_append, lineT_app]
  rfl
theorem lineT_le {steps : List (List UInt8 × List UInt8)} (k : Nat) : (lineT ((steps.take k).map Prod.snd)).length ≤ (lineT (steps.map Prod.snd)).length := by
  have h : steps = steps.take k ++ steps.drop k := (List.take_append_drop k steps).symm
  have h2 : lineT (steps.map Prod.snd) = lineT ((steps.take k).map Prod.snd) ++ lineT ((steps.drop k).map Prod.snd) := by
    rw [← lineT_app, ← List.map_append, ← h]
  rw [h2, List.length_append]; omega
theorem chain_step {steps : List (List UInt8 × List UInt8)} {d d' : DS} {k : Nat} (hk : k < steps.length) (h : Chain d (steps.drop k) d') : ∃ d1, Ln steps[k].1 d steps[k].2 d1 ∧ Chain d1 (steps.drop (k + 1)) d' := by
  rw [List.drop_eq_getElem_cons hk] at h
  generalize hp : steps[k] = p at h ⊢
  obtain ⟨l, o⟩ := p
  cases h with
  | cons h1 h2 => exact ⟨_, h1, h2⟩
def startD : DS := ⟨2, sureP 2 3, 2, sureP 2 3, 1⟩
set_option maxRecDepth 100000 in
set_option maxHeartbeats 4000000 in
theorem RunScript_any (steps : List (List UInt8 × List UInt8)) (d' : DS) (w : World) (hv : LibV w) (hch : Chain startD steps d') (hn : steps.length ≤ 99) (hl : ∀ p ∈ steps, p.1 ≠ [] ∧ (10 : UInt8) ∉ p.1) (ht : (lineT (steps.map Prod.fst)).length ≤ 20000) (ho : (lineT (steps.map Prod.snd)).length ≤ 40000) :
    Calls Tryz.prog 21 #[.string (bs (lineT (steps.map Prod.fst)))] w fun e w' => e = .returned (.string (bs (lineT (steps.map Prod.snd)))) ∧ Below w.heap.size w w' := by
  have HCUT : Hid (cutAt 10 (lineT (steps.map Prod.fst)) = steps.map Prod.fst ++ [[]]) := cut_lines _ fun l hl2 => by
    rw [List.mem_map] at hl2
    obtain ⟨p, hp, rfl⟩ := hl2
    exact (hl p hp).2
  have HLE : Hid (∀ k, (lineT ((steps.take k).map Prod.snd)).length ≤ 40000) := fun k => by have := lineT_le (steps := steps) k; omega
  have HCH := hid hch
  have HL := hid hl
  obtain ⟨M, hM⟩ : ∃ M, steps.length = M := ⟨_, rfl⟩
  have HM := hid hM
  rw [hM] at hn
  have HALL : Hid (∀ k, M ≤ k → lineT ((steps.take k).map Prod.snd) = lineT (steps.map Prod.snd)) := fun k hk => by rw [List.take_of_length_le (by omega)]
  obtain ⟨T, hT⟩ : ∃ T, lineT (steps.map Prod.fst) = T := ⟨_, rfl⟩
  rw [hT] at ht HCUT ⊢
  clear hch hl hM hT ho
  have hts : (bs T).size ≤ 20000 := by rw [bs_size]; exact ht
  have htz : ¬ (20000 : Int) < ((bs T).size : Nat) := by omega
  go_enter Tryz.func21, Tryz.ntmps21
  go_wp2_with fail
  refine (sureMass_any 2 3 _ (by decide) (by decide)).mono ?_; rintro e w1 ⟨⟨v1, rfl, hr1⟩, hb1⟩
  obtain ⟨a1, n1, c1, rfl, hi1⟩ := hr1.ints
  clear hi1
  go_wp2_with fail
  refine (sureMass_any 2 3 _ (by decide) (by decide)).mono ?_; rintro e w2 ⟨⟨v2, rfl, hr2⟩, hb2⟩
  obtain ⟨a2, n2, c2, rfl, hi2⟩ := hr2.ints
  clear hi2
  replace hr1 := hr1.below hb2
  have hB2 := chain hb1 hb2
  clear hb1 hb2
  go_wp2_with fail
  obtain ⟨w3, hw3⟩ : ∃ W, w2.alloc (.cells #[.int .i64 2, .slice a1 n1 c1, .int .i64 2, .slice a2 n2 c2, .int .i64 1, .slice none 0 0] 72) = W := ⟨_, rfl⟩
  rw [hw3]
  have hb3 : Below w2.heap.size w2 w3 := by rw [← hw3]; exact below_alloc _ _
  have hD0 : Desk w3 w2.heap.size startD := by
    have e1 := hr1.below (below_alloc w2 (.cells #[.int .i64 2, .slice a1 n1 c1, .int .i64 2, .slice a2 n2 c2, .int .i64 1, .slice none 0 0] 72))
    have e2 := hr2.below (below_alloc w2 (.cells #[.int .i64 2, .slice a1 n1 c1, .int .i64 2, .slice a2 n2 c2, .int .i64 1, .slice none 0 0] 72))
    have b1 := hr1.block
    have b2 := hr2.block
    rw [hw3] at e1 e2
    refine ⟨by rw [← hw3]; simp, by rw [← hw3]; simp [startD], by rw [← hw3]; simp [startD], by rw [← hw3]; simp [startD], by rw [← hw3]; simp, by rw [← hw3]; simp, by rw [← hw3]; simp, by rw [← hw3]; simp, by rw [← hw3]; simp, ⟨a1, n1, c1, by rw [← hw3]; simp, e1.mono (by omega), fun e => ?_⟩, ⟨a2, n2, c2, by rw [← hw3]; simp, e2.mono (by omega), fun e => ?_⟩⟩
    · have := (b1 _ e).2; omega
    · have := (b2 _ e).2; omega
  have hB3 := chain hB2 hb3
  have hz3 : w2.heap.size < w3.heap.size := hD0.lt
  obtain ⟨D, hDe⟩ : ∃ D, w2.heap.size = D := ⟨_, rfl⟩
  have hDw : w.heap.size ≤ D := by have := hB2.size; omega
  rw [hDe] at hD0 hz3 ⊢
  clear hb3 hw3 hDe hr1 hr2
  refine (split_at 10 T _ (by omega) (hv.below hB3)).mono ?_; rintro e w4 ⟨n, ys, rfl, hsr, hys, hb4⟩
  rw [HCUT.out] at hys
  have hn4 : n = M + 1 := by rw [hsr.at.1, hys]; simp [HM.out]
  subst hn4
  have hD4 := hD0.below hb4
  have hB4 := chain hB3 hb4
  have hz4 := hb4.size
  obtain ⟨gw, hgw⟩ : ∃ gw, w3.heap.size = gw := ⟨_, rfl⟩
  rw [hgw] at hsr hz3 ⊢
  have HYS := hid hys
  clear hb4 hgw hys hD0
  go_wp2
  go_loopw [4, 5, 6, 17] (fun o _ _ i wr => ∃ k : Nat, k ≤ M + 1 ∧ i = .int .i64 k ∧ o = .string (bs (lineT ((steps.take k).map Prod.snd))) ∧ (∃ d, Hid (Chain d (steps.drop k) d') ∧ Desk wr D d) ∧ Span D (D + 1) w4 wr) (fun _ _ _ i _ => M + 1 - (intOf i).toNat)
  case atStart => exact ⟨0, by omega, rfl, rfl, ⟨startD, HCH.out, hD4⟩, Span.refl _ _ _⟩
  case round =>
    obtain ⟨k, hk, rfl, rfl, ⟨d, HC, hD⟩, hsp⟩ := hrel
    have hsrr := hsr.span hsp (by omega)
    have hB : Below w.heap.size w wr := Span.below hB4 hB4.size hsp hDw
    have hle := HLE.out k
    by_cases hlt : k < M
    · have hk0 : (0 : Int) ≤ (k : Int) := by omega
      have hk1 : (k : Int) < ((M + 1 : Nat) : Int) := by omega
      have hkl : k < steps.length := by rw [HM.out]; exact hlt
      obtain ⟨d1, hln, hch1⟩ := chain_step hkl HC.out
      have HC1 := hid hch1
      have HT := lineT_take hkl
      have hle1 := HLE.out (k + 1)
      have hp := HL.out steps[k] (List.getElem_mem _)
      have hyk : ys[k]? = some (bs steps[k].1) := by
        rw [HYS.out, List.map_append, List.map_map, List.getElem?_append_left (by rw [List.length_map]; exact hkl), List.getElem?_map, List.getElem?_eq_getElem hkl]; rfl
      have hcell : wr.cell? ⟨gw, k, none⟩ = some (.string (bs steps[k].1)) := by have := hsrr.at.2.2.2.2 k _ hyk; simpa using this
      generalize steps[k] = p at *
      obtain ⟨l, o⟩ := p
      simp only at hln hp HT hcell
      rw [HT, List.length_append, List.length_append] at hle1
      obtain ⟨O, hO⟩ : ∃ O, lineT ((steps.take k).map Prod.snd) = O := ⟨_, rfl⟩
      rw [hO] at HT hle hle1 ⊢
      have HT2 : Hid (bs (lineT ((steps.take (k + 1)).map Prod.snd)) = bs O ++ (bs o ++ ByteArray.mk #[10])) := by
        rw [Hid, HT, show ByteArray.mk #[10] = bs [10] from rfl, bs_append, bs_append]
      have ke : (bs l).toList.isEmpty = false := bs_empty l false (by cases l with | nil => exact absurd rfl hp.1 | cons _ _ => rfl)
      have HLN := hid hln
      have h100 : ¬ (100 : Int) ≤ (k : Int) := by omega
      have hos : ¬ (40000 : Int) < ((bs O).size : Nat) := by rw [bs_size]; omega
      have kz : ¬ 9223372036854775807 < (bs o).size + (ByteArray.mk #[10]).size := by rw [bs_size]; simp [ByteArray.size]; simp at hle1; omega
      have kz2 : ¬ 9223372036854775807 < (bs O).size + (bs o ++ ByteArray.mk #[10]).size := by rw [ByteArray.size_append, bs_size, bs_size]; simp [ByteArray.size]; simp at hle1; omega
      clear HT hO hyk hkl hln hp hch1 hle hle1
      go_wp2_with fail
      refine (HLN.out w wr D hv hDw hB hD).mono ?_; rintro e w5 ⟨rfl, hD5, hs5⟩
      have HSP := hid (hsp.trans hs5)
      clear hsp hs5 hsrr hD
      go_wp2
      go_roundw
      case rel => first | exact ⟨k + 1, by omega, by go_num, by rw [HT2.out], ⟨d1, HC1, hD5⟩, HSP.out⟩ | exact ⟨_, ⟨k + 1, by omega, by go_num, by rw [HT2.out], ⟨d1, HC1, hD5⟩, HSP.out⟩, rfl⟩ | exact ⟨_, _, ⟨k + 1, by omega, by go_num, by rw [HT2.out], ⟨d1, HC1, hD5⟩, HSP.out⟩, rfl, rfl⟩ | exact ⟨_, _, _, ⟨k + 1, by omega, by go_num, by rw [HT2.out], ⟨d1, HC1, hD5⟩, HSP.out⟩, rfl, rfl, rfl⟩ | exact ⟨_, _, _, _, ⟨k + 1, by omega, by go_num, by rw [HT2.out], ⟨d1, HC1, hD5⟩, HSP.out⟩, rfl, rfl, rfl, rfl⟩ | exact ⟨_, _, _, _, _, ⟨k + 1, by omega, by go_num, by rw [HT2.out], ⟨d1, HC1, hD5⟩, HSP.out⟩, rfl, rfl, rfl, rfl, rfl⟩
      case measure => simp [intOf]; omega
    · by_cases hlt2 : k < M + 1
      · obtain rfl : k = M := by omega
        have hk0 : (0 : Int) ≤ (k : Int) := by omega
        have hk1 : (k : Int) < ((k + 1 : Nat) : Int) := by omega
        have hyk : ys[k]? = some (bs []) := by
          rw [HYS.out, List.map_append, List.getElem?_append_right (by rw [List.length_map, List.length_map, HM.out]; exact Nat.le_refl _), List.length_map, List.length_map, HM.out, Nat.sub_self]; rfl
        have hcell : wr.cell? ⟨gw, k, none⟩ = some (.string (bs [])) := by have := hsrr.at.2.2.2.2 k _ hyk; simpa using this
        have ke : (bs ([] : List UInt8)).toList.isEmpty = true := bs_empty [] true rfl
        have HT2 : Hid (lineT ((steps.take (k + 1)).map Prod.snd) = lineT ((steps.take k).map Prod.snd)) := by rw [Hid, HALL.out _ (by omega), HALL.out _ (Nat.le_refl _)]
        have HC2 : Hid (Chain d (steps.drop (k + 1)) d') := by
          have h1 := HC.out
          rw [List.drop_of_length_le (by rw [HM.out]; exact Nat.le_refl _)] at h1
          rw [Hid, List.drop_of_length_le (by rw [HM.out]; omega)]; exact h1
        clear hyk hsrr
        go_wp2
        go_roundw
        case rel => first | exact ⟨k + 1, by omega, by go_num, by rw [HT2.out], ⟨d, HC2, hD⟩, hsp⟩ | exact ⟨_, ⟨k + 1, by omega, by go_num, by rw [HT2.out], ⟨d, HC2, hD⟩, hsp⟩, rfl⟩ | exact ⟨_, _, ⟨k + 1, by omega, by go_num, by rw [HT2.out], ⟨d, HC2, hD⟩, hsp⟩, rfl, rfl⟩ | exact ⟨_, _, _, ⟨k + 1, by omega, by go_num, by rw [HT2.out], ⟨d, HC2, hD⟩, hsp⟩, rfl, rfl, rfl⟩ | exact ⟨_, _, _, _, ⟨k + 1, by omega, by go_num, by rw [HT2.out], ⟨d, HC2, hD⟩, hsp⟩, rfl, rfl, rfl, rfl⟩ | exact ⟨_, _, _, _, _, ⟨k + 1, by omega, by go_num, by rw [HT2.out], ⟨d, HC2, hD⟩, hsp⟩, rfl, rfl, rfl, rfl, rfl⟩
        case measure => simp [intOf]
      · obtain rfl : k = M + 1 := by omega
        have HE := hid (HALL.out (M + 1) (by omega))
        go_wp2
        go_ret
        exact ⟨by rw [HE.out]; rfl, hB⟩
/-- what is told of a mass that is made -/
def tellM (r : MR) : List UInt8 := if r.ok then massT r.size r.parts else [110, 111]
/-- the desk behind it -/
def leftM (d : DS) (r : MR) : DS := if r.ok then ⟨r.size, r.parts, d.t, d.ys, d.a⟩ else d
set_option maxRecDepth 100000 in
set_option maxHeartbeats 1000000 in
theorem become_any (w0 w : World) (D : Nat) (d : DS) (r : MR) (a : Option Addr) (n c : Nat) (hv : LibV w0) (hD : w0.heap.size ≤ D) (hb : Below w0.heap.size w0 w) (hd : Desk w D d) (hr : Row w 0 (.slice a n c) r.parts) (hne : (Value.slice a n c).ownBlock ≠ some D) :
    Calls Tryz.prog 146 #[.pointer (some ⟨D, 0, none⟩), .agg #[.int .i64 r.size, .slice a n c], .bool r.ok] w fun e w' => e = .returned (.string (bs (tellM r))) ∧ Desk w' D (leftM d r) ∧ Span D (D + 1) w w' := by
  cases ho : r.ok
  · have HT : Hid (tellM r = [110, 111]) := by show tellM r = _; unfold tellM; rw [ho]; rfl
    have HL : Hid (leftM d r = d) := by show leftM d r = _; unfold leftM; rw [ho]; rfl
    rw [HT.out, HL.out]
    go_enter Tryz.func146, Tryz.ntmps146
    go_wp2
    go_ret
    exact ⟨rfl, hd.below (below_alloc _ _), Span.of_below (below_alloc _ _)⟩
  · have HT : Hid (tellM r = massT r.size r.parts) := by show tellM r = _; unfold tellM; rw [ho]; rfl
    have HL : Hid (leftM d r = ⟨r.size, r.parts, d.t, d.ys, d.a⟩) := by show leftM d r = _; unfold leftM; rw [ho]; rfl
    rw [HT.out, HL.out]
    obtain ⟨a1, n1, c1, h1, _, _⟩ := hd.m
    have h0 := hd.c0
    have g0 := hd.f0
    have g1 := hd.f1
    have hlt := hd.lt
    have hDn : w.heap.size ≠ D := by omega
    have hDn2 : D ≠ w.heap.size := by omega
    obtain ⟨wq, hwq⟩ : ∃ q, (w.setCell ⟨D, 0, none⟩ (.int .i64 r.size)).setCell ⟨D, 1, none⟩ (.slice a n c) = q := ⟨_, rfl⟩
    have hrq : Row wq 0 (.slice a n c) r.parts := by rw [← hwq]; exact hr.put2 (fun k e e2 => hne (by rw [e, e2]))
    have hdq : Desk wq D ⟨r.size, r.parts, d.t, d.ys, d.a⟩ := by rw [← hwq]; exact hd.putM r.size r.parts a n c hr hne
    have hbq : Below w0.heap.size w0 wq := by rw [← hwq]; (repeat (first | exact Below.refl _ _ | assumption | refine Below.alloc ?_ (by first | omega | (simp <;> omega)) _ | refine Below.setCell ?_ (by first | omega | (simp <;> omega)) _ | refine Below.drew ?_ | refine below_drewN ?_))
    have hsq : Span D (D + 1) w wq := by rw [← hwq]; exact (Span.set (by show D ≤ D ∧ D < D + 1; omega)).trans (Span.set (by show D ≤ D ∧ D < D + 1; omega))
    have HWQ := hid hwq
    clear hwq hb hr hd
    go_enter Tryz.func146, Tryz.ntmps146
    go_wp2_with fail
    rw [HWQ.out]
    refine (FormatMass_any r.size _ _ _ r.parts _ (hrq.view.below (below_alloc _ _)) (hv.below (hbq.trans ((below_alloc wq _).mono (hbq.size))))).mono ?_; rintro e w5 ⟨rfl, hb5⟩
    have hd5 := (hdq.below (below_alloc wq _)).below hb5
    have hs5 := (hsq.trans (Span.of_below (below_alloc wq _))).trans (Span.of_below hb5)
    clear hb5
    go_wp2
    go_ret
    exact ⟨rfl, hd5, hs5⟩
theorem word_left : bs [108, 101, 102, 116] = ByteArray.mk #[108, 101, 102, 116] := rfl
theorem word_right : bs [114, 105, 103, 104, 116] = ByteArray.mk #[114, 105, 103, 104, 116] := rfl
theorem bs_ok : (ByteArray.mk #[111, 107] : ByteArray) = bs [111, 107] := rfl
set_option maxRecDepth 100000 in
set_option maxHeartbeats 2000000 in
theorem run_left (d : DS) {s : Int} {xs : List Int} (hm : massOk s xs = true) : Ln ([108, 101, 102, 116] ++ 32 :: massT s xs) d [111, 107] ⟨s, xs, d.t, d.ys, d.a⟩ := by
  intro w0 w D hv hD hb hd
  have HC := hid (cut_app 32 [108, 101, 102, 116] (massT s xs) (by decide))
  have hln := massT_len s xs
  have hll : ([108, 101, 102, 116] ++ 32 :: massT s xs : List UInt8).length ≤ 2000000 := by simp; omega
  have hz0 := hb.size
  obtain ⟨T, hT⟩ : ∃ T, massT s xs = T := ⟨_, rfl⟩
  have HTT := hid hT
  rw [hT] at HC hll ⊢
  clear hT hln
  obtain ⟨L, hL⟩ : ∃ L, ([108, 101, 102, 116] ++ 32 :: T : List UInt8) = L := ⟨_, rfl⟩
  rw [hL] at HC hll ⊢
  clear hL
  go_enter Tryz.func58, Tryz.ntmps58
  go_wp2_with fail
  refine (cut_any L 32 _ _ _ HC.out hll _ (hv.below hb)).mono ?_; rw [word_left]; rintro e w1 ⟨rfl, hb1⟩
  have hbb := hb.trans (hb1.mono hz0)
  have hd1 := hd.below hb1
  have hs1 := Span.of_below (lo := D) (hi := D + 1) hb1
  clear hb1 hd
  go_wp2_with fail
  rw [← HTT.out]
  refine (ParseMass_any s xs _ hm (hv.below hbb)).mono ?_; rintro e w2 ⟨⟨v, rfl, hr⟩, hb2⟩
  obtain ⟨a, n, c, rfl, hi⟩ := hr.ints
  have hne : (Value.slice a n c).ownBlock ≠ some D := fun e => by have := (hr.block _ e).1; have := hd1.lt; omega
  have hbb2 := hbb.trans (hb2.mono hbb.size)
  have hd2 := hd1.below hb2
  have hs2 := hs1.trans (Span.of_below hb2)
  clear hb2 hi hd1 hs1
  obtain ⟨a1, n1, c1, h1, _, _⟩ := hd2.m
  have h0 := hd2.c0
  have g0 := hd2.f0
  have g1 := hd2.f1
  have hlt := hd2.lt
  have hDn : w2.heap.size ≠ D := by omega
  have hDn2 : D ≠ w2.heap.size := by omega
  obtain ⟨wq, hwq⟩ : ∃ q, (w2.setCell ⟨D, 0, none⟩ (.int .i64 s)).setCell ⟨D, 1, none⟩ (.slice a n c) = q := ⟨_, rfl⟩
  have hdq : Desk wq D ⟨s, xs, d.t, d.ys, d.a⟩ := by rw [← hwq]; exact hd2.putM s xs a n c (hr.mono (Nat.zero_le _)) hne
  have hsq : Span D (D + 1) w2 wq := by rw [← hwq]; exact (Span.set (by show D ≤ D ∧ D < D + 1; omega)).trans (Span.set (by show D ≤ D ∧ D < D + 1; omega))
  have HWQ := hid hwq
  clear hwq hr
  go_wp2
  rw [HWQ.out]
  go_ret
  exact ⟨rfl, hdq.below (below_alloc wq _), (hs2.trans hsq).trans (Span.of_below (below_alloc wq _))⟩
set_option maxRecDepth 100000 in
set_option maxHeartbeats 2000000 in
theorem run_right (d : DS) {s : Int} {xs : List Int} (hm : massOk s xs = true) : Ln ([114, 105, 103, 104, 116] ++ 32 :: massT s xs) d [111, 107] ⟨d.s, d.xs, s, xs, d.a⟩ := by
  intro w0 w D hv hD hb hd
  have HC := hid (cut_app 32 [114, 105, 103, 104, 116] (massT s xs) (by decide))
  have hln := massT_len s xs
  have hll : ([114, 105, 103, 104, 116] ++ 32 :: massT s xs : List UInt8).length ≤ 2000000 := by simp; omega
  have hz0 := hb.size
  obtain ⟨T, hT⟩ : ∃ T, massT s xs = T := ⟨_, rfl⟩
  have HTT := hid hT
  rw [hT] at HC hll ⊢
  clear hT hln
  obtain ⟨L, hL⟩ : ∃ L, ([114, 105, 103, 104, 116] ++ 32 :: T : List UInt8) = L := ⟨_, rfl⟩
  rw [hL] at HC hll ⊢
  clear hL
  go_enter Tryz.func58, Tryz.ntmps58
  go_wp2_with fail
  refine (cut_any L 32 _ _ _ HC.out hll _ (hv.below hb)).mono ?_; rw [word_right]; rintro e w1 ⟨rfl, hb1⟩
  have hbb := hb.trans (hb1.mono hz0)
  have hd1 := hd.below hb1
  have hs1 := Span.of_below (lo := D) (hi := D + 1) hb1
  clear hb1 hd
  go_wp2_with fail
  rw [← HTT.out]
  refine (ParseMass_any s xs _ hm (hv.below hbb)).mono ?_; rintro e w2 ⟨⟨v, rfl, hr⟩, hb2⟩
  obtain ⟨a, n, c, rfl, hi⟩ := hr.ints
  have hne : (Value.slice a n c).ownBlock ≠ some D := fun e => by have := (hr.block _ e).1; have := hd1.lt; omega
  have hbb2 := hbb.trans (hb2.mono hbb.size)
  have hd2 := hd1.below hb2
  have hs2 := hs1.trans (Span.of_below hb2)
  clear hb2 hi hd1 hs1
  obtain ⟨a1, n1, c1, h1, _, _⟩ := hd2.n
  have h0 := hd2.c2
  have g0 := hd2.f2
  have g1 := hd2.f3
  have hlt := hd2.lt
  have hDn : w2.heap.size ≠ D := by omega
  have hDn2 : D ≠ w2.heap.size := by omega
  obtain ⟨wq, hwq⟩ : ∃ q, (w2.setCell ⟨D, 2, none⟩ (.int .i64 s)).setCell ⟨D, 3, none⟩ (.slice a n c) = q := ⟨_, rfl⟩
  have hdq : Desk wq D ⟨d.s, d.xs, s, xs, d.a⟩ := by rw [← hwq]; exact hd2.putN s xs a n c (hr.mono (Nat.zero_le _)) hne
  have hsq : Span D (D + 1) w2 wq := by rw [← hwq]; exact (Span.set (by show D ≤ D ∧ D < D + 1; omega)).trans (Span.set (by show D ≤ D ∧ D < D + 1; omega))
  have HWQ := hid hwq
  clear hwq hr
  go_wp2
  rw [HWQ.out]
  go_ret
  exact ⟨rfl, hdq.below (below_alloc wq _), (hs2.trans hsq).trans (Span.of_below (below_alloc wq _))⟩
/-- a word without a rest is executed -/
def Pl (word : List UInt8) (d : DS) (out : List UInt8) (d' : DS) : Prop :=
  ∀ (w0 w : World) (D : Nat), LibV w0 → w0.heap.size ≤ D → Below w0.heap.size w0 w → Desk w D d →
    Calls Tryz.prog 99 #[.pointer (some ⟨D, 0, none⟩), .string (bs word)] w fun e w' => e = .returned (.string (bs out)) ∧ Desk w' D d' ∧ Span D (D + 1) w w'
set_option maxRecDepth 100000 in
set_option maxHeartbeats 1000000 in
theorem run_plain {word : List UInt8} {d : DS} {out : List UInt8} {d' : DS} (hw : (32 : UInt8) ∉ word) (hl : word.length ≤ 100) (h : Pl word d out d') : Ln word d out d' := by
  intro w0 w D hv hD hb hd
  have HC := hid (cut_miss 32 word hw)
  have hz0 := hb.size
  have HP := hid h
  clear hw h
  go_enter Tryz.func58, Tryz.ntmps58
  go_wp2_with fail
  refine (cut_any word 32 _ _ _ HC.out (by omega) _ (hv.below hb)).mono ?_; rintro e w1 ⟨rfl, hb1⟩
  have hbb := hb.trans (hb1.mono hz0)
  have hd1 := hd.below hb1
  have hs1 := Span.of_below (lo := D) (hi := D + 1) hb1
  clear hb1 hd
  go_wp2_with fail
  refine (HP.out w0 w1 D hv hD hbb hd1).mono ?_; rintro e w2 ⟨rfl, hd2, hs2⟩
  have hs3 := hs1.trans hs2
  clear hs1 hs2
  go_wp2
  go_ret
  exact ⟨rfl, hd2, hs3⟩
end Go.Proofs.YtefmlbahmakboaaGreatDoor
