/- Plain: words between spaces; canonical numerals (no program). -/
import Derived.Test.YtobeeomeebicnaaDoorT1
import Derived.Lib.SplitLaws
import Derived.Lib.AtoiTie
import Derived.Lib.AtoiAllCases
set_option linter.unusedSimpArgs false
set_option linter.unusedVariables false
namespace Go.Proofs.YtobeeomeebicnaaDoor
/-- the pieces between the bytes c -/
def cutAt (c : UInt8) : List UInt8 → List (List UInt8)
  | [] => [[]]
  | b :: r => if b = c then [] :: cutAt c r else match cutAt c r with
    | [] => [[b]]
    | h :: t => (b :: h) :: t
theorem cutAt_pos (c : UInt8) (l : List UInt8) : 0 < (cutAt c l).length := by
  cases l with
  | nil => simp [cutAt]
  | cons b r => unfold cutAt; split; · simp
                split <;> simp
theorem cutAt_app (c : UInt8) : ∀ (p r : List UInt8), c ∉ p → cutAt c (p ++ c :: r) = p :: cutAt c r
  | [], r, _ => by simp [cutAt]
  | b :: p, r, h => by
    have hb : b ≠ c := fun e => h (by simp [e])
    have ih := cutAt_app c p r (fun e => h (List.mem_cons_of_mem _ e))
    rw [List.cons_append, cutAt, if_neg hb, ih]
theorem cutAt_none (c : UInt8) : ∀ (p : List UInt8), c ∉ p → cutAt c p = [p]
  | [], _ => rfl
  | b :: p, h => by
    have hb : b ≠ c := fun e => h (by simp [e])
    rw [cutAt, if_neg hb, cutAt_none c p (fun e => h (List.mem_cons_of_mem _ e))]
theorem join_cut (c : UInt8) : ∀ l, Lib.join (cutAt c l) [c] = l
  | [] => by simp [cutAt, Lib.join_one]
  | b :: r => by
    have ih := join_cut c r
    have hp := cutAt_pos c r
    unfold cutAt
    cases hc : cutAt c r with
    | nil => rw [hc] at hp; simp at hp
    | cons h t =>
      rw [hc] at ih
      rw [Lib.join_cons] at ih
      split
      · next e => subst e; rw [Lib.join_cons]; simp [Lib.joinTail]; simpa [Lib.joinTail] using ih
      · rw [Lib.join_cons, List.cons_append, ih]
theorem cut_join (c : UInt8) : ∀ ws : List (List UInt8), ws ≠ [] → (∀ x ∈ ws, c ∉ x) → cutAt c (Lib.join ws [c]) = ws
  | [], h, _ => absurd rfl h
  | [x], _, h => by rw [Lib.join_one]; exact cutAt_none c x (h x (by simp))
  | x :: y :: r, _, h => by
    have ih := cut_join c (y :: r) (by simp) (fun z hz => h z (List.mem_cons_of_mem _ hz))
    rw [Lib.join_cons] at ih ⊢
    have e : x ++ Lib.joinTail [c] (y :: r) = x ++ c :: (y ++ Lib.joinTail [c] r) := by simp [Lib.joinTail]
    rw [e, cutAt_app c x _ (h x (by simp)), ih]
theorem splitK_cut (c : UInt8) : ∀ l : List UInt8, Lib.splitK [c] 0 (Lib.count l [c]) l = cutAt c l
  | [] => by rw [Lib.count_one]; rfl
  | b :: l => by
    have ih := splitK_cut c l
    by_cases hb : b = c
    · subst hb
      rw [Lib.count_cons_eq, Nat.add_comm, Lib.splitK]
      have hix : Lib.index (b :: l) [b] = 0 := by rw [Lib.index]; simp [List.isPrefixOf]
      rw [hix, if_neg (by decide), cutAt, if_pos rfl]
      simp [ih]
    · have hp : ([c] : List UInt8).isPrefixOf (b :: l) = false := by simp [List.isPrefixOf, Ne.symm hb]
      have hix : Lib.index (b :: l) [c] = if Lib.index l [c] == -1 then -1 else Lib.index l [c] + 1 := by rw [Lib.index, hp]; simp
      rw [Lib.count_cons_ne b c l hb, cutAt, if_neg hb, ← ih]
      cases hk : Lib.count l [c] with
      | zero => rfl
      | succ k =>
        by_cases hm : Lib.index l [c] = -1
        · rw [Lib.count_miss hm] at hk; cases hk
        · have hge := Lib.index_ge l [c]
          obtain ⟨j, hj⟩ : ∃ j : Nat, Lib.index l [c] = j := ⟨(Lib.index l [c]).toNat, by omega⟩
          rw [Lib.splitK, Lib.splitK, hix, if_neg (fun e => hm (beq_iff_eq.1 e)), hj, if_neg (by rw [beq_iff_eq]; omega), if_neg (by rw [beq_iff_eq]; omega)]
          have e1 : ((j : Int) + 1).toNat = j + 1 := by omega
          simp [e1]
theorem splitB_cut (c : UInt8) (s : ByteArray) : (Lib.splitB ⟨#[c]⟩ 0 (Lib.countB s ⟨#[c]⟩) s).map (·.data.toList) = cutAt c s.data.toList := by
  rw [Lib.splitB_data]; exact splitK_cut c s.data.toList
/-! one round of the cut -/
theorem piece_data (s : ByteArray) (a b : Nat) : (s.extract a b).data.toList = (s.data.toList.drop a).take (b - a) := by
  rw [Lib.extract_data]
theorem size_list (s : ByteArray) : s.data.toList.length = s.size := Array.length_toList
theorem byte_at (s : ByteArray) (k : Nat) (h : k < s.size) : s.data.toList[k]? = some s[k] := by
  rw [List.getElem?_eq_getElem (by rw [size_list]; exact h)]; rfl
theorem cut_hit {l : List UInt8} {k fr : Nat} (hk : l[k]? = some 32) (hf : fr ≤ k) (hno : (32 : UInt8) ∉ (l.drop fr).take (k - fr)) : cutAt 32 (l.drop fr) = (l.drop fr).take (k - fr) :: cutAt 32 (l.drop (k + 1)) := by
  obtain ⟨hkl, hkv⟩ := List.getElem?_eq_some_iff.1 hk
  have e : l.drop fr = (l.drop fr).take (k - fr) ++ 32 :: l.drop (k + 1) := by
    conv => lhs; rw [← List.take_append_drop (k - fr) (l.drop fr)]
    rw [List.drop_drop, show fr + (k - fr) = k by omega, List.drop_eq_getElem_cons hkl, hkv]
  conv => lhs; rw [e]
  exact cutAt_app 32 _ _ hno
theorem cut_end {l : List UInt8} {fr : Nat} (hno : (32 : UInt8) ∉ (l.drop fr).take (l.length - fr)) : cutAt 32 (l.drop fr) = [(l.drop fr).take (l.length - fr)] := by
  have e : (l.drop fr).take (l.length - fr) = l.drop fr := List.take_of_length_le (by simp)
  rw [e] at hno ⊢
  exact cutAt_none 32 _ hno
theorem no_step {l : List UInt8} {k fr : Nat} {b : UInt8} (hk : l[k]? = some b) (hb : b ≠ 32) (hf : fr ≤ k) (hno : (32 : UInt8) ∉ (l.drop fr).take (k - fr)) : (32 : UInt8) ∉ (l.drop fr).take (k + 1 - fr) := by
  rw [show k + 1 - fr = (k - fr) + 1 by omega, List.take_add_one, List.getElem?_drop, show fr + (k - fr) = k by omega, hk]
  intro h
  rcases List.mem_append.1 h with h | h
  · exact hno h
  · simp at h; exact hb h.symm
/-! numerals -/
theorem decFrom_snoc (x : UInt8) : ∀ (l : List UInt8) (a : Nat), Lib.decFrom a (l ++ [x]) = (Lib.decFrom a l).bind fun n => (Lib.digitVal x).map fun d => n * 10 + d
  | [], a => by simp only [List.nil_append, Lib.decFrom, Option.bind_some]; cases Lib.digitVal x <;> rfl
  | b :: l, a => by
    simp only [List.cons_append, Lib.decFrom]
    cases Lib.digitVal b with
    | none => rfl
    | some d => exact decFrom_snoc x l _
theorem digitVal_mk (d : Nat) (h : d < 10) : Lib.digitVal (UInt8.ofNat (48 + d)) = some d := by
  have : (UInt8.ofNat (48 + d)).toNat = 48 + d := by simp [UInt8.toNat_ofNat']; omega
  unfold Lib.digitVal; rw [this, if_pos (by omega)]; congr 1; omega
theorem digit_mk {x : UInt8} {d : Nat} (h : Lib.digitVal x = some d) : d < 10 ∧ x = UInt8.ofNat (48 + d) := by
  obtain ⟨h1, h2, h3⟩ := Lib.digitVal_eq h
  refine ⟨by omega, ?_⟩
  apply UInt8.toNat_inj.1
  simp [UInt8.toNat_ofNat']; omega
theorem decFrom_dec : ∀ m : Nat, Lib.decFrom 0 (Lib.decDigits m) = some m := by
  intro m
  induction m using Nat.strongRecOn with
  | _ m ih =>
    rw [Lib.decDigits]
    split
    · next h => simp only [Lib.decFrom, digitVal_mk m h]; simp
    · next h => rw [decFrom_snoc, ih (m / 10) (by omega), digitVal_mk _ (by omega)]; simp; omega
/-- a row of digits without a needless nought is the numeral of its value -/
theorem dec_of_decFrom : ∀ (b : List UInt8) (m : Nat), b ≠ [] → (b.head? ≠ some 48 ∨ b.length = 1) → Lib.decFrom 0 b = some m → Lib.decDigits m = b ∧ (b.head? ≠ some 48 → 0 < m) := by
  intro b
  induction hn : b.length generalizing b with
  | zero => intro m h; exact absurd (List.length_eq_zero_iff.1 hn) h
  | succ n ih =>
    intro m h0 hh hd
    obtain ⟨l, x, rfl⟩ : ∃ l x, b = l ++ [x] := ⟨b.dropLast, b.getLast h0, (List.dropLast_concat_getLast h0).symm⟩
    rw [decFrom_snoc] at hd
    cases hl : Lib.decFrom 0 l with
    | none => rw [hl] at hd; cases hd
    | some m' =>
      rw [hl] at hd
      cases hx : Lib.digitVal x with
      | none => rw [hx] at hd; cases hd
      | some d =>
        rw [hx] at hd
        obtain ⟨hd10, ex⟩ := digit_mk hx
        simp only [Option.bind_some, Option.map_some, Option.some.injEq] at hd
        by_cases hle : l = []
        · subst hle
          simp only [Lib.decFrom, Option.some.injEq] at hl
          subst hl
          have em : m = d := by omega
          subst em
          rw [Lib.decDigits, dif_pos hd10, ← ex]
          refine ⟨rfl, fun hne => ?_⟩
          rcases Nat.eq_zero_or_pos m with e | e
          · subst e; rw [ex] at hne; exact absurd rfl hne
          · exact e
        · have hlen : l.length = n := by simp at hn; exact hn
          have hln : 1 ≤ n := by cases l with | nil => exact absurd rfl hle | cons _ _ => simp at hlen; omega
          have hhl : l.head? ≠ some 48 := by
            rcases hh with h | h
            · rw [List.head?_append] at h
              cases hq : l.head? with
              | none => simp
              | some z => rw [hq] at h; exact h
            · simp at h; omega
          obtain ⟨i1, i2⟩ := ih l hlen m' hle (Or.inl hhl) hl
          have hpos := i2 hhl
          have e1 : m / 10 = m' := by omega
          have e2 : m % 10 = d := by omega
          rw [Lib.decDigits, dif_neg (by omega), e1, e2, i1, ← ex]
          exact ⟨rfl, fun _ => by omega⟩
theorem dec_head : ∀ m : Nat, ∃ d, d < 10 ∧ (0 < m → 0 < d) ∧ (Lib.decDigits m).head? = some (UInt8.ofNat (48 + d)) := by
  intro m
  induction m using Nat.strongRecOn with
  | _ m ih =>
    rw [Lib.decDigits]
    split
    · next h => exact ⟨m, h, fun h => h, rfl⟩
    · next h =>
      obtain ⟨d, h1, h2, h3⟩ := ih (m / 10) (by omega)
      exact ⟨d, h1, fun _ => h2 (by omega), by rw [List.head?_append, h3]; rfl⟩
theorem dec_mem : ∀ m : Nat, ∀ x ∈ Lib.decDigits m, 48 ≤ x.toNat ∧ x.toNat ≤ 57 := by
  intro m
  induction m using Nat.strongRecOn with
  | _ m ih =>
    have key : ∀ d, d < 10 → (UInt8.ofNat (48 + d)).toNat = 48 + d := fun d hd => by simp [UInt8.toNat_ofNat']; omega
    rw [Lib.decDigits]
    split
    · next h => intro x hx; simp only [List.mem_singleton] at hx; subst hx; rw [key m h]; omega
    · next h =>
      intro x hx
      rcases List.mem_append.1 hx with h1 | h1
      · exact ih (m / 10) (by omega) x h1
      · simp only [List.mem_singleton] at h1; subst h1; rw [key _ (by omega)]; omega
theorem dec_len : ∀ (k m : Nat), m < 10 ^ (k + 1) → (Lib.decDigits m).length ≤ k + 1
  | 0, m, h => by rw [Lib.decDigits, dif_pos (by omega)]; simp
  | k + 1, m, h => by
    rw [Lib.decDigits]
    split
    · simp
    · have := dec_len k (m / 10) (by rw [Nat.pow_succ] at h; omega)
      simp; omega
theorem dec_ne (m : Nat) : Lib.decDigits m ≠ [] := by
  obtain ⟨d, _, _, h⟩ := dec_head m
  intro e; rw [e] at h; cases h
/-- what the reference reads of a word behind its sign -/
def numB (neg : Bool) (b : List UInt8) : Option Int :=
  if b = [] ∨ 17 < b.length ∨ (b.head? = some 48 ∧ (1 < b.length ∨ neg = true)) then none
  else (Lib.decFrom 0 b).map fun (m : Nat) => if neg then -(m : Int) else (m : Int)
/-- what the reference reads of a word: a canonical numeral of at most 17 digits -/
def numR (w : List UInt8) : Option Int := if w.head? = some 45 then numB true w.tail else numB false w
theorem numR_itoa {w : List UInt8} {v : Int} (h : numR w = some v) : Lib.itoa v = w := by
  unfold numR at h
  split at h
  · next hw =>
    unfold numB at h
    split at h
    · cases h
    · next hc =>
      simp only [not_or, not_and] at hc
      cases hd : Lib.decFrom 0 w.tail with
      | none => rw [hd] at h; cases h
      | some m =>
        rw [hd] at h
        simp only [if_pos, Option.map_some, Option.some.injEq] at h
        have hh : w.tail.head? ≠ some 48 := fun e => (hc.2.2 e).2 trivial
        obtain ⟨e1, e2⟩ := dec_of_decFrom w.tail m hc.1 (Or.inl hh) hd
        have hp := e2 hh
        cases w with
        | nil => cases hw
        | cons a r =>
          simp only [List.head?_cons, Option.some.injEq] at hw
          subst hw
          subst h
          rw [itoa_ng _ (by omega), show (- -(m : Int)).toNat = m by omega, e1]; rfl
  · unfold numB at h
    split at h
    · cases h
    · next hc =>
      simp only [not_or, not_and] at hc
      cases hd : Lib.decFrom 0 w with
      | none => rw [hd] at h; cases h
      | some m =>
        rw [hd] at h
        simp only [Option.map_some, Option.some.injEq] at h
        have hh : w.head? ≠ some 48 ∨ w.length = 1 := by
          by_cases e : w.head? = some 48
          · right
            have := (hc.2.2 e).1
            have h0 : 0 < w.length := List.length_pos_iff.2 hc.1
            omega
          · exact Or.inl e
        obtain ⟨e1, _⟩ := dec_of_decFrom w m hc.1 hh hd
        have h' : (m : Int) = v := by simpa using h
        subst h'
        rw [itoa_nn _ (by omega), show (m : Int).toNat = m by omega, e1]
theorem numB_dec (neg : Bool) (m : Nat) (h : m < 10000000000000000) (hn : neg = true → 0 < m) : numB neg (Lib.decDigits m) = some (if neg then -(m : Int) else m) := by
  obtain ⟨d, h1, h2, h3⟩ := dec_head m
  have hl := dec_len 15 m (by omega)
  have hz : ∀ d, 0 < d → d < 10 → (UInt8.ofNat (48 + d)) ≠ 48 := fun d hd hd2 e => by
    have := congrArg UInt8.toNat e
    simp [UInt8.toNat_ofNat'] at this; omega
  unfold numB
  rw [if_neg, decFrom_dec]; · rfl
  simp only [not_or, not_and]
  refine ⟨dec_ne m, by omega, fun e => ?_⟩
  have hm0 : m = 0 := by
    rcases Nat.eq_zero_or_pos m with h0 | h0
    · exact h0
    · rw [h3] at e; exact absurd (Option.some.inj e) (hz d (h2 h0) h1)
  subst hm0
  refine ⟨by rw [Lib.decDigits, dif_pos (by omega)]; simp, fun e => absurd (hn e) (by omega)⟩
theorem numR_of_itoa (v : Int) (h0 : -1000000000 ≤ v) (h1 : v ≤ 1000000000) : numR (Lib.itoa v) = some v := by
  unfold numR
  by_cases hv : v < 0
  · rw [itoa_ng v hv, if_pos (show (45 :: Lib.decDigits (-v).toNat).head? = some 45 from rfl), List.tail_cons, numB_dec true _ (by omega) (fun _ => by omega)]
    simp; omega
  · rw [itoa_nn v (by omega)]
    have hh : (Lib.decDigits v.toNat).head? ≠ some 45 := by
      obtain ⟨d, h1, h2, h3⟩ := dec_head v.toNat
      rw [h3]; intro e
      have := congrArg UInt8.toNat (Option.some.inj e)
      simp [UInt8.toNat_ofNat'] at this; omega
    rw [if_neg hh, numB_dec false _ (by omega) (fun e => by cases e)]
    simp; omega
theorem atoi_of_itoa (v : Int) (h0 : -1000000000 ≤ v) (h1 : v ≤ 1000000000) : Lib.atoiAll (Lib.itoa v) = .ok v := by
  by_cases hv : v < 0
  · have hl := dec_len 9 (-v).toNat (by omega)
    rw [itoa_ng v hv, Lib.atoiAll_short _ (by simp; omega), Lib.atoi, if_pos (show ((45 : UInt8) == 45) = true from rfl)]
    unfold Lib.decNat
    rw [if_neg (by have := dec_ne (-v).toNat; cases h : Lib.decDigits (-v).toNat with | nil => exact absurd h this | cons _ _ => simp), decFrom_dec]
    simp only [Option.map_some, Lib.NumEnd.ofOption]
    congr 1; omega
  · have hl := dec_len 9 v.toNat (by omega)
    obtain ⟨d, h1, h2, h3⟩ := dec_head v.toNat
    rw [itoa_nn v (by omega), Lib.atoiAll_short _ (by omega)]
    have hdd := decFrom_dec v.toNat
    cases hd : Lib.decDigits v.toNat with
    | nil => exact absurd hd (dec_ne _)
    | cons b r =>
      rw [hd] at h3 hdd
      simp only [List.head?_cons, Option.some.injEq] at h3
      have hb : b.toNat = 48 + d := by rw [h3]; simp [UInt8.toNat_ofNat']; omega
      have n45 : ¬ (b == 45) = true := fun e => by have := congrArg UInt8.toNat (beq_iff_eq.1 e); simp at this; omega
      have n43 : ¬ (b == 43) = true := fun e => by have := congrArg UInt8.toNat (beq_iff_eq.1 e); simp at this; omega
      rw [Lib.atoi, if_neg n45, if_neg n43]
      unfold Lib.decNat
      rw [if_neg (by simp), hdd]
      simp only [Option.map_some, Lib.NumEnd.ofOption]
      congr 1; omega
theorem itoa_no_space (v : Int) : (32 : UInt8) ∉ Lib.itoa v := by
  have key : ∀ m, (32 : UInt8) ∉ Lib.decDigits m := fun m h => by have := (dec_mem m _ h).1; simp at this
  by_cases hv : v < 0
  · rw [itoa_ng v hv]; intro h
    rcases List.mem_cons.1 h with h | h
    · cases h
    · exact key _ h
  · rw [itoa_nn v (by omega)]; exact key _
/-! the two parsers -/
def partQ (v : Int) : Option Int := if -1000000000 ≤ v ∧ v ≤ 1000000000 then some v else none
def numP (w : List UInt8) : Option Int := (numR w).bind partQ
def atP (w : List UInt8) : Option Int := match Lib.atoiAll w with
  | .ok v => partQ v
  | _ => none
def valsOf (f : List UInt8 → Option Int) (ws : List (List UInt8)) : List Int := ws.map fun w => (f w).getD 0
def allOk (f : List UInt8 → Option Int) (ws : List (List UInt8)) : Prop := ∀ w ∈ ws, (f w).isSome = true
theorem partQ_some {v u : Int} (h : partQ v = some u) : u = v ∧ -1000000000 ≤ v ∧ v ≤ 1000000000 := by
  unfold partQ at h; split at h
  · next h2 => exact ⟨(Option.some.inj h).symm, h2⟩
  · cases h
theorem numP_some {w : List UInt8} {u : Int} (h : numP w = some u) : Lib.itoa u = w ∧ -1000000000 ≤ u ∧ u ≤ 1000000000 := by
  unfold numP at h
  cases hr : numR w with
  | none => rw [hr] at h; cases h
  | some v =>
    rw [hr] at h
    obtain ⟨rfl, h2⟩ := partQ_some h
    exact ⟨numR_itoa hr, h2⟩
theorem atP_some {w : List UInt8} {u : Int} (h : atP w = some u) : -1000000000 ≤ u ∧ u ≤ 1000000000 := by
  unfold atP at h
  split at h
  · next v _ => obtain ⟨rfl, h2⟩ := partQ_some h; exact h2
  · cases h
theorem atP_of_numP {w : List UInt8} {u : Int} (h : numP w = some u) : atP w = some u := by
  obtain ⟨e, h1, h2⟩ := numP_some h
  unfold atP
  rw [← e, atoi_of_itoa u h1 h2]
  show partQ u = some u
  unfold partQ; rw [if_pos ⟨h1, h2⟩]
theorem numP_of_itoa {u : Int} (h1 : -1000000000 ≤ u) (h2 : u ≤ 1000000000) : numP (Lib.itoa u) = some u := by
  unfold numP; rw [numR_of_itoa u h1 h2]
  show partQ u = some u
  unfold partQ; rw [if_pos ⟨h1, h2⟩]
theorem vals_itoa (ws : List (List UInt8)) (h : allOk numP ws) : (valsOf numP ws).map Lib.itoa = ws := by
  unfold valsOf
  rw [List.map_map]
  conv => rhs; rw [← List.map_id ws]
  refine List.map_congr_left fun w hw => ?_
  obtain ⟨u, hu⟩ := Option.isSome_iff_exists.1 (h w hw)
  simp only [Function.comp, hu, Option.getD_some, id]
  exact (numP_some hu).1
theorem vals_same (ws : List (List UInt8)) (h : allOk numP ws) : valsOf atP ws = valsOf numP ws ∧ allOk atP ws := by
  refine ⟨List.map_congr_left fun w hw => ?_, fun w hw => ?_⟩
  all_goals obtain ⟨u, hu⟩ := Option.isSome_iff_exists.1 (h w hw)
  · rw [hu, atP_of_numP hu]
  · rw [atP_of_numP hu]; rfl
/-- THE PLAIN LAW: both parsers take the same texts -/
theorem parse_iff (l : List UInt8) : allOk numP (cutAt 32 l) ↔ (allOk atP (cutAt 32 l) ∧ numT (valsOf atP (cutAt 32 l)) = l) := by
  have hpos := cutAt_pos 32 l
  have hnt : ∀ vs : List Int, vs ≠ [] → numT vs = Lib.join (vs.map Lib.itoa) [32] := fun vs h => by
    unfold numT txt; rw [if_neg (by intro e; exact h (List.length_eq_zero_iff.1 e)), List.take_length]
  have hne : ∀ f, valsOf f (cutAt 32 l) ≠ [] := fun f e => by
    have := congrArg List.length e
    simp [valsOf] at this
    rw [this] at hpos; simp at hpos
  constructor
  · intro h
    obtain ⟨e1, e2⟩ := vals_same _ h
    refine ⟨e2, ?_⟩
    rw [e1, hnt _ (hne numP), vals_itoa _ h, join_cut]
  · rintro ⟨h1, h2⟩
    rw [hnt _ (hne atP)] at h2
    have h3 := cut_join 32 ((valsOf atP (cutAt 32 l)).map Lib.itoa) (by intro e; exact hne atP (List.map_eq_nil_iff.1 e)) (fun x hx => by
      obtain ⟨v, _, rfl⟩ := List.mem_map.1 hx
      exact itoa_no_space v)
    rw [h2] at h3
    intro w hw
    rw [h3] at hw
    obtain ⟨v, hv, rfl⟩ := List.mem_map.1 hw
    obtain ⟨w', hw', rfl⟩ := List.mem_map.1 hv
    obtain ⟨u, hu⟩ := Option.isSome_iff_exists.1 (h1 w' hw')
    have hb := atP_some hu
    rw [hu, Option.getD_some, numP_of_itoa hb.1 hb.2]; rfl
/-! what both parsers give -/
def okAll (f : List UInt8 → Option Int) (ws : List (List UInt8)) : Bool := ws.all fun w => (f w).isSome
theorem okAll_iff (f : List UInt8 → Option Int) (ws : List (List UInt8)) : okAll f ws = true ↔ allOk f ws := by
  unfold okAll allOk; rw [List.all_eq_true]
theorem cut_len (c : UInt8) : ∀ (l : List UInt8), ∀ w ∈ cutAt c l, w.length ≤ l.length
  | [], w, h => by simp [cutAt] at h; subst h; simp
  | b :: l, w, h => by
    have ih := cut_len c l
    have hp := cutAt_pos c l
    rw [cutAt] at h
    split at h
    · rcases List.mem_cons.1 h with rfl | h
      · simp
      · have := ih w h; simp; omega
    · cases hc : cutAt c l with
      | nil => rw [hc] at hp; simp at hp
      | cons x t =>
        rw [hc] at h ih
        rcases List.mem_cons.1 h with rfl | h
        · have := ih x (by simp); simp; omega
        · have := ih w (by simp [h]); simp; omega
theorem cut_count (c : UInt8) : ∀ (l : List UInt8), (cutAt c l).length ≤ l.length + 1
  | [] => by simp [cutAt]
  | b :: l => by
    have ih := cut_count c l
    have hp := cutAt_pos c l
    rw [cutAt]
    split
    · simp; omega
    · cases hc : cutAt c l with
      | nil => rw [hc] at hp; simp at hp
      | cons x t => rw [hc] at ih; simp at ih ⊢; omega
theorem vals_len (f : List UInt8 → Option Int) (ws : List (List UInt8)) : (valsOf f ws).length = ws.length := by simp [valsOf]
theorem vals_step (f : List UInt8 → Option Int) {ws : List (List UInt8)} {k : Nat} {w : List UInt8} {v : Int} (h : ws[k]? = some w) (hv : f w = some v) : valsOf f (ws.take (k + 1)) = valsOf f (ws.take k) ++ [v] := by
  unfold valsOf
  rw [List.take_add_one, h, List.map_append]
  simp [hv]
theorem ok_step {f : List UInt8 → Option Int} {ws : List (List UInt8)} {k : Nat} {w : List UInt8} {v : Int} (h : ws[k]? = some w) (hv : f w = some v) (ho : okAll f (ws.take k) = true) : okAll f (ws.take (k + 1)) = true := by
  unfold okAll at *
  rw [List.take_add_one, h, List.all_append, ho]
  simp [hv]
theorem ok_bad {f : List UInt8 → Option Int} {ws : List (List UInt8)} {k : Nat} {w : List UInt8} (h : ws[k]? = some w) (hv : f w = none) : okAll f ws = false := by
  unfold okAll
  rw [List.all_eq_false]
  exact ⟨w, List.mem_of_getElem? h, by simp [hv]⟩
/-- what a text of numbers reads as -/
def parseR (l : List UInt8) : Option (List Int) := if okAll numP (cutAt 32 l) = true ∧ (cutAt 32 l).length ≤ 16 then some (valsOf numP (cutAt 32 l)) else none
theorem parseR_bad {l : List UInt8} {k : Nat} {w : List UInt8} (h : (cutAt 32 l)[k]? = some w) (hv : numP w = none) : parseR l = none := by
  unfold parseR; rw [if_neg]; rintro ⟨h1, _⟩; rw [ok_bad h hv] at h1; cases h1
theorem parseR_long {l : List UInt8} (h : 16 < (cutAt 32 l).length) : parseR l = none := by
  unfold parseR; rw [if_neg]; rintro ⟨_, h1⟩; omega
theorem parseR_good {l : List UInt8} (h : okAll numP (cutAt 32 l) = true) (hl : (cutAt 32 l).length ≤ 16) : parseR l = some (valsOf numP (cutAt 32 l)) := by
  unfold parseR; rw [if_pos ⟨h, hl⟩]
theorem parseR_len (l : List UInt8) : ((parseR l).getD []).length ≤ 16 := by
  unfold parseR; split
  · next h => simp [vals_len]; exact h.2
  · simp
theorem parseA_bad {l : List UInt8} {k : Nat} {w : List UInt8} (h : (cutAt 32 l)[k]? = some w) (hv : atP w = none) : parseR l = none := by
  refine parseR_bad h ?_
  cases hn : numP w with
  | none => rfl
  | some u => rw [atP_of_numP hn] at hv; cases hv
theorem parseA_good {l : List UInt8} (h : okAll atP (cutAt 32 l) = true) (hl : (cutAt 32 l).length ≤ 16) (ht : numT (valsOf atP (cutAt 32 l)) = l) : parseR l = some (valsOf atP (cutAt 32 l)) := by
  have h1 := (parse_iff l).2 ⟨(okAll_iff _ _).1 h, ht⟩
  rw [parseR_good ((okAll_iff _ _).2 h1) hl, (vals_same _ h1).1]
theorem parseA_odd {l : List UInt8} (ht : numT (valsOf atP (cutAt 32 l)) ≠ l) : parseR l = none := by
  unfold parseR; rw [if_neg]; rintro ⟨h1, _⟩
  exact ht ((parse_iff l).1 ((okAll_iff _ _).1 h1)).2
theorem vals_bound (ws : List (List UInt8)) : ∀ k, k < (valsOf atP ws).length → -9223372036854775808 ≤ nth (valsOf atP ws) k ∧ nth (valsOf atP ws) k ≤ 9223372036854775807 := by
  intro k hk
  rw [nth_eq _ _ hk]
  have hkw : k < ws.length := by simpa [valsOf] using hk
  have e : (valsOf atP ws)[k] = (atP ws[k]).getD 0 := by simp [valsOf]
  rw [e]
  cases hv : atP ws[k] with
  | none => simp
  | some u => have := atP_some hv; simp; omega
theorem numP_none1 {w : List UInt8} (h : numR w = none) : numP w = none := by unfold numP; rw [h]; rfl
theorem numP_none2 {w : List UInt8} {v : Int} (h : numR w = some v) (hv : inB (-1000000000) 1000000000 v = false) : numP w = none := by
  unfold numP; rw [h]; show partQ v = none; unfold partQ; rw [if_neg]; intro h2; unfold inB at hv; simp at hv; omega
theorem numP_some1 {w : List UInt8} {v : Int} (h : numR w = some v) (hv : inB (-1000000000) 1000000000 v = true) : numP w = some v := by
  unfold numP; rw [h]; show partQ v = some v; unfold partQ; rw [if_pos]; unfold inB at hv; simp at hv; omega
theorem atP_none1 {w : List UInt8} (h : ∀ v, Lib.atoiAll w ≠ .ok v) : atP w = none := by
  unfold atP; split
  · next v hv => exact absurd hv (h v)
  · rfl
theorem atP_none2 {w : List UInt8} {v : Int} (h : Lib.atoiAll w = .ok v) (hv : inB (-1000000000) 1000000000 v = false) : atP w = none := by
  unfold atP; rw [h]; show partQ v = none; unfold partQ; rw [if_neg]; intro h2; unfold inB at hv; simp at hv; omega
theorem atP_some1 {w : List UInt8} {v : Int} (h : Lib.atoiAll w = .ok v) (hv : inB (-1000000000) 1000000000 v = true) : atP w = some v := by
  unfold atP; rw [h]; show partQ v = some v; unfold partQ; rw [if_pos]; unfold inB at hv; simp at hv; omega
end Go.Proofs.YtobeeomeebicnaaDoor
