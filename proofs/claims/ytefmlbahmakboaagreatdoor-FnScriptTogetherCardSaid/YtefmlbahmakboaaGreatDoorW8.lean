/- Acts compared: sums of gains, lessAct, BeatsAct both. Acts compared: lowestSum, l12Low, l12Beats, BeatsAct both. -/
import Derived.Test.YtefmlbahmakboaaGreatDoorW6
import Derived.Test.YtefmlbahmakboaaGreatDoorS2
set_option linter.unusedSimpArgs false
set_option linter.unusedVariables false
namespace Go.Proofs.YtefmlbahmakboaaGreatDoor
open Go.RowKit
/-- the best of the first k gains that a set has, and whether it has one -/
def bestTo (ch : Int → Int → Int) (gs : List Int) (a k : Nat) : Int × Bool := iter (fun x b => if hasB a x then (if b.2 then ch b.1 (nth gs x) else nth gs x, true) else b) (0, false) k
def gainTo (ch : Int → Int → Int) (xs gs : List Int) (k : Nat) : Int := iter (fun a t => t + nth xs a * (bestTo ch gs a gs.length).1) 0 k
/-- all parts, each as often as the best gain of its set -/
def gainSum (ch : Int → Int → Int) (xs gs : List Int) : Int := gainTo ch xs gs xs.length
def inG (x : Int) : Prop := -2000 ≤ x ∧ x ≤ 2000
theorem bestTo_bd (ch : Int → Int → Int) (hch : ∀ x y, inG x → inG y → inG (ch x y)) (gs : List Int) (n : Nat) (h : ∀ k, k < n → inG (nth gs k)) (a k : Nat) (hk : k ≤ n) : inG (bestTo ch gs a k).1 := by
  induction k with
  | zero => exact (⟨by decide, by decide⟩ : inG 0)
  | succ k ih =>
    have h1 := ih (by omega)
    have h2 := h k (by omega)
    show inG (if hasB a k then (if (bestTo ch gs a k).2 then ch (bestTo ch gs a k).1 (nth gs k) else nth gs k, true) else bestTo ch gs a k).1
    split
    · show inG (if (bestTo ch gs a k).2 then _ else _)
      split
      · exact hch _ _ h1 h2
      · exact h2
    · exact h1
theorem mul_bd (p b : Int) (h0 : 0 ≤ p) (h1 : p ≤ 1000000) (h2 : -2000 ≤ b) (h3 : b ≤ 2000) : -2000000000 ≤ p * b ∧ p * b ≤ 2000000000 := by
  have e1 : p * b ≤ p * 2000 := Int.mul_le_mul_of_nonneg_left h3 h0
  have e2 : p * (-2000) ≤ p * b := Int.mul_le_mul_of_nonneg_left h2 h0
  omega
theorem gainTo_bd (ch : Int → Int → Int) (hch : ∀ x y, inG x → inG y → inG (ch x y)) (xs gs : List Int) (n : Nat) (hx : ∀ k, k < n → 0 ≤ nth xs k ∧ nth xs k ≤ 1000000) (h : ∀ k, k < gs.length → inG (nth gs k)) (k : Nat) (hk : k ≤ n) :
    -2000000000 * (k : Int) ≤ gainTo ch xs gs k ∧ gainTo ch xs gs k ≤ 2000000000 * (k : Int) := by
  induction k with
  | zero => exact ⟨by simp [gainTo, iter], by simp [gainTo, iter]⟩
  | succ k ih =>
    have h1 := ih (by omega)
    have h2 := hx k (by omega)
    have h3 := bestTo_bd ch hch gs gs.length h k gs.length (Nat.le_refl _)
    have h4 := mul_bd _ _ h2.1 h2.2 h3.1 h3.2
    show _ ≤ gainTo ch xs gs k + nth xs k * (bestTo ch gs k gs.length).1 ∧ gainTo ch xs gs k + nth xs k * (bestTo ch gs k gs.length).1 ≤ _
    push_cast
    omega
/-- one act's gains less another's -/
def subTo (f g : List Int) (k : Nat) : List Int := iter (fun j l => l ++ [nth f j - nth g j]) [] k
theorem subTo_len (f g : List Int) (k : Nat) : (subTo f g k).length = k := by
  induction k with
  | zero => rfl
  | succ k ih => show (subTo f g k ++ [_]).length = _; rw [List.length_append, ih]; rfl
theorem subTo_nth (f g : List Int) (k j : Nat) (h : j < k) : nth (subTo f g k) j = nth f j - nth g j := by
  induction k with
  | zero => omega
  | succ k ih =>
    show nth (subTo f g k ++ [nth f k - nth g k]) j = _
    by_cases e : j < k
    · rw [nth_append_left _ _ _ (by rw [subTo_len]; exact e)]; exact ih e
    · have e2 : j = k := by omega
      subst e2
      have hl := subTo_len f g j
      rw [nth_eq _ _ (by simp [hl])]
      simp [hl]
set_option maxHeartbeats 1000000 in
theorem sumOfGains_any (s : Int) (ao bo : Option Addr) (n c m d : Nat) (xs gs : List Int) (fid : FuncId) (caps : Array Value) (ch : Int → Int → Int) (w : World) (hx : IntsAt w ao n xs) (hy : IntsAt w bo m gs)
    (hcf : ∀ (vs : Array Value) (w' : World), Sem.run Tryz.prog (callFunc fid vs) w' = .ok (.enter fid vs) w')
    (hto : ∀ (x y : Int) (w' : World), Calls Tryz.prog fid (#[.int .i64 x, .int .i64 y] ++ caps) w' fun e w'' => e = .returned (.int .i64 (ch x y)) ∧ w' = w'')
    (hch : ∀ x y, inG x → inG y → inG (ch x y)) (hn : n ≤ 16) (hm : m ≤ 29) (hxb : ∀ k, k < n → 0 ≤ nth xs k ∧ nth xs k ≤ 1000000) (hgb : ∀ k, k < m → inG (nth gs k)) :
    Calls Tryz.prog 111 #[.agg #[.int .i64 s, .slice ao n c], .slice bo m d, .func (.func fid) #[] caps] w fun e w' => e = .returned (.int .i64 (gainSum ch xs gs)) ∧ Below w.heap.size w w' := by
  have HX := hid hx.len
  have HY := hid hy.len
  have HTO := hid hto; clear hto
  have HCH := hid hch
  have HGB := hid hgb; clear hgb
  have HXB := hid hxb; clear hxb
  have HGS := hid (gainTo_bd ch HCH.out xs gs n HXB.out (fun k hk => HGB.out k (by rw [← HY.out]; exact hk)))
  have hBa := below_alloc w (.cells #[.int .i64 s, .slice ao n c] 25)
  clear hch
  go_enter Tryz.func111, Tryz.ntmps111
  go_wp2
  go_loop [7, 17] (fun t i => ∃ k : Nat, k ≤ n ∧ i = .int .i64 k ∧ t = .int .i64 (gainTo ch xs gs k)) (fun _ i => n - (intOf i).toNat)
  case atStart => exact ⟨0, by omega, rfl, rfl⟩
  case round =>
    obtain ⟨k, hk, rfl, rfl⟩ := hrel
    by_cases hlt : k < n
    · obtain ⟨b, off, rfl, hbs, hbs', hck⟩ := hx.at hBa hlt
      have hp := HXB.out k hlt
      go_wp2
      go_loop [10, 11, 24] (fun bst sm j => ∃ q : Nat, q ≤ m ∧ j = .int .i64 q ∧ bst = .int .i64 (bestTo ch gs k q).1 ∧ sm = .bool (bestTo ch gs k q).2) (fun _ _ j => m - (intOf j).toNat)
      case atStart => exact ⟨0, by omega, rfl, rfl, rfl⟩
      case round =>
        obtain ⟨q, hq, rfl, rfl, rfl⟩ := hrel
        by_cases hqt : q < m
        · obtain ⟨b2, off2, rfl, hbs2, hbs2', hck2⟩ := hy.at hBa hqt
          have hand := and_one k q (by omega)
          have hg := HGB.out q hqt
          have HS : Hid (bestTo ch gs k (q + 1) = if hasB k q then (if (bestTo ch gs k q).2 then ch (bestTo ch gs k q).1 (nth gs q) else nth gs q, true) else bestTo ch gs k q) := rfl
          cases ht : hasB k q
          · have ht' : k.testBit q = false := ht
            go_wp2
            go_round
            case rel => first | exact ⟨q + 1, by omega, by go_num, by rw [HS.out, ht]; rfl, by rw [HS.out, ht]; rfl⟩ | exact ⟨_, ⟨q + 1, by omega, by go_num, by rw [HS.out, ht]; rfl, by rw [HS.out, ht]; rfl⟩, rfl⟩ | exact ⟨_, _, ⟨q + 1, by omega, by go_num, by rw [HS.out, ht]; rfl, by rw [HS.out, ht]; rfl⟩, rfl, rfl⟩ | exact ⟨_, _, _, ⟨q + 1, by omega, by go_num, by rw [HS.out, ht]; rfl, by rw [HS.out, ht]; rfl⟩, rfl, rfl, rfl⟩ | exact ⟨_, _, _, _, ⟨q + 1, by omega, by go_num, by rw [HS.out, ht]; rfl, by rw [HS.out, ht]; rfl⟩, rfl, rfl, rfl, rfl⟩ | exact ⟨_, _, _, _, _, ⟨q + 1, by omega, by go_num, by rw [HS.out, ht]; rfl, by rw [HS.out, ht]; rfl⟩, rfl, rfl, rfl, rfl, rfl⟩
            case measure => simp [intOf]; omega
          · have ht' : k.testBit q = true := ht
            cases hsm : (bestTo ch gs k q).2
            · go_wp2
              go_round
              case rel => first | exact ⟨q + 1, by omega, by go_num, by rw [HS.out, ht, hsm]; rfl, by rw [HS.out, ht, hsm]; rfl⟩ | exact ⟨_, ⟨q + 1, by omega, by go_num, by rw [HS.out, ht, hsm]; rfl, by rw [HS.out, ht, hsm]; rfl⟩, rfl⟩ | exact ⟨_, _, ⟨q + 1, by omega, by go_num, by rw [HS.out, ht, hsm]; rfl, by rw [HS.out, ht, hsm]; rfl⟩, rfl, rfl⟩ | exact ⟨_, _, _, ⟨q + 1, by omega, by go_num, by rw [HS.out, ht, hsm]; rfl, by rw [HS.out, ht, hsm]; rfl⟩, rfl, rfl, rfl⟩ | exact ⟨_, _, _, _, ⟨q + 1, by omega, by go_num, by rw [HS.out, ht, hsm]; rfl, by rw [HS.out, ht, hsm]; rfl⟩, rfl, rfl, rfl, rfl⟩ | exact ⟨_, _, _, _, _, ⟨q + 1, by omega, by go_num, by rw [HS.out, ht, hsm]; rfl, by rw [HS.out, ht, hsm]; rfl⟩, rfl, rfl, rfl, rfl, rfl⟩
              case measure => simp [intOf]; omega
            · go_wp2_with fail
              refine (HTO.out _ _ _).mono ?_; rintro e w3 ⟨rfl, rfl⟩
              go_wp2
              go_round
              case rel => first | exact ⟨q + 1, by omega, by go_num, by rw [HS.out, ht, hsm]; rfl, by rw [HS.out, ht, hsm]; rfl⟩ | exact ⟨_, ⟨q + 1, by omega, by go_num, by rw [HS.out, ht, hsm]; rfl, by rw [HS.out, ht, hsm]; rfl⟩, rfl⟩ | exact ⟨_, _, ⟨q + 1, by omega, by go_num, by rw [HS.out, ht, hsm]; rfl, by rw [HS.out, ht, hsm]; rfl⟩, rfl, rfl⟩ | exact ⟨_, _, _, ⟨q + 1, by omega, by go_num, by rw [HS.out, ht, hsm]; rfl, by rw [HS.out, ht, hsm]; rfl⟩, rfl, rfl, rfl⟩ | exact ⟨_, _, _, _, ⟨q + 1, by omega, by go_num, by rw [HS.out, ht, hsm]; rfl, by rw [HS.out, ht, hsm]; rfl⟩, rfl, rfl, rfl, rfl⟩ | exact ⟨_, _, _, _, _, ⟨q + 1, by omega, by go_num, by rw [HS.out, ht, hsm]; rfl, by rw [HS.out, ht, hsm]; rfl⟩, rfl, rfl, rfl, rfl, rfl⟩
              case measure => simp [intOf]; omega
        · have hqm : q = m := by omega
          have HQ := hid hqm
          clear hqm
          have HB : Hid (bestTo ch gs k q = bestTo ch gs k gs.length) := by show bestTo ch gs k q = _; rw [HQ.out, HY.out]
          have hbd := bestTo_bd ch HCH.out gs m HGB.out k q (by omega)
          have hbl := hbd.1
          have hbu := hbd.2
          have hmul := mul_bd _ _ hp.1 hp.2 hbl hbu
          have hs := HGS.out k (by omega)
          have HN : Hid (gainTo ch xs gs (k + 1) = gainTo ch xs gs k + nth xs k * (bestTo ch gs k q).1) := by rw [HB.out]; rfl
          have hk16 : (k : Int) ≤ 16 := by omega
          clear hbd
          go_wp2
          go_round
          case rel => first | exact ⟨k + 1, by omega, by go_num, by rw [HN.out]⟩ | exact ⟨_, ⟨k + 1, by omega, by go_num, by rw [HN.out]⟩, rfl⟩ | exact ⟨_, _, ⟨k + 1, by omega, by go_num, by rw [HN.out]⟩, rfl, rfl⟩ | exact ⟨_, _, _, ⟨k + 1, by omega, by go_num, by rw [HN.out]⟩, rfl, rfl, rfl⟩ | exact ⟨_, _, _, _, ⟨k + 1, by omega, by go_num, by rw [HN.out]⟩, rfl, rfl, rfl, rfl⟩ | exact ⟨_, _, _, _, _, ⟨k + 1, by omega, by go_num, by rw [HN.out]⟩, rfl, rfl, rfl, rfl, rfl⟩
          case measure => simp [intOf]; omega
    · have hkn : k = n := by omega
      have HE : Hid (gainTo ch xs gs k = gainSum ch xs gs) := by show gainTo ch xs gs k = gainTo ch xs gs xs.length; rw [hkn, HX.out]
      clear hkn
      go_wp2
      go_ret
      exact ⟨by rw [← HE.out]; rfl, hBa⟩
set_option maxHeartbeats 400000 in
theorem lessAct_any (ao bo : Option Addr) (n c d : Nat) (f g : List Int) (w : World) (hx : IntsAt w ao n f) (hy : IntsAt w bo n g) (hn : n ≤ 100) (hfb : ∀ k, k < n → -1000 ≤ nth f k ∧ nth f k ≤ 1000) (hgb : ∀ k, k < n → -1000 ≤ nth g k ∧ nth g k ≤ 1000) :
    Calls Tryz.prog 69 #[.slice ao n c, .slice bo n d] w fun e w' => ∃ v, e = .returned v ∧ Row w' w.heap.size v (subTo f g n) ∧ Below w.heap.size w w' := by
  have HFB := hid hfb; clear hfb
  have HGB := hid hgb; clear hgb
  go_enter Tryz.func69, Tryz.ntmps69
  go_wp2
  go_loopw [5, 6, 10] (fun o _ i wr => ∃ (k : Nat) (v : Value), k ≤ n ∧ i = .int .i64 k ∧ o = v ∧ Row wr w.heap.size v (subTo f g k) ∧ Below w.heap.size w wr) (fun o _ i _ => n - (intOf i).toNat)
  case atStart =>
    refine ⟨0, _, by omega, rfl, rfl, ?_, below_alloc _ _⟩
    exact World.ownsRow_lit w #[] 0 (Nat.le_refl _) (by unfold maxLen; omega) rfl
  case round =>
    obtain ⟨k, v, hk, rfl, rfl, hrow, hB⟩ := hrel
    by_cases hlt : k < n
    · obtain ⟨b, off, rfl, hbs, hbs', hck⟩ := hx.at hB hlt
      obtain ⟨b2, off2, rfl, hbs2, hbs2', hck2⟩ := hy.at hB hlt
      have hf := HFB.out k hlt
      have hg := HGB.out k hlt
      have HLn := hid (subTo_len f g k)
      have hk0 : (0 : Int) ≤ (k : Int) := by omega
      have hk1 : (k : Int) < (n : Int) := by omega
      have hcap := hx.cap
      go_wp2
      go_region_law (refine step_append_int rfl _ _ rfl w.heap.size _ _ k HLn.out rfl (hrow.below ((Below.refl _ _).drew.alloc (Nat.le_refl _) _)) _ _ (nth f k - nth g k) rfl (by simp; first | done | (apply IntWalk.i64_in; omega)) (by omega) (by simp; have := hB.size; omega) ?_; intro g' c' w' hrow' hgrow)
      all_goals
        have HB' := hid (below_grownBy (B := w.heap.size) (hB.drew.alloc (by simp; have := hB.size; omega) _) (by simp; have := hB.size; omega) hgrow (fun b e => (hrow.block b e).1))
        clear hgrow hrow hB
        go_wp2
        go_roundw
        case rel => first | exact ⟨k + 1, _, by omega, by go_num, rfl, hrow', HB'.out⟩ | exact ⟨_, ⟨k + 1, _, by omega, by go_num, rfl, hrow', HB'.out⟩, rfl⟩ | exact ⟨_, _, ⟨k + 1, _, by omega, by go_num, rfl, hrow', HB'.out⟩, rfl, rfl⟩ | exact ⟨_, _, _, ⟨k + 1, _, by omega, by go_num, rfl, hrow', HB'.out⟩, rfl, rfl, rfl⟩ | exact ⟨_, _, _, _, ⟨k + 1, _, by omega, by go_num, rfl, hrow', HB'.out⟩, rfl, rfl, rfl, rfl⟩ | exact ⟨_, _, _, _, _, ⟨k + 1, _, by omega, by go_num, rfl, hrow', HB'.out⟩, rfl, rfl, rfl, rfl, rfl⟩
        case measure => simp [intOf]; omega
    · have hkn : k = n := by omega
      subst hkn
      go_wp2
      go_ret
      exact ⟨_, rfl, hrow, hB⟩
theorem minClos_any (x y : Int) (w : World) :
    Calls Tryz.prog 112 #[.int .i64 x, .int .i64 y] w fun e w' => e = .returned (.int .i64 (min x y)) ∧ w = w' := by
  go_enter Tryz.func112, Tryz.ntmps112
  go_wp2
  all_goals go_ret
  all_goals (refine ⟨ret_int ?_, rfl⟩; omega)
theorem minClos_call (vs : Array Value) (w' : World) : Sem.run Tryz.prog (callFunc 112 vs) w' = .ok (.enter 112 vs) w' := by
  have h1 : (Tryz.f112.name == "runtime.NumGoroutine") = false := by kernel_rfl
  have h2 : Tryz.f112.body.isNone = false := by kernel_rfl
  have h1' : ¬ Tryz.f112.name = "runtime.NumGoroutine" := by simpa using h1
  have h2' : ¬ Tryz.f112.body = none := by intro e; rw [e] at h2; simp at h2
  simp only [callFunc, Sem.run_bind, run_program, Result.andThen_ok, Tryz.func112, beq_iff_eq, Option.isNone_iff_eq_none, if_neg h1', if_neg h2', Sem.run_pure]
theorem min_inG (x y : Int) (h1 : inG x) (h2 : inG y) : inG (min x y) := by unfold inG at *; omega
theorem lowestSum_any (s : Int) (ao bo : Option Addr) (n c m d : Nat) (xs gs : List Int) (w : World) (hx : IntsAt w ao n xs) (hy : IntsAt w bo m gs)
    (hn : n ≤ 16) (hm : m ≤ 29) (hxb : ∀ k, k < n → 0 ≤ nth xs k ∧ nth xs k ≤ 1000000) (hgb : ∀ k, k < m → inG (nth gs k)) :
    Calls Tryz.prog 63 #[.agg #[.int .i64 s, .slice ao n c], .slice bo m d] w fun e w' => e = .returned (.int .i64 (gainSum min xs gs)) ∧ Below w.heap.size w w' := by
  have HXB := hid hxb; clear hxb
  have HGB := hid hgb; clear hgb
  go_enter Tryz.func63, Tryz.ntmps63
  go_wp2_with fail
  refine (sumOfGains_any s ao bo n c m d xs gs 112 #[] min _ (hx.below (below_alloc w _)) (hy.below (below_alloc w _)) minClos_call (fun x y w' => minClos_any x y w') min_inG hn hm HXB.out HGB.out).mono ?_; rintro e w1 ⟨rfl, hb1⟩
  obtain ⟨_, _, hB1⟩ := box2 hb1
  clear hb1
  go_wp2
  go_ret
  exact ⟨rfl, hB1⟩
theorem min_eq (x y : Int) : (if y < x then y else x) = min x y := by split <;> omega
def lowTo (gs : List Int) (a k : Nat) : Int := iter (fun x t => if hasB a x then min t (nth gs x) else t) 2000 k
theorem lowTo_bd (gs : List Int) (a n : Nat) (h : ∀ k, k < n → inG (nth gs k)) (k : Nat) (hk : k ≤ n) : inG (lowTo gs a k) := by
  induction k with
  | zero => exact (⟨by decide, by decide⟩ : inG 2000)
  | succ k ih =>
    have h1 := ih (by omega)
    have h2 := h k (by omega)
    show inG (if hasB a k then min (lowTo gs a k) (nth gs k) else lowTo gs a k)
    split
    · exact min_inG _ _ h1 h2
    · exact h1
theorem massOk_facts' {s : Int} {xs : List Int} (h : massOk s xs = true) : okSize s = true ∧ xs.length = nsets s ∧ xs.length ≤ 16 ∧ (∀ k, k < xs.length → 0 ≤ nth xs k ∧ nth xs k ≤ 1000000) ∧ 1 ≤ isum xs ∧ isum xs ≤ 1000000 ∧ gcdL xs = 1 := by
  simp only [massOk, Bool.and_eq_true, beq_iff_eq] at h
  obtain ⟨⟨⟨⟨h1, h2⟩, h3⟩, h4⟩, h5⟩ := h
  refine ⟨h1, h2, by have := nsets_le h1; omega, fun k hk => inB_iff.1 ((allN_iff _ _).1 h3 k hk), (inB_iff.1 h4).1, (inB_iff.1 h4).2, h5⟩
def lowSumTo (xs gs : List Int) (k : Nat) : Int := iter (fun a t => t + nth xs a * lowTo gs a gs.length) 0 k
theorem lowSumTo_bd (xs gs : List Int) (n : Nat) (hx : ∀ k, k < n → 0 ≤ nth xs k ∧ nth xs k ≤ 1000000) (h : ∀ k, k < gs.length → inG (nth gs k)) (k : Nat) (hk : k ≤ n) : -2000000000 * (k : Int) ≤ lowSumTo xs gs k ∧ lowSumTo xs gs k ≤ 2000000000 * (k : Int) := by
  induction k with
  | zero => exact ⟨by simp [lowSumTo, iter], by simp [lowSumTo, iter]⟩
  | succ k ih =>
    have h1 := ih (by omega)
    have h2 := hx k (by omega)
    have h3 := lowTo_bd gs k gs.length h gs.length (Nat.le_refl _)
    have h4 := mul_bd _ _ h2.1 h2.2 h3.1 h3.2
    show _ ≤ lowSumTo xs gs k + nth xs k * lowTo gs k gs.length ∧ lowSumTo xs gs k + nth xs k * lowTo gs k gs.length ≤ _
    push_cast
    omega
theorem best_low (gs : List Int) (a n : Nat) (h : ∀ k, k < n → inG (nth gs k)) (k : Nat) (hk : k ≤ n) :
    ((∀ j, j < k → hasB a j = false) ∧ bestTo min gs a k = (0, false) ∧ lowTo gs a k = 2000) ∨ bestTo min gs a k = (lowTo gs a k, true) := by
  induction k with
  | zero => exact .inl ⟨fun j hj => by omega, rfl, rfl⟩
  | succ k ih =>
    have hs : bestTo min gs a (k + 1) = if hasB a k then (if (bestTo min gs a k).2 then min (bestTo min gs a k).1 (nth gs k) else nth gs k, true) else bestTo min gs a k := rfl
    have hl : lowTo gs a (k + 1) = if hasB a k then min (lowTo gs a k) (nth gs k) else lowTo gs a k := rfl
    have hg := h k (by omega)
    unfold inG at hg
    cases ht : hasB a k
    · rw [ht] at hs hl
      rw [hs, hl]
      rcases ih (by omega) with ⟨h1, h2, h3⟩ | h1
      · refine .inl ⟨fun j hj => ?_, h2, h3⟩
        by_cases e : j = k
        · rw [e]; exact ht
        · exact h1 j (by omega)
      · exact .inr h1
    · rw [ht] at hs hl
      rw [hs, hl]
      rcases ih (by omega) with ⟨h1, h2, h3⟩ | h1
      · right
        rw [h2, h3]
        show (nth gs k, true) = (min 2000 (nth gs k), true)
        congr 1; omega
      · right; rw [h1]; rfl
theorem some_bit {a m : Nat} (h0 : a ≠ 0) (hm : a < 2 ^ m) : ∃ j, j < m ∧ hasB a j = true := by
  refine Classical.byContradiction fun hc => h0 (Nat.eq_of_testBit_eq fun i => ?_)
  rw [Nat.zero_testBit]
  by_cases hi : i < m
  · cases ht : a.testBit i
    · rfl
    · exact absurd ⟨i, hi, ht⟩ hc
  · exact Nat.testBit_lt_two_pow (Nat.lt_of_lt_of_le hm (Nat.pow_le_pow_right (by decide) (by omega)))
theorem gain_low (xs gs : List Int) (h0 : nth xs 0 = 0) (h : ∀ k, k < gs.length → inG (nth gs k)) (n : Nat) (hn : n ≤ 2 ^ gs.length) (k : Nat) (hk : k ≤ n) : gainTo min xs gs k = lowSumTo xs gs k := by
  induction k with
  | zero => rfl
  | succ k ih =>
    show gainTo min xs gs k + nth xs k * (bestTo min gs k gs.length).1 = lowSumTo xs gs k + nth xs k * lowTo gs k gs.length
    rw [ih (by omega)]
    by_cases e : k = 0
    · subst e; rw [h0, Int.zero_mul, Int.zero_mul]
    · rcases best_low gs k gs.length h gs.length (Nat.le_refl _) with ⟨h1, _, _⟩ | h1
      · obtain ⟨j, hj, hb⟩ := some_bit e (show k < 2 ^ gs.length by omega)
        rw [h1 j hj] at hb; cases hb
      · rw [h1]
def gainOkN (s : Int) (gs : List Int) : Bool := gainsOk s gs
/-- the first act's least mean is beyond the other's at every corner -/
def beatsM (s : Int) (xs f g : List Int) : Bool := normalOk s xs && (gainsOk s f && (gainsOk s g && decide (0 < lowSumTo xs (subTo f g f.length) xs.length)))
theorem gainsOk_facts {s : Int} {gs : List Int} (h : gainsOk s gs = true) : (gs.length : Int) = s ∧ ∀ k, k < gs.length → -1000 ≤ nth gs k ∧ nth gs k ≤ 1000 := by
  simp only [gainsOk, Bool.and_eq_true, beq_iff_eq] at h
  exact ⟨h.1, fun k hk => inB_iff.1 ((allN_iff _ _).1 h.2 k hk)⟩
theorem normalOk_facts {s : Int} {xs : List Int} (h : normalOk s xs = true) : massOk s xs = true ∧ nth xs 0 = 0 := by
  simpa [normalOk] using h
end Go.Proofs.YtefmlbahmakboaaGreatDoor
