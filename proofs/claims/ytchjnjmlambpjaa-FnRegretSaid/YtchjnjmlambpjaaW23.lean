/- The reference's greatest mean: MinusFraction, HighestMean. -/
import Derived.Test.YtchjnjmlambpjaaW22
set_option linter.unusedSimpArgs false
set_option linter.unusedVariables false
namespace Go.Proofs.Ytchjnjmlambpjaa
open Go.RowKit
theorem fracOk_neg (a b : Int) : fracOk (-a) b = fracOk a b := by
  rw [Bool.eq_iff_iff]
  simp only [fracOk, Bool.and_eq_true, inB_iff, Int.neg_gcd]
  constructor
  · rintro ⟨⟨h1, h2⟩, h3⟩; exact ⟨⟨by omega, by omega⟩, h3⟩
  · rintro ⟨⟨h1, h2⟩, h3⟩; exact ⟨⟨by omega, by omega⟩, h3⟩
theorem redF_neg (n w : Int) : redF (-n) w = ⟨-(redF n w).num, (redF n w).den, (redF n w).ok⟩ := by
  have h1 : redD (-n) w = redD n w := by unfold redD; rw [Int.neg_gcd]
  unfold redF
  rw [h1, Int.neg_tdiv, fracOk_neg]
  split
  · rfl
  · rfl
theorem redF_valid {n w : Int} (h : (redF n w).ok = true) : fracOk (redF n w).num (redF n w).den = true := by
  unfold redF at *
  split at h
  · rename_i h1; rw [if_pos h1]; exact h1
  · cases h
def clampN (x : Int) : Int := -(min (max x (-2000)) 2000)
def clampTo (gs : List Int) (k : Nat) : List Int := iter (fun j l => l ++ [clampN (nth gs j)]) [] k
theorem clampTo_len (gs : List Int) (k : Nat) : (clampTo gs k).length = k := by
  induction k with
  | zero => rfl
  | succ k ih => show (clampTo gs k ++ [_]).length = _; rw [List.length_append, ih]; rfl
theorem clampTo_nth (gs : List Int) (k j : Nat) (h : j < k) : nth (clampTo gs k) j = clampN (nth gs j) := by
  induction k with
  | zero => omega
  | succ k ih =>
    show nth (clampTo gs k ++ [clampN (nth gs k)]) j = _
    by_cases e : j < k
    · rw [nth_append_left _ _ _ (by rw [clampTo_len]; exact e)]; exact ih e
    · have e2 : j = k := by omega
      subst e2
      have hl := clampTo_len gs j
      rw [nth_eq _ _ (by simp [hl])]
      simp [hl]
theorem clamp_gains (s : Int) (gs : List Int) : gainsOk s (clampTo gs gs.length) = gainsOk s gs := by
  unfold gainsOk
  rw [clampTo_len]
  congr 1
  rw [Bool.eq_iff_iff, allN_iff, allN_iff]
  constructor
  · intro h k hk
    have := inB_iff.1 (h k hk)
    rw [clampTo_nth _ _ _ hk] at this
    unfold clampN at this
    exact inB_iff.2 (by omega)
  · intro h k hk
    have := inB_iff.1 (h k hk)
    show inB _ _ _ = true
    rw [clampTo_nth _ _ _ hk]
    unfold clampN
    exact inB_iff.2 (by omega)
theorem clamp_neg {s : Int} {gs : List Int} (h : gainsOk s gs = true) : clampTo gs gs.length = negTo gs gs.length := by
  obtain ⟨_, hb⟩ := gainsOk_facts h
  refine ext_nth _ _ (by rw [clampTo_len, negTo_len]) fun k hk => ?_
  rw [clampTo_len] at hk
  rw [clampTo_nth _ _ _ hk, negTo_nth _ _ _ hk]
  have := hb k hk
  unfold clampN; omega
/-- the greatest mean by the least one of turned gains -/
theorem meanH_turned (s : Int) (xs gs : List Int) : meanH s xs gs = if (meanM s xs (clampTo gs gs.length)).ok then ⟨-(meanM s xs (clampTo gs gs.length)).num, (meanM s xs (clampTo gs gs.length)).den, true⟩ else FR.no := by
  unfold meanH meanM
  rw [clamp_gains]
  cases h : (normalOk s xs && gainsOk s gs)
  · simp [FR.no]
  · rw [Bool.and_eq_true] at h
    simp only [if_true]
    rw [clamp_neg h.2, redF_neg]
    cases ho : (redF (sumF 1000 xs (negTo gs gs.length) xs.length) (isum xs)).ok
    · unfold redF at *
      split at ho
      · cases ho
      · rename_i h1; rw [if_neg h1]; simp [FR.no]
    · simp
theorem specMinusFraction_any (a b : Int) (w : World) (h : fracOk a b = true) :
    Calls Try.prog 90 #[.agg #[.int .i64 a, .int .i64 b]] w fun e w' => e = .returned (.tuple #[.agg #[.int .i64 (-a), .int .i64 b], .bool true]) ∧ Below w.heap.size w w' := by
  obtain ⟨a0, a1, b0, b1⟩ := frac_bd h
  have hng : IntKind.i64.wrap (-a) = -a := IntWalk.i64_in _ (by omega)
  go_enter Try.func90, Try.ntmps90
  go_wp2_with fail
  refine (FractionValid_any a b _).mono ?_; rw [h]; rintro e w1 ⟨rfl, hb⟩
  have q0 := keep hb (a := ⟨w.heap.size, 0, none⟩) (v := .int .i64 a) (by simp)
  have q1 := keep hb (a := ⟨w.heap.size, 1, none⟩) (v := .int .i64 b) (by simp)
  obtain ⟨h10, h11, f20, f21⟩ := boxG (w.heap.size + 1) hb (by simp)
  have hB1 : Below w.heap.size w w1 := Below.trans (by (repeat (first | exact Below.refl _ _ | assumption | refine Below.alloc ?_ (by first | omega | (simp <;> omega)) _ | refine Below.setCell ?_ (by first | omega | (simp <;> omega)) _ | refine Below.drew ?_ | refine below_drewN ?_))) (hb.mono (by simp <;> omega))
  clear hb
  go_wp2
  refine bodyPost_ret (v := .tuple #[.agg #[.int .i64 (-a), .int .i64 b], .bool true]) (by simp [results, Try.results90, go_sem, h10, h11, f20, f21]) rfl ⟨?_, ?_⟩
  · rfl
  · (repeat (first | exact Below.refl _ _ | assumption | refine Below.alloc ?_ (by first | omega | (simp <;> omega)) _ | refine Below.setCell ?_ (by first | omega | (simp <;> omega)) _ | refine Below.drew ?_ | refine below_drewN ?_))
set_option maxHeartbeats 1000000 in
theorem specHighestMean_any (s : Int) (ao bo : Option Addr) (n c m d : Nat) (xs gs : List Int) (w : World) (hx : IntsAt w ao n xs) (hy : IntsAt w bo m gs) (hm : m ≤ 100) :
    Calls Try.prog 38 #[.agg #[.int .i64 s, .slice ao n c], .slice bo m d] w fun e w' => e = .returned (.tuple #[.agg #[.int .i64 (meanH s xs gs).num, .int .i64 (meanH s xs gs).den], .bool (meanH s xs gs).ok]) ∧ Below w.heap.size w w' := by
  have HR := hid (meanH_turned s xs gs)
  rw [HR.out]
  obtain rfl : m = gs.length := hy.len.symm
  obtain ⟨N, hN⟩ : ∃ N, gs.length = N := ⟨_, rfl⟩
  rw [hN] at hy hm ⊢
  have hcap := hy.cap
  obtain ⟨r, hr⟩ : ∃ r, Hid (meanM s xs (clampTo gs N) = r) := ⟨_, rfl⟩
  rw [hr.out]
  obtain ⟨fr, hfr⟩ : ∃ fr : FR, Hid ((if r.ok then (⟨-r.num, r.den, true⟩ : FR) else FR.no) = fr) := ⟨_, rfl⟩
  rw [hfr.out]
  obtain ⟨w1, hw1⟩ : ∃ w1, (w.alloc (.cells #[.int .i64 s, .slice ao n c] 28)).alloc (.cells #[.int .i64 0, .int .i64 0] 49) = w1 := ⟨_, rfl⟩
  have hB1 : Below w.heap.size w w1 := by rw [← hw1]; (repeat (first | exact Below.refl _ _ | assumption | refine Below.alloc ?_ (by first | omega | (simp <;> omega)) _ | refine Below.setCell ?_ (by first | omega | (simp <;> omega)) _ | refine Below.drew ?_ | refine below_drewN ?_))
  have p0 : w1.cell? ⟨w.heap.size, 0, none⟩ = some (.int .i64 s) := by rw [← hw1]; simp
  have p1 : w1.cell? ⟨w.heap.size, 1, none⟩ = some (.slice ao n c) := by rw [← hw1]; simp
  have h10 : w1.cell? ⟨w.heap.size + 1, 0, none⟩ = some (.int .i64 0) := by rw [← hw1]; simp
  have h11 : w1.cell? ⟨w.heap.size + 1, 1, none⟩ = some (.int .i64 0) := by rw [← hw1]; simp
  have f20 : w1.frozen? ⟨w.heap.size + 1, 0, none⟩ = false := by rw [← hw1]; simp
  have f21 : w1.frozen? ⟨w.heap.size + 1, 1, none⟩ = false := by rw [← hw1]; simp
  have hz : w1.heap.size = w.heap.size + 1 + 1 := by rw [← hw1]; simp
  have hlit : Row ((((w.alloc (.cells #[.int .i64 s, .slice ao n c] 28)).alloc (.cells #[.int .i64 0, .int .i64 0] 49))).alloc (.cells #[] 3)) (w.heap.size + 1 + 1) (.slice (some ⟨w.heap.size + 1 + 1, 0, none⟩) 0 0) (clampTo gs 0) := by
    rw [hw1, ← hz]; exact World.ownsRow_lit w1 #[] 0 (Nat.le_refl _) (by unfold maxLen; omega) rfl
  have hBl : Below (w.heap.size + 1 + 1) w1 ((((w.alloc (.cells #[.int .i64 s, .slice ao n c] 28)).alloc (.cells #[.int .i64 0, .int .i64 0] 49))).alloc (.cells #[] 3)) := by rw [hw1, ← hz]; exact below_alloc _ _
  clear hw1
  go_enter Try.func38, Try.ntmps38
  go_wp2
  go_loopw [6, 7] (fun o i wr => ∃ (k : Nat) (v : Value), k ≤ N ∧ i = .int .i64 k ∧ o = v ∧ Row wr (w.heap.size + 1 + 1) v (clampTo gs k) ∧ Below (w.heap.size + 1 + 1) w1 wr) (fun o i _ => N - (intOf i).toNat)
  case atStart => exact ⟨0, _, by omega, rfl, rfl, hlit, hBl⟩
  case round =>
    obtain ⟨k, v, hk, rfl, rfl, hrow, hB⟩ := hrel
    have hBw : Below w.heap.size w wr := hB1.trans (hB.mono (by omega))
    have hzr := hB.size
    by_cases hlt : k < N
    · obtain ⟨b, off, rfl, hbs, hbs', hck⟩ := hy.at hBw hlt
      have HLn := hid (clampTo_len gs k)
      obtain ⟨q, hq⟩ : ∃ q, Hid (clampN (nth gs k) = q) := ⟨_, rfl⟩
      have hqb : -2000 ≤ min (max (nth gs k) (-2000)) 2000 ∧ min (max (nth gs k) (-2000)) 2000 ≤ 2000 := by omega
      have hqw : IntKind.i64.wrap (-(min (max (nth gs k) (-2000)) 2000)) = q := by rw [← hq.out]; exact IntWalk.i64_in _ (by omega)
      have HN : Hid (clampTo gs (k + 1) = clampTo gs k ++ [q]) := by show clampTo gs (k + 1) = _; rw [← hq.out]; rfl
      go_wp2_with (at_builtin; refine wpList_append_int rfl _ _ rfl (w.heap.size + 1 + 1) _ _ k HLn.out (by rfl) (hrow.below ((Below.refl _ _).alloc (Nat.le_refl _) _)) _ _ q (by rfl) (by simp; first | done | (have h_q := hq.out; unfold clampN at h_q; omega)) (by omega) (by simp; omega) ?_; intro g' c' w' hrow' hgrow)
      all_goals
        have HB' := hid (below_grownBy (B := w.heap.size + 1 + 1) (hB.alloc (by omega) _) (by simp; omega) hgrow (fun b e => (hrow.block b e).1))
        clear hgrow hrow hB
        go_roundw
        case rel => first | exact ⟨k + 1, _, by omega, by go_num, rfl, by rw [HN.out]; exact hrow', HB'.out⟩ | exact ⟨_, ⟨k + 1, _, by omega, by go_num, rfl, by rw [HN.out]; exact hrow', HB'.out⟩, rfl⟩ | exact ⟨_, _, ⟨k + 1, _, by omega, by go_num, rfl, by rw [HN.out]; exact hrow', HB'.out⟩, rfl, rfl⟩ | exact ⟨_, _, _, ⟨k + 1, _, by omega, by go_num, rfl, by rw [HN.out]; exact hrow', HB'.out⟩, rfl, rfl, rfl⟩ | exact ⟨_, _, _, _, ⟨k + 1, _, by omega, by go_num, rfl, by rw [HN.out]; exact hrow', HB'.out⟩, rfl, rfl, rfl, rfl⟩ | exact ⟨_, _, _, _, _, ⟨k + 1, _, by omega, by go_num, rfl, by rw [HN.out]; exact hrow', HB'.out⟩, rfl, rfl, rfl, rfl, rfl⟩
        case measure => simp [intOf]; omega
    · obtain rfl : k = N := by omega
      obtain ⟨av, nv, cv, rfl, hi⟩ := hrow.ints
      have q0 := keepB hB (by omega) p0
      have q1 := keepB hB (by omega) p1
      have g10 := keepB hB (by omega) h10
      have g11 := keepB hB (by omega) h11
      have gf20 : wr.frozen? ⟨w.heap.size + 1, 0, none⟩ = false := (World.frozen?_of_block (a := ⟨w.heap.size + 1, 0, none⟩) (hB.block (w.heap.size + 1) (by omega))).trans f20
      have gf21 : wr.frozen? ⟨w.heap.size + 1, 1, none⟩ = false := (World.frozen?_of_block (a := ⟨w.heap.size + 1, 1, none⟩) (hB.block (w.heap.size + 1) (by omega))).trans f21
      clear hrow h10 h11 f20 f21 p0 p1 hB
      go_wp2_with fail
      refine (specLowestMean_any s _ _ _ _ _ _ xs (clampTo gs k) _ (hx.below hBw) hi).mono ?_; rw [hr.out]; rintro e w3 ⟨rfl, hb3⟩
      have h10 := keep hb3 g10
      have h11 := keep hb3 g11
      have f20 := keepF hb3 g10 gf20
      have f21 := keepF hb3 g11 gf21
      have hB3 := chain hBw hb3
      clear hb3 g10 g11 gf20 gf21
      have hz3 := hB3.size
      cases ho : r.ok
      · go_wp2
        refine bodyPost_ret (v := .tuple #[.agg #[.int .i64 0, .int .i64 0], .bool false]) (by simp [results, Try.results38, go_sem, h10, h11, f20, f21]) rfl ⟨?_, ?_⟩
        · rw [← hfr.out, ho]; rfl
        · (repeat (first | exact Below.refl _ _ | assumption | refine Below.alloc ?_ (by first | omega | (simp <;> omega)) _ | refine Below.setCell ?_ (by first | omega | (simp <;> omega)) _ | refine Below.drew ?_ | refine below_drewN ?_))
      · have hv : fracOk r.num r.den = true := by
          have h1 := hr.out
          unfold meanM at h1
          split at h1
          · rw [← h1] at ho ⊢; exact redF_valid ho
          · rw [← h1] at ho; cases ho
        go_wp2_with fail
        refine (specMinusFraction_any r.num r.den _ hv).mono ?_; rintro e w4 ⟨rfl, hb4⟩
        have hz4 := hb4.size
        have hal := below_alloc w3 (.cells #[.int .i64 r.num, .int .i64 r.den] 49)
        have g10 := keep hb4 (keep hal h10)
        have g11 := keep hb4 (keep hal h11)
        have gf20 := keepF hb4 (keep hal h10) (keepF hal h10 f20)
        have gf21 := keepF hb4 (keep hal h11) (keepF hal h11 f21)
        clear hal
        have hB4 := Below.trans (hB3.alloc (by omega) _) (hb4.mono (by simp <;> omega))
        clear hb4 h10 h11 f20 f21
        go_wp2
        refine bodyPost_ret (v := .tuple #[.agg #[.int .i64 (-r.num), .int .i64 r.den], .bool true]) (by simp [results, Try.results38, go_sem, g10, g11, gf20, gf21]) rfl ⟨?_, ?_⟩
        · rw [← hfr.out, ho]; rfl
        · (repeat (first | exact Below.refl _ _ | assumption | refine Below.alloc ?_ (by first | omega | (simp <;> omega)) _ | refine Below.setCell ?_ (by first | omega | (simp <;> omega)) _ | refine Below.drew ?_ | refine below_drewN ?_))
end Go.Proofs.Ytchjnjmlambpjaa
