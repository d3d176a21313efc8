/- The chance of the least mean: the reference's WorstChance. -/
import Derived.Test.YtchjnjmlambpjaaW28
import Derived.Test.YtchjnjmlambpjaaW25
import Derived.Test.YtchjnjmlambpjaaL2
import Derived.Maps.AppendAt
set_option linter.unusedSimpArgs false
set_option linter.unusedVariables false
namespace Go.Proofs.Ytchjnjmlambpjaa
open Go.RowKit
/-- at a step of a drawn region: integers that are read appended to owned ones -/
theorem step_append_ints {w : World} {ops : Array Oper} {o : Oper} {a : Act} {K : Act → World → Prop} {Q : Exit → Act → World → Prop} {E : Prop} (hgd : o.guard = none) (s x : Operand)
    (ho : o.op = .call { callee := .builtin .append, args := #[s, x], argTypes := #[22, 22] })
    (base : Nat) (v : Value) (xs : List Int) (n : Nat) (hl : xs.length = n) (hs : a.eval s = v) (hown : Row w base v xs)
    (ad : Addr) (m c : Nat) (ys : List Int) (hx : a.eval x = .slice (some ad) m c) (hly : ys.length = m) (hnew : ∀ j, j < m → w.cell? (ad.add j) = some (.int .i64 (nth ys j)))
    (hn : n + m < 1000000000) (hbase : base ≤ w.heap.size) (t : Nat) (ht : n + m = t)
    (h : ∀ ag cap w', Row w' base (.slice ag t cap) (xs ++ ys) → w.grownBy w' v.ownBlock → K (a.put o.dst (.slice ag t cap)) w') :
    if Region.wanted o (yielded ops a.tmps) = true then Oper.wp Try.prog o a w K Q else E := by
  have hw : Region.wanted o (yielded ops a.tmps) = true := by simp [Region.wanted, hgd]
  rw [if_pos hw]
  obtain ⟨i0, hi, hz0, hz1, hz2⟩ := info_parts info_int
  subst hl hly ht
  obtain ⟨v', w', hr, h2, h3, h4, h5⟩ := run_append_own_at (P := Try.prog) (w := w) base 22 o.type 3 i0 (.int .i64 0) 1 8 Try.underlying22 hi hz0 hz1 hz2 rfl (by decide) v xs.length (xs.map (Value.int .i64)) hown ad ys.length c (ys.map (Value.int .i64)) (by simp) (fun j u hu => by
    rw [List.getElem?_map] at hu
    by_cases hj : j < ys.length
    · rw [List.getElem?_eq_getElem hj] at hu
      simp at hu
      rw [hnew j hj, nth_eq _ _ hj, hu]
    · rw [List.getElem?_eq_none (by omega)] at hu; simp at hu) (fun u hu => by simp at hu; obtain ⟨q, _, rfl⟩ := hu; rfl) (by unfold maxLen; omega) (by omega) hbase
  have hrow : Row w' base v' (xs ++ ys) := by simpa [Row] using h2
  obtain ⟨ag, ng, cg, e, hi2⟩ := hrow.ints
  have hng : ng = xs.length + ys.length := by rw [← hi2.len, List.length_append]
  subst e
  rw [hng] at hrow hr
  unfold Oper.wp execOp
  simp only [ho, resolve, invoke, builtin, Sem.run_bind, Sem.run_pure, Result.andThen_ok, List.map_toArray, List.map_cons, List.map_nil, hs, hx, hr]
  exact h ag cg w' hrow h3
theorem one_new {w : World} {B : Nat} {k : Int} (h : w.cell? ⟨B, 0, none⟩ = some (.int .i64 k)) : ∀ j, j < 1 → w.cell? ((⟨B, 0, none⟩ : Addr).add j) = some (.int .i64 (nth [k] j)) := fun j hj => by
  obtain rfl : j = 0 := by omega
  rw [add_at, h]; rfl
theorem newCell (w : World) (v : Value) (t : TypeId) : (w.alloc (.cells #[v] t)).cell? ⟨w.heap.size, 0, none⟩ = some v := by simp
/-- behind an append to an owned list from block B0 on -/
theorem grown_from {w X w4 : World} {v : Value} (hX : Below w.heap.size w X) (hv : ∀ b, v.ownBlock = some b → w.heap.size ≤ b) (hg : X.grownBy w4 v.ownBlock) : Below w.heap.size w w4 := below_grownBy hX hX.size hg hv
theorem row0 {w : World} {A base : Nat} (h : w.heap[A]? = some (.cells #[] 3 (0, 0))) (hb : base ≤ A) : Row w base (.slice (some ⟨A, 0, none⟩) 0 0) [] :=
  ⟨by simp, .inr ⟨A, 0, #[], rfl, hb, h, Nat.le_refl _, by unfold maxLen; omega, rfl, rfl⟩⟩
set_option maxHeartbeats 4000000 in
theorem specWorstChance_any (s : Int) (ao bo : Option Addr) (n c m d : Nat) (xs gs : List Int) (w : World) (hx : IntsAt w ao n xs) (hy : IntsAt w bo m gs) :
    Calls Try.prog 21 #[.agg #[.int .i64 s, .slice ao n c], .slice bo m d] w fun e w' => RetM (worstM s xs gs) w.heap.size e w' ∧ Below w.heap.size w w' := by
  have hcap := hy.cap
  obtain ⟨W, HW⟩ : ∃ W, Hid ((w.alloc (.cells #[.int .i64 s, .slice ao n c] 28)).alloc (.cells #[.int .i64 0, .slice none 0 0] 28) = W) := ⟨_, rfl⟩
  have hB0 : Below w.heap.size w W := by rw [← HW.out]; (repeat (first | exact Below.refl _ _ | assumption | refine Below.alloc ?_ (by first | omega | (simp <;> omega)) _ | refine Below.setCell ?_ (by first | omega | (simp <;> omega)) _ | refine Below.drew ?_ | refine below_drewN ?_))
  have hp0 : W.cell? ⟨w.heap.size, 0, none⟩ = some (.int .i64 s) := by rw [← HW.out]; simp
  have hp1 : W.cell? ⟨w.heap.size, 1, none⟩ = some (.slice ao n c) := by rw [← HW.out]; simp
  have h10 : W.cell? ⟨w.heap.size + 1, 0, none⟩ = some (.int .i64 0) := by rw [← HW.out]; simp
  have h11 : W.cell? ⟨w.heap.size + 1, 1, none⟩ = some (.slice none 0 0) := by rw [← HW.out]; simp
  have f20 : W.frozen? ⟨w.heap.size + 1, 0, none⟩ = false := by rw [← HW.out]; simp
  have f21 : W.frozen? ⟨w.heap.size + 1, 1, none⟩ = false := by rw [← HW.out]; simp
  have hzW : w.heap.size + 1 < W.heap.size := by rw [← HW.out]; simp
  have hxW := hx.below hB0
  have hyW := hy.below hB0
  cases hga : massOk s xs && gainsOk s gs
  · have hbad : normalOk s xs = false ∨ gainsOk s gs = false := by
      rw [Bool.and_eq_false_iff] at hga
      rcases hga with h | h
      · left; unfold normalOk; rw [h]; rfl
      · exact .inr h
    have HR : Hid (worstM s xs gs = MR.no) := worstM_bad hbad
    rw [HR.out]
    go_enter Try.func21, Try.ntmps21
    go_wp2_with fail
    rw [HW.out]
    refine (l10Gains_any _ _ _ _ _ _ _ xs gs _ hxW hyW).mono ?_; rw [hga]; rintro e w1 ⟨rfl, hb1⟩
    replace f20 := keepF hb1 h10 f20
    replace f21 := keepF hb1 h11 f21
    replace h10 := keep hb1 h10
    replace h11 := keep hb1 h11
    have hB1 := chain hB0 hb1
    clear hb1
    go_wp2
    refine bodyPost_ret (by simp [results, Try.results21, go_sem, h10, h11]) rfl ⟨RetM.no _ _, ?_⟩
    (repeat (first | exact Below.refl _ _ | assumption | refine Below.alloc ?_ (by first | omega | (simp <;> omega)) _ | refine Below.setCell ?_ (by first | omega | (simp <;> omega)) _ | refine Below.drew ?_ | refine below_drewN ?_))
  · cases hno : normalOk s xs
    · have HR : Hid (worstM s xs gs = MR.no) := worstM_bad (.inl hno)
      rw [HR.out]
      go_enter Try.func21, Try.ntmps21
      go_wp2_with fail
      rw [HW.out]
      refine (l10Gains_any _ _ _ _ _ _ _ xs gs _ hxW hyW).mono ?_; rw [hga]; rintro e w1 ⟨rfl, hb1⟩
      replace f20 := keepF hb1 h10 f20
      replace f21 := keepF hb1 h11 f21
      replace h10 := keep hb1 h10
      replace h11 := keep hb1 h11
      replace hp0 := keep hb1 hp0
      replace hp1 := keep hb1 hp1
      have hxW1 := hxW.below hb1
      have hB1 := chain hB0 hb1
      clear hb1
      go_wp2_with fail
      refine (IsNormal_any _ _ _ _ _ _ hxW1).mono ?_; rw [hno]; rintro e w2 ⟨rfl, hb2⟩
      replace f20 := keepF hb2 h10 f20
      replace f21 := keepF hb2 h11 f21
      replace h10 := keep hb2 h10
      replace h11 := keep hb2 h11
      have hB2 := chain hB1 hb2
      clear hb2
      go_wp2
      refine bodyPost_ret (by simp [results, Try.results21, go_sem, h10, h11]) rfl ⟨RetM.no _ _, ?_⟩
      (repeat (first | exact Below.refl _ _ | assumption | refine Below.alloc ?_ (by first | omega | (simp <;> omega)) _ | refine Below.setCell ?_ (by first | omega | (simp <;> omega)) _ | refine Below.drew ?_ | refine below_drewN ?_))
    · obtain ⟨p1, p4, _, hx0, hmo, hsz⟩ := norm_size hno
      have hga2 : gainsOk s gs = true := by rw [Bool.and_eq_true] at hga; exact hga.2
      obtain ⟨hgl, _⟩ := gainsOk_facts hga2
      have hml := hid hy.len
      have hms : m = s.toNat := by rw [hml.out] at hgl; omega
      have HR : Hid (worstM s xs gs = chanceM s xs (sortTo gs m)) := by rw [Hid]; unfold worstM; rw [hno, hga2, hml.out]; rfl
      have HOK : Hid (OrdOk s.toNat (sortTo gs m)) := by rw [Hid, ← hms]; exact sortTo_ok gs m
      have HMO := hid hmo
      have HX0 := hid hx0
      have hm4 : m ≤ 4 := by omega
      have hm1 : 1 ≤ m := by omega
      clear hgl hsz hms hmo p1 p4 hga2 hx0
      rw [HR.out]
      go_enter Try.func21, Try.ntmps21
      go_wp2_with fail
      rw [HW.out]
      refine (l10Gains_any _ _ _ _ _ _ _ xs gs _ hxW hyW).mono ?_; rw [hga]; rintro e w1 ⟨rfl, hb1⟩
      replace f20 := keepF hb1 h10 f20
      replace f21 := keepF hb1 h11 f21
      replace h10 := keep hb1 h10
      replace h11 := keep hb1 h11
      replace hp0 := keep hb1 hp0
      replace hp1 := keep hb1 hp1
      have hxW1 := hxW.below hb1
      have hB1 := chain hB0 hb1
      have hz1 := hb1.size
      clear hb1
      go_wp2_with fail
      refine (IsNormal_any _ _ _ _ _ _ hxW1).mono ?_; rw [hno]; rintro e w2 ⟨rfl, hb2⟩
      replace f20 := keepF hb2 h10 f20
      replace f21 := keepF hb2 h11 f21
      replace h10 := keep hb2 h10
      replace h11 := keep hb2 h11
      replace hp0 := keep hb2 hp0
      replace hp1 := keep hb2 hp1
      have hB2 := chain hB1 hb2
      have hz2 := hb2.size
      clear hb2
      have hr0 := Row.lit w2
      go_wp2
      go_loopw [6, 7] (fun o i wr => ∃ (k g c' : Nat), k ≤ m ∧ i = .int .i64 k ∧ o = .slice (some ⟨g, 0, none⟩) k c' ∧ Row wr w2.heap.size (.slice (some ⟨g, 0, none⟩) k c') (sortTo gs k) ∧ Below w2.heap.size w2 wr) (fun _ i _ => m - (intOf i).toNat)
      case atStart => exact ⟨0, _, _, by omega, rfl, rfl, hr0, below_alloc _ _⟩
      case round =>
        clear hr0
        obtain ⟨k, g, c', hk, rfl, rfl, hrow, hBr⟩ := hrel
        obtain ⟨wo, rfl⟩ : ∃ q : World, q = wr := ⟨_, rfl⟩
        have hB := chain hB2 hBr
        have hzr := hBr.size
        have hyo := hy.below hB
        by_cases hlt : k < m
        · have hkl := hid (sortTo_len gs k)
          have hmem := hid (sortTo_mem gs k)
          have HSS := hid (sortTo_succ gs k)
          obtain ⟨l, hl⟩ : ∃ l, Hid (sortTo gs k = l) := ⟨_, rfl⟩
          rw [hl.out] at hkl hmem HSS hrow
          obtain ⟨p0, HP0⟩ : ∃ p, Hid (downTo gs l k k = p) := ⟨_, rfl⟩
          obtain ⟨b, off, rfl, _, hbo, hck⟩ := hyo.at (Below.refl _ _) hlt
          go_wp2
          go_loopw [8] (fun j wr => ∃ q : Nat, q ≤ k ∧ j = .int .i64 q ∧ downTo gs l k q = p0 ∧ Below wo.heap.size wo wr) (fun j _ => (intOf j).toNat)
          case atStart => exact ⟨k, Nat.le_refl _, rfl, HP0.out, Below.refl _ _⟩
          case round =>
            obtain ⟨q, hq, rfl, hdn, hBq⟩ := hrel
            have HDN := hid hdn; clear hdn
            have hkc : k ≤ c' := by
              rcases hrow.2 with ⟨h', _⟩ | ⟨g2, cap2, cur2, h', _, _, h1, _⟩
              · simp at h'
              · injection h' with _ e1 e2; omega
            by_cases hq0 : q = 0
            · subst hq0
              have HDNQ : Hid (0 = p0) := HDN.out
              go_wp2
              refine wp_region_ov (by kernel_rfl) (by kernel_rfl) ?_
              repeat (first | go_big_quiet_step ((fail)) | quiet_step ((fail)))
              refine wpQuiet_nil ?_
              intro _ hw_ov
              obtain ⟨x_ov, hw_ov2⟩ := hw_ov
              subst hw_ov2
              obtain ⟨w3, hw_ov3, hb3⟩ := ov_gen _ x_ov
              rw [hw_ov3]
              clear hw_ov3 x_ov
              have hB3 := chain hBq hb3
              clear hb3
              have HPQ : Hid (0 = p0) := HDNQ.out
              have HI : Hid (l.take (0) ++ [(k : Int)] ++ l.drop (0) = sortTo gs (k + 1)) := by rw [Hid, HSS.out]; unfold insL; rw [hkl.out, HP0.out, HPQ.out]
              have HCL : Hid (∀ W', Below w3.heap.size w3 W' → ∀ j, j < k → W'.cell? ⟨g, j, none⟩ = some (.int .i64 (nth l j))) := fun W' h j hj => (((hrow.below hB3).below h).cellAt hj).1
              have HLT : Hid ((l.take (0)).length = 0) := by rw [Hid, List.length_take, hkl.out]; omega
              have HLT2 : Hid (([] ++ l.take (0)).length = 0) := by rw [Hid, List.nil_append, HLT.out]
              have HLT3 : Hid (([] ++ l.take (0) ++ [(k : Int)]).length = 1) := by rw [Hid, List.length_append, HLT2.out]; rfl
              have HLD : Hid ((l.drop (0)).length = k - (0)) := by rw [Hid, List.length_drop, hkl.out]
              have HNT : Hid (∀ W', Below w3.heap.size w3 W' → ∀ j, j < 0 → W'.cell? ((⟨g, 0, none⟩ : Addr).add j) = some (.int .i64 (nth (l.take (0)) j))) := fun W' h j hj => by rw [add_at, nth_take hj]; exact HCL.out W' h j (by omega)
              have hnek2 : w3.heap.size + 1 ≠ w3.heap.size := by omega
              have hnek3 : w3.heap.size ≠ w3.heap.size + 1 := by omega
              have r1 : Row ((w3.alloc (.cells #[] 3)).drew) w3.heap.size (.slice (some ⟨w3.heap.size, 0, none⟩) 0 0) [] := (Row.lit w3).below (drew_below _)
              have r2 : Row (((w3.alloc (.cells #[] 3)).alloc (.cells #[.int .i64 (k : Int)] 3)).drew) w3.heap.size (.slice (some ⟨w3.heap.size, 0, none⟩) 0 0) [] := ((Row.lit w3).below (below_alloc _ _)).below (drew_below _)
              have r3 : Row (((w3.alloc (.cells #[.int .i64 (k : Int)] 3)).alloc (.cells #[] 3)).drew) w3.heap.size (.slice (some ⟨w3.heap.size + 1, 0, none⟩) 0 0) [] := by
                have h := (Row.lit (w3.alloc (.cells #[.int .i64 (k : Int)] 3))).below (drew_below _)
                have e : (w3.alloc (.cells #[.int .i64 (k : Int)] 3)).heap.size = w3.heap.size + 1 := by simp
                rw [e] at h
                exact h.mono (by omega)
              have k2 : (((w3.alloc (.cells #[] 3)).alloc (.cells #[.int .i64 (k : Int)] 3)).drew).cell? ⟨w3.heap.size + 1, 0, none⟩ = some (.int .i64 (k : Int)) := by show ((w3.alloc (.cells #[] 3)).alloc (.cells #[.int .i64 (k : Int)] 3)).cell? _ = _; simp
              have k3 : (((w3.alloc (.cells #[.int .i64 (k : Int)] 3)).alloc (.cells #[] 3)).drew).cell? ⟨w3.heap.size, 0, none⟩ = some (.int .i64 (k : Int)) := by show ((w3.alloc (.cells #[.int .i64 (k : Int)] 3)).alloc (.cells #[] 3)).cell? _ = _; simp
              have d1 : Below w3.heap.size w3 ((w3.alloc (.cells #[] 3)).drew) := by (repeat (first | exact Below.refl _ _ | assumption | refine Below.alloc ?_ (by first | omega | (simp <;> omega)) _ | refine Below.setCell ?_ (by first | omega | (simp <;> omega)) _ | refine Below.drew ?_ | refine below_drewN ?_))
              have d2 : Below w3.heap.size w3 (((w3.alloc (.cells #[] 3)).alloc (.cells #[.int .i64 (k : Int)] 3)).drew) := by (repeat (first | exact Below.refl _ _ | assumption | refine Below.alloc ?_ (by first | omega | (simp <;> omega)) _ | refine Below.setCell ?_ (by first | omega | (simp <;> omega)) _ | refine Below.drew ?_ | refine below_drewN ?_))
              have d3 : Below w3.heap.size w3 (((w3.alloc (.cells #[.int .i64 (k : Int)] 3)).alloc (.cells #[] 3)).drew) := by (repeat (first | exact Below.refl _ _ | assumption | refine Below.alloc ?_ (by first | omega | (simp <;> omega)) _ | refine Below.setCell ?_ (by first | omega | (simp <;> omega)) _ | refine Below.drew ?_ | refine below_drewN ?_))
              have z1 := d1.size
              have z2 := d2.size
              have z3 := d3.size
              have hq1 : (((0 : Nat)) : Int) ≤ (k : Int) := by omega
              have hq2 : (((0 : Nat)) : Int) ≤ (c' : Int) := by omega
              have hq3 : (0 : Int) ≤ (((0 : Nat)) : Int) := by omega
              by_cases hcq : c' = 0
              · subst hcq
                obtain rfl : k = 0 := by omega
                have HND : Hid (∀ W', Below w3.heap.size w3 W' → ∀ j, j < 0 → W'.cell? ((⟨g, 0, none⟩ : Addr).add j) = some (.int .i64 (nth (l.drop (0)) j))) := fun W' h j hj => by omega
                go_wp2
                refine wp_region_joinF (ι := Value × Value × Value × Value × Value) (fun a i => (((((((((((((a.put (some 47) i.1).put (some 48) (.slice (some ⟨g, 0, none⟩) (0) (0))).put (some 49) (.int .i64 ((0 : Nat) : Int))).put (some 50) (.slice (some ⟨g, 0, none⟩) (0) (0))).put (some 51) i.2.1).put (some 52) (.int .i64 ((0 : Nat) : Int))).put (some 53) i.2.2.1).put (some 54) i.2.2.2.1).put (some 55) (.slice (some ⟨g, 0, none⟩) (0) (0))).put (some 56) (.int .i64 ((0 : Nat) : Int))).put (some 57) (.slice (some ⟨g, 0, none⟩) 0 0)).put (some 58) i.2.2.2.2).put (some 6) i.2.2.2.2)) (fun i w' => Row w' w3.heap.size i.2.2.2.2 (sortTo gs ((0) + 1)) ∧ Below w3.heap.size w3 w') ?_ ?_
                · go_region_held3 (fun w' => Below w3.heap.size w3 w') (first | assumption | ((repeat (first | exact Below.refl _ _ | assumption | refine Below.alloc ?_ (by first | omega | (simp <;> omega)) _ | refine Below.setCell ?_ (by first | omega | (simp <;> omega)) _ | refine Below.drew ?_ | refine below_drewN ?_)); done)) (first | (refine step_append_ints rfl _ _ rfl w3.heap.size (.slice (some ⟨w3.heap.size, 0, none⟩) 0 0) [] 0 rfl rfl r1 ⟨g, 0, none⟩ (0) (0) (l.take (0)) rfl HLT.out (HNT.out _ d1) (by omega) z1 (0) (by omega) ?_; intro ag1 cp1 w4 hr4 hg4; have hB4 := grown_from d1 (fun b e => (r1.block b e).1) hg4; have hz4 := hB4.size; clear hg4) | (refine step_append_ints rfl _ _ rfl w3.heap.size (.slice (some ⟨w3.heap.size, 0, none⟩) 0 0) [] 0 rfl rfl r2 ⟨g, 0, none⟩ (0) (0) (l.take (0)) rfl HLT.out (HNT.out _ d2) (by omega) z2 (0) (by omega) ?_; intro ag1 cp1 w4 hr4 hg4; have hB4 := grown_from d2 (fun b e => (r2.block b e).1) hg4; have hz4 := hB4.size; have kb := keepG (g := w3.heap.size) hg4 k2 hnek2; clear hg4) | (refine step_append_ints rfl _ _ rfl w3.heap.size (.slice (some ⟨w3.heap.size + 1, 0, none⟩) 0 0) [] 0 rfl rfl r3 ⟨g, 0, none⟩ (0) (0) (l.take (0)) rfl HLT.out (HNT.out _ d3) (by omega) z3 (0) (by omega) ?_; intro ag1 cp1 w4 hr4 hg4; have hB4 := grown_from d3 (fun b e => (r3.block b e).1) hg4; have hz4 := hB4.size; have kb := keepG (g := w3.heap.size + 1) hg4 k3 hnek3; clear hg4) | (refine step_append_ints rfl _ _ rfl w3.heap.size (.slice ag1 (0) cp1) ([] ++ l.take (0)) (0) HLT2.out rfl hr4 ⟨w3.heap.size + 1, 0, none⟩ 1 1 [((0 : Nat) : Int)] rfl rfl (one_new kb) (by omega) hz4 (1) (by omega) ?_; intro ag2 cp2 w5 hr5 hg5; have hB5 := grown_from hB4 (fun b e => (hr4.block b e).1) hg5; have hz5 := hB5.size; clear hg5) | (refine step_append_ints rfl _ _ rfl w3.heap.size (.slice ag1 (0) cp1) ([] ++ l.take (0)) (0) HLT2.out rfl hr4 ⟨w3.heap.size, 0, none⟩ 1 1 [((0 : Nat) : Int)] rfl rfl (one_new kb) (by omega) hz4 (1) (by omega) ?_; intro ag2 cp2 w5 hr5 hg5; have hB5 := grown_from hB4 (fun b e => (hr4.block b e).1) hg5; have hz5 := hB5.size; clear hg5) | (refine step_append_ints rfl _ _ rfl w3.heap.size (.slice ag1 (0) cp1) ([] ++ l.take (0)) (0) HLT2.out rfl (hr4.below (below_alloc _ _)) ⟨w4.heap.size, 0, none⟩ 1 1 [((0 : Nat) : Int)] rfl rfl (one_new (newCell w4 _ _)) (by omega) (Nat.le_trans hz4 (below_alloc w4 _).size) (1) (by omega) ?_; intro ag2 cp2 w5 hr5 hg5; have hB5 := grown_from (chain hB4 (below_alloc w4 _)) (fun b e => (hr4.block b e).1) hg5; have hz5 := hB5.size; clear hg5) | (refine step_append_ints rfl _ _ rfl w3.heap.size (.slice ag2 (1) cp2) ([] ++ l.take (0) ++ [((0 : Nat) : Int)]) (1) HLT3.out rfl hr5 ⟨g, 0, none⟩ 0 0 (l.drop (0)) rfl (HLD.out.trans (by omega)) (HND.out _ hB5) (by omega) hz5 (1) (by omega) ?_; intro ag3 cp3 w6 hr6 hg6; have hB6 := grown_from hB5 (fun b e => (hr5.block b e).1) hg6; clear hg6))
                  all_goals first | (refine ⟨⟨.slice (some ⟨w3.heap.size, 0, none⟩) 0 0, .slice ag1 (0) cp1, .slice (some ⟨w3.heap.size + 1, 0, none⟩) 1 1, .slice ag2 (1) cp2, .slice ag3 (1) cp3⟩, ?_, ?_, hB6⟩; (focus (first | (rfl; done) | (simp [Act.put]; done)))) | (refine ⟨⟨.slice (some ⟨w3.heap.size + 1, 0, none⟩) 0 0, .slice ag1 (0) cp1, .slice (some ⟨w3.heap.size, 0, none⟩) 1 1, .slice ag2 (1) cp2, .slice ag3 (1) cp3⟩, ?_, ?_, hB6⟩; (focus (first | (rfl; done) | (simp [Act.put]; done)))) | (refine ⟨⟨.slice (some ⟨w3.heap.size, 0, none⟩) 0 0, .slice ag1 (0) cp1, .slice (some ⟨w4.heap.size, 0, none⟩) 1 1, .slice ag2 (1) cp2, .slice ag3 (1) cp3⟩, ?_, ?_, hB6⟩; (focus (first | (rfl; done) | (simp [Act.put]; done))))
                  all_goals (rw [← HI.out]; rw [List.nil_append] at hr6; exact hr6)
                rintro ⟨v47, v51, v53, v54, v58⟩ w6 ⟨hr6, hb6⟩
                change Row w6 w3.heap.size v58 (sortTo gs ((0) + 1)) at hr6
                change Below w3.heap.size w3 w6 at hb6
                obtain ⟨g6, c6, he, _, _, _⟩ := hr6.form (by rw [sortTo_len]; omega)
                rw [sortTo_len] at he
                subst he
                have HR6 := hid (hr6.mono (base' := w2.heap.size) (by have := hB3.size; omega))
                have HB6 := hid (chain hBr (chain hB3 hb6))
                clear hr6 hb6 hrow r1 r2 r3 k2 k3 d1 d2 d3 z1 z2 z3
                go_wp2
                go_roundw
                case rel => first | exact ⟨(0) + 1, g6, c6, by omega, by go_num, rfl, HR6.out, HB6.out⟩ | exact ⟨_, ⟨(0) + 1, g6, c6, by omega, by go_num, rfl, HR6.out, HB6.out⟩, rfl⟩ | exact ⟨_, _, ⟨(0) + 1, g6, c6, by omega, by go_num, rfl, HR6.out, HB6.out⟩, rfl, rfl⟩ | exact ⟨_, _, _, ⟨(0) + 1, g6, c6, by omega, by go_num, rfl, HR6.out, HB6.out⟩, rfl, rfl, rfl⟩ | exact ⟨_, _, _, _, ⟨(0) + 1, g6, c6, by omega, by go_num, rfl, HR6.out, HB6.out⟩, rfl, rfl, rfl, rfl⟩ | exact ⟨_, _, _, _, _, ⟨(0) + 1, g6, c6, by omega, by go_num, rfl, HR6.out, HB6.out⟩, rfl, rfl, rfl, rfl, rfl⟩
                case measure => simp [intOf]; omega
              · have h_a : ∀ j, (⟨g, 0, none⟩ : Addr).add j = ⟨g, 0 + j, none⟩ := fun j => by unfold Addr.add; split <;> simp_all
                have HND : Hid (∀ W', Below w3.heap.size w3 W' → ∀ j, j < k - (0) → W'.cell? ((⟨g, 0, none⟩ : Addr).add j) = some (.int .i64 (nth (l.drop (0)) j))) := fun W' h j hj => by rw [h_a, nth_drop]; exact HCL.out W' h _ (by omega)
                go_wp2
                refine wp_region_joinF (ι := Value × Value × Value × Value × Value) (fun a i => (((((((((((((a.put (some 47) i.1).put (some 48) (.slice (some ⟨g, 0, none⟩) k c')).put (some 49) (.int .i64 ((0 : Nat) : Int))).put (some 50) (.slice (some ⟨g, 0, none⟩) (0) c')).put (some 51) i.2.1).put (some 52) (.int .i64 (k : Int))).put (some 53) i.2.2.1).put (some 54) i.2.2.2.1).put (some 55) (.slice (some ⟨g, 0, none⟩) k c')).put (some 56) (.int .i64 ((0 : Nat) : Int))).put (some 57) (.slice (some ⟨g, 0, none⟩) (k - (0)) (c' - (0)))).put (some 58) i.2.2.2.2).put (some 6) i.2.2.2.2)) (fun i w' => Row w' w3.heap.size i.2.2.2.2 (sortTo gs (k + 1)) ∧ Below w3.heap.size w3 w') ?_ ?_
                · go_region_held3 (fun w' => Below w3.heap.size w3 w') (first | assumption | ((repeat (first | exact Below.refl _ _ | assumption | refine Below.alloc ?_ (by first | omega | (simp <;> omega)) _ | refine Below.setCell ?_ (by first | omega | (simp <;> omega)) _ | refine Below.drew ?_ | refine below_drewN ?_)); done)) (first | (refine step_append_ints rfl _ _ rfl w3.heap.size (.slice (some ⟨w3.heap.size, 0, none⟩) 0 0) [] 0 rfl rfl r1 ⟨g, 0, none⟩ (0) c' (l.take (0)) rfl HLT.out (HNT.out _ d1) (by omega) z1 (0) (by omega) ?_; intro ag1 cp1 w4 hr4 hg4; have hB4 := grown_from d1 (fun b e => (r1.block b e).1) hg4; have hz4 := hB4.size; clear hg4) | (refine step_append_ints rfl _ _ rfl w3.heap.size (.slice (some ⟨w3.heap.size, 0, none⟩) 0 0) [] 0 rfl rfl r2 ⟨g, 0, none⟩ (0) c' (l.take (0)) rfl HLT.out (HNT.out _ d2) (by omega) z2 (0) (by omega) ?_; intro ag1 cp1 w4 hr4 hg4; have hB4 := grown_from d2 (fun b e => (r2.block b e).1) hg4; have hz4 := hB4.size; have kb := keepG (g := w3.heap.size) hg4 k2 hnek2; clear hg4) | (refine step_append_ints rfl _ _ rfl w3.heap.size (.slice (some ⟨w3.heap.size + 1, 0, none⟩) 0 0) [] 0 rfl rfl r3 ⟨g, 0, none⟩ (0) c' (l.take (0)) rfl HLT.out (HNT.out _ d3) (by omega) z3 (0) (by omega) ?_; intro ag1 cp1 w4 hr4 hg4; have hB4 := grown_from d3 (fun b e => (r3.block b e).1) hg4; have hz4 := hB4.size; have kb := keepG (g := w3.heap.size + 1) hg4 k3 hnek3; clear hg4) | (refine step_append_ints rfl _ _ rfl w3.heap.size (.slice ag1 (0) cp1) ([] ++ l.take (0)) (0) HLT2.out rfl hr4 ⟨w3.heap.size + 1, 0, none⟩ 1 1 [(k : Int)] rfl rfl (one_new kb) (by omega) hz4 (1) (by omega) ?_; intro ag2 cp2 w5 hr5 hg5; have hB5 := grown_from hB4 (fun b e => (hr4.block b e).1) hg5; have hz5 := hB5.size; clear hg5) | (refine step_append_ints rfl _ _ rfl w3.heap.size (.slice ag1 (0) cp1) ([] ++ l.take (0)) (0) HLT2.out rfl hr4 ⟨w3.heap.size, 0, none⟩ 1 1 [(k : Int)] rfl rfl (one_new kb) (by omega) hz4 (1) (by omega) ?_; intro ag2 cp2 w5 hr5 hg5; have hB5 := grown_from hB4 (fun b e => (hr4.block b e).1) hg5; have hz5 := hB5.size; clear hg5) | (refine step_append_ints rfl _ _ rfl w3.heap.size (.slice ag1 (0) cp1) ([] ++ l.take (0)) (0) HLT2.out rfl (hr4.below (below_alloc _ _)) ⟨w4.heap.size, 0, none⟩ 1 1 [(k : Int)] rfl rfl (one_new (newCell w4 _ _)) (by omega) (Nat.le_trans hz4 (below_alloc w4 _).size) (1) (by omega) ?_; intro ag2 cp2 w5 hr5 hg5; have hB5 := grown_from (chain hB4 (below_alloc w4 _)) (fun b e => (hr4.block b e).1) hg5; have hz5 := hB5.size; clear hg5) | (refine step_append_ints rfl _ _ rfl w3.heap.size (.slice ag2 (1) cp2) ([] ++ l.take (0) ++ [(k : Int)]) (1) HLT3.out rfl hr5 ⟨g, 0, none⟩ (k - (0)) (c' - (0)) (l.drop (0)) rfl HLD.out (HND.out _ hB5) (by omega) hz5 (k + 1) (by omega) ?_; intro ag3 cp3 w6 hr6 hg6; have hB6 := grown_from hB5 (fun b e => (hr5.block b e).1) hg6; clear hg6))
                  all_goals first | (refine ⟨⟨.slice (some ⟨w3.heap.size, 0, none⟩) 0 0, .slice ag1 (0) cp1, .slice (some ⟨w3.heap.size + 1, 0, none⟩) 1 1, .slice ag2 (1) cp2, .slice ag3 (k + 1) cp3⟩, ?_, ?_, hB6⟩; (focus (first | (rfl; done) | (simp [Act.put]; done)))) | (refine ⟨⟨.slice (some ⟨w3.heap.size + 1, 0, none⟩) 0 0, .slice ag1 (0) cp1, .slice (some ⟨w3.heap.size, 0, none⟩) 1 1, .slice ag2 (1) cp2, .slice ag3 (k + 1) cp3⟩, ?_, ?_, hB6⟩; (focus (first | (rfl; done) | (simp [Act.put]; done)))) | (refine ⟨⟨.slice (some ⟨w3.heap.size, 0, none⟩) 0 0, .slice ag1 (0) cp1, .slice (some ⟨w4.heap.size, 0, none⟩) 1 1, .slice ag2 (1) cp2, .slice ag3 (k + 1) cp3⟩, ?_, ?_, hB6⟩; (focus (first | (rfl; done) | (simp [Act.put]; done))))
                  all_goals (rw [← HI.out]; rw [List.nil_append] at hr6; exact hr6)
                rintro ⟨v47, v51, v53, v54, v58⟩ w6 ⟨hr6, hb6⟩
                change Row w6 w3.heap.size v58 (sortTo gs (k + 1)) at hr6
                change Below w3.heap.size w3 w6 at hb6
                obtain ⟨g6, c6, he, _, _, _⟩ := hr6.form (by rw [sortTo_len]; omega)
                rw [sortTo_len] at he
                subst he
                have HR6 := hid (hr6.mono (base' := w2.heap.size) (by have := hB3.size; omega))
                have HB6 := hid (chain hBr (chain hB3 hb6))
                clear hr6 hb6 hrow r1 r2 r3 k2 k3 d1 d2 d3 z1 z2 z3
                go_wp2
                go_roundw
                case rel => first | exact ⟨k + 1, g6, c6, by omega, by go_num, rfl, HR6.out, HB6.out⟩ | exact ⟨_, ⟨k + 1, g6, c6, by omega, by go_num, rfl, HR6.out, HB6.out⟩, rfl⟩ | exact ⟨_, _, ⟨k + 1, g6, c6, by omega, by go_num, rfl, HR6.out, HB6.out⟩, rfl, rfl⟩ | exact ⟨_, _, _, ⟨k + 1, g6, c6, by omega, by go_num, rfl, HR6.out, HB6.out⟩, rfl, rfl, rfl⟩ | exact ⟨_, _, _, _, ⟨k + 1, g6, c6, by omega, by go_num, rfl, HR6.out, HB6.out⟩, rfl, rfl, rfl, rfl⟩ | exact ⟨_, _, _, _, _, ⟨k + 1, g6, c6, by omega, by go_num, rfl, HR6.out, HB6.out⟩, rfl, rfl, rfl, rfl, rfl⟩
                case measure => simp [intOf]; omega
            · obtain ⟨p, rfl⟩ : ∃ p, q = p + 1 := ⟨q - 1, by omega⟩
              have hlq : nth l p ∈ l := nth_mem _ _ (by rw [hkl.out]; omega)
              rw [hmem.out] at hlq
              obtain ⟨Y, hY⟩ : ∃ Y : Nat, nth l p = (Y : Int) := ⟨(nth l p).toNat, by omega⟩
              have hYk : Y < k := by omega
              have c1 := ((hrow.below hBq).cellAt (show p < k by omega)).1
              rw [hY] at c1
              obtain ⟨b2, off2, e2, _, _, hcY⟩ := hyo.at hBq (show Y < m by omega)
              injection e2 with e2
              injection e2 with e3 e4
              subst e3 e4
              have hck2 := keep hBq hck
              have HDS : Hid (downTo gs l k (p + 1) = if nth gs k < nth gs Y then downTo gs l k p else p + 1) := by rw [Hid]; show (if nth gs k < nth gs (nth l p).toNat then downTo gs l k p else p + 1) = _; rw [hY]; rfl
              clear hY hlq
              have i1 : (Y : Int) < (m : Int) := by omega
              have i2 : (0 : Int) ≤ (Y : Int) := by omega
              have i3 : (k : Int) < (m : Int) := by omega
              have i4 : (0 : Int) ≤ (k : Int) := by omega
              have i5 : (p : Int) < (k : Int) := by omega
              have i6 : (0 : Int) ≤ (p : Int) := by omega
              have i7 : (0 : Int) < (p : Int) + 1 := by omega
              have hzg : g < wr.heap.size := World.block_lt_of_cell? _ _ c1
              obtain ⟨G1, hG1⟩ : ∃ G, nth gs k = G := ⟨_, rfl⟩
              obtain ⟨G2, hG2⟩ : ∃ G, nth gs Y = G := ⟨_, rfl⟩
              rw [hG1] at hck2 HDS
              rw [hG2] at hcY HDS
              clear hG1 hG2
              by_cases hless : G1 < G2
              · have HDQ : Hid (downTo gs l k p = p0) := by rw [Hid, ← HDN.out, HDS.out, if_pos hless]
                have hless2 : decide (G1 < G2) = true := decide_eq_true hless
                go_wp2
                refine wp_region_ov (by kernel_rfl) (by kernel_rfl) ?_
                repeat (first | go_big_quiet_step ((fail)) | quiet_step ((fail)))
                refine wpQuiet_nil ?_
                intro _ hw_ov
                obtain ⟨x_ov, hw_ov2⟩ := hw_ov
                subst hw_ov2
                obtain ⟨w3, hw_ov3, hb3⟩ := ov_gen _ x_ov
                rw [hw_ov3]
                clear hw_ov3 x_ov
                have HB3 := hid (chain hBq hb3)
                clear hb3
                go_wp2
                go_roundw
                case rel => first | exact ⟨p, by omega, by go_num, HDQ.out, HB3.out⟩ | exact ⟨_, ⟨p, by omega, by go_num, HDQ.out, HB3.out⟩, rfl⟩ | exact ⟨_, _, ⟨p, by omega, by go_num, HDQ.out, HB3.out⟩, rfl, rfl⟩ | exact ⟨_, _, _, ⟨p, by omega, by go_num, HDQ.out, HB3.out⟩, rfl, rfl, rfl⟩ | exact ⟨_, _, _, _, ⟨p, by omega, by go_num, HDQ.out, HB3.out⟩, rfl, rfl, rfl, rfl⟩ | exact ⟨_, _, _, _, _, ⟨p, by omega, by go_num, HDQ.out, HB3.out⟩, rfl, rfl, rfl, rfl, rfl⟩
                case measure => simp [intOf]
              · have HDNQ : Hid (p + 1 = p0) := by rw [Hid, ← HDN.out, HDS.out, if_neg hless]
                have hless2 : decide (G1 < G2) = false := decide_eq_false hless
                go_wp2
                refine wp_region_ov (by kernel_rfl) (by kernel_rfl) ?_
                repeat (first | go_big_quiet_step ((fail)) | quiet_step ((fail)))
                refine wpQuiet_nil ?_
                intro _ hw_ov
                obtain ⟨x_ov, hw_ov2⟩ := hw_ov
                subst hw_ov2
                obtain ⟨w3, hw_ov3, hb3⟩ := ov_gen _ x_ov
                rw [hw_ov3]
                clear hw_ov3 x_ov
                have hB3 := chain hBq hb3
                clear hb3 hck2 hcY c1 HDS
                have HPQ : Hid (p + 1 = p0) := HDNQ.out
                have HI : Hid (l.take (p + 1) ++ [(k : Int)] ++ l.drop (p + 1) = sortTo gs (k + 1)) := by rw [Hid, HSS.out]; unfold insL; rw [hkl.out, HP0.out, HPQ.out]
                have HCL : Hid (∀ W', Below w3.heap.size w3 W' → ∀ j, j < k → W'.cell? ⟨g, j, none⟩ = some (.int .i64 (nth l j))) := fun W' h j hj => (((hrow.below hB3).below h).cellAt hj).1
                have HLT : Hid ((l.take (p + 1)).length = p + 1) := by rw [Hid, List.length_take, hkl.out]; omega
                have HLT2 : Hid (([] ++ l.take (p + 1)).length = p + 1) := by rw [Hid, List.nil_append, HLT.out]
                have HLT3 : Hid (([] ++ l.take (p + 1) ++ [(k : Int)]).length = p + 2) := by rw [Hid, List.length_append, HLT2.out]; rfl
                have HLD : Hid ((l.drop (p + 1)).length = k - (p + 1)) := by rw [Hid, List.length_drop, hkl.out]
                have HNT : Hid (∀ W', Below w3.heap.size w3 W' → ∀ j, j < p + 1 → W'.cell? ((⟨g, 0, none⟩ : Addr).add j) = some (.int .i64 (nth (l.take (p + 1)) j))) := fun W' h j hj => by rw [add_at, nth_take hj]; exact HCL.out W' h j (by omega)
                have hnek2 : w3.heap.size + 1 ≠ w3.heap.size := by omega
                have hnek3 : w3.heap.size ≠ w3.heap.size + 1 := by omega
                have r1 : Row ((w3.alloc (.cells #[] 3)).drew) w3.heap.size (.slice (some ⟨w3.heap.size, 0, none⟩) 0 0) [] := (Row.lit w3).below (drew_below _)
                have r2 : Row (((w3.alloc (.cells #[] 3)).alloc (.cells #[.int .i64 (k : Int)] 3)).drew) w3.heap.size (.slice (some ⟨w3.heap.size, 0, none⟩) 0 0) [] := ((Row.lit w3).below (below_alloc _ _)).below (drew_below _)
                have r3 : Row (((w3.alloc (.cells #[.int .i64 (k : Int)] 3)).alloc (.cells #[] 3)).drew) w3.heap.size (.slice (some ⟨w3.heap.size + 1, 0, none⟩) 0 0) [] := by
                  have h := (Row.lit (w3.alloc (.cells #[.int .i64 (k : Int)] 3))).below (drew_below _)
                  have e : (w3.alloc (.cells #[.int .i64 (k : Int)] 3)).heap.size = w3.heap.size + 1 := by simp
                  rw [e] at h
                  exact h.mono (by omega)
                have k2 : (((w3.alloc (.cells #[] 3)).alloc (.cells #[.int .i64 (k : Int)] 3)).drew).cell? ⟨w3.heap.size + 1, 0, none⟩ = some (.int .i64 (k : Int)) := by show ((w3.alloc (.cells #[] 3)).alloc (.cells #[.int .i64 (k : Int)] 3)).cell? _ = _; simp
                have k3 : (((w3.alloc (.cells #[.int .i64 (k : Int)] 3)).alloc (.cells #[] 3)).drew).cell? ⟨w3.heap.size, 0, none⟩ = some (.int .i64 (k : Int)) := by show ((w3.alloc (.cells #[.int .i64 (k : Int)] 3)).alloc (.cells #[] 3)).cell? _ = _; simp
                have d1 : Below w3.heap.size w3 ((w3.alloc (.cells #[] 3)).drew) := by (repeat (first | exact Below.refl _ _ | assumption | refine Below.alloc ?_ (by first | omega | (simp <;> omega)) _ | refine Below.setCell ?_ (by first | omega | (simp <;> omega)) _ | refine Below.drew ?_ | refine below_drewN ?_))
                have d2 : Below w3.heap.size w3 (((w3.alloc (.cells #[] 3)).alloc (.cells #[.int .i64 (k : Int)] 3)).drew) := by (repeat (first | exact Below.refl _ _ | assumption | refine Below.alloc ?_ (by first | omega | (simp <;> omega)) _ | refine Below.setCell ?_ (by first | omega | (simp <;> omega)) _ | refine Below.drew ?_ | refine below_drewN ?_))
                have d3 : Below w3.heap.size w3 (((w3.alloc (.cells #[.int .i64 (k : Int)] 3)).alloc (.cells #[] 3)).drew) := by (repeat (first | exact Below.refl _ _ | assumption | refine Below.alloc ?_ (by first | omega | (simp <;> omega)) _ | refine Below.setCell ?_ (by first | omega | (simp <;> omega)) _ | refine Below.drew ?_ | refine below_drewN ?_))
                have z1 := d1.size
                have z2 := d2.size
                have z3 := d3.size
                have hq1 : (((p + 1 : Nat)) : Int) ≤ (k : Int) := by omega
                have hq2 : (((p + 1 : Nat)) : Int) ≤ (c' : Int) := by omega
                have hq3 : (0 : Int) ≤ (((p + 1 : Nat)) : Int) := by omega
                by_cases hcq : c' = p + 1
                · subst hcq
                  obtain rfl : k = p + 1 := by omega
                  have HND : Hid (∀ W', Below w3.heap.size w3 W' → ∀ j, j < 0 → W'.cell? ((⟨g, 0, none⟩ : Addr).add j) = some (.int .i64 (nth (l.drop (p + 1)) j))) := fun W' h j hj => by omega
                  go_wp2
                  have b1 : (0 : Int) ≤ (p : Int) + 1 := by omega
                  have b2 : (p : Int) + 1 ≤ ((p + 1 : Nat) : Int) := by omega
                  have b3 : (p : Int) + 1 ≤ (((p + 1) : Nat) : Int) := by omega
                  have b4 : ((p : Int) + 1).toNat = p + 1 := by omega
                  refine wp_region_joinF (ι := Value × Value × Value × Value × Value) (fun a i => (((((((((((((a.put (some 47) i.1).put (some 48) (.slice (some ⟨g, 0, none⟩) (p + 1) (p + 1))).put (some 49) (.int .i64 ((p + 1 : Nat) : Int))).put (some 50) (.slice (some ⟨g, 0, none⟩) (p + 1) (p + 1))).put (some 51) i.2.1).put (some 52) (.int .i64 ((p + 1 : Nat) : Int))).put (some 53) i.2.2.1).put (some 54) i.2.2.2.1).put (some 55) (.slice (some ⟨g, 0, none⟩) (p + 1) (p + 1))).put (some 56) (.int .i64 ((p + 1 : Nat) : Int))).put (some 57) (.slice (some ⟨g, 0, none⟩) 0 0)).put (some 58) i.2.2.2.2).put (some 6) i.2.2.2.2)) (fun i w' => Row w' w3.heap.size i.2.2.2.2 (sortTo gs ((p + 1) + 1)) ∧ Below w3.heap.size w3 w') ?_ ?_
                  · go_region_held3 (fun w' => Below w3.heap.size w3 w') (first | assumption | ((repeat (first | exact Below.refl _ _ | assumption | refine Below.alloc ?_ (by first | omega | (simp <;> omega)) _ | refine Below.setCell ?_ (by first | omega | (simp <;> omega)) _ | refine Below.drew ?_ | refine below_drewN ?_)); done)) (first | (refine step_append_ints rfl _ _ rfl w3.heap.size (.slice (some ⟨w3.heap.size, 0, none⟩) 0 0) [] 0 rfl rfl r1 ⟨g, 0, none⟩ (p + 1) (p + 1) (l.take (p + 1)) rfl HLT.out (HNT.out _ d1) (by omega) z1 (p + 1) (by omega) ?_; intro ag1 cp1 w4 hr4 hg4; have hB4 := grown_from d1 (fun b e => (r1.block b e).1) hg4; have hz4 := hB4.size; clear hg4) | (refine step_append_ints rfl _ _ rfl w3.heap.size (.slice (some ⟨w3.heap.size, 0, none⟩) 0 0) [] 0 rfl rfl r2 ⟨g, 0, none⟩ (p + 1) (p + 1) (l.take (p + 1)) rfl HLT.out (HNT.out _ d2) (by omega) z2 (p + 1) (by omega) ?_; intro ag1 cp1 w4 hr4 hg4; have hB4 := grown_from d2 (fun b e => (r2.block b e).1) hg4; have hz4 := hB4.size; have kb := keepG (g := w3.heap.size) hg4 k2 hnek2; clear hg4) | (refine step_append_ints rfl _ _ rfl w3.heap.size (.slice (some ⟨w3.heap.size + 1, 0, none⟩) 0 0) [] 0 rfl rfl r3 ⟨g, 0, none⟩ (p + 1) (p + 1) (l.take (p + 1)) rfl HLT.out (HNT.out _ d3) (by omega) z3 (p + 1) (by omega) ?_; intro ag1 cp1 w4 hr4 hg4; have hB4 := grown_from d3 (fun b e => (r3.block b e).1) hg4; have hz4 := hB4.size; have kb := keepG (g := w3.heap.size + 1) hg4 k3 hnek3; clear hg4) | (refine step_append_ints rfl _ _ rfl w3.heap.size (.slice ag1 (p + 1) cp1) ([] ++ l.take (p + 1)) (p + 1) HLT2.out rfl hr4 ⟨w3.heap.size + 1, 0, none⟩ 1 1 [((p + 1 : Nat) : Int)] rfl rfl (one_new kb) (by omega) hz4 (p + 2) (by omega) ?_; intro ag2 cp2 w5 hr5 hg5; have hB5 := grown_from hB4 (fun b e => (hr4.block b e).1) hg5; have hz5 := hB5.size; clear hg5) | (refine step_append_ints rfl _ _ rfl w3.heap.size (.slice ag1 (p + 1) cp1) ([] ++ l.take (p + 1)) (p + 1) HLT2.out rfl hr4 ⟨w3.heap.size, 0, none⟩ 1 1 [((p + 1 : Nat) : Int)] rfl rfl (one_new kb) (by omega) hz4 (p + 2) (by omega) ?_; intro ag2 cp2 w5 hr5 hg5; have hB5 := grown_from hB4 (fun b e => (hr4.block b e).1) hg5; have hz5 := hB5.size; clear hg5) | (refine step_append_ints rfl _ _ rfl w3.heap.size (.slice ag1 (p + 1) cp1) ([] ++ l.take (p + 1)) (p + 1) HLT2.out rfl (hr4.below (below_alloc _ _)) ⟨w4.heap.size, 0, none⟩ 1 1 [((p + 1 : Nat) : Int)] rfl rfl (one_new (newCell w4 _ _)) (by omega) (Nat.le_trans hz4 (below_alloc w4 _).size) (p + 2) (by omega) ?_; intro ag2 cp2 w5 hr5 hg5; have hB5 := grown_from (chain hB4 (below_alloc w4 _)) (fun b e => (hr4.block b e).1) hg5; have hz5 := hB5.size; clear hg5) | (refine step_append_ints rfl _ _ rfl w3.heap.size (.slice ag2 (p + 2) cp2) ([] ++ l.take (p + 1) ++ [((p + 1 : Nat) : Int)]) (p + 2) HLT3.out rfl hr5 ⟨g, 0, none⟩ 0 0 (l.drop (p + 1)) rfl (HLD.out.trans (by omega)) (HND.out _ hB5) (by omega) hz5 (p + 2) (by omega) ?_; intro ag3 cp3 w6 hr6 hg6; have hB6 := grown_from hB5 (fun b e => (hr5.block b e).1) hg6; clear hg6))
                    all_goals first | (refine ⟨⟨.slice (some ⟨w3.heap.size, 0, none⟩) 0 0, .slice ag1 (p + 1) cp1, .slice (some ⟨w3.heap.size + 1, 0, none⟩) 1 1, .slice ag2 (p + 2) cp2, .slice ag3 (p + 2) cp3⟩, ?_, ?_, hB6⟩; (focus (first | (rfl; done) | (simp [Act.put]; done)))) | (refine ⟨⟨.slice (some ⟨w3.heap.size + 1, 0, none⟩) 0 0, .slice ag1 (p + 1) cp1, .slice (some ⟨w3.heap.size, 0, none⟩) 1 1, .slice ag2 (p + 2) cp2, .slice ag3 (p + 2) cp3⟩, ?_, ?_, hB6⟩; (focus (first | (rfl; done) | (simp [Act.put]; done)))) | (refine ⟨⟨.slice (some ⟨w3.heap.size, 0, none⟩) 0 0, .slice ag1 (p + 1) cp1, .slice (some ⟨w4.heap.size, 0, none⟩) 1 1, .slice ag2 (p + 2) cp2, .slice ag3 (p + 2) cp3⟩, ?_, ?_, hB6⟩; (focus (first | (rfl; done) | (simp [Act.put]; done))))
                    all_goals (rw [← HI.out]; rw [List.nil_append] at hr6; exact hr6)
                  rintro ⟨v47, v51, v53, v54, v58⟩ w6 ⟨hr6, hb6⟩
                  change Row w6 w3.heap.size v58 (sortTo gs ((p + 1) + 1)) at hr6
                  change Below w3.heap.size w3 w6 at hb6
                  obtain ⟨g6, c6, he, _, _, _⟩ := hr6.form (by rw [sortTo_len]; omega)
                  rw [sortTo_len] at he
                  subst he
                  have HR6 := hid (hr6.mono (base' := w2.heap.size) (by have := hB3.size; omega))
                  have HB6 := hid (chain hBr (chain hB3 hb6))
                  clear hr6 hb6 hrow r1 r2 r3 k2 k3 d1 d2 d3 z1 z2 z3
                  go_wp2
                  go_roundw
                  case rel => first | exact ⟨(p + 1) + 1, g6, c6, by omega, by go_num, rfl, HR6.out, HB6.out⟩ | exact ⟨_, ⟨(p + 1) + 1, g6, c6, by omega, by go_num, rfl, HR6.out, HB6.out⟩, rfl⟩ | exact ⟨_, _, ⟨(p + 1) + 1, g6, c6, by omega, by go_num, rfl, HR6.out, HB6.out⟩, rfl, rfl⟩ | exact ⟨_, _, _, ⟨(p + 1) + 1, g6, c6, by omega, by go_num, rfl, HR6.out, HB6.out⟩, rfl, rfl, rfl⟩ | exact ⟨_, _, _, _, ⟨(p + 1) + 1, g6, c6, by omega, by go_num, rfl, HR6.out, HB6.out⟩, rfl, rfl, rfl, rfl⟩ | exact ⟨_, _, _, _, _, ⟨(p + 1) + 1, g6, c6, by omega, by go_num, rfl, HR6.out, HB6.out⟩, rfl, rfl, rfl, rfl, rfl⟩
                  case measure => simp [intOf]; omega
                · have h_a : ∀ j, (⟨g, p + 1, none⟩ : Addr).add j = ⟨g, p + 1 + j, none⟩ := fun j => by unfold Addr.add; split <;> simp_all
                  have HND : Hid (∀ W', Below w3.heap.size w3 W' → ∀ j, j < k - (p + 1) → W'.cell? ((⟨g, p + 1, none⟩ : Addr).add j) = some (.int .i64 (nth (l.drop (p + 1)) j))) := fun W' h j hj => by rw [h_a, nth_drop]; exact HCL.out W' h _ (by omega)
                  go_wp2
                  have b1 : (0 : Int) ≤ (p : Int) + 1 := by omega
                  have b2 : (p : Int) + 1 ≤ (k : Int) := by omega
                  have b3 : (p : Int) + 1 ≤ ((c' : Nat) : Int) := by omega
                  have b4 : ((p : Int) + 1).toNat = p + 1 := by omega
                  refine wp_region_joinF (ι := Value × Value × Value × Value × Value) (fun a i => (((((((((((((a.put (some 47) i.1).put (some 48) (.slice (some ⟨g, 0, none⟩) k c')).put (some 49) (.int .i64 ((p + 1 : Nat) : Int))).put (some 50) (.slice (some ⟨g, 0, none⟩) (p + 1) c')).put (some 51) i.2.1).put (some 52) (.int .i64 (k : Int))).put (some 53) i.2.2.1).put (some 54) i.2.2.2.1).put (some 55) (.slice (some ⟨g, 0, none⟩) k c')).put (some 56) (.int .i64 ((p + 1 : Nat) : Int))).put (some 57) (.slice (some ⟨g, p + 1, none⟩) (k - (p + 1)) (c' - (p + 1)))).put (some 58) i.2.2.2.2).put (some 6) i.2.2.2.2)) (fun i w' => Row w' w3.heap.size i.2.2.2.2 (sortTo gs (k + 1)) ∧ Below w3.heap.size w3 w') ?_ ?_
                  · go_region_held3 (fun w' => Below w3.heap.size w3 w') (first | assumption | ((repeat (first | exact Below.refl _ _ | assumption | refine Below.alloc ?_ (by first | omega | (simp <;> omega)) _ | refine Below.setCell ?_ (by first | omega | (simp <;> omega)) _ | refine Below.drew ?_ | refine below_drewN ?_)); done)) (first | (refine step_append_ints rfl _ _ rfl w3.heap.size (.slice (some ⟨w3.heap.size, 0, none⟩) 0 0) [] 0 rfl rfl r1 ⟨g, 0, none⟩ (p + 1) c' (l.take (p + 1)) rfl HLT.out (HNT.out _ d1) (by omega) z1 (p + 1) (by omega) ?_; intro ag1 cp1 w4 hr4 hg4; have hB4 := grown_from d1 (fun b e => (r1.block b e).1) hg4; have hz4 := hB4.size; clear hg4) | (refine step_append_ints rfl _ _ rfl w3.heap.size (.slice (some ⟨w3.heap.size, 0, none⟩) 0 0) [] 0 rfl rfl r2 ⟨g, 0, none⟩ (p + 1) c' (l.take (p + 1)) rfl HLT.out (HNT.out _ d2) (by omega) z2 (p + 1) (by omega) ?_; intro ag1 cp1 w4 hr4 hg4; have hB4 := grown_from d2 (fun b e => (r2.block b e).1) hg4; have hz4 := hB4.size; have kb := keepG (g := w3.heap.size) hg4 k2 hnek2; clear hg4) | (refine step_append_ints rfl _ _ rfl w3.heap.size (.slice (some ⟨w3.heap.size + 1, 0, none⟩) 0 0) [] 0 rfl rfl r3 ⟨g, 0, none⟩ (p + 1) c' (l.take (p + 1)) rfl HLT.out (HNT.out _ d3) (by omega) z3 (p + 1) (by omega) ?_; intro ag1 cp1 w4 hr4 hg4; have hB4 := grown_from d3 (fun b e => (r3.block b e).1) hg4; have hz4 := hB4.size; have kb := keepG (g := w3.heap.size + 1) hg4 k3 hnek3; clear hg4) | (refine step_append_ints rfl _ _ rfl w3.heap.size (.slice ag1 (p + 1) cp1) ([] ++ l.take (p + 1)) (p + 1) HLT2.out rfl hr4 ⟨w3.heap.size + 1, 0, none⟩ 1 1 [(k : Int)] rfl rfl (one_new kb) (by omega) hz4 (p + 2) (by omega) ?_; intro ag2 cp2 w5 hr5 hg5; have hB5 := grown_from hB4 (fun b e => (hr4.block b e).1) hg5; have hz5 := hB5.size; clear hg5) | (refine step_append_ints rfl _ _ rfl w3.heap.size (.slice ag1 (p + 1) cp1) ([] ++ l.take (p + 1)) (p + 1) HLT2.out rfl hr4 ⟨w3.heap.size, 0, none⟩ 1 1 [(k : Int)] rfl rfl (one_new kb) (by omega) hz4 (p + 2) (by omega) ?_; intro ag2 cp2 w5 hr5 hg5; have hB5 := grown_from hB4 (fun b e => (hr4.block b e).1) hg5; have hz5 := hB5.size; clear hg5) | (refine step_append_ints rfl _ _ rfl w3.heap.size (.slice ag1 (p + 1) cp1) ([] ++ l.take (p + 1)) (p + 1) HLT2.out rfl (hr4.below (below_alloc _ _)) ⟨w4.heap.size, 0, none⟩ 1 1 [(k : Int)] rfl rfl (one_new (newCell w4 _ _)) (by omega) (Nat.le_trans hz4 (below_alloc w4 _).size) (p + 2) (by omega) ?_; intro ag2 cp2 w5 hr5 hg5; have hB5 := grown_from (chain hB4 (below_alloc w4 _)) (fun b e => (hr4.block b e).1) hg5; have hz5 := hB5.size; clear hg5) | (refine step_append_ints rfl _ _ rfl w3.heap.size (.slice ag2 (p + 2) cp2) ([] ++ l.take (p + 1) ++ [(k : Int)]) (p + 2) HLT3.out rfl hr5 ⟨g, p + 1, none⟩ (k - (p + 1)) (c' - (p + 1)) (l.drop (p + 1)) rfl HLD.out (HND.out _ hB5) (by omega) hz5 (k + 1) (by omega) ?_; intro ag3 cp3 w6 hr6 hg6; have hB6 := grown_from hB5 (fun b e => (hr5.block b e).1) hg6; clear hg6))
                    all_goals first | (refine ⟨⟨.slice (some ⟨w3.heap.size, 0, none⟩) 0 0, .slice ag1 (p + 1) cp1, .slice (some ⟨w3.heap.size + 1, 0, none⟩) 1 1, .slice ag2 (p + 2) cp2, .slice ag3 (k + 1) cp3⟩, ?_, ?_, hB6⟩; (focus (first | (rfl; done) | (simp [Act.put]; done)))) | (refine ⟨⟨.slice (some ⟨w3.heap.size + 1, 0, none⟩) 0 0, .slice ag1 (p + 1) cp1, .slice (some ⟨w3.heap.size, 0, none⟩) 1 1, .slice ag2 (p + 2) cp2, .slice ag3 (k + 1) cp3⟩, ?_, ?_, hB6⟩; (focus (first | (rfl; done) | (simp [Act.put]; done)))) | (refine ⟨⟨.slice (some ⟨w3.heap.size, 0, none⟩) 0 0, .slice ag1 (p + 1) cp1, .slice (some ⟨w4.heap.size, 0, none⟩) 1 1, .slice ag2 (p + 2) cp2, .slice ag3 (k + 1) cp3⟩, ?_, ?_, hB6⟩; (focus (first | (rfl; done) | (simp [Act.put]; done))))
                    all_goals (rw [← HI.out]; rw [List.nil_append] at hr6; exact hr6)
                  rintro ⟨v47, v51, v53, v54, v58⟩ w6 ⟨hr6, hb6⟩
                  change Row w6 w3.heap.size v58 (sortTo gs (k + 1)) at hr6
                  change Below w3.heap.size w3 w6 at hb6
                  obtain ⟨g6, c6, he, _, _, _⟩ := hr6.form (by rw [sortTo_len]; omega)
                  rw [sortTo_len] at he
                  subst he
                  have HR6 := hid (hr6.mono (base' := w2.heap.size) (by have := hB3.size; omega))
                  have HB6 := hid (chain hBr (chain hB3 hb6))
                  clear hr6 hb6 hrow r1 r2 r3 k2 k3 d1 d2 d3 z1 z2 z3
                  go_wp2
                  go_roundw
                  case rel => first | exact ⟨k + 1, g6, c6, by omega, by go_num, rfl, HR6.out, HB6.out⟩ | exact ⟨_, ⟨k + 1, g6, c6, by omega, by go_num, rfl, HR6.out, HB6.out⟩, rfl⟩ | exact ⟨_, _, ⟨k + 1, g6, c6, by omega, by go_num, rfl, HR6.out, HB6.out⟩, rfl, rfl⟩ | exact ⟨_, _, _, ⟨k + 1, g6, c6, by omega, by go_num, rfl, HR6.out, HB6.out⟩, rfl, rfl, rfl⟩ | exact ⟨_, _, _, _, ⟨k + 1, g6, c6, by omega, by go_num, rfl, HR6.out, HB6.out⟩, rfl, rfl, rfl, rfl⟩ | exact ⟨_, _, _, _, _, ⟨k + 1, g6, c6, by omega, by go_num, rfl, HR6.out, HB6.out⟩, rfl, rfl, rfl, rfl, rfl⟩
                  case measure => simp [intOf]; omega
        · obtain rfl : k = m := by omega
          replace hp0 := keep hBr hp0
          replace hp1 := keep hBr hp1
          replace f20 := keepF hBr h10 f20
          replace f21 := keepF hBr h11 f21
          replace h10 := keep hBr h10
          replace h11 := keep hBr h11
          have hxr := hx.below hB
          obtain ⟨a5, n5, c5, e5, hi5⟩ := hrow.ints
          injection e5 with q1 q2 q3
          subst q1 q2 q3
          have hz8 : w.heap.size + 1 < wo.heap.size := by omega
          clear hBr hrow hyo
          go_wp2_with fail
          refine (l10Order_any s ao _ n c _ _ xs (sortTo gs k) _ hxr hi5 HMO.out HX0.out HOK.out).mono ?_
          rintro e w7 ⟨⟨v, rfl, hr7⟩, hb7⟩
          obtain ⟨ao7, n7, c7, rfl, hi7⟩ := hr7.ints
          replace f20 := keepF hb7 h10 f20
          replace f21 := keepF hb7 h11 f21
          replace h10 := keep hb7 h10
          replace h11 := keep hb7 h11
          have hB7 := chain hB hb7
          go_wp2
          refine bodyPost_ret (by simp [results, Try.results21, go_sem, h10, h11]) rfl ⟨⟨_, rfl, ((hr7.setBelow (a := ⟨w.heap.size + 1, 0, none⟩) hz8 _).setBelow (a := ⟨w.heap.size + 1, 1, none⟩) hz8 _).mono (by omega)⟩, ?_⟩
          (repeat (first | exact Below.refl _ _ | assumption | refine Below.alloc ?_ (by first | omega | (simp <;> omega)) _ | refine Below.setCell ?_ (by first | omega | (simp <;> omega)) _ | refine Below.drew ?_ | refine below_drewN ?_))
end Go.Proofs.Ytchjnjmlambpjaa
