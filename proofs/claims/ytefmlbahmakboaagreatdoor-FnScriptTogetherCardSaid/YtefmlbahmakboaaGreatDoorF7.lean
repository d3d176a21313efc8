/- The search for a flow: looking for a way. -/
import Derived.Test.YtefmlbahmakboaaGreatDoorF6
import Derived.Test.YtefmlbahmakboaaGreatDoorS5
set_option linter.unusedSimpArgs false
set_option linter.unusedVariables false
namespace Go.Proofs.YtefmlbahmakboaaGreatDoor
open Go.RowKit
/-- the number in a cell -/
def numO : Option Value → Int
  | some (.int _ x) => x
  | _ => 0
/-- how many numbers of a block are less than 0 -/
def negsW (w : World) (g N : Nat) : Nat := negs ((List.range N).map fun k => numO (w.cell? ⟨g, k, none⟩))
theorem negsW_eq {w : World} {g N : Nat} {xs : List Int} (hl : xs.length = N) (h : ∀ k, k < N → w.cell? ⟨g, k, none⟩ = some (.int .i64 (nth xs k))) : negsW w g N = negs xs := by
  unfold negsW
  congr 1
  refine ext_nth _ _ (by simp [hl]) fun k hk => ?_
  simp at hk
  rw [nth_eq _ _ (by simpa using hk)]
  simp [h k hk, numO]
def lenV : Value → Nat
  | .slice _ n _ => n
  | _ => 0
theorem Qu.lenV {w : World} {lo : Nat} {v : Value} {qs : List Int} (h : Qu w lo v qs) : lenV v = qs.length := by
  obtain ⟨g, o, c, rfl, _⟩ := h; rfl
theorem row_cells {w : World} {base g n c : Nat} {xs : List Int} (h : Row w base (.slice (some ⟨g, 0, none⟩) n c) xs) : ∀ k, k < n → w.cell? ⟨g, k, none⟩ = some (.int .i64 (nth xs k)) := fun k hk => (h.cellAt hk).1
/-- what a search that finds a way hands back -/
def Found (s : MvS) (base from_ : Nat) (fl : Nat → Nat → Int) (du : Nat → Int) (e : Ending) (w : World) : Prop :=
  ∃ (GA ca GB cb end_ : Nat) (gv gt : List Int) (rk : Nat → Nat), e = .returned (.tuple #[.slice (some ⟨GA, 0, none⟩) s.N ca, .slice (some ⟨GB, 0, none⟩) s.N cb, .int .i64 end_]) ∧ end_ < s.N ∧ base ≤ GA ∧ base ≤ GB ∧ GA < w.heap.size ∧ GB < w.heap.size ∧
    (∀ k, k < s.N → w.cell? ⟨GA, k, none⟩ = some (.int .i64 (nth gv k))) ∧ (∀ k, k < s.N → w.cell? ⟨GB, k, none⟩ = some (.int .i64 (nth gt k))) ∧ Way subN s.N from_ fl (nth gv) (nth gt) rk ∧ 0 ≤ nth gv end_ ∧ 0 < du end_
set_option maxRecDepth 100000 in
set_option maxHeartbeats 16000000 in
theorem way_any (s : MvS) (lo hi : Nat) (from_ : Nat) (fid : FuncId) (caps : Array Value) (L D : Nat → Int) (w : World) (fl : Nat → Nat → Int) (lf du : Nat → Int) (hm : Mv s w fl lf du) (hg : s.good lo hi) (hhi : hi ≤ w.heap.size) (hF : Flow subN s.N L D fl lf du)
    (hcf : ∀ (vs : Array Value) (w' : World), Sem.run Tryz.prog (callFunc fid vs) w' = .ok (.enter fid vs) w')
    (hto : ∀ (a : Nat) (w' : World), Below w.heap.size w w' → a < s.N → Calls Tryz.prog fid (#[.int .i64 a] ++ caps) w' fun e w'' => e = .returned (.bool (decide (0 < du a))) ∧ w' = w'')
    (hf : from_ < s.N) (hfl : 0 < lf from_) :
    Calls Tryz.prog 137 #[.pointer (some ⟨s.V, 0, none⟩), .int .i64 from_, .func (.func fid) #[] caps] w
      fun e w' => (Found s w.heap.size from_ fl du e w' ∨ (∃ v1 v2, e = .returned (.tuple #[v1, v2, .int .i64 (-1)]) ∧ ¬ Hall subN s.N L D)) ∧ Below w.heap.size w w' := by
  have hN := hg.N16
  have HF := hid hF
  have HM := hid hm
  have HG := hid hg
  have HTO := hid hto
  have HFL := hid hfl
  have cv := hm.v0
  have hVlt := hg.V.2
  clear hF hm hg hto hfl
  go_enter Tryz.func137, Tryz.ntmps137
  go_wp2
  refine wp_region_joinF (ι := Nat × Nat) (fun a i => ((((((((((((((a.put (some 16) (.pointer (some ⟨s.V, 0, none⟩))).put (some 17) (.pointer (some ⟨s.V, 0, none⟩))).put (some 18) (.pointer (some ⟨s.V, 0, none⟩))).put (some 19) (.slice (some ⟨s.G, 0, none⟩) s.N s.gc)).put (some 20) (.int .i64 s.N)).put (some 21) (.slice (some ⟨i.1, 0, none⟩) s.N s.N)).put (some 22) (.pointer (some ⟨s.V, 0, none⟩))).put (some 23) (.pointer (some ⟨s.V, 0, none⟩))).put (some 24) (.pointer (some ⟨s.V, 0, none⟩))).put (some 25) (.slice (some ⟨s.G, 0, none⟩) s.N s.gc)).put (some 26) (.int .i64 s.N)).put (some 27) (.slice (some ⟨i.2, 0, none⟩) s.N s.N)).put (some 9) (.slice (some ⟨i.1, 0, none⟩) s.N s.N)).put (some 10) (.slice (some ⟨i.2, 0, none⟩) s.N s.N)))
    (fun i W => Row W w.heap.size (.slice (some ⟨i.1, 0, none⟩) s.N s.N) (List.replicate s.N 0) ∧ Row W w.heap.size (.slice (some ⟨i.2, 0, none⟩) s.N s.N) (List.replicate s.N 0) ∧ i.1 ≠ i.2 ∧ Below w.heap.size w W) ?_ ?_
  · go_region_with (first | (refine upon_make (w := w.drew) (X := fun r => Oper.upon Tryz.prog _ _ _ _ (r.andThen _)) s.N (by omega) ?_; intro wa hra hba hza; have cva := keep (undrew hba) cv; go_simp) | (refine upon_make (w := wa) (X := fun r => Oper.upon Tryz.prog _ _ _ _ (r.andThen _)) s.N (by omega) ?_; intro wb hrb hbb hzb; go_simp))
    all_goals first | (refine ⟨(w.heap.size, wa.heap.size), ?_, hra.below hbb, hrb.mono (Nat.le_of_lt hza), Nat.ne_of_lt hza, chain (undrew hba) hbb⟩; simp [Act.put]; done) | (refine ⟨(wa.heap.size, w.heap.size), ?_, hrb.mono (Nat.le_of_lt hza), hra.below hbb, Nat.ne_of_gt hza, chain (undrew hba) hbb⟩; simp [Act.put]; done)
  · rintro ⟨GA, GB⟩ w1 ⟨hrA, hrB, hAB, hB1⟩
    simp only at hrA hrB hAB
    have hz1 := hB1.size
    have hGA := hrA.block GA rfl
    have hGB := hrB.block GB rfl
    have hBA : ¬ GB = GA := fun e => hAB e.symm
    go_wp2
    go_loopw [11, 30] (fun _ i wr => Below w.heap.size w wr ∧ ∃ (k : Nat) (xs ys : List Int), k ≤ s.N ∧ i = .int .i64 k ∧ Row wr w.heap.size (.slice (some ⟨GA, 0, none⟩) s.N s.N) xs ∧ Row wr w.heap.size (.slice (some ⟨GB, 0, none⟩) s.N s.N) ys ∧ Hid ((∀ j, j < k → nth xs j = -1) ∧ ∀ j, j < k → nth ys j = -1)) (fun _ i _ => s.N - (intOf i).toNat)
    case atStart => exact ⟨hB1, 0, _, _, by omega, rfl, hrA, hrB, ⟨fun j hj => by omega, fun j hj => by omega⟩⟩
    case round =>
      obtain ⟨hBr, k, xs, ys, hk, rfl, hrx, hry, HXY⟩ := hrel
      have hzr := hBr.size
      have hgA := hrx.block GA rfl
      have hgB := hry.block GB rfl
      by_cases hlt : k < s.N
      · obtain ⟨a0, a1, a2⟩ := hrx.cellAt hlt
        obtain ⟨b0, b1, b2⟩ := hry.cellAt hlt
        obtain ⟨s1, t1⟩ := hrx.store hlt (-1)
        have s1y := hry.setOther (a := ⟨GA, k, none⟩) (by intro e; simp [Value.ownBlock] at e; omega) (.int .i64 (-1))
        obtain ⟨s2, t2⟩ := s1y.store hlt (-1)
        have s2x := s1.setOther (a := ⟨GB, k, none⟩) (by intro e; simp [Value.ownBlock] at e; omega) (.int .i64 (-1))
        have HB2 := hid (below_grownBy (below_grownBy hBr (by omega) t1 (fun b e => by injection e with e; omega)) (by simp [World.setCell]; omega) t2 (fun b e => by injection e with e; omega))
        have H2 := hid s2
        have H1 := hid s2x
        have HXY2 : Hid ((∀ j, j < k + 1 → nth (xs.set k (-1)) j = -1) ∧ ∀ j, j < k + 1 → nth (ys.set k (-1)) j = -1) := by
          refine ⟨fun j hj => ?_, fun j hj => ?_⟩
          · rw [nth_set]; split
            · rfl
            · next hn => exact HXY.out.1 j (by rcases Nat.lt_or_ge j k with h | h; exact h; exact absurd ⟨by omega, by omega⟩ hn)
          · rw [nth_set]; split
            · rfl
            · next hn => exact HXY.out.2 j (by rcases Nat.lt_or_ge j k with h | h; exact h; exact absurd ⟨by omega, by omega⟩ hn)
        have hk0 : (0 : Int) ≤ (k : Int) := by omega
        have hk1 : (k : Int) < (s.N : Int) := by omega
        clear s1 s1y s2 s2x t1 t2 hBr HXY hrx hry
        go_wp2
        go_roundw
        case rel => first | exact ⟨HB2.out, k + 1, _, _, by omega, by go_num, H1.out, H2.out, HXY2⟩ | exact ⟨_, ⟨HB2.out, k + 1, _, _, by omega, by go_num, H1.out, H2.out, HXY2⟩, rfl⟩ | exact ⟨_, _, ⟨HB2.out, k + 1, _, _, by omega, by go_num, H1.out, H2.out, HXY2⟩, rfl, rfl⟩ | exact ⟨_, _, _, ⟨HB2.out, k + 1, _, _, by omega, by go_num, H1.out, H2.out, HXY2⟩, rfl, rfl, rfl⟩ | exact ⟨_, _, _, _, ⟨HB2.out, k + 1, _, _, by omega, by go_num, H1.out, H2.out, HXY2⟩, rfl, rfl, rfl, rfl⟩ | exact ⟨_, _, _, _, _, ⟨HB2.out, k + 1, _, _, by omega, by go_num, H1.out, H2.out, HXY2⟩, rfl, rfl, rfl, rfl, rfl⟩
        case measure => simp [intOf]; omega
      · obtain ⟨hlx, hly⟩ : xs.length = s.N ∧ ys.length = s.N := by
          obtain ⟨_, _, _, e1, i1⟩ := hrx.ints; obtain ⟨_, _, _, e2, i2⟩ := hry.ints
          injection e1 with _ e1 _; injection e2 with _ e2 _
          exact ⟨by rw [i1.len, e1], by rw [i2.len, e2]⟩
        have HBF := hid (Bfs.start fl du hlx hly (fun j hj => HXY.out.1 j (by omega)) (fun j hj => HXY.out.2 j (by omega)) hf)
        have hng : negs ys ≤ s.N := by unfold negs; have := List.length_filter_le (fun x => decide (x < 0)) ys; omega
        have HB2 := hid hBr
        have HRX := hid hrx
        have HRY := hid hry
        clear HXY hBr hrx hry hlx hly
        obtain ⟨u1, rfl⟩ : ∃ u : World, u = wr := ⟨_, rfl⟩
        obtain ⟨QL, hQL⟩ : ∃ q, q = u1.heap.size := ⟨_, rfl⟩
        have hGAQ : GA < QL := by rw [hQL]; exact hgA.2
        have hGBQ : GB < QL := by rw [hQL]; exact hgB.2
        have hkN : ¬ (k : Int) < (s.N : Int) := by omega
        go_wp2
        rw [← hQL]
        obtain ⟨u2, hu2⟩ : ∃ u : World, u = u1.alloc (.cells #[.int .i64 from_] 3) := ⟨_, rfl⟩
        have hb12 : Below u1.heap.size u1 u2 := by rw [hu2]; exact below_alloc u1 _
        have hQ0 : Qu u2 QL (.slice (some ⟨QL, 0, none⟩) 1 1) [(from_ : Int)] := by
          rw [hu2, hQL]
          exact ⟨u1.heap.size, 0, 1, rfl, by simp, by unfold maxLen; omega, Nat.le_refl _, by simp, fun j hj => by simp at hj; subst hj; simp [nth], fun j h1 h2 => by simp at h1; omega⟩
        have hz2 : u2.heap.size = QL + 1 := by rw [hu2, hQL]; simp
        have hBu2 : Below w.heap.size w u2 := chain HB2.out hb12
        have hrA2 := HRX.out.below hb12
        have hrB2 := HRY.out.below hb12
        rw [← hu2]
        clear hu2 hb12 HRX HRY HB2 hQL
        go_loopw [12, 13, 14, 15, 55, 85] (fun q _ _ _ _ _ wr => Below w.heap.size w wr ∧ QL < wr.heap.size ∧ ∃ (gv gt qs : List Int) (rk : Nat → Nat), Row wr w.heap.size (.slice (some ⟨GA, 0, none⟩) s.N s.N) gv ∧ Row wr w.heap.size (.slice (some ⟨GB, 0, none⟩) s.N s.N) gt ∧ Qu wr QL q qs ∧ qs.length + negs gt ≤ 17 ∧ Hid (Bfs s.N from_ fl du gv gt qs rk XF XF)) (fun q _ _ _ _ _ wr => lenV q + negsW wr GB s.N)
        case atStart => exact ⟨hBu2, by omega, xs, ys, _, _, hrA2, hrB2, hQ0, by simp; omega, HBF.out⟩
        case round =>
          clear hrA2 hrB2 hQ0 hBu2 HBF hng
          obtain ⟨hBo, hzo, gv0, gt0, qs0, rk0, hrA0, hrB0, hQu, hsz0, HBF⟩ := hrel
          cases qs0 with
          | nil =>
            have hst := HBF.out.stuck HF.out hf HFL.out
            obtain ⟨g, o, c, rfl, _⟩ := hQu
            simp only [List.length_nil]
            go_wp2
            refine bodyPost_ret (v := .tuple #[.slice none 0 0, .slice none 0 0, .int .i64 (-1)]) (by simp [results, Tryz.results137, go_sem]) rfl ⟨Or.inr ⟨_, _, rfl, hst⟩, hBo⟩
          | cons x rest =>
            have HM0 : Hid (lenV u12 + negsW wr GB s.N = rest.length + 1 + negs gt0) := by
              show _ = _; rw [hQu.lenV, negsW_eq HBF.out.lt (row_cells hrB0)]; rfl
            obtain ⟨b0, hb0N, rfl, hS0, hBp⟩ := HBF.out.pop
            have HBP := hid hBp
            clear HBF hBp
            obtain ⟨u3, rfl⟩ : ∃ u : World, u = wr := ⟨_, rfl⟩
            obtain ⟨M, hM⟩ : ∃ M, M = rest.length + negs gt0 := ⟨_, rfl⟩
            have hM17 : M ≤ 16 := by simp at hsz0; omega
            have HS0 := hid hS0
            have HHM := hid hM
            clear hsz0 hS0
            obtain ⟨g, o, c, rfl, hgt⟩ : ∃ g o c, u12 = .slice (some ⟨g, o, none⟩) (rest.length + 1) c ∧ Qu u3 QL (.slice (some ⟨g, o, none⟩) (rest.length + 1) c) ((b0 : Int) :: rest) := by
              obtain ⟨g, o, c, rfl, h⟩ := hQu; exact ⟨g, o, c, rfl, g, o, c, rfl, h⟩
            obtain ⟨-, hnc, hcq, hQ1, hQ2⟩ := hgt.tail
            simp only [Nat.add_sub_cancel] at hQ1
            have hnc' : (rest.length : Int) + 1 ≤ (c : Int) := by omega
            have HQ1 := hid hQ1
            have HQ2 := hid hQ2
            clear hQu hgt hQ1 hQ2 hM
            by_cases hc1 : c = 1
            · subst hc1
              have hQ := HQ2.out rfl
              clear HQ1 HQ2
              have cv3 := keep hBo cv
              go_wp2
              clear cv3
              go_loopw [12, 14, 15, 55, 85] (fun q _ _ i _ wr => Below w.heap.size w wr ∧ QL < wr.heap.size ∧ ∃ (k : Nat) (gv gt qs : List Int) (rk : Nat → Nat), k ≤ s.N ∧ i = .int .i64 k ∧ Row wr w.heap.size (.slice (some ⟨GA, 0, none⟩) s.N s.N) gv ∧ Row wr w.heap.size (.slice (some ⟨GB, 0, none⟩) s.N s.N) gt ∧ Qu wr QL q qs ∧ qs.length + negs gt ≤ M ∧ Hid (b0 = from_ ∨ 0 ≤ nth gt b0) ∧ Hid (Bfs s.N from_ fl du gv gt qs rk (XM b0 k) XF)) (fun _ _ _ i _ _ => s.N - (intOf i).toNat)
              case atStart => exact ⟨hBo, hzo, 0, gv0, gt0, rest, rk0, by omega, rfl, hrA0, hrB0, hQ, Nat.le_of_eq HHM.out.symm, HS0, HBP⟩
              case round =>
                obtain ⟨hBm, hzm, k, gv, gt, qs, rk, hk, rfl, hrA, hrB, hQm, hM, HS, HBM⟩ := hrel
                clear HBP HS0 hrA0 hrB0 hQ
                have hzw := hBm.size
                by_cases hlt : k < s.N
                · have hk0 : (0 : Int) ≤ (k : Int) := by omega
                  have hk1 : (k : Int) < (s.N : Int) := by omega
                  obtain ⟨a0, a1, a2⟩ := hrA.cellAt hlt
                  have cvm := keep hBm cv
                  obtain ⟨x, hx⟩ : ∃ x, nth gv k = x := ⟨_, rfl⟩
                  have HX := hid hx
                  rw [hx] at a0
                  clear hx a2
                  by_cases hgk : 0 ≤ x
                  · have HBM2 := hid (HBM.out.skip (fun _ => by rw [HX.out]; exact hgk))
                    clear HBM
                    go_wp2
                    go_roundw
                    case rel => first | exact ⟨hBm, hzm, k + 1, gv, gt, qs, rk, by omega, by go_num, hrA, hrB, hQm, hM, HS, HBM2⟩ | exact ⟨_, ⟨hBm, hzm, k + 1, gv, gt, qs, rk, by omega, by go_num, hrA, hrB, hQm, hM, HS, HBM2⟩, rfl⟩ | exact ⟨_, _, ⟨hBm, hzm, k + 1, gv, gt, qs, rk, by omega, by go_num, hrA, hrB, hQm, hM, HS, HBM2⟩, rfl, rfl⟩ | exact ⟨_, _, _, ⟨hBm, hzm, k + 1, gv, gt, qs, rk, by omega, by go_num, hrA, hrB, hQm, hM, HS, HBM2⟩, rfl, rfl, rfl⟩ | exact ⟨_, _, _, _, ⟨hBm, hzm, k + 1, gv, gt, qs, rk, by omega, by go_num, hrA, hrB, hQm, hM, HS, HBM2⟩, rfl, rfl, rfl, rfl⟩ | exact ⟨_, _, _, _, _, ⟨hBm, hzm, k + 1, gv, gt, qs, rk, by omega, by go_num, hrA, hrB, hQm, hM, HS, HBM2⟩, rfl, rfl, rfl, rfl, rfl⟩
                    case measure => simp [intOf]; omega
                  · cases hsb : subN k b0 with
                    | false =>
                      have HBM2 := hid (HBM.out.skip (fun h => by rw [hsb] at h; cases h))
                      have HSB := hid hsb
                      clear HBM hsb
                      go_wp2_with fail
                      refine (isOpen_any s lo hi b0 k _ fl lf du (HM.out.below HG.out hBm hhi) HG.out hb0N hlt).mono ?_; rw [HSB.out]; rintro e w' ⟨rfl, rfl⟩
                      go_wp2
                      go_roundw
                      case rel => first | exact ⟨hBm, hzm, k + 1, gv, gt, qs, rk, by omega, by go_num, hrA, hrB, hQm, hM, HS, HBM2⟩ | exact ⟨_, ⟨hBm, hzm, k + 1, gv, gt, qs, rk, by omega, by go_num, hrA, hrB, hQm, hM, HS, HBM2⟩, rfl⟩ | exact ⟨_, _, ⟨hBm, hzm, k + 1, gv, gt, qs, rk, by omega, by go_num, hrA, hrB, hQm, hM, HS, HBM2⟩, rfl, rfl⟩ | exact ⟨_, _, _, ⟨hBm, hzm, k + 1, gv, gt, qs, rk, by omega, by go_num, hrA, hrB, hQm, hM, HS, HBM2⟩, rfl, rfl, rfl⟩ | exact ⟨_, _, _, _, ⟨hBm, hzm, k + 1, gv, gt, qs, rk, by omega, by go_num, hrA, hrB, hQm, hM, HS, HBM2⟩, rfl, rfl, rfl, rfl⟩ | exact ⟨_, _, _, _, _, ⟨hBm, hzm, k + 1, gv, gt, qs, rk, by omega, by go_num, hrA, hrB, hQm, hM, HS, HBM2⟩, rfl, rfl, rfl, rfl, rfl⟩
                      case measure => simp [intOf]; omega
                    | true =>
                      have HSB := hid hsb
                      clear hsb
                      have hgn : Hid (nth gv k < 0) := by show _ < _; rw [HX.out]; omega
                      obtain ⟨s1, t1⟩ := hrA.store hlt (b0 : Int)
                      have s1y := hrB.setOther (a := ⟨GA, k, none⟩) (by intro e; simp [Value.ownBlock] at e; omega) (.int .i64 (b0 : Int))
                      have hq1 := hQm.grown t1 (by omega)
                      have hB1 := below_grownBy hBm (by omega) t1 (fun b e => by injection e with e; omega)
                      obtain ⟨u4, hu4⟩ : ∃ W, wr.setCell ⟨GA, k, none⟩ (.int .i64 (b0 : Int)) = W := ⟨_, rfl⟩
                      have hz4 : u4.heap.size = wr.heap.size := by rw [← hu4]; simp [World.setCell]
                      go_wp2_with fail
                      refine (isOpen_any s lo hi b0 k _ fl lf du (HM.out.below HG.out hBm hhi) HG.out hb0N hlt).mono ?_; rw [HSB.out]; rintro e w' ⟨rfl, rfl⟩
                      go_wp2_with fail
                      rw [hu4] at s1 s1y hq1 hB1
                      (try rw [hu4])
                      have cv4 := keep hB1 cv
                      clear hu4 t1 hrA hrB hQm hBm a0 a1 cvm
                      refine (HTO.out k _ hB1 hlt).mono ?_; rintro e w' ⟨rfl, rfl⟩
                      by_cases hd : 0 < du k
                      · have HLD := hid (HBM.out.led hb0N HS.out hlt hgn.out HSB.out)
                        have HS1 := hid s1
                        have HS1y := hid s1y
                        have hdd : decide (0 < du k) = true := decide_eq_true hd
                        clear HBM s1 s1y hq1
                        rw [hdd]
                        go_wp2
                        refine bodyPost_ret (v := .tuple #[.slice (some ⟨GA, 0, none⟩) s.N s.N, .slice (some ⟨GB, 0, none⟩) s.N s.N, .int .i64 k]) (by simp [results, Tryz.results137, go_sem]) rfl ⟨Or.inl ⟨GA, s.N, GB, s.N, k, _, _, _, rfl, hlt, hGA.1, hGB.1, by omega, by omega, row_cells HS1.out, row_cells HS1y.out, HLD.out.1, by rw [HLD.out.2.1]; omega, hd⟩, hB1⟩
                      · have hdd : decide (0 < du k) = false := decide_eq_false hd
                        have HBI0 := hid (HBM.out.add hb0N HS.out hlt hgn.out HSB.out (by omega))
                        have HGI : Hid (0 ≤ nth (gv.set k (b0 : Int)) k) := by show 0 ≤ _; rw [(HBM.out.led hb0N HS.out hlt hgn.out HSB.out).2.1]; omega
                        rw [hdd]
                        obtain ⟨gv2, hgv2⟩ : ∃ l, l = gv.set k (b0 : Int) := ⟨_, rfl⟩
                        rw [← hgv2] at s1 HBI0 HGI
                        obtain ⟨rk2, hrk2⟩ : ∃ f : Nat → Nat, f = fun j => if j = k then rk (nth gt b0).toNat + 1 else rk j := ⟨_, rfl⟩
                        rw [← hrk2] at HBI0
                        clear HBM hgv2 hrk2 hgn HX
                        obtain ⟨u5, rfl⟩ : ∃ u : World, u = u4 := ⟨_, rfl⟩
                        go_wp2
                        go_loopw [12, 15, 85] (fun q _ j wr => Below w.heap.size w wr ∧ QL < wr.heap.size ∧ ∃ (k2 : Nat) (gt qs : List Int), k2 ≤ s.N ∧ j = .int .i64 k2 ∧ Row wr w.heap.size (.slice (some ⟨GA, 0, none⟩) s.N s.N) gv2 ∧ Row wr w.heap.size (.slice (some ⟨GB, 0, none⟩) s.N s.N) gt ∧ Qu wr QL q qs ∧ qs.length + negs gt ≤ M ∧ Hid (b0 = from_ ∨ 0 ≤ nth gt b0) ∧ Hid (Bfs s.N from_ fl du gv2 gt qs rk2 (XM b0 (k + 1)) (YM k k2))) (fun _ _ j _ => s.N - (intOf j).toNat)
                        case atStart => exact ⟨hB1, by omega, 0, gt, qs, by omega, rfl, s1, s1y, hq1, hM, HS, HBI0⟩
                        case round =>
                          clear HBI0 s1 s1y hq1 hB1 hM HS hz4 cv4
                          obtain ⟨hBi, hzi, k2, gt2, qs2, hk2, rfl, hrA2, hrB2, hQ2, hM2, HS2, HBI⟩ := hrel
                          have hzx := hBi.size
                          by_cases hlt2 : k2 < s.N
                          · have hk20 : (0 : Int) ≤ (k2 : Int) := by omega
                            have hk21 : (k2 : Int) < (s.N : Int) := by omega
                            by_cases hkf : k2 = from_
                            · subst hkf
                              have HBI2 := hid (HBI.out.bskip (fun _ => Or.inl rfl))
                              clear HBI
                              go_wp2
                              go_roundw
                              case rel => first | exact ⟨hBi, hzi, k2 + 1, gt2, qs2, by omega, by go_num, hrA2, hrB2, hQ2, hM2, HS2, HBI2⟩ | exact ⟨_, ⟨hBi, hzi, k2 + 1, gt2, qs2, by omega, by go_num, hrA2, hrB2, hQ2, hM2, HS2, HBI2⟩, rfl⟩ | exact ⟨_, _, ⟨hBi, hzi, k2 + 1, gt2, qs2, by omega, by go_num, hrA2, hrB2, hQ2, hM2, HS2, HBI2⟩, rfl, rfl⟩ | exact ⟨_, _, _, ⟨hBi, hzi, k2 + 1, gt2, qs2, by omega, by go_num, hrA2, hrB2, hQ2, hM2, HS2, HBI2⟩, rfl, rfl, rfl⟩ | exact ⟨_, _, _, _, ⟨hBi, hzi, k2 + 1, gt2, qs2, by omega, by go_num, hrA2, hrB2, hQ2, hM2, HS2, HBI2⟩, rfl, rfl, rfl, rfl⟩ | exact ⟨_, _, _, _, _, ⟨hBi, hzi, k2 + 1, gt2, qs2, by omega, by go_num, hrA2, hrB2, hQ2, hM2, HS2, HBI2⟩, rfl, rfl, rfl, rfl, rfl⟩
                              case measure => simp [intOf]; omega
                            · obtain ⟨b1, b2, b3⟩ := hrB2.cellAt hlt2
                              obtain ⟨y, hy⟩ : ∃ y, nth gt2 k2 = y := ⟨_, rfl⟩
                              have HY := hid hy
                              rw [hy] at b1
                              clear hy
                              by_cases hy0 : y < 0
                              · cases hsb2 : subN k k2 with
                                | false =>
                                  have HSB2 := hid hsb2
                                  have HBI2 := hid (HBI.out.bskip (fun h => by have := HF.out.sup k2 k hlt2 hlt (by omega); rw [HSB2.out] at this; cases this))
                                  clear HBI hsb2
                                  go_wp2_with fail
                                  refine (isOpen_any s lo hi k2 k _ fl lf du (HM.out.below HG.out hBi hhi) HG.out hlt2 hlt).mono ?_; rw [HSB2.out]; rintro e w' ⟨rfl, rfl⟩
                                  go_wp2
                                  go_roundw
                                  case rel => first | exact ⟨hBi, hzi, k2 + 1, gt2, qs2, by omega, by go_num, hrA2, hrB2, hQ2, hM2, HS2, HBI2⟩ | exact ⟨_, ⟨hBi, hzi, k2 + 1, gt2, qs2, by omega, by go_num, hrA2, hrB2, hQ2, hM2, HS2, HBI2⟩, rfl⟩ | exact ⟨_, _, ⟨hBi, hzi, k2 + 1, gt2, qs2, by omega, by go_num, hrA2, hrB2, hQ2, hM2, HS2, HBI2⟩, rfl, rfl⟩ | exact ⟨_, _, _, ⟨hBi, hzi, k2 + 1, gt2, qs2, by omega, by go_num, hrA2, hrB2, hQ2, hM2, HS2, HBI2⟩, rfl, rfl, rfl⟩ | exact ⟨_, _, _, _, ⟨hBi, hzi, k2 + 1, gt2, qs2, by omega, by go_num, hrA2, hrB2, hQ2, hM2, HS2, HBI2⟩, rfl, rfl, rfl, rfl⟩ | exact ⟨_, _, _, _, _, ⟨hBi, hzi, k2 + 1, gt2, qs2, by omega, by go_num, hrA2, hrB2, hQ2, hM2, HS2, HBI2⟩, rfl, rfl, rfl, rfl, rfl⟩
                                  case measure => simp [intOf]; omega
                                | true =>
                                  have HSB2 := hid hsb2
                                  have cvi := keep hBi cv
                                  have cgi := keep hBi (HM.out.g k2 hlt2)
                                  have cri := keep hBi (HM.out.r k2 k hlt2 hlt).1
                                  obtain ⟨z, hz⟩ : ∃ z, fl k2 k = z := ⟨_, rfl⟩
                                  have HZ := hid hz
                                  rw [hz] at cri
                                  clear hsb2 hz
                                  generalize s.R k2 = Rk at *
                                  by_cases hz0 : 0 < z
                                  · have hfl : Hid (0 < fl k2 k) := by show 0 < _; rw [HZ.out]; exact hz0
                                    have hgn2 : Hid (nth gt2 k2 < 0) := by show _ < 0; rw [HY.out]; exact hy0
                                    have HBI2 := hid (HBI.out.badd hlt2 hlt HGI.out hgn2.out hfl.out)
                                    have hnl := negs_set gt2 k2 (k : Int) (by rw [HBI.out.lt]; exact hlt2) hgn2.out (by omega)
                                    have HS3 : Hid (b0 = from_ ∨ 0 ≤ nth (gt2.set k2 (k : Int)) b0) := by
                                      refine HS2.out.imp id fun h => ?_
                                      rw [nth_set]; split
                                      · omega
                                      · exact h
                                    obtain ⟨sB, tB⟩ := hrB2.store hlt2 (k : Int)
                                    have sA := hrA2.setOther (a := ⟨GB, k2, none⟩) (by intro e; simp [Value.ownBlock] at e; omega) (.int .i64 (k : Int))
                                    have hQ5 := hQ2.grown tB (by omega)
                                    have hB5 := below_grownBy hBi (by omega) tB (fun b e => by injection e with e; omega)
                                    obtain ⟨u6, hu6⟩ : ∃ W, wr.setCell ⟨GB, k2, none⟩ (.int .i64 (k : Int)) = W := ⟨_, rfl⟩
                                    have hz6 : u6.heap.size = wr.heap.size := by rw [← hu6]; simp [World.setCell]
                                    have HSA : Hid (Row u6 w.heap.size (.slice (some ⟨GA, 0, none⟩) s.N s.N) gv2) := by rw [← hu6]; exact sA
                                    have HSB3 : Hid (Row u6 w.heap.size (.slice (some ⟨GB, 0, none⟩) s.N s.N) (gt2.set k2 (k : Int))) := by rw [← hu6]; exact sB
                                    have HQ6 : Hid (Qu u6 QL u12 qs2) := by rw [← hu6]; exact hQ5
                                    have HB6 : Hid (Below w.heap.size w u6) := by rw [← hu6]; exact hB5
                                    have hql : qs2.length < 1000000 := by omega
                                    clear HBI sA sB tB hQ5 hB5 hrA2 hrB2 hQ2
                                    go_wp2_with fail
                                    refine (isOpen_any s lo hi k2 k _ fl lf du (HM.out.below HG.out hBi hhi) HG.out hlt2 hlt).mono ?_; rw [HSB2.out]; rintro e w' ⟨rfl, rfl⟩
                                    go_wp2_with (at_builtin; (try rw [hu6]); refine wpList_append_q rfl _ _ rfl QL _ qs2 (by rfl) (HQ6.out.below (below_alloc u6 _) (Nat.le_refl _)) _ _ (k2 : Int) (by rfl) (by first | (simp; done) | (go_simp; done)) hql (by first | omega | (simp; omega)) ?_; intro vq' w' hq' hgr)
                                    have hown := HQ6.out.own
                                    have hAB6 : Below u6.heap.size u6 (u6.alloc (.cells #[.int .i64 (k2 : Int)] 3)) := below_alloc u6 _
                                    have h1 : Below w.heap.size w w' := below_grownBy (chain HB6.out hAB6) (by simp; omega) hgr (fun b e => by have := (hown b e).1; omega)
                                    have sm : ∀ kk, kk < u6.heap.size → kk < QL → w'.heap[kk]? = u6.heap[kk]? := fun kk h2 h3 => by
                                      rw [hgr.block kk (by simp; omega) (by intro e; have := (hown kk e.symm).1; omega)]
                                      exact hAB6.block kk h2
                                    have h2 := HSA.out.same fun kk e => sm kk (HSA.out.block kk e).2 (by have := own_eq e; omega)
                                    have h3 := HSB3.out.same fun kk e => sm kk (HSB3.out.block kk e).2 (by have := own_eq e; omega)
                                    have h4 : QL < w'.heap.size := by have := hgr.size; simp at this; omega
                                    go_roundw
                                    case rel => first | exact ⟨h1, h4, k2 + 1, gt2.set k2 (k : Int), qs2 ++ [(k2 : Int)], by omega, by go_num, h2, h3, hq', by rw [List.length_append]; simp; omega, HS3, HBI2⟩ | exact ⟨_, ⟨h1, h4, k2 + 1, gt2.set k2 (k : Int), qs2 ++ [(k2 : Int)], by omega, by go_num, h2, h3, hq', by rw [List.length_append]; simp; omega, HS3, HBI2⟩, rfl⟩ | exact ⟨_, _, ⟨h1, h4, k2 + 1, gt2.set k2 (k : Int), qs2 ++ [(k2 : Int)], by omega, by go_num, h2, h3, hq', by rw [List.length_append]; simp; omega, HS3, HBI2⟩, rfl, rfl⟩ | exact ⟨_, _, _, ⟨h1, h4, k2 + 1, gt2.set k2 (k : Int), qs2 ++ [(k2 : Int)], by omega, by go_num, h2, h3, hq', by rw [List.length_append]; simp; omega, HS3, HBI2⟩, rfl, rfl, rfl⟩ | exact ⟨_, _, _, _, ⟨h1, h4, k2 + 1, gt2.set k2 (k : Int), qs2 ++ [(k2 : Int)], by omega, by go_num, h2, h3, hq', by rw [List.length_append]; simp; omega, HS3, HBI2⟩, rfl, rfl, rfl, rfl⟩ | exact ⟨_, _, _, _, _, ⟨h1, h4, k2 + 1, gt2.set k2 (k : Int), qs2 ++ [(k2 : Int)], by omega, by go_num, h2, h3, hq', by rw [List.length_append]; simp; omega, HS3, HBI2⟩, rfl, rfl, rfl, rfl, rfl⟩
                                    case measure => simp [intOf]; omega
                                  · have HBI2 := hid (HBI.out.bskip (fun h => by rw [HZ.out] at h; exact absurd h hz0))
                                    clear HBI
                                    go_wp2_with fail
                                    refine (isOpen_any s lo hi k2 k _ fl lf du (HM.out.below HG.out hBi hhi) HG.out hlt2 hlt).mono ?_; rw [HSB2.out]; rintro e w' ⟨rfl, rfl⟩
                                    go_wp2
                                    go_roundw
                                    case rel => first | exact ⟨hBi, hzi, k2 + 1, gt2, qs2, by omega, by go_num, hrA2, hrB2, hQ2, hM2, HS2, HBI2⟩ | exact ⟨_, ⟨hBi, hzi, k2 + 1, gt2, qs2, by omega, by go_num, hrA2, hrB2, hQ2, hM2, HS2, HBI2⟩, rfl⟩ | exact ⟨_, _, ⟨hBi, hzi, k2 + 1, gt2, qs2, by omega, by go_num, hrA2, hrB2, hQ2, hM2, HS2, HBI2⟩, rfl, rfl⟩ | exact ⟨_, _, _, ⟨hBi, hzi, k2 + 1, gt2, qs2, by omega, by go_num, hrA2, hrB2, hQ2, hM2, HS2, HBI2⟩, rfl, rfl, rfl⟩ | exact ⟨_, _, _, _, ⟨hBi, hzi, k2 + 1, gt2, qs2, by omega, by go_num, hrA2, hrB2, hQ2, hM2, HS2, HBI2⟩, rfl, rfl, rfl, rfl⟩ | exact ⟨_, _, _, _, _, ⟨hBi, hzi, k2 + 1, gt2, qs2, by omega, by go_num, hrA2, hrB2, hQ2, hM2, HS2, HBI2⟩, rfl, rfl, rfl, rfl, rfl⟩
                                    case measure => simp [intOf]; omega
                              · have HBI2 := hid (HBI.out.bskip (fun _ => Or.inr (by rw [HY.out]; omega)))
                                clear HBI
                                go_wp2
                                go_roundw
                                case rel => first | exact ⟨hBi, hzi, k2 + 1, gt2, qs2, by omega, by go_num, hrA2, hrB2, hQ2, hM2, HS2, HBI2⟩ | exact ⟨_, ⟨hBi, hzi, k2 + 1, gt2, qs2, by omega, by go_num, hrA2, hrB2, hQ2, hM2, HS2, HBI2⟩, rfl⟩ | exact ⟨_, _, ⟨hBi, hzi, k2 + 1, gt2, qs2, by omega, by go_num, hrA2, hrB2, hQ2, hM2, HS2, HBI2⟩, rfl, rfl⟩ | exact ⟨_, _, _, ⟨hBi, hzi, k2 + 1, gt2, qs2, by omega, by go_num, hrA2, hrB2, hQ2, hM2, HS2, HBI2⟩, rfl, rfl, rfl⟩ | exact ⟨_, _, _, _, ⟨hBi, hzi, k2 + 1, gt2, qs2, by omega, by go_num, hrA2, hrB2, hQ2, hM2, HS2, HBI2⟩, rfl, rfl, rfl, rfl⟩ | exact ⟨_, _, _, _, _, ⟨hBi, hzi, k2 + 1, gt2, qs2, by omega, by go_num, hrA2, hrB2, hQ2, hM2, HS2, HBI2⟩, rfl, rfl, rfl, rfl, rfl⟩
                                case measure => simp [intOf]; omega
                          · have hke : k2 = s.N := by omega
                            have HBI2 : Hid (Bfs s.N from_ fl du gv2 gt2 qs2 rk2 (XM b0 (k + 1)) XF) := by have h := HBI.out; rw [hke] at h; exact h.bpass
                            have hk21 : ¬ (k2 : Int) < (s.N : Int) := by omega
                            clear HBI hke
                            go_wp2
                            go_roundw
                            case rel => first | exact ⟨hBi, hzi, k + 1, gv2, gt2, qs2, rk2, by omega, by go_num, hrA2, hrB2, hQ2, hM2, HS2, HBI2⟩ | exact ⟨_, ⟨hBi, hzi, k + 1, gv2, gt2, qs2, rk2, by omega, by go_num, hrA2, hrB2, hQ2, hM2, HS2, HBI2⟩, rfl⟩ | exact ⟨_, _, ⟨hBi, hzi, k + 1, gv2, gt2, qs2, rk2, by omega, by go_num, hrA2, hrB2, hQ2, hM2, HS2, HBI2⟩, rfl, rfl⟩ | exact ⟨_, _, _, ⟨hBi, hzi, k + 1, gv2, gt2, qs2, rk2, by omega, by go_num, hrA2, hrB2, hQ2, hM2, HS2, HBI2⟩, rfl, rfl, rfl⟩ | exact ⟨_, _, _, _, ⟨hBi, hzi, k + 1, gv2, gt2, qs2, rk2, by omega, by go_num, hrA2, hrB2, hQ2, hM2, HS2, HBI2⟩, rfl, rfl, rfl, rfl⟩ | exact ⟨_, _, _, _, _, ⟨hBi, hzi, k + 1, gv2, gt2, qs2, rk2, by omega, by go_num, hrA2, hrB2, hQ2, hM2, HS2, HBI2⟩, rfl, rfl, rfl, rfl, rfl⟩
                            case measure => simp [intOf]; omega
                · have hke : k = s.N := by omega
                  have HBP2 : Hid (Bfs s.N from_ fl du gv gt qs rk XF XF) := by have h := HBM.out; rw [hke] at h; exact h.pass
                  have hk1 : ¬ (k : Int) < (s.N : Int) := by omega
                  have hmm : lenV u12 + negsW wr GB s.N < rest.length + 1 + negs gt0 := by rw [hQm.lenV, negsW_eq HBM.out.lt (row_cells hrB)]; have := HHM.out; omega
                  clear HBM hke
                  go_wp2
                  go_roundw
                  case rel => first | exact ⟨hBm, hzm, gv, gt, qs, rk, hrA, hrB, hQm, by omega, HBP2⟩ | exact ⟨_, ⟨hBm, hzm, gv, gt, qs, rk, hrA, hrB, hQm, by omega, HBP2⟩, rfl⟩ | exact ⟨_, _, ⟨hBm, hzm, gv, gt, qs, rk, hrA, hrB, hQm, by omega, HBP2⟩, rfl, rfl⟩ | exact ⟨_, _, _, ⟨hBm, hzm, gv, gt, qs, rk, hrA, hrB, hQm, by omega, HBP2⟩, rfl, rfl, rfl⟩ | exact ⟨_, _, _, _, ⟨hBm, hzm, gv, gt, qs, rk, hrA, hrB, hQm, by omega, HBP2⟩, rfl, rfl, rfl, rfl⟩ | exact ⟨_, _, _, _, _, ⟨hBm, hzm, gv, gt, qs, rk, hrA, hrB, hQm, by omega, HBP2⟩, rfl, rfl, rfl, rfl, rfl⟩
                  case measure => rw [HM0.out]; exact hmm
            · have hQ := HQ1.out
              clear HQ1 HQ2
              have cv3 := keep hBo cv
              go_wp2
              clear cv3
              go_loopw [12, 14, 15, 55, 85] (fun q _ _ i _ wr => Below w.heap.size w wr ∧ QL < wr.heap.size ∧ ∃ (k : Nat) (gv gt qs : List Int) (rk : Nat → Nat), k ≤ s.N ∧ i = .int .i64 k ∧ Row wr w.heap.size (.slice (some ⟨GA, 0, none⟩) s.N s.N) gv ∧ Row wr w.heap.size (.slice (some ⟨GB, 0, none⟩) s.N s.N) gt ∧ Qu wr QL q qs ∧ qs.length + negs gt ≤ M ∧ Hid (b0 = from_ ∨ 0 ≤ nth gt b0) ∧ Hid (Bfs s.N from_ fl du gv gt qs rk (XM b0 k) XF)) (fun _ _ _ i _ _ => s.N - (intOf i).toNat)
              case atStart => exact ⟨hBo, hzo, 0, gv0, gt0, rest, rk0, by omega, rfl, hrA0, hrB0, hQ, Nat.le_of_eq HHM.out.symm, HS0, HBP⟩
              case round =>
                obtain ⟨hBm, hzm, k, gv, gt, qs, rk, hk, rfl, hrA, hrB, hQm, hM, HS, HBM⟩ := hrel
                clear HBP HS0 hrA0 hrB0 hQ
                have hzw := hBm.size
                by_cases hlt : k < s.N
                · have hk0 : (0 : Int) ≤ (k : Int) := by omega
                  have hk1 : (k : Int) < (s.N : Int) := by omega
                  obtain ⟨a0, a1, a2⟩ := hrA.cellAt hlt
                  have cvm := keep hBm cv
                  obtain ⟨x, hx⟩ : ∃ x, nth gv k = x := ⟨_, rfl⟩
                  have HX := hid hx
                  rw [hx] at a0
                  clear hx a2
                  by_cases hgk : 0 ≤ x
                  · have HBM2 := hid (HBM.out.skip (fun _ => by rw [HX.out]; exact hgk))
                    clear HBM
                    go_wp2
                    go_roundw
                    case rel => first | exact ⟨hBm, hzm, k + 1, gv, gt, qs, rk, by omega, by go_num, hrA, hrB, hQm, hM, HS, HBM2⟩ | exact ⟨_, ⟨hBm, hzm, k + 1, gv, gt, qs, rk, by omega, by go_num, hrA, hrB, hQm, hM, HS, HBM2⟩, rfl⟩ | exact ⟨_, _, ⟨hBm, hzm, k + 1, gv, gt, qs, rk, by omega, by go_num, hrA, hrB, hQm, hM, HS, HBM2⟩, rfl, rfl⟩ | exact ⟨_, _, _, ⟨hBm, hzm, k + 1, gv, gt, qs, rk, by omega, by go_num, hrA, hrB, hQm, hM, HS, HBM2⟩, rfl, rfl, rfl⟩ | exact ⟨_, _, _, _, ⟨hBm, hzm, k + 1, gv, gt, qs, rk, by omega, by go_num, hrA, hrB, hQm, hM, HS, HBM2⟩, rfl, rfl, rfl, rfl⟩ | exact ⟨_, _, _, _, _, ⟨hBm, hzm, k + 1, gv, gt, qs, rk, by omega, by go_num, hrA, hrB, hQm, hM, HS, HBM2⟩, rfl, rfl, rfl, rfl, rfl⟩
                    case measure => simp [intOf]; omega
                  · cases hsb : subN k b0 with
                    | false =>
                      have HBM2 := hid (HBM.out.skip (fun h => by rw [hsb] at h; cases h))
                      have HSB := hid hsb
                      clear HBM hsb
                      go_wp2_with fail
                      refine (isOpen_any s lo hi b0 k _ fl lf du (HM.out.below HG.out hBm hhi) HG.out hb0N hlt).mono ?_; rw [HSB.out]; rintro e w' ⟨rfl, rfl⟩
                      go_wp2
                      go_roundw
                      case rel => first | exact ⟨hBm, hzm, k + 1, gv, gt, qs, rk, by omega, by go_num, hrA, hrB, hQm, hM, HS, HBM2⟩ | exact ⟨_, ⟨hBm, hzm, k + 1, gv, gt, qs, rk, by omega, by go_num, hrA, hrB, hQm, hM, HS, HBM2⟩, rfl⟩ | exact ⟨_, _, ⟨hBm, hzm, k + 1, gv, gt, qs, rk, by omega, by go_num, hrA, hrB, hQm, hM, HS, HBM2⟩, rfl, rfl⟩ | exact ⟨_, _, _, ⟨hBm, hzm, k + 1, gv, gt, qs, rk, by omega, by go_num, hrA, hrB, hQm, hM, HS, HBM2⟩, rfl, rfl, rfl⟩ | exact ⟨_, _, _, _, ⟨hBm, hzm, k + 1, gv, gt, qs, rk, by omega, by go_num, hrA, hrB, hQm, hM, HS, HBM2⟩, rfl, rfl, rfl, rfl⟩ | exact ⟨_, _, _, _, _, ⟨hBm, hzm, k + 1, gv, gt, qs, rk, by omega, by go_num, hrA, hrB, hQm, hM, HS, HBM2⟩, rfl, rfl, rfl, rfl, rfl⟩
                      case measure => simp [intOf]; omega
                    | true =>
                      have HSB := hid hsb
                      clear hsb
                      have hgn : Hid (nth gv k < 0) := by show _ < _; rw [HX.out]; omega
                      obtain ⟨s1, t1⟩ := hrA.store hlt (b0 : Int)
                      have s1y := hrB.setOther (a := ⟨GA, k, none⟩) (by intro e; simp [Value.ownBlock] at e; omega) (.int .i64 (b0 : Int))
                      have hq1 := hQm.grown t1 (by omega)
                      have hB1 := below_grownBy hBm (by omega) t1 (fun b e => by injection e with e; omega)
                      obtain ⟨u4, hu4⟩ : ∃ W, wr.setCell ⟨GA, k, none⟩ (.int .i64 (b0 : Int)) = W := ⟨_, rfl⟩
                      have hz4 : u4.heap.size = wr.heap.size := by rw [← hu4]; simp [World.setCell]
                      go_wp2_with fail
                      refine (isOpen_any s lo hi b0 k _ fl lf du (HM.out.below HG.out hBm hhi) HG.out hb0N hlt).mono ?_; rw [HSB.out]; rintro e w' ⟨rfl, rfl⟩
                      go_wp2_with fail
                      rw [hu4] at s1 s1y hq1 hB1
                      (try rw [hu4])
                      have cv4 := keep hB1 cv
                      clear hu4 t1 hrA hrB hQm hBm a0 a1 cvm
                      refine (HTO.out k _ hB1 hlt).mono ?_; rintro e w' ⟨rfl, rfl⟩
                      by_cases hd : 0 < du k
                      · have HLD := hid (HBM.out.led hb0N HS.out hlt hgn.out HSB.out)
                        have HS1 := hid s1
                        have HS1y := hid s1y
                        have hdd : decide (0 < du k) = true := decide_eq_true hd
                        clear HBM s1 s1y hq1
                        rw [hdd]
                        go_wp2
                        refine bodyPost_ret (v := .tuple #[.slice (some ⟨GA, 0, none⟩) s.N s.N, .slice (some ⟨GB, 0, none⟩) s.N s.N, .int .i64 k]) (by simp [results, Tryz.results137, go_sem]) rfl ⟨Or.inl ⟨GA, s.N, GB, s.N, k, _, _, _, rfl, hlt, hGA.1, hGB.1, by omega, by omega, row_cells HS1.out, row_cells HS1y.out, HLD.out.1, by rw [HLD.out.2.1]; omega, hd⟩, hB1⟩
                      · have hdd : decide (0 < du k) = false := decide_eq_false hd
                        have HBI0 := hid (HBM.out.add hb0N HS.out hlt hgn.out HSB.out (by omega))
                        have HGI : Hid (0 ≤ nth (gv.set k (b0 : Int)) k) := by show 0 ≤ _; rw [(HBM.out.led hb0N HS.out hlt hgn.out HSB.out).2.1]; omega
                        rw [hdd]
                        obtain ⟨gv2, hgv2⟩ : ∃ l, l = gv.set k (b0 : Int) := ⟨_, rfl⟩
                        rw [← hgv2] at s1 HBI0 HGI
                        obtain ⟨rk2, hrk2⟩ : ∃ f : Nat → Nat, f = fun j => if j = k then rk (nth gt b0).toNat + 1 else rk j := ⟨_, rfl⟩
                        rw [← hrk2] at HBI0
                        clear HBM hgv2 hrk2 hgn HX
                        obtain ⟨u5, rfl⟩ : ∃ u : World, u = u4 := ⟨_, rfl⟩
                        go_wp2
                        go_loopw [12, 15, 85] (fun q _ j wr => Below w.heap.size w wr ∧ QL < wr.heap.size ∧ ∃ (k2 : Nat) (gt qs : List Int), k2 ≤ s.N ∧ j = .int .i64 k2 ∧ Row wr w.heap.size (.slice (some ⟨GA, 0, none⟩) s.N s.N) gv2 ∧ Row wr w.heap.size (.slice (some ⟨GB, 0, none⟩) s.N s.N) gt ∧ Qu wr QL q qs ∧ qs.length + negs gt ≤ M ∧ Hid (b0 = from_ ∨ 0 ≤ nth gt b0) ∧ Hid (Bfs s.N from_ fl du gv2 gt qs rk2 (XM b0 (k + 1)) (YM k k2))) (fun _ _ j _ => s.N - (intOf j).toNat)
                        case atStart => exact ⟨hB1, by omega, 0, gt, qs, by omega, rfl, s1, s1y, hq1, hM, HS, HBI0⟩
                        case round =>
                          clear HBI0 s1 s1y hq1 hB1 hM HS hz4 cv4
                          obtain ⟨hBi, hzi, k2, gt2, qs2, hk2, rfl, hrA2, hrB2, hQ2, hM2, HS2, HBI⟩ := hrel
                          have hzx := hBi.size
                          by_cases hlt2 : k2 < s.N
                          · have hk20 : (0 : Int) ≤ (k2 : Int) := by omega
                            have hk21 : (k2 : Int) < (s.N : Int) := by omega
                            by_cases hkf : k2 = from_
                            · subst hkf
                              have HBI2 := hid (HBI.out.bskip (fun _ => Or.inl rfl))
                              clear HBI
                              go_wp2
                              go_roundw
                              case rel => first | exact ⟨hBi, hzi, k2 + 1, gt2, qs2, by omega, by go_num, hrA2, hrB2, hQ2, hM2, HS2, HBI2⟩ | exact ⟨_, ⟨hBi, hzi, k2 + 1, gt2, qs2, by omega, by go_num, hrA2, hrB2, hQ2, hM2, HS2, HBI2⟩, rfl⟩ | exact ⟨_, _, ⟨hBi, hzi, k2 + 1, gt2, qs2, by omega, by go_num, hrA2, hrB2, hQ2, hM2, HS2, HBI2⟩, rfl, rfl⟩ | exact ⟨_, _, _, ⟨hBi, hzi, k2 + 1, gt2, qs2, by omega, by go_num, hrA2, hrB2, hQ2, hM2, HS2, HBI2⟩, rfl, rfl, rfl⟩ | exact ⟨_, _, _, _, ⟨hBi, hzi, k2 + 1, gt2, qs2, by omega, by go_num, hrA2, hrB2, hQ2, hM2, HS2, HBI2⟩, rfl, rfl, rfl, rfl⟩ | exact ⟨_, _, _, _, _, ⟨hBi, hzi, k2 + 1, gt2, qs2, by omega, by go_num, hrA2, hrB2, hQ2, hM2, HS2, HBI2⟩, rfl, rfl, rfl, rfl, rfl⟩
                              case measure => simp [intOf]; omega
                            · obtain ⟨b1, b2, b3⟩ := hrB2.cellAt hlt2
                              obtain ⟨y, hy⟩ : ∃ y, nth gt2 k2 = y := ⟨_, rfl⟩
                              have HY := hid hy
                              rw [hy] at b1
                              clear hy
                              by_cases hy0 : y < 0
                              · cases hsb2 : subN k k2 with
                                | false =>
                                  have HSB2 := hid hsb2
                                  have HBI2 := hid (HBI.out.bskip (fun h => by have := HF.out.sup k2 k hlt2 hlt (by omega); rw [HSB2.out] at this; cases this))
                                  clear HBI hsb2
                                  go_wp2_with fail
                                  refine (isOpen_any s lo hi k2 k _ fl lf du (HM.out.below HG.out hBi hhi) HG.out hlt2 hlt).mono ?_; rw [HSB2.out]; rintro e w' ⟨rfl, rfl⟩
                                  go_wp2
                                  go_roundw
                                  case rel => first | exact ⟨hBi, hzi, k2 + 1, gt2, qs2, by omega, by go_num, hrA2, hrB2, hQ2, hM2, HS2, HBI2⟩ | exact ⟨_, ⟨hBi, hzi, k2 + 1, gt2, qs2, by omega, by go_num, hrA2, hrB2, hQ2, hM2, HS2, HBI2⟩, rfl⟩ | exact ⟨_, _, ⟨hBi, hzi, k2 + 1, gt2, qs2, by omega, by go_num, hrA2, hrB2, hQ2, hM2, HS2, HBI2⟩, rfl, rfl⟩ | exact ⟨_, _, _, ⟨hBi, hzi, k2 + 1, gt2, qs2, by omega, by go_num, hrA2, hrB2, hQ2, hM2, HS2, HBI2⟩, rfl, rfl, rfl⟩ | exact ⟨_, _, _, _, ⟨hBi, hzi, k2 + 1, gt2, qs2, by omega, by go_num, hrA2, hrB2, hQ2, hM2, HS2, HBI2⟩, rfl, rfl, rfl, rfl⟩ | exact ⟨_, _, _, _, _, ⟨hBi, hzi, k2 + 1, gt2, qs2, by omega, by go_num, hrA2, hrB2, hQ2, hM2, HS2, HBI2⟩, rfl, rfl, rfl, rfl, rfl⟩
                                  case measure => simp [intOf]; omega
                                | true =>
                                  have HSB2 := hid hsb2
                                  have cvi := keep hBi cv
                                  have cgi := keep hBi (HM.out.g k2 hlt2)
                                  have cri := keep hBi (HM.out.r k2 k hlt2 hlt).1
                                  obtain ⟨z, hz⟩ : ∃ z, fl k2 k = z := ⟨_, rfl⟩
                                  have HZ := hid hz
                                  rw [hz] at cri
                                  clear hsb2 hz
                                  generalize s.R k2 = Rk at *
                                  by_cases hz0 : 0 < z
                                  · have hfl : Hid (0 < fl k2 k) := by show 0 < _; rw [HZ.out]; exact hz0
                                    have hgn2 : Hid (nth gt2 k2 < 0) := by show _ < 0; rw [HY.out]; exact hy0
                                    have HBI2 := hid (HBI.out.badd hlt2 hlt HGI.out hgn2.out hfl.out)
                                    have hnl := negs_set gt2 k2 (k : Int) (by rw [HBI.out.lt]; exact hlt2) hgn2.out (by omega)
                                    have HS3 : Hid (b0 = from_ ∨ 0 ≤ nth (gt2.set k2 (k : Int)) b0) := by
                                      refine HS2.out.imp id fun h => ?_
                                      rw [nth_set]; split
                                      · omega
                                      · exact h
                                    obtain ⟨sB, tB⟩ := hrB2.store hlt2 (k : Int)
                                    have sA := hrA2.setOther (a := ⟨GB, k2, none⟩) (by intro e; simp [Value.ownBlock] at e; omega) (.int .i64 (k : Int))
                                    have hQ5 := hQ2.grown tB (by omega)
                                    have hB5 := below_grownBy hBi (by omega) tB (fun b e => by injection e with e; omega)
                                    obtain ⟨u6, hu6⟩ : ∃ W, wr.setCell ⟨GB, k2, none⟩ (.int .i64 (k : Int)) = W := ⟨_, rfl⟩
                                    have hz6 : u6.heap.size = wr.heap.size := by rw [← hu6]; simp [World.setCell]
                                    have HSA : Hid (Row u6 w.heap.size (.slice (some ⟨GA, 0, none⟩) s.N s.N) gv2) := by rw [← hu6]; exact sA
                                    have HSB3 : Hid (Row u6 w.heap.size (.slice (some ⟨GB, 0, none⟩) s.N s.N) (gt2.set k2 (k : Int))) := by rw [← hu6]; exact sB
                                    have HQ6 : Hid (Qu u6 QL u12 qs2) := by rw [← hu6]; exact hQ5
                                    have HB6 : Hid (Below w.heap.size w u6) := by rw [← hu6]; exact hB5
                                    have hql : qs2.length < 1000000 := by omega
                                    clear HBI sA sB tB hQ5 hB5 hrA2 hrB2 hQ2
                                    go_wp2_with fail
                                    refine (isOpen_any s lo hi k2 k _ fl lf du (HM.out.below HG.out hBi hhi) HG.out hlt2 hlt).mono ?_; rw [HSB2.out]; rintro e w' ⟨rfl, rfl⟩
                                    go_wp2_with (at_builtin; (try rw [hu6]); refine wpList_append_q rfl _ _ rfl QL _ qs2 (by rfl) (HQ6.out.below (below_alloc u6 _) (Nat.le_refl _)) _ _ (k2 : Int) (by rfl) (by first | (simp; done) | (go_simp; done)) hql (by first | omega | (simp; omega)) ?_; intro vq' w' hq' hgr)
                                    have hown := HQ6.out.own
                                    have hAB6 : Below u6.heap.size u6 (u6.alloc (.cells #[.int .i64 (k2 : Int)] 3)) := below_alloc u6 _
                                    have h1 : Below w.heap.size w w' := below_grownBy (chain HB6.out hAB6) (by simp; omega) hgr (fun b e => by have := (hown b e).1; omega)
                                    have sm : ∀ kk, kk < u6.heap.size → kk < QL → w'.heap[kk]? = u6.heap[kk]? := fun kk h2 h3 => by
                                      rw [hgr.block kk (by simp; omega) (by intro e; have := (hown kk e.symm).1; omega)]
                                      exact hAB6.block kk h2
                                    have h2 := HSA.out.same fun kk e => sm kk (HSA.out.block kk e).2 (by have := own_eq e; omega)
                                    have h3 := HSB3.out.same fun kk e => sm kk (HSB3.out.block kk e).2 (by have := own_eq e; omega)
                                    have h4 : QL < w'.heap.size := by have := hgr.size; simp at this; omega
                                    go_roundw
                                    case rel => first | exact ⟨h1, h4, k2 + 1, gt2.set k2 (k : Int), qs2 ++ [(k2 : Int)], by omega, by go_num, h2, h3, hq', by rw [List.length_append]; simp; omega, HS3, HBI2⟩ | exact ⟨_, ⟨h1, h4, k2 + 1, gt2.set k2 (k : Int), qs2 ++ [(k2 : Int)], by omega, by go_num, h2, h3, hq', by rw [List.length_append]; simp; omega, HS3, HBI2⟩, rfl⟩ | exact ⟨_, _, ⟨h1, h4, k2 + 1, gt2.set k2 (k : Int), qs2 ++ [(k2 : Int)], by omega, by go_num, h2, h3, hq', by rw [List.length_append]; simp; omega, HS3, HBI2⟩, rfl, rfl⟩ | exact ⟨_, _, _, ⟨h1, h4, k2 + 1, gt2.set k2 (k : Int), qs2 ++ [(k2 : Int)], by omega, by go_num, h2, h3, hq', by rw [List.length_append]; simp; omega, HS3, HBI2⟩, rfl, rfl, rfl⟩ | exact ⟨_, _, _, _, ⟨h1, h4, k2 + 1, gt2.set k2 (k : Int), qs2 ++ [(k2 : Int)], by omega, by go_num, h2, h3, hq', by rw [List.length_append]; simp; omega, HS3, HBI2⟩, rfl, rfl, rfl, rfl⟩ | exact ⟨_, _, _, _, _, ⟨h1, h4, k2 + 1, gt2.set k2 (k : Int), qs2 ++ [(k2 : Int)], by omega, by go_num, h2, h3, hq', by rw [List.length_append]; simp; omega, HS3, HBI2⟩, rfl, rfl, rfl, rfl, rfl⟩
                                    case measure => simp [intOf]; omega
                                  · have HBI2 := hid (HBI.out.bskip (fun h => by rw [HZ.out] at h; exact absurd h hz0))
                                    clear HBI
                                    go_wp2_with fail
                                    refine (isOpen_any s lo hi k2 k _ fl lf du (HM.out.below HG.out hBi hhi) HG.out hlt2 hlt).mono ?_; rw [HSB2.out]; rintro e w' ⟨rfl, rfl⟩
                                    go_wp2
                                    go_roundw
                                    case rel => first | exact ⟨hBi, hzi, k2 + 1, gt2, qs2, by omega, by go_num, hrA2, hrB2, hQ2, hM2, HS2, HBI2⟩ | exact ⟨_, ⟨hBi, hzi, k2 + 1, gt2, qs2, by omega, by go_num, hrA2, hrB2, hQ2, hM2, HS2, HBI2⟩, rfl⟩ | exact ⟨_, _, ⟨hBi, hzi, k2 + 1, gt2, qs2, by omega, by go_num, hrA2, hrB2, hQ2, hM2, HS2, HBI2⟩, rfl, rfl⟩ | exact ⟨_, _, _, ⟨hBi, hzi, k2 + 1, gt2, qs2, by omega, by go_num, hrA2, hrB2, hQ2, hM2, HS2, HBI2⟩, rfl, rfl, rfl⟩ | exact ⟨_, _, _, _, ⟨hBi, hzi, k2 + 1, gt2, qs2, by omega, by go_num, hrA2, hrB2, hQ2, hM2, HS2, HBI2⟩, rfl, rfl, rfl, rfl⟩ | exact ⟨_, _, _, _, _, ⟨hBi, hzi, k2 + 1, gt2, qs2, by omega, by go_num, hrA2, hrB2, hQ2, hM2, HS2, HBI2⟩, rfl, rfl, rfl, rfl, rfl⟩
                                    case measure => simp [intOf]; omega
                              · have HBI2 := hid (HBI.out.bskip (fun _ => Or.inr (by rw [HY.out]; omega)))
                                clear HBI
                                go_wp2
                                go_roundw
                                case rel => first | exact ⟨hBi, hzi, k2 + 1, gt2, qs2, by omega, by go_num, hrA2, hrB2, hQ2, hM2, HS2, HBI2⟩ | exact ⟨_, ⟨hBi, hzi, k2 + 1, gt2, qs2, by omega, by go_num, hrA2, hrB2, hQ2, hM2, HS2, HBI2⟩, rfl⟩ | exact ⟨_, _, ⟨hBi, hzi, k2 + 1, gt2, qs2, by omega, by go_num, hrA2, hrB2, hQ2, hM2, HS2, HBI2⟩, rfl, rfl⟩ | exact ⟨_, _, _, ⟨hBi, hzi, k2 + 1, gt2, qs2, by omega, by go_num, hrA2, hrB2, hQ2, hM2, HS2, HBI2⟩, rfl, rfl, rfl⟩ | exact ⟨_, _, _, _, ⟨hBi, hzi, k2 + 1, gt2, qs2, by omega, by go_num, hrA2, hrB2, hQ2, hM2, HS2, HBI2⟩, rfl, rfl, rfl, rfl⟩ | exact ⟨_, _, _, _, _, ⟨hBi, hzi, k2 + 1, gt2, qs2, by omega, by go_num, hrA2, hrB2, hQ2, hM2, HS2, HBI2⟩, rfl, rfl, rfl, rfl, rfl⟩
                                case measure => simp [intOf]; omega
                          · have hke : k2 = s.N := by omega
                            have HBI2 : Hid (Bfs s.N from_ fl du gv2 gt2 qs2 rk2 (XM b0 (k + 1)) XF) := by have h := HBI.out; rw [hke] at h; exact h.bpass
                            have hk21 : ¬ (k2 : Int) < (s.N : Int) := by omega
                            clear HBI hke
                            go_wp2
                            go_roundw
                            case rel => first | exact ⟨hBi, hzi, k + 1, gv2, gt2, qs2, rk2, by omega, by go_num, hrA2, hrB2, hQ2, hM2, HS2, HBI2⟩ | exact ⟨_, ⟨hBi, hzi, k + 1, gv2, gt2, qs2, rk2, by omega, by go_num, hrA2, hrB2, hQ2, hM2, HS2, HBI2⟩, rfl⟩ | exact ⟨_, _, ⟨hBi, hzi, k + 1, gv2, gt2, qs2, rk2, by omega, by go_num, hrA2, hrB2, hQ2, hM2, HS2, HBI2⟩, rfl, rfl⟩ | exact ⟨_, _, _, ⟨hBi, hzi, k + 1, gv2, gt2, qs2, rk2, by omega, by go_num, hrA2, hrB2, hQ2, hM2, HS2, HBI2⟩, rfl, rfl, rfl⟩ | exact ⟨_, _, _, _, ⟨hBi, hzi, k + 1, gv2, gt2, qs2, rk2, by omega, by go_num, hrA2, hrB2, hQ2, hM2, HS2, HBI2⟩, rfl, rfl, rfl, rfl⟩ | exact ⟨_, _, _, _, _, ⟨hBi, hzi, k + 1, gv2, gt2, qs2, rk2, by omega, by go_num, hrA2, hrB2, hQ2, hM2, HS2, HBI2⟩, rfl, rfl, rfl, rfl, rfl⟩
                            case measure => simp [intOf]; omega
                · have hke : k = s.N := by omega
                  have HBP2 : Hid (Bfs s.N from_ fl du gv gt qs rk XF XF) := by have h := HBM.out; rw [hke] at h; exact h.pass
                  have hk1 : ¬ (k : Int) < (s.N : Int) := by omega
                  have hmm : lenV u12 + negsW wr GB s.N < rest.length + 1 + negs gt0 := by rw [hQm.lenV, negsW_eq HBM.out.lt (row_cells hrB)]; have := HHM.out; omega
                  clear HBM hke
                  go_wp2
                  go_roundw
                  case rel => first | exact ⟨hBm, hzm, gv, gt, qs, rk, hrA, hrB, hQm, by omega, HBP2⟩ | exact ⟨_, ⟨hBm, hzm, gv, gt, qs, rk, hrA, hrB, hQm, by omega, HBP2⟩, rfl⟩ | exact ⟨_, _, ⟨hBm, hzm, gv, gt, qs, rk, hrA, hrB, hQm, by omega, HBP2⟩, rfl, rfl⟩ | exact ⟨_, _, _, ⟨hBm, hzm, gv, gt, qs, rk, hrA, hrB, hQm, by omega, HBP2⟩, rfl, rfl, rfl⟩ | exact ⟨_, _, _, _, ⟨hBm, hzm, gv, gt, qs, rk, hrA, hrB, hQm, by omega, HBP2⟩, rfl, rfl, rfl, rfl⟩ | exact ⟨_, _, _, _, _, ⟨hBm, hzm, gv, gt, qs, rk, hrA, hrB, hQm, by omega, HBP2⟩, rfl, rfl, rfl, rfl, rfl⟩
                  case measure => rw [HM0.out]; exact hmm
end Go.Proofs.YtefmlbahmakboaaGreatDoor
