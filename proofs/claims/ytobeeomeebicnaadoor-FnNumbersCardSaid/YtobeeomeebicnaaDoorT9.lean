/- impl.ParseNumbers. -/
import Derived.Test.YtobeeomeebicnaaDoorT8
import Derived.Test.YtobeeomeebicnaaDoorT4
import Derived.Lib.AtoiErrMem
set_option linter.unusedSimpArgs false
set_option linter.unusedVariables false
namespace Go.Proofs.YtobeeomeebicnaaDoor
open Go.RowKit
/-- what the library's functions read -/
structure LibV (w : World) : Prop where
  pow : Pow w
  syn : ∃ tp p, w.var? Tryd.prog "strconv.ErrSyntax" = some #[.iface tp p]
  rng : ∃ tp p, w.var? Tryd.prog "strconv.ErrRange" = some #[.iface tp p]
  mx : ∃ m, w.cell? ⟨2, 0, none⟩ = some (.int .i64 m)
theorem var_below {w w' : World} {n : String} {cs : Array Value} (h : w.var? Tryd.prog n = some cs) (hb : Below w.heap.size w w') : w'.var? Tryd.prog n = some cs := by
  unfold World.var? at h ⊢
  cases hg : Tryd.prog.globalNamed n with
  | none => rw [hg] at h; cases h
  | some g =>
    rw [hg] at h
    simp only [Option.bind_some] at h ⊢
    have hlt : g < w.heap.size := by
      rcases Nat.lt_or_ge g w.heap.size with h' | h'
      · exact h'
      · rw [Array.getElem?_eq_none h'] at h; cases h
    rw [hb.block g hlt]; exact h
theorem LibV.below {w w' : World} (h : LibV w) (hb : Below w.heap.size w w') : LibV w' := by
  refine ⟨h.pow.below hb, ?_, ?_, ?_⟩
  · obtain ⟨tp, p, h1⟩ := h.syn; exact ⟨tp, p, var_below h1 hb⟩
  · obtain ⟨tp, p, h1⟩ := h.rng; exact ⟨tp, p, var_below h1 hb⟩
  · obtain ⟨m, h1⟩ := h.mx
    exact ⟨m, by rw [hb.cell (World.block_lt_of_cell? w _ h1)]; exact h1⟩
theorem split_row (s : ByteArray) (w : World) (hs : s.size ≤ 1048576) (hv : LibV w) :
    Calls Tryd.prog 22 #[.string s, .string ⟨#[32]⟩] w fun e w' => ∃ n ys, e = .returned (.slice (some ⟨w.heap.size, 0, none⟩) n n) ∧ SRow w' w.heap.size (.slice (some ⟨w.heap.size, 0, none⟩) n n) ys ∧ ys.map (·.data.toList) = cutAt 32 s.data.toList ∧ Below w.heap.size w w' := by
  obtain ⟨m, hm⟩ := hv.mx
  refine (Tryd.strings_Split s ⟨#[32]⟩ m w (by omega) hm (by decide)).mono ?_
  rintro e w' ⟨rfl, rfl⟩
  have hlen := Lib.splitB_all ⟨#[32]⟩ (by decide) 0 (Lib.countB s ⟨#[32]⟩) s rfl
  have hcut := splitB_cut 32 s
  have hcount : Lib.countB s ⟨#[32]⟩ + 1 ≤ 1048577 := by
    have h1 := cut_count 32 s.data.toList
    rw [← hcut, List.length_map, hlen, size_list] at h1; omega
  refine ⟨_, Lib.splitB ⟨#[32]⟩ 0 (Lib.countB s ⟨#[32]⟩) s, rfl, ?_, hcut, below_alloc w _⟩
  have := World.ownsRow_lit (base := w.heap.size) (e := 9) (size := 1) w (((Lib.splitB ⟨#[32]⟩ 0 (Lib.countB s ⟨#[32]⟩) s).map Value.string).toArray) (Lib.countB s ⟨#[32]⟩ + 1) (Nat.le_refl _) (by unfold maxLen; omega) (by simp [hlen])
  simpa [SRow, hlen] using this
/-- a word that Atoi takes -/
theorem atoi_good (y : ByteArray) (v : Int) (h : Lib.atoiAll y.data.toList = .ok v) (hs : y.size ≤ 1048576) (w : World) :
    Calls Tryd.prog 23 #[.string y] w fun e w' => e = .returned (.tuple #[.int .i64 v, .nilIface]) ∧ Below w.heap.size w w' :=
  (Tryd.strconv_Atoi_ok y (by omega) v h w).mono fun e w' ⟨he, hw⟩ => ⟨he, by
    rcases hw with rfl | ⟨t, rfl⟩
    · exact Below.refl _ _
    · exact Lib.bytesWorld_below _ _ _⟩
/-- a word that Atoi refuses -/
theorem atoi_bad (y : ByteArray) (h : ∀ v, Lib.atoiAll y.data.toList ≠ .ok v) (hs : y.size ≤ 1048576) (w : World) (hv : LibV w) :
    Calls Tryd.prog 23 #[.string y] w fun e w' => ∃ x N, e = .returned (.tuple #[.int .i64 x, .iface 67 (.pointer (some ⟨N, 0, none⟩))]) ∧ Below w.heap.size w w' := by
  cases hc : Lib.atoiAll y.data.toList with
  | ok v => exact absurd hc (h v)
  | «syntax» =>
    obtain ⟨tp, p, h1⟩ := hv.syn
    refine (Tryd.strconv_Atoi_syntax_var y (by omega) hc tp p w h1).mono ?_
    rintro e w' ⟨N, rfl, -, -, hb⟩
    exact ⟨_, N, rfl, hb⟩
  | range =>
    obtain ⟨tp, p, h1⟩ := hv.rng
    refine (Tryd.strconv_Atoi_range_var y (by omega) hc tp p w h1).mono ?_
    rintro e w' ⟨N, rfl, -, -, hb⟩
    exact ⟨_, N, rfl, hb⟩
set_option maxRecDepth 100000 in
set_option maxHeartbeats 1600000 in
theorem implParse_any (s : ByteArray) (w : World) (hs : s.size ≤ 1048576) (hv : LibV w) :
    Calls Tryd.prog 11 #[.string s] w fun e w' => RetN (parseR s.data.toList) w.heap.size e w' ∧ Below w.heap.size w w' := by
  go_enter Tryd.func11, Tryd.ntmps11
  go_wp2_with fail
  obtain ⟨q0, hq0⟩ : ∃ q : World, q = w.alloc (.cells #[] 3) := ⟨_, rfl⟩
  rw [← hq0]
  have hz0 : q0.heap.size = w.heap.size + 1 := by rw [hq0]; simp
  have hbq : Below w.heap.size w q0 := by rw [hq0]; exact below_alloc w _
  have hrq : Row q0 w.heap.size (.slice (some ⟨w.heap.size, 0, none⟩) 0 0) [] := by rw [hq0]; exact rowLit w
  have HQ := hid hq0; clear hq0
  refine (split_row s q0 hs (hv.below hbq)).mono ?_
  rintro e w1 ⟨n, ys, rfl, hsr, hW, hb1⟩
  obtain ⟨gw, hgw⟩ : ∃ g, g = q0.heap.size := ⟨_, rfl⟩
  rw [← hgw] at hsr ⊢
  obtain ⟨hyn, hnc, hgw1, hgw2, -⟩ := hsr.at
  have hn1 : n ≤ 1048577 := by
    have h1 := cut_count 32 s.data.toList
    rw [← hW, size_list] at h1; simp at h1; omega
  have HW := hid hW; clear hW
  have HYN := hid hyn; clear hyn
  have HK := hid hz0
  have hgne : w.heap.size < gw := by omega
  have HGW := hid hgw
  clear hz0 hgw
  have hrq1 := hrq.below hb1
  have hB1 := hbq.trans (hb1.mono hbq.size)
  go_wp2
  go_loopw [4, 6, 7, 8, 13, 17] (fun o _ _ _ i _ wr => Below w.heap.size w wr ∧ ∃ (k g cp : Nat), k ≤ n ∧ i = .int .i64 k ∧ o = .slice (some ⟨g, 0, none⟩) k cp ∧ Row wr w.heap.size (.slice (some ⟨g, 0, none⟩) k cp) (valsOf atP ((ys.map (·.data.toList)).take k)) ∧ SRow wr gw (.slice (some ⟨gw, 0, none⟩) n n) ys ∧ g ≠ gw ∧ Hid (okAll atP ((ys.map (·.data.toList)).take k) = true)) (fun _ _ _ _ i _ _ => n - (intOf i).toNat)
  case atStart => exact ⟨hB1, 0, w.heap.size, 0, by omega, rfl, rfl, hrq1, hsr, by omega, rfl⟩
  case round =>
    obtain ⟨hB, k, g, cp, hk, rfl, rfl, hrow, hsr, hgg, HO⟩ := hrel
    have hBs := hB.size
    have hrl : (valsOf atP ((ys.map (·.data.toList)).take k)).length = k := by rw [vals_len]; have := HYN.out; simp; omega
    have hvr := hv.below hB
    by_cases hlt : k < n
    · obtain ⟨y, hy⟩ : ∃ y, ys[k]? = some y := ⟨ys[k]'(by have := HYN.out; omega), List.getElem?_eq_getElem _⟩
      have hcell : wr.cell? ⟨gw, k, none⟩ = some (.string y) := by have := hsr.at.2.2.2.2 k y hy; simpa using this
      have hyw : (ys.map (·.data.toList))[k]? = some y.data.toList := by rw [List.getElem?_map, hy]; rfl
      have hyc : (cutAt 32 s.data.toList)[k]? = some y.data.toList := by rw [← HW.out]; exact hyw
      have hysz : y.size ≤ 1048576 := by
        have := cut_len 32 s.data.toList _ (List.mem_of_getElem? hyc)
        rw [size_list, size_list] at this; omega
      have HY := hid hyw
      have HYC := hid hyc
      clear hy hyw hyc
      by_cases hr : ∃ v, Lib.atoiAll y.data.toList = .ok v
      · obtain ⟨v, hr⟩ := hr
        have hc := atoi_good y v hr hysz
        have HR := hid hr; clear hr
        cases hin : inB (-1000000000) 1000000000 v with
        | false =>
          have HN : Hid (parseR s.data.toList = none) := parseA_bad HYC.out (atP_none2 HR.out hin)
          have hp : ∀ w2, Calls Tryd.prog 24 #[.int .i64 v] w2 fun e w' => e = .returned (.bool false) ∧ w2 = w' := fun w2 => by
            have := isPart_any v w2; rw [hin] at this; exact this
          clear hin
          go_wp2_with (first | (go_at_call 23; refine (hc _).mono ?_; rintro e w2 ⟨rfl, hb2⟩) | (go_at_call 24; refine (hp _).mono ?_; rintro e w3 ⟨rfl, rfl⟩))
          refine bodyPost_ret (v := .tuple #[.slice none 0 0, .bool false]) (by simp [results, Tryd.results11, go_sem]) rfl ⟨⟨_, by rw [HN.out]; rfl, by rw [HN.out]; exact Row.nil _ _⟩, hB.trans (hb2.mono hBs)⟩
        | true =>
          have hp : ∀ w2, Calls Tryd.prog 24 #[.int .i64 v] w2 fun e w' => e = .returned (.bool true) ∧ w2 = w' := fun w2 => by
            have := isPart_any v w2; rw [hin] at this; exact this
          have HV : Hid (atP y.data.toList = some v) := atP_some1 HR.out hin
          clear hin
          go_wp2_with (first | (go_at_call 23; refine (hc _).mono ?_; rintro e w2 ⟨rfl, hb2⟩) | (go_at_call 24; refine (hp _).mono ?_; rintro e w3 ⟨rfl, rfl⟩) | (at_builtin; refine wpList_append_int2 rfl _ _ rfl w.heap.size _ _ k hrl (by rfl) ((hrow.below hb2).below (below_alloc w2 _)) _ _ v (by rfl) (by simp) (by omega) (by have := hb2.size; simp; omega) ?_; intro g' c' w' hrow' hgrow hgn))
          have hz2 := hb2.size
          have HB2 := hid (below_grownBy ((hB.trans (hb2.mono hBs)).alloc (by omega) _) (by simp; omega) hgrow (fun b e => (hrow.block b e).1))
          have hg2 : g' ≠ gw := by
            rcases hgn with h | h
            · have h2 : some g = some g' := h
              injection h2 with h2; omega
            · have := hsr.at.2.2.2.1; simp at h; omega
          have hsr2 : SRow w' gw (.slice (some ⟨gw, 0, none⟩) n n) ys := ((hsr.below hb2).below (below_alloc w2 _)).grown hgrow (by intro e; injection e with e; exact hgg e.symm)
          have HT : Hid (valsOf atP ((ys.map (·.data.toList)).take (k + 1)) = valsOf atP ((ys.map (·.data.toList)).take k) ++ [v]) := vals_step atP HY.out HV.out
          have HO2 := hid (ok_step HY.out HV.out HO.out)
          clear hgrow hrow hgn hsr
          go_roundw
          case rel => first | exact ⟨HB2.out, k + 1, g', c', by omega, by go_num, rfl, by rw [HT.out]; exact hrow', hsr2, hg2, HO2.out⟩ | exact ⟨_, ⟨HB2.out, k + 1, g', c', by omega, by go_num, rfl, by rw [HT.out]; exact hrow', hsr2, hg2, HO2.out⟩, rfl⟩ | exact ⟨_, _, ⟨HB2.out, k + 1, g', c', by omega, by go_num, rfl, by rw [HT.out]; exact hrow', hsr2, hg2, HO2.out⟩, rfl, rfl⟩ | exact ⟨_, _, _, ⟨HB2.out, k + 1, g', c', by omega, by go_num, rfl, by rw [HT.out]; exact hrow', hsr2, hg2, HO2.out⟩, rfl, rfl, rfl⟩ | exact ⟨_, _, _, _, ⟨HB2.out, k + 1, g', c', by omega, by go_num, rfl, by rw [HT.out]; exact hrow', hsr2, hg2, HO2.out⟩, rfl, rfl, rfl, rfl⟩ | exact ⟨_, _, _, _, _, ⟨HB2.out, k + 1, g', c', by omega, by go_num, rfl, by rw [HT.out]; exact hrow', hsr2, hg2, HO2.out⟩, rfl, rfl, rfl, rfl, rfl⟩
          case measure => simp [intOf]; omega
      · have hr2 : ∀ v, Lib.atoiAll y.data.toList ≠ .ok v := fun v e => hr ⟨v, e⟩
        have HN : Hid (parseR s.data.toList = none) := parseA_bad HYC.out (atP_none1 hr2)
        have hc := atoi_bad y hr2 hysz
        clear hr hr2
        go_wp2_with (go_at_call 23; refine (hc _ hvr).mono ?_; rintro e w2 ⟨x, N, rfl, hb2⟩)
        refine bodyPost_ret (v := .tuple #[.slice none 0 0, .bool false]) (by simp [results, Tryd.results11, go_sem]) rfl ⟨⟨_, by rw [HN.out]; rfl, by rw [HN.out]; exact Row.nil _ _⟩, hB.trans (hb2.mono hBs)⟩
    · have hkn : k = n := by omega
      have et : (ys.map (·.data.toList)).take k = cutAt 32 s.data.toList := by
        have h1 := HW.out; have h2 := HYN.out
        rw [List.take_of_length_le (by simp; omega), h1]
      have HO2 := hid HO.out
      rw [et] at hrow HO2 hrl
      obtain ⟨V, hVe⟩ : ∃ V, V = valsOf atP (cutAt 32 s.data.toList) := ⟨_, rfl⟩
      have hbd := vals_bound (cutAt 32 s.data.toList)
      rw [← hVe] at hrow hrl hbd
      have hlen : (cutAt 32 s.data.toList).length = k := by rw [← hrl, hVe, vals_len]
      have HL := hid hlen; have HVE := hid hVe; have HRL := hid hrl
      clear hkn et hrl HO hlen hVe
      by_cases h16 : 16 < k
      · have HN : Hid (parseR s.data.toList = none) := parseR_long (by rw [HL.out]; exact h16)
        go_wp2
        refine bodyPost_ret (v := .tuple #[.slice none 0 0, .bool false]) (by simp [results, Tryd.results11, go_sem]) rfl ⟨⟨_, by rw [HN.out]; rfl, by rw [HN.out]; exact Row.nil _ _⟩, hB⟩
      · have z16 : decide (16 < (k : Int)) = false := by simp; omega
        obtain ⟨ao, nv, cv, ev, hi⟩ := hrow.ints
        injection ev with e1 e2 e3
        subst e1 e2
        have hnt := numbersText_any _ k cp V wr hi hbd (by omega) hvr.pow
        by_cases ht : numT V = s.data.toList
        · have HN : Hid (parseR s.data.toList = some V) := by
            show _ = _; rw [HVE.out]; exact parseA_good HO2.out (by rw [HL.out]; omega) (by rw [← HVE.out]; exact ht)
          have hbs : bs (numT V) = s := by rw [ht]; exact ByteArray.ext (Array.toList_inj.1 (by rw [bs_data]))
          rw [hbs] at hnt
          clear ht hbs e3 hi
          go_wp2_with (go_at_call 18; refine hnt.mono ?_; rintro e w2 ⟨rfl, hb2⟩)
          refine bodyPost_ret (v := .tuple #[.slice (some ⟨g, 0, none⟩) k cp, .bool true]) (by simp [results, Tryd.results11, go_sem]) rfl ⟨⟨_, by rw [HN.out]; rfl, by rw [HN.out]; exact hrow.below hb2⟩, hB.trans (hb2.mono hBs)⟩
        · have HN : Hid (parseR s.data.toList = none) := parseA_odd (by rw [← HVE.out]; exact ht)
          obtain ⟨u, hu⟩ : ∃ u, u = bs (numT V) := ⟨_, rfl⟩
          rw [← hu] at hnt
          have hn1 : (u.toList == s.toList) = false := by
            rw [beq_eq_false_iff_ne, Lib.toList_data, Lib.toList_data]
            intro e; exact ht (by rw [← e, hu, bs_data])
          clear ht hu hi e3
          go_wp2_with (go_at_call 18; refine hnt.mono ?_; rintro e w2 ⟨rfl, hb2⟩)
          refine bodyPost_ret (v := .tuple #[.slice none 0 0, .bool false]) (by simp [results, Tryd.results11, go_sem]) rfl ⟨⟨_, by rw [HN.out]; rfl, by rw [HN.out]; exact Row.nil _ _⟩, hB.trans (hb2.mono hBs)⟩
end Go.Proofs.YtobeeomeebicnaaDoor
