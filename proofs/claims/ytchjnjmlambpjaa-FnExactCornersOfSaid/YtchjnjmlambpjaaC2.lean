/- All orders of answers, both ways: ordersOf, l10Orders. -/
import Derived.Test.YtchjnjmlambpjaaC0
import Derived.Test.YtchjnjmlambpjaaDR
import Derived.Laws.AppendOwnNone
import Derived.Maps.AppendAt
set_option linter.unusedSimpArgs false
set_option linter.unusedVariables false
namespace Go.Proofs.Ytchjnjmlambpjaa
open Go.RowKit
theorem Row.lit (w : World) : Row (w.alloc (.cells #[] 3)) w.heap.size (.slice (some ⟨w.heap.size, 0, none⟩) 0 0) [] := World.ownsRow_lit w #[] 0 (Nat.le_refl _) (by unfold maxLen; omega) rfl
/-- an owned list appended -/
theorem wpList_append_own2 {w : World} {ops : Array Oper} {rest : List Oper} {o : Oper} {a : Act} {Q : Exit → Act → World → Prop} (hgd : o.guard = none) (s x : Operand)
    (ho : o.op = .call { callee := .builtin .append, args := #[s, x], argTypes := #[22, 22] })
    (base : Nat) (v : Value) (xs : List Int) (n : Nat) (hl : xs.length = n) (hs : a.eval s = v) (hown : Row w base v xs)
    (b2 : Nat) (u : Value) (ys : List Int) (hx : a.eval x = u) (hu : Row w b2 u ys)
    (hn : n + ys.length < 1000000000) (hbase : base ≤ w.heap.size)
    (h : ∀ ag ng cg w', Row w' base (.slice ag ng cg) (xs ++ ys) → w.grownBy w' v.ownBlock → wpList Try.prog ops Q rest (a.put o.dst (.slice ag ng cg)) w') :
    wpList Try.prog ops Q (o :: rest) a w := by
  obtain ⟨i0, hi, hz0, hz1, hz2⟩ := info_parts info_int
  subst hl
  have hu0 := hu
  rcases hu.2 with ⟨e0, h0⟩ | ⟨g, cap, cur, e1, hg, hh, r⟩
  · have hy0 : ys = [] := List.eq_nil_of_length_eq_zero h0
    subst e0 hy0
    refine wpList_append_own_none hgd s x 22 ho base 3 i0 1 Try.underlying22 hi v xs.length _ hs hown hx ?_
    obtain ⟨ag, ng, cg, e, _⟩ := hown.ints
    subst e
    refine h ag ng cg w ?_ (grownBy_refl _ _)
    rw [List.append_nil]; exact hown
  · subst e1
    refine wpList_append_own_at w hgd s x 22 ho base 3 i0 (.int .i64 0) 1 8 Try.underlying22 hi hz0 hz1 hz2 rfl (by decide) v xs.length _ hs hown ⟨g, 0, none⟩ ys.length cap (ys.map (Value.int .i64)) hx (by simp) ?_ ?_ (by unfold maxLen; omega) (by omega) hbase fun v' w' h1 h2 _ _ => ?_
    · intro j z hj
      have e := World.ownsRow.cells hu0 (g := g) rfl j z hj
      exact e
    · intro z hz
      simp at hz
      obtain ⟨q, _, rfl⟩ := hz
      rfl
    · have hr : Row w' base v' (xs ++ ys) := by simpa [Row] using h1
      obtain ⟨ag, ng, cg, e, _⟩ := hr.ints
      subst e
      exact h ag ng cg w' hr h2
theorem RowsO.at {w w' : World} {base : Nat} {v : Value} {xss : List (List Int)} (h : RowsO w base v xss) (hb : Below w.heap.size w w') {k : Nat} (hk : k < xss.length) :
    ∃ g c u, v = .slice (some ⟨g, 0, none⟩) xss.length c ∧ base ≤ g ∧ g < w.heap.size ∧ g < w'.heap.size ∧ w'.cell? ⟨g, k, none⟩ = some u ∧ Row w base u (nthL xss k) := by
  obtain ⟨g, c, e, h1, h2⟩ := h.form2 (by omega)
  subst e
  obtain ⟨vals, o1, o2, o3⟩ := h.own
  have hv : vals[k]? = some (vals[k]'(by omega)) := List.getElem?_eq_getElem (by omega)
  have ec := World.ownsRow.cells o1 (g := g) rfl k _ hv
  have ha : (⟨g, 0, none⟩ : Addr).add k = ⟨g, k, none⟩ := by unfold Addr.add; split <;> simp_all
  rw [ha] at ec
  exact ⟨g, c, _, rfl, h1, h2, Nat.lt_of_lt_of_le h2 hb.size, (hb.cell (p := ⟨g, k, none⟩) h2).trans ec, (o3 k _ hv).1⟩
set_option maxHeartbeats 400000 in
theorem IndexI_any (ao : Option Addr) (n c : Nat) (xs : List Int) (x : Int) (w : World) (hx : IntsAt w ao n xs) :
    Calls Try.prog 154 #[.slice ao n c, .int .i64 x] w fun e w' => (∃ r : Int, e = .returned (.int .i64 r) ∧ decide (0 ≤ r) = hasI xs x) ∧ w = w' := by
  have hcap := hx.cap
  have hxl := hid hx.len
  go_enter Try.func154, Try.ntmps154
  go_wp2
  go_loop [5, 8] (fun _ i => ∃ k : Nat, k ≤ n ∧ i = .int .i64 k ∧ allN (fun k => !(nth xs k == x)) k = true) (fun _ i => n - (intOf i).toNat)
  case atStart => exact ⟨0, by omega, rfl, rfl⟩
  case round =>
    obtain ⟨k, hk, rfl, ha⟩ := hrel
    have HA := hid ha; clear ha
    by_cases hlt : k < n
    · obtain ⟨b, off, rfl, hbs, hbs', hck⟩ := hx.at (Below.refl _ _) hlt
      cases hp : (x == nth xs k)
      · have HP : Hid ((nth xs k == x) = false) := by rw [Hid]; simp at hp ⊢; omega
        go_wp2
        go_round
        case rel => first | exact ⟨k + 1, by omega, by go_num, by show (allN (fun k => !(nth xs k == x)) k && !(nth xs k == x)) = true; rw [HA.out, HP.out]; rfl⟩ | exact ⟨_, ⟨k + 1, by omega, by go_num, by show (allN (fun k => !(nth xs k == x)) k && !(nth xs k == x)) = true; rw [HA.out, HP.out]; rfl⟩, rfl⟩ | exact ⟨_, _, ⟨k + 1, by omega, by go_num, by show (allN (fun k => !(nth xs k == x)) k && !(nth xs k == x)) = true; rw [HA.out, HP.out]; rfl⟩, rfl, rfl⟩ | exact ⟨_, _, _, ⟨k + 1, by omega, by go_num, by show (allN (fun k => !(nth xs k == x)) k && !(nth xs k == x)) = true; rw [HA.out, HP.out]; rfl⟩, rfl, rfl, rfl⟩ | exact ⟨_, _, _, _, ⟨k + 1, by omega, by go_num, by show (allN (fun k => !(nth xs k == x)) k && !(nth xs k == x)) = true; rw [HA.out, HP.out]; rfl⟩, rfl, rfl, rfl, rfl⟩ | exact ⟨_, _, _, _, _, ⟨k + 1, by omega, by go_num, by show (allN (fun k => !(nth xs k == x)) k && !(nth xs k == x)) = true; rw [HA.out, HP.out]; rfl⟩, rfl, rfl, rfl, rfl, rfl⟩
        case measure => simp [intOf]; omega
      · have HF : Hid (hasI xs x = true) := by
          rw [Hid]; unfold hasI
          rw [allN_false (p := fun k => !(nth xs k == x)) (by rw [hxl.out]; exact hlt) (by simp at hp ⊢; omega)]; rfl
        go_wp2
        go_ret
        exact ⟨⟨_, rfl, by rw [HF.out]; simp⟩, rfl⟩
    · have hkn : k = n := by omega
      subst hkn
      have HF : Hid (hasI xs x = false) := by
        rw [Hid]; unfold hasI
        rw [hxl.out, HA.out]; rfl
      go_wp2
      go_ret
      exact ⟨⟨_, rfl, by rw [HF.out]; simp⟩, rfl⟩
theorem ContainsI_any (ao : Option Addr) (n c : Nat) (xs : List Int) (x : Int) (w : World) (hx : IntsAt w ao n xs) :
    Calls Try.prog 146 #[.slice ao n c, .int .i64 x] w fun e w' => e = .returned (.bool (hasI xs x)) ∧ w = w' := by
  go_enter Try.func146, Try.ntmps146
  go_wp2_with fail
  refine (IndexI_any _ _ _ xs x _ hx).mono ?_; rintro e w1 ⟨⟨r, rfl, hr⟩, rfl⟩
  have HR := hid hr; clear hr
  go_wp2
  go_ret
  exact ⟨ret_bool (by rw [← HR.out]), rfl⟩
set_option maxHeartbeats 400000 in
theorem l10In_any (ao : Option Addr) (n c : Nat) (xs : List Int) (x : Int) (w : World) (hx : IntsAt w ao n xs) :
    Calls Try.prog 110 #[.slice ao n c, .int .i64 x] w fun e w' => e = .returned (.bool (hasI xs x)) ∧ w = w' := by
  have hcap := hx.cap
  have hxl := hid hx.len
  obtain ⟨t, HT⟩ : ∃ t, Hid (hasI xs x = t) := ⟨_, rfl⟩
  rw [HT.out]
  go_enter Try.func110, Try.ntmps110
  go_wp2
  go_loop [5] (fun i => ∃ k : Nat, k ≤ n ∧ i = .int .i64 k ∧ allN (fun k => !(nth xs k == x)) k = true) (fun i => n - (intOf i).toNat)
  case atStart => exact ⟨0, by omega, rfl, rfl⟩
  case round =>
    obtain ⟨k, hk, rfl, ha⟩ := hrel
    have HA := hid ha; clear ha
    by_cases hlt : k < n
    · obtain ⟨b, off, rfl, hbs, hbs', hck⟩ := hx.at (Below.refl _ _) hlt
      cases hp : (nth xs k == x)
      · have HP := hid hp
        go_wp2
        go_round
        case rel => first | exact ⟨k + 1, by omega, by go_num, by show (allN (fun k => !(nth xs k == x)) k && !(nth xs k == x)) = true; rw [HA.out, HP.out]; rfl⟩ | exact ⟨_, ⟨k + 1, by omega, by go_num, by show (allN (fun k => !(nth xs k == x)) k && !(nth xs k == x)) = true; rw [HA.out, HP.out]; rfl⟩, rfl⟩ | exact ⟨_, _, ⟨k + 1, by omega, by go_num, by show (allN (fun k => !(nth xs k == x)) k && !(nth xs k == x)) = true; rw [HA.out, HP.out]; rfl⟩, rfl, rfl⟩ | exact ⟨_, _, _, ⟨k + 1, by omega, by go_num, by show (allN (fun k => !(nth xs k == x)) k && !(nth xs k == x)) = true; rw [HA.out, HP.out]; rfl⟩, rfl, rfl, rfl⟩ | exact ⟨_, _, _, _, ⟨k + 1, by omega, by go_num, by show (allN (fun k => !(nth xs k == x)) k && !(nth xs k == x)) = true; rw [HA.out, HP.out]; rfl⟩, rfl, rfl, rfl, rfl⟩ | exact ⟨_, _, _, _, _, ⟨k + 1, by omega, by go_num, by show (allN (fun k => !(nth xs k == x)) k && !(nth xs k == x)) = true; rw [HA.out, HP.out]; rfl⟩, rfl, rfl, rfl, rfl, rfl⟩
        case measure => simp [intOf]; omega
      · have HF : Hid (t = true) := by
          rw [Hid, ← HT.out]; unfold hasI
          rw [allN_false (p := fun k => !(nth xs k == x)) (by rw [hxl.out]; exact hlt) (by simp at hp ⊢; omega)]; rfl
        go_wp2
        go_ret
        exact ⟨ret_bool HF.out.symm, rfl⟩
    · have hkn : k = n := by omega
      subst hkn
      have HF : Hid (t = false) := by
        rw [Hid, ← HT.out]; unfold hasI
        rw [hxl.out, HA.out]; rfl
      go_wp2
      go_ret
      exact ⟨ret_bool HF.out.symm, rfl⟩
theorem RowsO.one (w : World) : RowsO ((w.alloc (.cells #[] 3)).alloc (.cells #[.slice (some ⟨w.heap.size, 0, none⟩) 0 0] 22)) w.heap.size (.slice (some ⟨w.heap.size + 1, 0, none⟩) 1 1) [[]] := by
  have h1 := World.ownsRow_lit (base := w.heap.size) (w.alloc (.cells #[] 3)) (e := 22) (size := 1) #[.slice (some ⟨w.heap.size, 0, none⟩) 0 0] 1 (by simp) (by unfold maxLen; omega) rfl
  have hsz : (w.alloc (.cells #[] 3)).heap.size = w.heap.size + 1 := by simp
  rw [hsz] at h1
  refine ⟨[.slice (some ⟨w.heap.size, 0, none⟩) 0 0], h1, rfl, fun k u hu => ?_⟩
  match k, hu with
  | 0, hu =>
    simp at hu
    subst hu
    refine ⟨(Row.lit w).below (below_alloc _ _), fun b hb e => ?_⟩
    have e1 := own_eq hb
    have e2 := own_eq e
    omega
set_option maxHeartbeats 2000000 in
theorem ordersOf_any (n : Nat) (w : World) (hn : n ≤ 4) :
    Calls Try.prog 113 #[.int .i64 (n : Int)] w fun e w' => (∃ v, e = .returned v ∧ RowsO w' w.heap.size v (orders n)) ∧ Below w.heap.size w w' := by
  have hB0 : Below w.heap.size w ((w.alloc (.cells #[] 3)).alloc (.cells #[.slice (some ⟨w.heap.size, 0, none⟩) 0 0] 22)) := by (repeat (first | exact Below.refl _ _ | assumption | refine Below.alloc ?_ (by first | omega | (simp <;> omega)) _ | refine Below.setCell ?_ (by first | omega | (simp <;> omega)) _ | refine Below.drew ?_ | refine below_drewN ?_))
  have hr0 := RowsO.one w
  go_enter Try.func113, Try.ntmps113
  go_wp2
  go_loopw [3, 11] (fun o i wr => ∃ (k : Nat) (v : Value), k ≤ n ∧ i = .int .i64 k ∧ o = v ∧ RowsO wr w.heap.size v (ordTo n k) ∧ Below w.heap.size w wr) (fun _ i _ => n - (intOf i).toNat)
  case atStart => exact ⟨0, _, by omega, rfl, rfl, hr0, hB0⟩
  case round =>
    clear hr0 hB0
    obtain ⟨k, v, hk, rfl, rfl, hout, hBo⟩ := hrel
    obtain ⟨wo, rfl⟩ : ∃ q : World, q = wr := ⟨_, rfl⟩
    have hzo := hBo.size
    by_cases hlt : k < n
    · obtain ⟨hl24, hl1, hgood⟩ := ord_good hn hk
      have HG := hid hgood
      clear hgood
      obtain ⟨go, co, he, hgo1, hgo2⟩ := hout.form2 (by omega)
      subst he
      obtain ⟨os, HOS⟩ : ∃ os, Hid (ordTo n k = os) := ⟨_, rfl⟩
      rw [HOS.out] at hout hl24 hl1 HG
      obtain ⟨p, hp⟩ : ∃ p, os.length = p := ⟨_, rfl⟩
      rw [HOS.out, hp]
      rw [hp] at hout hl24 hl1 HG
      go_wp2
      go_loopw [4, 16] (fun o i wr => ∃ (j : Nat) (u : Value), j ≤ p ∧ i = .int .i64 j ∧ o = u ∧ RowsO wr wo.heap.size u (midTo n os j) ∧ Below wo.heap.size wo wr) (fun _ i _ => p - (intOf i).toNat)
      case atStart => exact ⟨0, _, by omega, rfl, rfl, RowsO.lit wo, below_alloc _ _⟩
      case round =>
        obtain ⟨j, u, hj, rfl, rfl, hnext, hBm⟩ := hrel
        obtain ⟨wm, rfl⟩ : ∃ q : World, q = wr := ⟨_, rfl⟩
        by_cases hjt : j < p
        · obtain ⟨g1, c1, z, e1, _, _, hgm, hck, hzr⟩ := hout.at hBm (k := j) (by omega)
          injection e1 with e2 e3 e4
          injection e2 with e2
          injection e2 with e5 e6
          subst e5
          obtain ⟨az, nz, cz, rfl, hiz⟩ := hzr.ints
          obtain ⟨l, HLL⟩ : ∃ l, Hid (nthL os j = l) := ⟨_, rfl⟩
          rw [HLL.out] at hzr hiz
          have hlk : l.length = k := by rw [← HLL.out]; exact (HG.out j hjt).1
          have hmid := midTo_len n os j
          have hmb : n * j ≤ 4 * 24 := Nat.mul_le_mul hn (by omega)
          obtain ⟨LM, HLM⟩ : ∃ LM, Hid (midTo n os j = LM) := ⟨_, rfl⟩
          rw [HLM.out] at hnext hmid
          clear e3 e4 e6
          go_wp2
          go_loopw [4, 21] (fun o i wr => ∃ (x : Nat) (u : Value), x ≤ n ∧ i = .int .i64 x ∧ o = u ∧ RowsO wr wo.heap.size u (inTo l LM x) ∧ Below wo.heap.size wo wr) (fun _ i _ => n - (intOf i).toNat)
          case atStart => exact ⟨0, _, by omega, rfl, rfl, hnext, hBm⟩
          case round =>
            clear hnext
            obtain ⟨x, u2, hx, rfl, rfl, hin, hBx⟩ := hrel
            have hinl := inTo_len l LM x
            have hzx := hBx.size
            by_cases hxt : x < n
            · go_wp2_with fail
              refine (ContainsI_any az nz cz l (x : Int) _ (hiz.below hBx)).mono ?_; rintro e w1 ⟨rfl, rfl⟩
              have HS := hid (inTo_succ l LM x)
              cases hh : hasI l (x : Int)
              · obtain ⟨LL, HLL2⟩ : ∃ LL, Hid (inTo l LM x = LL) := ⟨_, rfl⟩
                rw [HLL2.out] at hin hinl
                obtain ⟨q, hq⟩ : ∃ q, LL.length = q := ⟨_, rfl⟩
                have hA : Below wo.heap.size wo (wr.alloc (.cells #[] 3)) := hBx.alloc hzx _
                have hnl : ([] ++ l).length = k := by simpa using hlk
                have hvb := hin.block
                go_wp2_with (first | (at_builtin; refine wpList_append_own2 rfl _ _ rfl wr.heap.size _ [] 0 rfl (by rfl) (Row.lit wr) w.heap.size _ l (by rfl) (hzr.below hA) (by omega) (by simp) ?_; intro ag ng cg w2 hr2 hg2; have hB2 : Below wr.heap.size wr w2 := below_grownBy (below_alloc wr _) (by simp) hg2 (fun b e => by have := own_eq e; omega); have hz2 := hB2.size; clear hg2 hA) | (at_builtin; refine wpList_append_int rfl _ _ rfl wr.heap.size _ ([] ++ l) k hnl (by rfl) (hr2.below (below_alloc w2 _)) _ _ (x : Int) (by rfl) (by simp) (by omega) (by simp; omega) ?_; intro g4 c4 w4 hr4 hg4; have hB4 : Below wr.heap.size wr w4 := below_grownBy (hB2.alloc hz2 _) (by simp; omega) hg4 (fun b e => (hr2.block b e).1); have hrow4 := hin.below hB4; have hz4 := hB4.size; have hub := hr4.block; clear hg4 hB2 hr2) | (at_builtin; refine wpList_append_row rfl _ _ rfl wo.heap.size _ LL q hq (by rfl) (hrow4.below (below_alloc w4 _)) _ _ (.slice (some ⟨g4, 0, none⟩) (k + 1) c4) ([] ++ l ++ [(x : Int)]) (by rfl) (by simp) ((hr4.mono (by omega)).below (below_alloc w4 _)) (fun b h1 h2 => by have := (hub b h1).1; have := (hvb b h2).2; omega) (by omega) (by simp; omega) ?_; intro g6 c6 w6 hrow6 hg6 hgb6))
                have HB6 := hid (below_grownBy (B := wo.heap.size) ((hBx.trans (hB4.mono hzx)).alloc (by omega) _) (by simp; omega) hg6 (fun b e => (hvb b e).1))
                have HN : Hid (inTo l LM (x + 1) = LL ++ [[] ++ l ++ [(x : Int)]]) := by rw [Hid, HS.out, hh, HLL2.out]; rfl
                clear hg6 hB4 hr4 hrow4 hin
                go_roundw
                case rel => first | exact ⟨x + 1, _, by omega, by go_num, rfl, by rw [HN.out]; exact hrow6, HB6.out⟩ | exact ⟨_, ⟨x + 1, _, by omega, by go_num, rfl, by rw [HN.out]; exact hrow6, HB6.out⟩, rfl⟩ | exact ⟨_, _, ⟨x + 1, _, by omega, by go_num, rfl, by rw [HN.out]; exact hrow6, HB6.out⟩, rfl, rfl⟩ | exact ⟨_, _, _, ⟨x + 1, _, by omega, by go_num, rfl, by rw [HN.out]; exact hrow6, HB6.out⟩, rfl, rfl, rfl⟩ | exact ⟨_, _, _, _, ⟨x + 1, _, by omega, by go_num, rfl, by rw [HN.out]; exact hrow6, HB6.out⟩, rfl, rfl, rfl, rfl⟩ | exact ⟨_, _, _, _, _, ⟨x + 1, _, by omega, by go_num, rfl, by rw [HN.out]; exact hrow6, HB6.out⟩, rfl, rfl, rfl, rfl, rfl⟩
                case measure => simp [intOf]; omega
              · have HN : Hid (inTo l LM (x + 1) = inTo l LM x) := by rw [Hid, HS.out, hh]; rfl
                go_wp2
                go_roundw
                case rel => first | exact ⟨x + 1, _, by omega, by go_num, rfl, by rw [HN.out]; exact hin, hBx⟩ | exact ⟨_, ⟨x + 1, _, by omega, by go_num, rfl, by rw [HN.out]; exact hin, hBx⟩, rfl⟩ | exact ⟨_, _, ⟨x + 1, _, by omega, by go_num, rfl, by rw [HN.out]; exact hin, hBx⟩, rfl, rfl⟩ | exact ⟨_, _, _, ⟨x + 1, _, by omega, by go_num, rfl, by rw [HN.out]; exact hin, hBx⟩, rfl, rfl, rfl⟩ | exact ⟨_, _, _, _, ⟨x + 1, _, by omega, by go_num, rfl, by rw [HN.out]; exact hin, hBx⟩, rfl, rfl, rfl, rfl⟩ | exact ⟨_, _, _, _, _, ⟨x + 1, _, by omega, by go_num, rfl, by rw [HN.out]; exact hin, hBx⟩, rfl, rfl, rfl, rfl, rfl⟩
                case measure => simp [intOf]; omega
            · have hxn : x = n := by omega
              have HX := hid hxn
              clear hxn
              have HN : Hid (midTo n os (j + 1) = inTo l LM x) := by rw [Hid, midTo_succ, HLL.out, HLM.out, HX.out]
              go_wp2
              go_roundw
              case rel => first | exact ⟨j + 1, _, by omega, by go_num, rfl, by rw [HN.out]; exact hin, hBx⟩ | exact ⟨_, ⟨j + 1, _, by omega, by go_num, rfl, by rw [HN.out]; exact hin, hBx⟩, rfl⟩ | exact ⟨_, _, ⟨j + 1, _, by omega, by go_num, rfl, by rw [HN.out]; exact hin, hBx⟩, rfl, rfl⟩ | exact ⟨_, _, _, ⟨j + 1, _, by omega, by go_num, rfl, by rw [HN.out]; exact hin, hBx⟩, rfl, rfl, rfl⟩ | exact ⟨_, _, _, _, ⟨j + 1, _, by omega, by go_num, rfl, by rw [HN.out]; exact hin, hBx⟩, rfl, rfl, rfl, rfl⟩ | exact ⟨_, _, _, _, _, ⟨j + 1, _, by omega, by go_num, rfl, by rw [HN.out]; exact hin, hBx⟩, rfl, rfl, rfl, rfl, rfl⟩
              case measure => simp [intOf]; omega
        · have hjp : j = p := by omega
          have HN : Hid (ordTo n (k + 1) = midTo n os j) := by rw [Hid, ordTo_succ, HOS.out, hp, hjp]
          clear hjp
          go_wp2
          go_roundw
          case rel => first | exact ⟨k + 1, _, by omega, by go_num, rfl, by rw [HN.out]; exact hnext.mono hzo, hBo.trans (hBm.mono hzo)⟩ | exact ⟨_, ⟨k + 1, _, by omega, by go_num, rfl, by rw [HN.out]; exact hnext.mono hzo, hBo.trans (hBm.mono hzo)⟩, rfl⟩ | exact ⟨_, _, ⟨k + 1, _, by omega, by go_num, rfl, by rw [HN.out]; exact hnext.mono hzo, hBo.trans (hBm.mono hzo)⟩, rfl, rfl⟩ | exact ⟨_, _, _, ⟨k + 1, _, by omega, by go_num, rfl, by rw [HN.out]; exact hnext.mono hzo, hBo.trans (hBm.mono hzo)⟩, rfl, rfl, rfl⟩ | exact ⟨_, _, _, _, ⟨k + 1, _, by omega, by go_num, rfl, by rw [HN.out]; exact hnext.mono hzo, hBo.trans (hBm.mono hzo)⟩, rfl, rfl, rfl, rfl⟩ | exact ⟨_, _, _, _, _, ⟨k + 1, _, by omega, by go_num, rfl, by rw [HN.out]; exact hnext.mono hzo, hBo.trans (hBm.mono hzo)⟩, rfl, rfl, rfl, rfl, rfl⟩
          case measure => simp [intOf]; omega
    · have hkn : k = n := by omega
      have HX : Hid (orders n = ordTo n k) := by rw [Hid, hkn]; rfl
      clear hkn
      go_wp2
      go_ret
      exact ⟨⟨_, rfl, by rw [HX.out]; exact hout⟩, hBo⟩
set_option maxHeartbeats 2000000 in
theorem l10Orders_any (n : Nat) (w : World) (hn : n ≤ 4) :
    Calls Try.prog 64 #[.int .i64 (n : Int)] w fun e w' => (∃ v, e = .returned v ∧ RowsO w' w.heap.size v (orders n)) ∧ Below w.heap.size w w' := by
  have hB0 : Below w.heap.size w ((w.alloc (.cells #[] 3)).alloc (.cells #[.slice (some ⟨w.heap.size, 0, none⟩) 0 0] 22)) := by (repeat (first | exact Below.refl _ _ | assumption | refine Below.alloc ?_ (by first | omega | (simp <;> omega)) _ | refine Below.setCell ?_ (by first | omega | (simp <;> omega)) _ | refine Below.drew ?_ | refine below_drewN ?_))
  have hr0 := RowsO.one w
  go_enter Try.func64, Try.ntmps64
  go_wp2
  go_loopw [3, 4] (fun o i wr => ∃ (k : Nat) (v : Value), k ≤ n ∧ i = .int .i64 k ∧ o = v ∧ RowsO wr w.heap.size v (ordTo n k) ∧ Below w.heap.size w wr) (fun _ i _ => n - (intOf i).toNat)
  case atStart => exact ⟨0, _, by omega, rfl, rfl, hr0, hB0⟩
  case round =>
    clear hr0 hB0
    obtain ⟨k, v, hk, rfl, rfl, hout, hBo⟩ := hrel
    obtain ⟨wo, rfl⟩ : ∃ q : World, q = wr := ⟨_, rfl⟩
    have hzo := hBo.size
    by_cases hlt : k < n
    · obtain ⟨hl24, hl1, hgood⟩ := ord_good hn hk
      have HG := hid hgood
      clear hgood
      obtain ⟨go, co, he, hgo1, hgo2⟩ := hout.form2 (by omega)
      subst he
      obtain ⟨os, HOS⟩ : ∃ os, Hid (ordTo n k = os) := ⟨_, rfl⟩
      rw [HOS.out] at hout hl24 hl1 HG
      obtain ⟨p, hp⟩ : ∃ p, os.length = p := ⟨_, rfl⟩
      rw [HOS.out, hp]
      rw [hp] at hout hl24 hl1 HG
      go_wp2
      go_loopw [5, 6] (fun o i wr => ∃ (j : Nat) (u : Value), j ≤ p ∧ i = .int .i64 j ∧ o = u ∧ RowsO wr wo.heap.size u (midTo n os j) ∧ Below wo.heap.size wo wr) (fun _ i _ => p - (intOf i).toNat)
      case atStart => exact ⟨0, _, by omega, rfl, rfl, RowsO.lit wo, below_alloc _ _⟩
      case round =>
        obtain ⟨j, u, hj, rfl, rfl, hnext, hBm⟩ := hrel
        obtain ⟨wm, rfl⟩ : ∃ q : World, q = wr := ⟨_, rfl⟩
        by_cases hjt : j < p
        · obtain ⟨g1, c1, z, e1, _, _, hgm, hck, hzr⟩ := hout.at (Below.refl _ _) (k := j) (by omega)
          injection e1 with e2 e3 e4
          injection e2 with e2
          injection e2 with e5 e6
          subst e5
          obtain ⟨az, nz, cz, rfl, hiz⟩ := hzr.ints
          obtain ⟨l, HLL⟩ : ∃ l, Hid (nthL os j = l) := ⟨_, rfl⟩
          rw [HLL.out] at hzr hiz
          have hlk : l.length = k := by rw [← HLL.out]; exact (HG.out j hjt).1
          have hmid := midTo_len n os j
          have hmb : n * j ≤ 4 * 24 := Nat.mul_le_mul hn (by omega)
          obtain ⟨LM, HLM⟩ : ∃ LM, Hid (midTo n os j = LM) := ⟨_, rfl⟩
          rw [HLM.out] at hnext hmid
          clear e3 e4 e6
          go_wp2
          go_loopw [5, 7] (fun o i wr => ∃ (x : Nat) (u : Value), x ≤ n ∧ i = .int .i64 x ∧ o = u ∧ RowsO wr wo.heap.size u (inTo l LM x) ∧ Below wo.heap.size wo wr) (fun _ i _ => n - (intOf i).toNat)
          case atStart => exact ⟨0, _, by omega, rfl, rfl, hnext, hBm⟩
          case round =>
            clear hnext
            obtain ⟨x, u2, hx, rfl, rfl, hin, hBx⟩ := hrel
            have hinl := inTo_len l LM x
            have hzx := hBx.size
            have hckr := keep hBx hck
            have hgr : go < wr.heap.size := by omega
            by_cases hxt : x < n
            · go_wp2_with fail
              refine (l10In_any az nz cz l (x : Int) _ (hiz.below hBx)).mono ?_; rintro e w1 ⟨rfl, rfl⟩
              have HS := hid (inTo_succ l LM x)
              cases hh : hasI l (x : Int)
              · obtain ⟨LL, HLL2⟩ : ∃ LL, Hid (inTo l LM x = LL) := ⟨_, rfl⟩
                rw [HLL2.out] at hin hinl
                obtain ⟨q, hq⟩ : ∃ q, LL.length = q := ⟨_, rfl⟩
                have hA : Below wo.heap.size wo (wr.alloc (.cells #[] 3)) := hBx.alloc hzx _
                have hnl : ([] ++ l).length = k := by simpa using hlk
                have hvb := hin.block
                go_wp2_with (first | (at_builtin; refine wpList_append_own2 rfl _ _ rfl wr.heap.size _ [] 0 rfl (by rfl) (Row.lit wr) w.heap.size _ l (by rfl) (hzr.below hA) (by omega) (by simp) ?_; intro ag ng cg w2 hr2 hg2; have hB2 : Below wr.heap.size wr w2 := below_grownBy (below_alloc wr _) (by simp) hg2 (fun b e => by have := own_eq e; omega); have hz2 := hB2.size; clear hg2 hA) | (at_builtin; refine wpList_append_int rfl _ _ rfl wr.heap.size _ ([] ++ l) k hnl (by rfl) (hr2.below (below_alloc w2 _)) _ _ (x : Int) (by rfl) (by simp) (by omega) (by simp; omega) ?_; intro g4 c4 w4 hr4 hg4; have hB4 : Below wr.heap.size wr w4 := below_grownBy (hB2.alloc hz2 _) (by simp; omega) hg4 (fun b e => (hr2.block b e).1); have hrow4 := hin.below hB4; have hz4 := hB4.size; have hub := hr4.block; clear hg4 hB2 hr2) | (at_builtin; refine wpList_append_row rfl _ _ rfl wo.heap.size _ LL q hq (by rfl) (hrow4.below (below_alloc w4 _)) _ _ (.slice (some ⟨g4, 0, none⟩) (k + 1) c4) ([] ++ l ++ [(x : Int)]) (by rfl) (by simp) ((hr4.mono (by omega)).below (below_alloc w4 _)) (fun b h1 h2 => by have := (hub b h1).1; have := (hvb b h2).2; omega) (by omega) (by simp; omega) ?_; intro g6 c6 w6 hrow6 hg6 hgb6))
                have HB6 := hid (below_grownBy (B := wo.heap.size) ((hBx.trans (hB4.mono hzx)).alloc (by omega) _) (by simp; omega) hg6 (fun b e => (hvb b e).1))
                have HN : Hid (inTo l LM (x + 1) = LL ++ [[] ++ l ++ [(x : Int)]]) := by rw [Hid, HS.out, hh, HLL2.out]; rfl
                clear hg6 hB4 hr4 hrow4 hin
                go_roundw
                case rel => first | exact ⟨x + 1, _, by omega, by go_num, rfl, by rw [HN.out]; exact hrow6, HB6.out⟩ | exact ⟨_, ⟨x + 1, _, by omega, by go_num, rfl, by rw [HN.out]; exact hrow6, HB6.out⟩, rfl⟩ | exact ⟨_, _, ⟨x + 1, _, by omega, by go_num, rfl, by rw [HN.out]; exact hrow6, HB6.out⟩, rfl, rfl⟩ | exact ⟨_, _, _, ⟨x + 1, _, by omega, by go_num, rfl, by rw [HN.out]; exact hrow6, HB6.out⟩, rfl, rfl, rfl⟩ | exact ⟨_, _, _, _, ⟨x + 1, _, by omega, by go_num, rfl, by rw [HN.out]; exact hrow6, HB6.out⟩, rfl, rfl, rfl, rfl⟩ | exact ⟨_, _, _, _, _, ⟨x + 1, _, by omega, by go_num, rfl, by rw [HN.out]; exact hrow6, HB6.out⟩, rfl, rfl, rfl, rfl, rfl⟩
                case measure => simp [intOf]; omega
              · have HN : Hid (inTo l LM (x + 1) = inTo l LM x) := by rw [Hid, HS.out, hh]; rfl
                go_wp2
                go_roundw
                case rel => first | exact ⟨x + 1, _, by omega, by go_num, rfl, by rw [HN.out]; exact hin, hBx⟩ | exact ⟨_, ⟨x + 1, _, by omega, by go_num, rfl, by rw [HN.out]; exact hin, hBx⟩, rfl⟩ | exact ⟨_, _, ⟨x + 1, _, by omega, by go_num, rfl, by rw [HN.out]; exact hin, hBx⟩, rfl, rfl⟩ | exact ⟨_, _, _, ⟨x + 1, _, by omega, by go_num, rfl, by rw [HN.out]; exact hin, hBx⟩, rfl, rfl, rfl⟩ | exact ⟨_, _, _, _, ⟨x + 1, _, by omega, by go_num, rfl, by rw [HN.out]; exact hin, hBx⟩, rfl, rfl, rfl, rfl⟩ | exact ⟨_, _, _, _, _, ⟨x + 1, _, by omega, by go_num, rfl, by rw [HN.out]; exact hin, hBx⟩, rfl, rfl, rfl, rfl, rfl⟩
                case measure => simp [intOf]; omega
            · have hxn : x = n := by omega
              have HX := hid hxn
              clear hxn
              have HN : Hid (midTo n os (j + 1) = inTo l LM x) := by rw [Hid, midTo_succ, HLL.out, HLM.out, HX.out]
              go_wp2
              go_roundw
              case rel => first | exact ⟨j + 1, _, by omega, by go_num, rfl, by rw [HN.out]; exact hin, hBx⟩ | exact ⟨_, ⟨j + 1, _, by omega, by go_num, rfl, by rw [HN.out]; exact hin, hBx⟩, rfl⟩ | exact ⟨_, _, ⟨j + 1, _, by omega, by go_num, rfl, by rw [HN.out]; exact hin, hBx⟩, rfl, rfl⟩ | exact ⟨_, _, _, ⟨j + 1, _, by omega, by go_num, rfl, by rw [HN.out]; exact hin, hBx⟩, rfl, rfl, rfl⟩ | exact ⟨_, _, _, _, ⟨j + 1, _, by omega, by go_num, rfl, by rw [HN.out]; exact hin, hBx⟩, rfl, rfl, rfl, rfl⟩ | exact ⟨_, _, _, _, _, ⟨j + 1, _, by omega, by go_num, rfl, by rw [HN.out]; exact hin, hBx⟩, rfl, rfl, rfl, rfl, rfl⟩
              case measure => simp [intOf]; omega
        · have hjp : j = p := by omega
          have HN : Hid (ordTo n (k + 1) = midTo n os j) := by rw [Hid, ordTo_succ, HOS.out, hp, hjp]
          clear hjp
          go_wp2
          go_roundw
          case rel => first | exact ⟨k + 1, _, by omega, by go_num, rfl, by rw [HN.out]; exact hnext.mono hzo, hBo.trans (hBm.mono hzo)⟩ | exact ⟨_, ⟨k + 1, _, by omega, by go_num, rfl, by rw [HN.out]; exact hnext.mono hzo, hBo.trans (hBm.mono hzo)⟩, rfl⟩ | exact ⟨_, _, ⟨k + 1, _, by omega, by go_num, rfl, by rw [HN.out]; exact hnext.mono hzo, hBo.trans (hBm.mono hzo)⟩, rfl, rfl⟩ | exact ⟨_, _, _, ⟨k + 1, _, by omega, by go_num, rfl, by rw [HN.out]; exact hnext.mono hzo, hBo.trans (hBm.mono hzo)⟩, rfl, rfl, rfl⟩ | exact ⟨_, _, _, _, ⟨k + 1, _, by omega, by go_num, rfl, by rw [HN.out]; exact hnext.mono hzo, hBo.trans (hBm.mono hzo)⟩, rfl, rfl, rfl, rfl⟩ | exact ⟨_, _, _, _, _, ⟨k + 1, _, by omega, by go_num, rfl, by rw [HN.out]; exact hnext.mono hzo, hBo.trans (hBm.mono hzo)⟩, rfl, rfl, rfl, rfl, rfl⟩
          case measure => simp [intOf]; omega
    · have hkn : k = n := by omega
      have HX : Hid (orders n = ordTo n k) := by rw [Hid, hkn]; rfl
      clear hkn
      go_wp2
      go_ret
      exact ⟨⟨_, rfl, by rw [HX.out]; exact hout⟩, hBo⟩
end Go.Proofs.Ytchjnjmlambpjaa
