/- All orders of answers, both ways: ordersOf, l10Orders. The chance of an order, both ways: chanceOfOrder, l10Order. Lists of masses, owned. -/
import Derived.Test.YtefmlbahmakboaaGreatDoorM1
import Derived.Test.YtefmlbahmakboaaGreatDoorDR
import Derived.Laws.AppendOwnNone
import Derived.Maps.AppendAt
import Derived.Test.YtefmlbahmakboaaGreatDoorS2
set_option linter.unusedSimpArgs false
set_option linter.unusedVariables false
namespace Go.Proofs.YtefmlbahmakboaaGreatDoor
open Go.RowKit
theorem Row.lit (w : World) : Row (w.alloc (.cells #[] 3)) w.heap.size (.slice (some ⟨w.heap.size, 0, none⟩) 0 0) [] := World.ownsRow_lit w #[] 0 (Nat.le_refl _) (by unfold maxLen; omega) rfl
/-- an owned list appended -/
theorem wpList_append_own2 {w : World} {ops : Array Oper} {rest : List Oper} {o : Oper} {a : Act} {Q : Exit → Act → World → Prop} (hgd : o.guard = none) (s x : Operand)
    (ho : o.op = .call { callee := .builtin .append, args := #[s, x], argTypes := #[23, 23] })
    (base : Nat) (v : Value) (xs : List Int) (n : Nat) (hl : xs.length = n) (hs : a.eval s = v) (hown : Row w base v xs)
    (b2 : Nat) (u : Value) (ys : List Int) (hx : a.eval x = u) (hu : Row w b2 u ys)
    (hn : n + ys.length < 1000000000) (hbase : base ≤ w.heap.size)
    (h : ∀ ag ng cg w', Row w' base (.slice ag ng cg) (xs ++ ys) → w.grownBy w' v.ownBlock → wpList Tryz.prog ops Q rest (a.put o.dst (.slice ag ng cg)) w') :
    wpList Tryz.prog ops Q (o :: rest) a w := by
  obtain ⟨i0, hi, hz0, hz1, hz2⟩ := info_parts info_int
  subst hl
  have hu0 := hu
  rcases hu.2 with ⟨e0, h0⟩ | ⟨g, cap, cur, e1, hg, hh, r⟩
  · have hy0 : ys = [] := List.eq_nil_of_length_eq_zero h0
    subst e0 hy0
    refine wpList_append_own_none hgd s x 23 ho base 3 i0 1 Tryz.underlying23 hi v xs.length _ hs hown hx ?_
    obtain ⟨ag, ng, cg, e, _⟩ := hown.ints
    subst e
    refine h ag ng cg w ?_ (grownBy_refl _ _)
    rw [List.append_nil]; exact hown
  · subst e1
    refine wpList_append_own_at w hgd s x 23 ho base 3 i0 (.int .i64 0) 1 8 Tryz.underlying23 hi hz0 hz1 hz2 rfl (by decide) v xs.length _ hs hown ⟨g, 0, none⟩ ys.length cap (ys.map (Value.int .i64)) hx (by simp) ?_ ?_ (by unfold maxLen; omega) (by omega) hbase fun v' w' h1 h2 _ _ => ?_
    · intro j z hj
      have e := World.ownsRow.cells hu0 (g := g) rfl j z hj
      exact e
    · intro z hz
      simp at hz
      obtain ⟨q, _, rfl⟩ := hz
      rfl
    · have hr : Row w' base v' (xs ++ ys) := by simpa [Row] using h1
      obtain ⟨ag, ng, cg, e, _⟩ := hr.ints
      subst e
      exact h ag ng cg w' hr h2
theorem RowsO.at {w w' : World} {base : Nat} {v : Value} {xss : List (List Int)} (h : RowsO w base v xss) (hb : Below w.heap.size w w') {k : Nat} (hk : k < xss.length) :
    ∃ g c u, v = .slice (some ⟨g, 0, none⟩) xss.length c ∧ base ≤ g ∧ g < w.heap.size ∧ g < w'.heap.size ∧ w'.cell? ⟨g, k, none⟩ = some u ∧ Row w base u (nthL xss k) := by
  obtain ⟨g, c, e, h1, h2⟩ := h.form2 (by omega)
  subst e
  obtain ⟨vals, o1, o2, o3⟩ := h.own
  have hv : vals[k]? = some (vals[k]'(by omega)) := List.getElem?_eq_getElem (by omega)
  have ec := World.ownsRow.cells o1 (g := g) rfl k _ hv
  have ha : (⟨g, 0, none⟩ : Addr).add k = ⟨g, k, none⟩ := by unfold Addr.add; split <;> simp_all
  rw [ha] at ec
  exact ⟨g, c, _, rfl, h1, h2, Nat.lt_of_lt_of_le h2 hb.size, (hb.cell (p := ⟨g, k, none⟩) h2).trans ec, (o3 k _ hv).1⟩
set_option maxHeartbeats 400000 in
theorem IndexI_any (ao : Option Addr) (n c : Nat) (xs : List Int) (x : Int) (w : World) (hx : IntsAt w ao n xs) :
    Calls Tryz.prog 229 #[.slice ao n c, .int .i64 x] w fun e w' => (∃ r : Int, e = .returned (.int .i64 r) ∧ decide (0 ≤ r) = hasI xs x) ∧ w = w' := by
  have hcap := hx.cap
  have hxl := hid hx.len
  go_enter Tryz.func229, Tryz.ntmps229
  go_wp2
  go_loop [5, 8] (fun _ i => ∃ k : Nat, k ≤ n ∧ i = .int .i64 k ∧ allN (fun k => !(nth xs k == x)) k = true) (fun _ i => n - (intOf i).toNat)
  case atStart => exact ⟨0, by omega, rfl, rfl⟩
  case round =>
    obtain ⟨k, hk, rfl, ha⟩ := hrel
    have HA := hid ha; clear ha
    by_cases hlt : k < n
    · obtain ⟨b, off, rfl, hbs, hbs', hck⟩ := hx.at (Below.refl _ _) hlt
      cases hp : (x == nth xs k)
      · have HP : Hid ((nth xs k == x) = false) := by rw [Hid]; simp at hp ⊢; omega
        go_wp2
        go_round
        case rel => first | exact ⟨k + 1, by omega, by go_num, by show (allN (fun k => !(nth xs k == x)) k && !(nth xs k == x)) = true; rw [HA.out, HP.out]; rfl⟩ | exact ⟨_, ⟨k + 1, by omega, by go_num, by show (allN (fun k => !(nth xs k == x)) k && !(nth xs k == x)) = true; rw [HA.out, HP.out]; rfl⟩, rfl⟩ | exact ⟨_, _, ⟨k + 1, by omega, by go_num, by show (allN (fun k => !(nth xs k == x)) k && !(nth xs k == x)) = true; rw [HA.out, HP.out]; rfl⟩, rfl, rfl⟩ | exact ⟨_, _, _, ⟨k + 1, by omega, by go_num, by show (allN (fun k => !(nth xs k == x)) k && !(nth xs k == x)) = true; rw [HA.out, HP.out]; rfl⟩, rfl, rfl, rfl⟩ | exact ⟨_, _, _, _, ⟨k + 1, by omega, by go_num, by show (allN (fun k => !(nth xs k == x)) k && !(nth xs k == x)) = true; rw [HA.out, HP.out]; rfl⟩, rfl, rfl, rfl, rfl⟩ | exact ⟨_, _, _, _, _, ⟨k + 1, by omega, by go_num, by show (allN (fun k => !(nth xs k == x)) k && !(nth xs k == x)) = true; rw [HA.out, HP.out]; rfl⟩, rfl, rfl, rfl, rfl, rfl⟩
        case measure => simp [intOf]; omega
      · have HF : Hid (hasI xs x = true) := by
          rw [Hid]; unfold hasI
          rw [allN_false (p := fun k => !(nth xs k == x)) (by rw [hxl.out]; exact hlt) (by simp at hp ⊢; omega)]; rfl
        go_wp2
        go_ret
        exact ⟨⟨_, rfl, by rw [HF.out]; simp⟩, rfl⟩
    · have hkn : k = n := by omega
      subst hkn
      have HF : Hid (hasI xs x = false) := by
        rw [Hid]; unfold hasI
        rw [hxl.out, HA.out]; rfl
      go_wp2
      go_ret
      exact ⟨⟨_, rfl, by rw [HF.out]; simp⟩, rfl⟩
theorem ContainsI_any (ao : Option Addr) (n c : Nat) (xs : List Int) (x : Int) (w : World) (hx : IntsAt w ao n xs) :
    Calls Tryz.prog 183 #[.slice ao n c, .int .i64 x] w fun e w' => e = .returned (.bool (hasI xs x)) ∧ w = w' := by
  go_enter Tryz.func183, Tryz.ntmps183
  go_wp2_with fail
  refine (IndexI_any _ _ _ xs x _ hx).mono ?_; rintro e w1 ⟨⟨r, rfl, hr⟩, rfl⟩
  have HR := hid hr; clear hr
  go_wp2
  go_ret
  exact ⟨ret_bool (by rw [← HR.out]), rfl⟩
theorem RowsO.one (w : World) : RowsO ((w.alloc (.cells #[] 3)).alloc (.cells #[.slice (some ⟨w.heap.size, 0, none⟩) 0 0] 23)) w.heap.size (.slice (some ⟨w.heap.size + 1, 0, none⟩) 1 1) [[]] := by
  have h1 := World.ownsRow_lit (base := w.heap.size) (w.alloc (.cells #[] 3)) (e := 23) (size := 1) #[.slice (some ⟨w.heap.size, 0, none⟩) 0 0] 1 (by simp) (by unfold maxLen; omega) rfl
  have hsz : (w.alloc (.cells #[] 3)).heap.size = w.heap.size + 1 := by simp
  rw [hsz] at h1
  refine ⟨[.slice (some ⟨w.heap.size, 0, none⟩) 0 0], h1, rfl, fun k u hu => ?_⟩
  match k, hu with
  | 0, hu =>
    simp at hu
    subst hu
    refine ⟨(Row.lit w).below (below_alloc _ _), fun b hb e => ?_⟩
    have e1 := own_eq hb
    have e2 := own_eq e
    omega
set_option maxHeartbeats 2000000 in
theorem ordersOf_any (n : Nat) (w : World) (hn : n ≤ 4) :
    Calls Tryz.prog 122 #[.int .i64 (n : Int)] w fun e w' => (∃ v, e = .returned v ∧ RowsO w' w.heap.size v (orders n)) ∧ Below w.heap.size w w' := by
  have hB0 : Below w.heap.size w ((w.alloc (.cells #[] 3)).alloc (.cells #[.slice (some ⟨w.heap.size, 0, none⟩) 0 0] 23)) := by (repeat (first | exact Below.refl _ _ | assumption | refine Below.alloc ?_ (by first | omega | (simp <;> omega)) _ | refine Below.setCell ?_ (by first | omega | (simp <;> omega)) _ | refine Below.drew ?_ | refine below_drewN ?_))
  have hr0 := RowsO.one w
  go_enter Tryz.func122, Tryz.ntmps122
  go_wp2
  go_loopw [3, 11] (fun o i wr => ∃ (k : Nat) (v : Value), k ≤ n ∧ i = .int .i64 k ∧ o = v ∧ RowsO wr w.heap.size v (ordTo n k) ∧ Below w.heap.size w wr) (fun _ i _ => n - (intOf i).toNat)
  case atStart => exact ⟨0, _, by omega, rfl, rfl, hr0, hB0⟩
  case round =>
    clear hr0 hB0
    obtain ⟨k, v, hk, rfl, rfl, hout, hBo⟩ := hrel
    obtain ⟨wo, rfl⟩ : ∃ q : World, q = wr := ⟨_, rfl⟩
    have hzo := hBo.size
    by_cases hlt : k < n
    · obtain ⟨hl24, hl1, hgood⟩ := ord_good hn hk
      have HG := hid hgood
      clear hgood
      obtain ⟨go, co, he, hgo1, hgo2⟩ := hout.form2 (by omega)
      subst he
      obtain ⟨os, HOS⟩ : ∃ os, Hid (ordTo n k = os) := ⟨_, rfl⟩
      rw [HOS.out] at hout hl24 hl1 HG
      obtain ⟨p, hp⟩ : ∃ p, os.length = p := ⟨_, rfl⟩
      rw [HOS.out, hp]
      rw [hp] at hout hl24 hl1 HG
      go_wp2
      go_loopw [4, 16] (fun o i wr => ∃ (j : Nat) (u : Value), j ≤ p ∧ i = .int .i64 j ∧ o = u ∧ RowsO wr wo.heap.size u (midTo n os j) ∧ Below wo.heap.size wo wr) (fun _ i _ => p - (intOf i).toNat)
      case atStart => exact ⟨0, _, by omega, rfl, rfl, RowsO.lit wo, below_alloc _ _⟩
      case round =>
        obtain ⟨j, u, hj, rfl, rfl, hnext, hBm⟩ := hrel
        obtain ⟨wm, rfl⟩ : ∃ q : World, q = wr := ⟨_, rfl⟩
        by_cases hjt : j < p
        · obtain ⟨g1, c1, z, e1, _, _, hgm, hck, hzr⟩ := hout.at hBm (k := j) (by omega)
          injection e1 with e2 e3 e4
          injection e2 with e2
          injection e2 with e5 e6
          subst e5
          obtain ⟨az, nz, cz, rfl, hiz⟩ := hzr.ints
          obtain ⟨l, HLL⟩ : ∃ l, Hid (nthL os j = l) := ⟨_, rfl⟩
          rw [HLL.out] at hzr hiz
          have hlk : l.length = k := by rw [← HLL.out]; exact (HG.out j hjt).1
          have hmid := midTo_len n os j
          have hmb : n * j ≤ 4 * 24 := Nat.mul_le_mul hn (by omega)
          obtain ⟨LM, HLM⟩ : ∃ LM, Hid (midTo n os j = LM) := ⟨_, rfl⟩
          rw [HLM.out] at hnext hmid
          clear e3 e4 e6
          go_wp2
          go_loopw [4, 21] (fun o i wr => ∃ (x : Nat) (u : Value), x ≤ n ∧ i = .int .i64 x ∧ o = u ∧ RowsO wr wo.heap.size u (inTo l LM x) ∧ Below wo.heap.size wo wr) (fun _ i _ => n - (intOf i).toNat)
          case atStart => exact ⟨0, _, by omega, rfl, rfl, hnext, hBm⟩
          case round =>
            clear hnext
            obtain ⟨x, u2, hx, rfl, rfl, hin, hBx⟩ := hrel
            have hinl := inTo_len l LM x
            have hzx := hBx.size
            by_cases hxt : x < n
            · go_wp2_with fail
              refine (ContainsI_any az nz cz l (x : Int) _ (hiz.below hBx)).mono ?_; rintro e w1 ⟨rfl, rfl⟩
              have HS := hid (inTo_succ l LM x)
              cases hh : hasI l (x : Int)
              · obtain ⟨LL, HLL2⟩ : ∃ LL, Hid (inTo l LM x = LL) := ⟨_, rfl⟩
                rw [HLL2.out] at hin hinl
                obtain ⟨q, hq⟩ : ∃ q, LL.length = q := ⟨_, rfl⟩
                have hA : Below wo.heap.size wo (wr.alloc (.cells #[] 3)) := hBx.alloc hzx _
                have hnl : ([] ++ l).length = k := by simpa using hlk
                have hvb := hin.block
                go_wp2_with (first | (at_builtin; refine wpList_append_own2 rfl _ _ rfl wr.heap.size _ [] 0 rfl (by rfl) (Row.lit wr) w.heap.size _ l (by rfl) (hzr.below hA) (by omega) (by simp) ?_; intro ag ng cg w2 hr2 hg2; have hB2 : Below wr.heap.size wr w2 := below_grownBy (below_alloc wr _) (by simp) hg2 (fun b e => by have := own_eq e; omega); have hz2 := hB2.size; clear hg2 hA) | (at_builtin; refine wpList_append_int rfl _ _ rfl wr.heap.size _ ([] ++ l) k hnl (by rfl) (hr2.below (below_alloc w2 _)) _ _ (x : Int) (by rfl) (by simp) (by omega) (by simp; omega) ?_; intro g4 c4 w4 hr4 hg4; have hB4 : Below wr.heap.size wr w4 := below_grownBy (hB2.alloc hz2 _) (by simp; omega) hg4 (fun b e => (hr2.block b e).1); have hrow4 := hin.below hB4; have hz4 := hB4.size; have hub := hr4.block; clear hg4 hB2 hr2) | (at_builtin; refine wpList_append_row rfl _ _ rfl wo.heap.size _ LL q hq (by rfl) (hrow4.below (below_alloc w4 _)) _ _ (.slice (some ⟨g4, 0, none⟩) (k + 1) c4) ([] ++ l ++ [(x : Int)]) (by rfl) (by simp) ((hr4.mono (by omega)).below (below_alloc w4 _)) (fun b h1 h2 => by have := (hub b h1).1; have := (hvb b h2).2; omega) (by omega) (by simp; omega) ?_; intro g6 c6 w6 hrow6 hg6 hgb6))
                have HB6 := hid (below_grownBy (B := wo.heap.size) ((hBx.trans (hB4.mono hzx)).alloc (by omega) _) (by simp; omega) hg6 (fun b e => (hvb b e).1))
                have HN : Hid (inTo l LM (x + 1) = LL ++ [[] ++ l ++ [(x : Int)]]) := by rw [Hid, HS.out, hh, HLL2.out]; rfl
                clear hg6 hB4 hr4 hrow4 hin
                go_roundw
                case rel => first | exact ⟨x + 1, _, by omega, by go_num, rfl, by rw [HN.out]; exact hrow6, HB6.out⟩ | exact ⟨_, ⟨x + 1, _, by omega, by go_num, rfl, by rw [HN.out]; exact hrow6, HB6.out⟩, rfl⟩ | exact ⟨_, _, ⟨x + 1, _, by omega, by go_num, rfl, by rw [HN.out]; exact hrow6, HB6.out⟩, rfl, rfl⟩ | exact ⟨_, _, _, ⟨x + 1, _, by omega, by go_num, rfl, by rw [HN.out]; exact hrow6, HB6.out⟩, rfl, rfl, rfl⟩ | exact ⟨_, _, _, _, ⟨x + 1, _, by omega, by go_num, rfl, by rw [HN.out]; exact hrow6, HB6.out⟩, rfl, rfl, rfl, rfl⟩ | exact ⟨_, _, _, _, _, ⟨x + 1, _, by omega, by go_num, rfl, by rw [HN.out]; exact hrow6, HB6.out⟩, rfl, rfl, rfl, rfl, rfl⟩
                case measure => simp [intOf]; omega
              · have HN : Hid (inTo l LM (x + 1) = inTo l LM x) := by rw [Hid, HS.out, hh]; rfl
                go_wp2
                go_roundw
                case rel => first | exact ⟨x + 1, _, by omega, by go_num, rfl, by rw [HN.out]; exact hin, hBx⟩ | exact ⟨_, ⟨x + 1, _, by omega, by go_num, rfl, by rw [HN.out]; exact hin, hBx⟩, rfl⟩ | exact ⟨_, _, ⟨x + 1, _, by omega, by go_num, rfl, by rw [HN.out]; exact hin, hBx⟩, rfl, rfl⟩ | exact ⟨_, _, _, ⟨x + 1, _, by omega, by go_num, rfl, by rw [HN.out]; exact hin, hBx⟩, rfl, rfl, rfl⟩ | exact ⟨_, _, _, _, ⟨x + 1, _, by omega, by go_num, rfl, by rw [HN.out]; exact hin, hBx⟩, rfl, rfl, rfl, rfl⟩ | exact ⟨_, _, _, _, _, ⟨x + 1, _, by omega, by go_num, rfl, by rw [HN.out]; exact hin, hBx⟩, rfl, rfl, rfl, rfl, rfl⟩
                case measure => simp [intOf]; omega
            · have hxn : x = n := by omega
              have HX := hid hxn
              clear hxn
              have HN : Hid (midTo n os (j + 1) = inTo l LM x) := by rw [Hid, midTo_succ, HLL.out, HLM.out, HX.out]
              go_wp2
              go_roundw
              case rel => first | exact ⟨j + 1, _, by omega, by go_num, rfl, by rw [HN.out]; exact hin, hBx⟩ | exact ⟨_, ⟨j + 1, _, by omega, by go_num, rfl, by rw [HN.out]; exact hin, hBx⟩, rfl⟩ | exact ⟨_, _, ⟨j + 1, _, by omega, by go_num, rfl, by rw [HN.out]; exact hin, hBx⟩, rfl, rfl⟩ | exact ⟨_, _, _, ⟨j + 1, _, by omega, by go_num, rfl, by rw [HN.out]; exact hin, hBx⟩, rfl, rfl, rfl⟩ | exact ⟨_, _, _, _, ⟨j + 1, _, by omega, by go_num, rfl, by rw [HN.out]; exact hin, hBx⟩, rfl, rfl, rfl, rfl⟩ | exact ⟨_, _, _, _, _, ⟨j + 1, _, by omega, by go_num, rfl, by rw [HN.out]; exact hin, hBx⟩, rfl, rfl, rfl, rfl, rfl⟩
              case measure => simp [intOf]; omega
        · have hjp : j = p := by omega
          have HN : Hid (ordTo n (k + 1) = midTo n os j) := by rw [Hid, ordTo_succ, HOS.out, hp, hjp]
          clear hjp
          go_wp2
          go_roundw
          case rel => first | exact ⟨k + 1, _, by omega, by go_num, rfl, by rw [HN.out]; exact hnext.mono hzo, hBo.trans (hBm.mono hzo)⟩ | exact ⟨_, ⟨k + 1, _, by omega, by go_num, rfl, by rw [HN.out]; exact hnext.mono hzo, hBo.trans (hBm.mono hzo)⟩, rfl⟩ | exact ⟨_, _, ⟨k + 1, _, by omega, by go_num, rfl, by rw [HN.out]; exact hnext.mono hzo, hBo.trans (hBm.mono hzo)⟩, rfl, rfl⟩ | exact ⟨_, _, _, ⟨k + 1, _, by omega, by go_num, rfl, by rw [HN.out]; exact hnext.mono hzo, hBo.trans (hBm.mono hzo)⟩, rfl, rfl, rfl⟩ | exact ⟨_, _, _, _, ⟨k + 1, _, by omega, by go_num, rfl, by rw [HN.out]; exact hnext.mono hzo, hBo.trans (hBm.mono hzo)⟩, rfl, rfl, rfl, rfl⟩ | exact ⟨_, _, _, _, _, ⟨k + 1, _, by omega, by go_num, rfl, by rw [HN.out]; exact hnext.mono hzo, hBo.trans (hBm.mono hzo)⟩, rfl, rfl, rfl, rfl, rfl⟩
          case measure => simp [intOf]; omega
    · have hkn : k = n := by omega
      have HX : Hid (orders n = ordTo n k) := by rw [Hid, hkn]; rfl
      clear hkn
      go_wp2
      go_ret
      exact ⟨⟨_, rfl, by rw [HX.out]; exact hout⟩, hBo⟩
theorem fb_drop {o : List Int} {a k : Nat} (h : k < o.length) : firstBit (o.drop k) a = if hasB a (nth o k).toNat then 2 ^ (nth o k).toNat else firstBit (o.drop (k + 1)) a := by
  rw [List.drop_eq_getElem_cons h, nth_eq _ _ h]; rfl
theorem fb_end (o : List Int) (a : Nat) : firstBit (o.drop o.length) a = 0 := by rw [List.drop_length]; rfl
theorem mapTo_one (T : Nat → Nat) (xs : List Int) (N : Nat) (h : nth xs 0 = 0) : mapTo T xs N 1 = List.replicate N 0 := by
  show (List.replicate N (0 : Int)).set (T 0) (nth (List.replicate N 0) (T 0) + nth xs 0) = _
  rw [h, nth_replicate]
  apply List.ext_getElem
  · simp
  · intro i h1 h2
    rw [List.getElem_set]
    split <;> simp
theorem first_someF : ∀ m : Fin 5, ∀ a : Fin (2 ^ m.val), a.val ≠ 0 → ∃ x : Fin m.val, hasB a.val x.val = true := by decide
theorem first_some (m : Nat) (hm : m ≤ 4) (a : Nat) (ha : a < 2 ^ m) (h0 : a ≠ 0) : ∃ x, x < m ∧ hasB a x = true := by
  obtain ⟨x, hx⟩ := first_someF ⟨m, by omega⟩ ⟨a, ha⟩ h0
  exact ⟨x.val, x.isLt, hx⟩
theorem newBox (w : World) (u0 u1 : Value) (t : TypeId) (G : Nat) (h : w.heap.size = G) : (w.alloc (.cells #[u0, u1] t)).cell? ⟨G, 0, none⟩ = some u0 ∧ (w.alloc (.cells #[u0, u1] t)).cell? ⟨G, 1, none⟩ = some u1 ∧ (w.alloc (.cells #[u0, u1] t)).frozen? ⟨G, 0, none⟩ = false ∧ (w.alloc (.cells #[u0, u1] t)).frozen? ⟨G, 1, none⟩ = false := by
  subst h; simp
/-- what is known of an order's numbers -/
theorem ord_nums {n : Nat} {o : List Int} (h : OrdOk n o) (hn : n ≤ 4) : ∀ k, k < o.length → 0 ≤ nth o k ∧ nth o k ≤ 28 := fun k hk => by
  have := h.1 _ (nth_mem o k hk); omega
set_option maxHeartbeats 400000 in
theorem chanceClos_any (a B : Nat) (ao : Option Addr) (n c : Nat) (o : List Int) (w : World) (ha : a < 1000000000) (hB : w.cell? ⟨B, 0, none⟩ = some (.slice ao n c)) (hx : IntsAt w ao n o) (hb : ∀ k, k < n → 0 ≤ nth o k ∧ nth o k ≤ 28) :
    Calls Tryz.prog 185 #[.int .i64 a, .pointer (some ⟨B, 0, none⟩)] w fun e w' => e = .returned (.int .i64 (firstBit o a)) ∧ w = w' := by
  have hcap := hx.cap
  have hxl := hid hx.len
  obtain ⟨r, HR⟩ : ∃ r, Hid (firstBit o a = r) := ⟨_, rfl⟩
  rw [HR.out]
  go_enter Tryz.func185, Tryz.ntmps185
  go_wp2
  go_loop [5, 8] (fun _ i => ∃ k : Nat, k ≤ n ∧ i = .int .i64 k ∧ firstBit (o.drop k) a = r) (fun _ i => n - (intOf i).toNat)
  case atStart => exact ⟨0, by omega, rfl, HR.out⟩
  case round =>
    obtain ⟨k, hk, rfl, hf⟩ := hrel
    by_cases hlt : k < n
    · obtain ⟨b, off, rfl, hbs, hbs', hck⟩ := hx.at (Below.refl _ _) hlt
      have hxb := hb k hlt
      rw [fb_drop (by rw [hxl.out]; exact hlt)] at hf
      obtain ⟨y, hy⟩ : ∃ y : Nat, nth o k = (y : Int) := ⟨(nth o k).toNat, by omega⟩
      have hyt : (nth o k).toNat = y := by omega
      rw [hyt] at hf
      rw [hy] at hck hxb
      have hand := and_one a y ha
      have hsl := shl_nat y (by omega)
      clear hy hb hyt
      cases ht : hasB a y
      · have ht' : a.testBit y = false := ht
        have HF : Hid (firstBit (o.drop (k + 1)) a = r) := by rw [Hid, ← hf, ht]; rfl
        clear hf
        go_wp2
        go_round
        case rel => first | exact ⟨k + 1, by omega, by go_num, HF.out⟩ | exact ⟨_, ⟨k + 1, by omega, by go_num, HF.out⟩, rfl⟩ | exact ⟨_, _, ⟨k + 1, by omega, by go_num, HF.out⟩, rfl, rfl⟩ | exact ⟨_, _, _, ⟨k + 1, by omega, by go_num, HF.out⟩, rfl, rfl, rfl⟩ | exact ⟨_, _, _, _, ⟨k + 1, by omega, by go_num, HF.out⟩, rfl, rfl, rfl, rfl⟩ | exact ⟨_, _, _, _, _, ⟨k + 1, by omega, by go_num, HF.out⟩, rfl, rfl, rfl, rfl, rfl⟩
        case measure => simp [intOf]; omega
      · have ht' : a.testBit y = true := ht
        have HF : Hid (2 ^ y = r) := by rw [Hid, ← hf, ht]; rfl
        clear hf
        go_wp2
        go_ret
        exact ⟨by rw [← HF.out]; rfl, rfl⟩
    · have hkn : k = n := by omega
      subst hkn
      have HF : Hid (r = 0) := by rw [Hid, ← hf, ← hxl.out]; exact fb_end o a
      clear hf
      go_wp2
      go_ret
      exact ⟨by rw [HF.out]; rfl, rfl⟩
theorem chanceClos_call (vs : Array Value) (w' : World) : Sem.run Tryz.prog (callFunc 185 vs) w' = .ok (.enter 185 vs) w' := by
  have h1 : (Tryz.f185.name == "runtime.NumGoroutine") = false := by kernel_rfl
  have h2 : Tryz.f185.body.isNone = false := by kernel_rfl
  have h1' : ¬ Tryz.f185.name = "runtime.NumGoroutine" := by simpa using h1
  have h2' : ¬ Tryz.f185.body = none := by intro e; rw [e] at h2; simp at h2
  simp only [callFunc, Sem.run_bind, run_program, Result.andThen_ok, Tryz.func185, beq_iff_eq, Option.isNone_iff_eq_none, if_neg h1', if_neg h2', Sem.run_pure]
set_option maxHeartbeats 1000000 in
theorem chanceOfOrder_any (s : Int) (ao bo : Option Addr) (n c m d : Nat) (xs o : List Int) (w : World) (hx : IntsAt w ao n xs) (hy : IntsAt w bo m o) (hm : massOk s xs = true) (ho : OrdOk s.toNat o) :
    Calls Tryz.prog 123 #[.agg #[.int .i64 s, .slice ao n c], .slice bo m d] w fun e w' => RetM (chanceM s xs o) w.heap.size e w' ∧ Below w.heap.size w w' := by
  obtain ⟨hsz, hlen, h16, hbd, _, _, _⟩ := massOk_facts hm
  have HBD := hid hbd; clear hbd
  have hs4 : 1 ≤ s ∧ s ≤ 4 := by rcases okSize_iff.1 hsz with h | h | h | h <;> omega
  have HO := hid (ord_nums ho (by omega))
  have hns : nsets s = 2 ^ s.toNat := by rcases okSize_iff.1 hsz with rfl | rfl | rfl | rfl <;> rfl
  have HT : Hid (∀ a, a < n → firstBit o a < nsets s) := fun a _ => by rw [hns]; exact firstBit_lt o s.toNat a ho.1
  have hml := hid hy.len
  have hnl := hid hx.len
  have HR : Hid (chanceM s xs o = mkMass s (mapTo (fun a => firstBit o a) xs (nsets s) n)) := by
    show mkMass s (chP o xs xs.length) = _; unfold chP; rw [← hnl.out, hlen]
  rw [HR.out]
  have hn16 : n ≤ 16 := by rw [← hnl.out]; exact h16
  clear hns ho
  obtain ⟨W, HW⟩ : ∃ W, Hid (((w.alloc (.cells #[.int .i64 s, .slice ao n c] 25)).alloc (.cells #[.slice bo m d] 23)).alloc (.cells #[.int .i64 0, .slice none 0 0] 25) = W) := ⟨_, rfl⟩
  have hB0 : Below w.heap.size w W := by rw [← HW.out]; (repeat (first | exact Below.refl _ _ | assumption | refine Below.alloc ?_ (by first | omega | (simp <;> omega)) _ | refine Below.setCell ?_ (by first | omega | (simp <;> omega)) _ | refine Below.drew ?_ | refine below_drewN ?_))
  have hq : W.cell? ⟨w.heap.size + 1, 0, none⟩ = some (.slice bo m d) := by rw [← HW.out]; simp
  have hp0 : W.cell? ⟨w.heap.size, 0, none⟩ = some (.int .i64 s) := by rw [← HW.out]; simp
  have hp1 : W.cell? ⟨w.heap.size, 1, none⟩ = some (.slice ao n c) := by rw [← HW.out]; simp
  obtain ⟨h10, h11, f20, f21⟩ := newBox ((w.alloc (.cells #[.int .i64 s, .slice ao n c] 25)).alloc (.cells #[.slice bo m d] 23)) (.int .i64 0) (.slice none 0 0) 25 (w.heap.size + 1 + 1) (by simp)
  rw [HW.out] at h10 h11 f20 f21
  have hzW : w.heap.size + 1 + 1 < W.heap.size := by rw [← HW.out]; simp
  go_enter Tryz.func123, Tryz.ntmps123
  go_wp2_with fail
  rw [HW.out]
  refine (mapped_any s s ao n c xs 185 #[.pointer (some ⟨w.heap.size + 1, 0, none⟩)] (fun a => firstBit o a) W (hx.below hB0) hn16 hsz chanceClos_call (fun k hk => HBD.out k (by rw [hnl.out]; exact hk)) HT.out (fun a w' ha hb => ?_)).mono ?_
  · exact (chanceClos_any a _ _ _ _ _ w' (by omega) (keep hb hq) ((hy.below hB0).below hb) (fun k hk => HO.out k (by rw [hml.out]; exact hk))).mono fun e w'' ⟨he, hw⟩ => ⟨he, below_of_eq hw⟩
  rintro e w7 ⟨⟨v, rfl, hr7⟩, hb7⟩
  obtain ⟨ao7, n7, c7, rfl, hi7⟩ := hr7.ints
  replace f20 := keepF hb7 h10 f20
  replace f21 := keepF hb7 h11 f21
  replace h10 := keep hb7 h10
  replace h11 := keep hb7 h11
  have hB7 := chain hB0 hb7
  go_wp2
  refine bodyPost_ret (by simp [results, Tryz.results123, go_sem, h10, h11]) rfl ⟨⟨_, rfl, ((hr7.setBelow (by omega) _).setBelow (by omega) _).mono (by omega)⟩, ?_⟩
  (repeat (first | exact Below.refl _ _ | assumption | refine Below.alloc ?_ (by first | omega | (simp <;> omega)) _ | refine Below.setCell ?_ (by first | omega | (simp <;> omega)) _ | refine Below.drew ?_ | refine below_drewN ?_))
theorem Span.grown2 {lo hi : Nat} {w a b : World} {row : Option Nat} (h : Span lo hi w a) (hg : a.grownBy b row) (hr : ∀ k, row = some k → (lo ≤ k ∧ k < hi) ∨ w.heap.size ≤ k) : Span lo hi w b :=
  ⟨hg.os.trans h.os, hg.tape.trans h.tape, hg.output.trans h.output, Nat.le_trans h.size hg.size, fun k hk hc => (hg.block k (Nat.lt_of_lt_of_le hk h.size) (fun e => by have := hr k e.symm; omega)).trans (h.block k hk hc)⟩
theorem info_mass : (Tryz.prog.info? 25).map (fun i => (i.zero, i.size, i.bytes)) = some (some (.agg #[.int .i64 0, .slice none 0 0]), 2, 32) := by kernel_rfl
theorem add_at (g j : Nat) : (⟨g, 0, none⟩ : Addr).add j = ⟨g, j, none⟩ := by unfold Addr.add; split <;> simp_all
/-- v owns a list of n masses (sizes t, parts p), all from block base on; no two parts share a block, none lies in the list's block -/
structure MassesO (w : World) (base : Nat) (v : Value) (n : Nat) (t : Nat → Int) (p : Nat → List Int) : Prop where
  own : ∃ (vals : List Value) (u : Nat → Value), w.ownsRow base 25 2 v n vals ∧ (∀ k, k < n → vals[k * 2]? = some (.int .i64 (t k)) ∧ vals[k * 2 + 1]? = some (u k) ∧ Row w base (u k) (p k) ∧ ∀ b, (u k).ownBlock = some b → v.ownBlock ≠ some b) ∧ ∀ i j, i < j → j < n → ∀ b, (u i).ownBlock = some b → (u j).ownBlock ≠ some b
/-- a slice that reads as a list of masses -/
structure MassesAt (w : World) (ao : Option Addr) (n : Nat) (t : Nat → Int) (p : Nat → List Int) : Prop where
  cap : n ≤ 9223372036854775807
  cell : 0 < n → ∃ b, ao = some ⟨b, 0, none⟩ ∧ b < w.heap.size ∧ ∀ k, k < n → w.cell? ⟨b, k * 2, none⟩ = some (.int .i64 (t k)) ∧ ∃ a' n' c', w.cell? ⟨b, k * 2 + 1, none⟩ = some (.slice a' n' c') ∧ IntsAt w a' n' (p k)
theorem MassesAt.below {w w' : World} {ao n t p} (h : MassesAt w ao n t p) (hb : Below w.heap.size w w') : MassesAt w' ao n t p := by
  refine ⟨h.cap, fun hn => ?_⟩
  obtain ⟨b, rfl, hbs, hc⟩ := h.cell hn
  refine ⟨b, rfl, Nat.lt_of_lt_of_le hbs hb.size, fun k hk => ?_⟩
  obtain ⟨h0, a', n', c', h1, h2⟩ := hc k hk
  exact ⟨(hb.cell (p := ⟨b, k * 2, none⟩) hbs).trans h0, a', n', c', (hb.cell (p := ⟨b, k * 2 + 1, none⟩) hbs).trans h1, h2.below hb⟩
theorem MassesAt.at {w w' : World} {ao n t p} (h : MassesAt w ao n t p) (hb : Below w.heap.size w w') {k : Nat} (hk : k < n) :
    ∃ b a' n' c', ao = some ⟨b, 0, none⟩ ∧ b < w.heap.size ∧ b < w'.heap.size ∧ w'.cell? ⟨b, k * 2, none⟩ = some (.int .i64 (t k)) ∧ w'.cell? ⟨b, k * 2 + 1, none⟩ = some (.slice a' n' c') ∧ IntsAt w' a' n' (p k) := by
  obtain ⟨b, rfl, hbs, hc⟩ := h.cell (by omega)
  obtain ⟨h0, a', n', c', h1, h2⟩ := hc k hk
  exact ⟨b, a', n', c', rfl, hbs, Nat.lt_of_lt_of_le hbs hb.size, (hb.cell (p := ⟨b, k * 2, none⟩) hbs).trans h0, (hb.cell (p := ⟨b, k * 2 + 1, none⟩) hbs).trans h1, h2.below hb⟩
theorem MassesO.block {w : World} {base n : Nat} {v : Value} {t p} (h : MassesO w base v n t p) : ∀ k, v.ownBlock = some k → base ≤ k ∧ k < w.heap.size := by
  obtain ⟨vals, u, h1, _⟩ := h.own
  exact World.ownsRow.lt h1
theorem MassesO.below {w w' : World} {base n : Nat} {v : Value} {t p} (h : MassesO w base v n t p) (hb : Below w.heap.size w w') : MassesO w' base v n t p := by
  have hbl := h.block
  obtain ⟨vals, u, h1, h3, h4⟩ := h.own
  exact ⟨vals, u, owns_below h1 (fun k e => hb.block k (hbl k e).2), fun k hk => by obtain ⟨e0, e1, e2, e3⟩ := h3 k hk; exact ⟨e0, e1, e2.below hb, e3⟩, h4⟩
theorem MassesO.span {w w' : World} {base lo hi n : Nat} {v : Value} {t p} (h : MassesO w base v n t p) (hs : Span lo hi w w') (hb : hi ≤ base) : MassesO w' base v n t p := by
  have hbl := h.block
  obtain ⟨vals, u, h1, h3, h4⟩ := h.own
  exact ⟨vals, u, owns_below h1 (fun k e => hs.block k (hbl k e).2 (by have := (hbl k e).1; omega)), fun k hk => by obtain ⟨e0, e1, e2, e3⟩ := h3 k hk; exact ⟨e0, e1, Span.row hs e2 (fun b e => by have := (e2.block b e).1; omega), e3⟩, h4⟩
/-- an old block grows -/
theorem MassesO.grown {w w' : World} {base n : Nat} {v : Value} {t p} {row : Option Nat} (h : MassesO w base v n t p) (hg : w.grownBy w' row) (hne : ∀ b, row = some b → b < base) : MassesO w' base v n t p := by
  have hbl := h.block
  obtain ⟨vals, u, h1, h3, h4⟩ := h.own
  refine ⟨vals, u, owns_below h1 (fun k e => hg.block k (hbl k e).2 (fun e2 => by have := hne k e2.symm; have := (hbl k e).1; omega)), fun k hk => ?_, h4⟩
  obtain ⟨e0, e1, e2, e3⟩ := h3 k hk
  refine ⟨e0, e1, e2.grown hg ?_, e3⟩
  cases hz : (u k).ownBlock with
  | none => exact .inl rfl
  | some b => exact .inr (fun e => by have := hne b e.symm; have := (e2.block b hz).1; omega)
theorem MassesO.mono {w : World} {base base' n : Nat} {v : Value} {t p} (h : MassesO w base v n t p) (hb : base' ≤ base) : MassesO w base' v n t p := by
  obtain ⟨vals, u, h1, h3, h4⟩ := h.own
  exact ⟨vals, u, ⟨h1.1, h1.2.imp id fun ⟨g, cap, cur, q1, q2, q3⟩ => ⟨g, cap, cur, q1, Nat.le_trans hb q2, q3⟩⟩, fun k hk => by obtain ⟨e0, e1, e2, e3⟩ := h3 k hk; exact ⟨e0, e1, e2.mono hb, e3⟩, h4⟩
theorem MassesO.congr {w : World} {base n : Nat} {v : Value} {t p t' p'} (h : MassesO w base v n t p) (ht : ∀ k, k < n → t' k = t k) (hp : ∀ k, k < n → p' k = p k) : MassesO w base v n t' p' := by
  obtain ⟨vals, u, h1, h3, h4⟩ := h.own
  exact ⟨vals, u, h1, fun k hk => by rw [ht k hk, hp k hk]; exact h3 k hk, h4⟩
theorem MassesO.nil (w : World) (base : Nat) (t p) : MassesO w base (.slice none 0 0) 0 t p := ⟨[], fun _ => undef, ⟨rfl, .inl ⟨rfl, rfl⟩⟩, fun k hk => by omega, fun i j _ hj => by omega⟩
theorem MassesO.lit (w : World) (t p) : MassesO (w.alloc (.cells #[] 25)) w.heap.size (.slice (some ⟨w.heap.size, 0, none⟩) 0 0) 0 t p :=
  ⟨[], fun _ => undef, World.ownsRow_lit w #[] 0 (Nat.le_refl _) (by unfold maxLen; omega) rfl, fun k hk => by omega, fun i j _ hj => by omega⟩
theorem MassesO.form {w : World} {base n : Nat} {v : Value} {t p} (h : MassesO w base v n t p) : ∃ ao c, v = .slice ao n c ∧ MassesAt w ao n t p := by
  obtain ⟨vals, u, h1, h3, _⟩ := h.own
  have hsz : n ≤ maxLen := by
    rcases h1.2 with ⟨_, h0⟩ | ⟨g, cap, cur, hv, hg, hh, hn, hc, _⟩ <;> omega
  rcases h1.2 with ⟨rfl, h0⟩ | ⟨g, cap, cur, rfl, hg, hh, hn, hc, hs, ht⟩
  · exact ⟨none, 0, by rw [h0], by unfold maxLen at hsz; omega, fun h => by omega⟩
  · refine ⟨_, _, rfl, by unfold maxLen at hsz; omega, fun _ => ⟨g, rfl, lt_of_block hh, fun k hk => ?_⟩⟩
    obtain ⟨e0, e1, hr, _⟩ := h3 k hk
    have c0 := World.ownsRow.cells h1 (g := g) rfl (k * 2) _ e0
    have c1 := World.ownsRow.cells h1 (g := g) rfl (k * 2 + 1) _ e1
    obtain ⟨a', n', c', e2, hi⟩ := hr.ints
    rw [add_at] at c0 c1
    exact ⟨c0, a', n', c', by rw [c1, e2], hi⟩
theorem MassesO.form2 {w : World} {base n : Nat} {v : Value} {t p} (h : MassesO w base v n t p) (h0 : 0 < n) : ∃ g c, v = .slice (some ⟨g, 0, none⟩) n c ∧ base ≤ g ∧ g < w.heap.size := by
  obtain ⟨vals, u, h1, _⟩ := h.own
  rcases h1.2 with ⟨rfl, h4⟩ | ⟨g, cap, cur, rfl, hg, hh, hn, hc, hs, ht⟩
  · omega
  · exact ⟨g, cap, rfl, hg, lt_of_block hh⟩
/-- one mass appended, whose parts are newer than the world w0 -/
theorem wpList_append_mass {w : World} {ops : Array Oper} {rest : List Oper} {o : Oper} {a : Act} {Q : Exit → Act → World → Prop} (hgd : o.guard = none) (sv x : Operand)
    (ho : o.op = .call { callee := .builtin .append, args := #[sv, x], argTypes := #[84, 84] })
    (w0 : World) (base : Nat) (v : Value) (s : Int) (pss : List (List Int)) (n : Nat) (hl : pss.length = n) (hs : a.eval sv = v) (h0 : MassesO w0 base v n (fun _ => s) (nthL pss)) (hb0 : Below w0.heap.size w0 w)
    (A c : Nat) (z : Value) (ys : List Int) (hx : a.eval x = .slice (some ⟨A, 0, none⟩) 1 c) (hn0 : w.cell? ⟨A, 0, none⟩ = some (.int .i64 s)) (hn1 : w.cell? ⟨A, 1, none⟩ = some z) (hu : Row w w0.heap.size z ys)
    (hn : n < 1000000) (hbase : base ≤ w0.heap.size)
    (h : ∀ g cap w', MassesO w' base (.slice (some ⟨g, 0, none⟩) (n + 1) cap) (n + 1) (fun _ => s) (nthL (pss ++ [ys])) → w.grownBy w' v.ownBlock → base ≤ g → (v.ownBlock = some g ∨ w.heap.size ≤ g) → wpList Tryz.prog ops Q rest (a.put o.dst (.slice (some ⟨g, 0, none⟩) (n + 1) cap)) w') :
    wpList Tryz.prog ops Q (o :: rest) a w := by
  obtain ⟨i0, hi, hz0, hz1, hz2⟩ := info_parts info_mass
  subst hl
  have hbl := h0.block
  have hown := h0.below hb0
  have hbz := hb0.size
  obtain ⟨vals, u, k1, k3, k4⟩ := h0.own
  have h1 : w.ownsRow base 25 2 v pss.length vals := owns_below k1 (fun k e => hb0.block k (hbl k e).2)
  have h3 : ∀ k, k < pss.length → vals[k * 2]? = some (.int .i64 s) ∧ vals[k * 2 + 1]? = some (u k) ∧ Row w base (u k) (nthL pss k) ∧ (∀ b, (u k).ownBlock = some b → v.ownBlock ≠ some b) ∧ ∀ b, (u k).ownBlock = some b → b < w0.heap.size := fun k hk => by
    obtain ⟨e0, e1, e2, e3⟩ := k3 k hk
    exact ⟨e0, e1, e2.below hb0, e3, fun b e => (e2.block b e).2⟩
  have hub : ∀ b, z.ownBlock = some b → v.ownBlock ≠ some b := fun b e e2 => by have := (hu.block b e).1; have := (hbl b e2).2; omega
  have hone : z.oneCell' = true := by obtain ⟨a', n', c', e, _⟩ := hu.ints; subst e; rfl
  refine wpList_plain hgd fun _ hK => wp_append_lies w sv x 84 ho base 25 i0 (.agg #[.int .i64 0, .slice none 0 0]) 2 32 Tryz.underlying84 hi hz0 hz1 hz2 rfl (by decide) v pss.length vals hs h1 ⟨A, 0, none⟩ 1 c [.int .i64 s, z] hx rfl ?_ ?_ (by decide) (by unfold maxLen; omega) (by omega) (by omega) _ rfl fun g cap w' q1 q2 q3 q4 => hK _ _ (h g cap w' ?_ q2 (by rcases q3 with e | e; exact (hbl g e).1; omega) (by rcases q3 with e | e; exact .inl e; exact .inr (by omega)))
  · intro j u' hj
    match j, hj with
    | 0, hj => simp at hj; subst hj; rw [add_at]; exact hn0
    | 1, hj => simp at hj; subst hj; rw [add_at]; exact hn1
  · intro u' hu'; simp at hu'; rcases hu' with rfl | rfl; rfl; exact hone
  · have key : ∀ y zs, Row w base y zs → (∀ b, y.ownBlock = some b → v.ownBlock ≠ some b) → Row w' base y zs ∧ ∀ b, y.ownBlock = some b → (Value.slice (some ⟨g, 0, none⟩) (pss.length + 1) cap).ownBlock ≠ some b := fun y zs hy hyb => by
      refine ⟨hy.grown q2 ?_, fun b hb e => ?_⟩
      · cases hzo : y.ownBlock with
        | none => exact .inl rfl
        | some b => exact .inr (fun e => hyb b hzo e.symm)
      · have e1 : g = b := by have e' : some g = some b := e; injection e'
        subst e1
        rcases q3 with e2 | e2
        · exact hyb g hb e2
        · have := (hy.block g hb).2; omega
    have hvl : vals.length = pss.length * 2 := h1.1
    refine ⟨vals ++ [.int .i64 s, z], fun k => if k < pss.length then u k else z, q1, fun k hk => ?_, fun i j hij hj b => ?_⟩
    · by_cases hk2 : k < pss.length
      · obtain ⟨e0, e1, e2, e3, _⟩ := h3 k hk2
        rw [List.getElem?_append_left (by omega), List.getElem?_append_left (by omega), nthL_app_lt _ _ hk2]
        simp only [if_pos hk2]
        exact ⟨e0, e1, key _ _ e2 e3⟩
      · obtain rfl : k = pss.length := by omega
        rw [List.getElem?_append_right (by omega), List.getElem?_append_right (by omega), nthL_app_eq, hvl]
        have e1 : pss.length * 2 + 1 - pss.length * 2 = 1 := by omega
        rw [Nat.sub_self, e1]
        simp only [if_neg hk2]
        exact ⟨rfl, rfl, key z _ (hu.mono hbase) hub⟩
    · simp only [if_pos (show i < pss.length by omega)]
      by_cases hj2 : j < pss.length
      · simp only [if_pos hj2]; exact k4 i j hij hj2 b
      · simp only [if_neg hj2]
        intro e1 e2
        have := (h3 i (by omega)).2.2.2.2 b e1
        have := (hu.block b e2).1
        omega
end Go.Proofs.YtefmlbahmakboaaGreatDoor
