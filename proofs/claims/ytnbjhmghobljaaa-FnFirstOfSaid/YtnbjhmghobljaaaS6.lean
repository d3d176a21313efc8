/- spec.MoveMass; SwapPairs. -/
import Derived.Test.YtnbjhmghobljaaaS5
set_option linter.unusedSimpArgs false
set_option linter.unusedVariables false
namespace Go.Proofs.Ytnbjhmghobljaaa
open Go.RowKit
set_option maxRecDepth 100000 in
set_option maxHeartbeats 1000000 in
theorem specMoveMass_any (s : Int) (ao bo : Option Addr) (n c m d : Nat) (xs to : List Int) (w : World) (hx : IntsAt w ao n xs) (hy : IntsAt w bo m to) :
    Calls Try.prog 68 #[.agg #[.int .i64 s, .slice ao n c], .slice bo m d] w fun e w' => RetM (moveM s xs to) w.heap.size e w' ∧ Below w.heap.size w w' := by
  have hxx := hx.below (w' := (w.alloc (.cells #[.int .i64 s, .slice ao n c] 25)).alloc (.cells #[.int .i64 0, .slice none 0 0] 25)) ((below_alloc w _).alloc (by simp) _)
  cases hm : massOk s xs
  · have HR : Hid (moveM s xs to = MR.no) := by simp [Hid, moveM, hm]
    rw [HR.out]
    go_enter Try.func68, Try.ntmps68
    go_wp2_with fail
    refine (MassValid_any _ _ _ _ _ _ hxx).mono ?_; rintro e w1 ⟨rfl, hb1⟩
    obtain ⟨h10, h11, f20, f21⟩ := boxG (w.heap.size + 1) hb1 (by simp)
    have hB1 : Below w.heap.size w w1 := ((below_alloc w _).alloc (by simp) _).trans (hb1.mono (by simp <;> omega))
    clear hb1
    go_wp2
    refine bodyPost_ret (v := .tuple #[.agg #[.int .i64 0, .slice none 0 0], .bool false]) (by simp [results, Try.results68, go_sem, h10, h11]) rfl ⟨?_, ?_⟩
    · exact RetM.no _ _
    · (repeat (first | exact Below.refl _ _ | assumption | refine Below.alloc ?_ (by simp <;> omega) _ | refine Below.setCell ?_ (by simp <;> omega) _ | refine Below.drew ?_ | refine below_drewN ?_))
  · obtain ⟨hsz, hlen, h16, hbd, _, _, _⟩ := massOk_facts hm
    have HBD := hid hbd; clear hbd
    cases ho : ordS s to
    · have HR : Hid (moveM s xs to = MR.no) := by show moveM s xs to = MR.no; unfold moveM; rw [ho]; simp
      rw [HR.out]
      go_enter Try.func68, Try.ntmps68
      go_wp2_with fail
      refine (MassValid_any _ _ _ _ _ _ hxx).mono ?_; rintro e w1 ⟨rfl, hb1⟩
      obtain ⟨h10, h11, f20, f21⟩ := boxG (w.heap.size + 1) hb1 (by simp)
      have hB1 : Below w.heap.size w w1 := ((below_alloc w _).alloc (by simp) _).trans (hb1.mono (by simp <;> omega))
      have hp0 := keep hb1 (a := ⟨w.heap.size, 0, none⟩) (v := .int .i64 s) (by simp)
      have hy1 := hy.below hB1
      clear hb1
      go_wp2_with (first | (go_at_call 38; refine (l1Moves_any _ _ _ _ _ _ hy1 hsz).mono ?_; rw [ho]; rintro e w' ⟨rfl, rfl⟩))
      refine bodyPost_ret (v := .tuple #[.agg #[.int .i64 0, .slice none 0 0], .bool false]) (by simp [results, Try.results68, go_sem, h10, h11]) rfl ⟨?_, ?_⟩
      · exact RetM.no _ _
      · (repeat (first | exact Below.refl _ _ | assumption | refine Below.alloc ?_ (by simp <;> omega) _ | refine Below.setCell ?_ (by simp <;> omega) _ | refine Below.drew ?_ | refine below_drewN ?_))
    · have HR : Hid (moveM s xs to = ⟨s, mapTo (fun a => imgTo a to m) xs (nsets s) n, true⟩) := by
        show moveM s xs to = _
        unfold moveM; rw [hm, ho, hy.len, hx.len]; rfl
      rw [HR.out]
      obtain ⟨htl, htb⟩ := ordS_facts hsz ho
      have hs4 : s ≤ 4 ∧ 1 ≤ s := by
        have h1 := okSize_iff.1 hsz; omega
      have hm4 : m ≤ 4 := by have := hy.len; omega
      have hml := hid hy.len
      have hnl := hid hx.len
      have hn16 : n ≤ 16 := by rw [← hnl.out]; exact h16
      have hcap := hx.cap
      have HTB : Hid (∀ k, k < m → 0 ≤ nth to k ∧ nth to k ≤ 28) := fun k hk => by have := htb k (by rw [hml.out]; exact hk); omega
      have HT : Hid (∀ a, imgTo a to m < nsets s) := fun a => by rw [← hml.out]; exact imgTo_lt_nsets hsz ho a
      have hnn : n = nsets s := by rw [← hnl.out]; exact hlen
      have HNN := hid hnn
      have HI : Hid (∀ a b, a < n → b < n → imgTo a to m = imgTo b to m → a = b) := fun a b ha hb => by
        have := ((ord_facts hsz).2 ho).1 a b (by rw [← hnn]; exact ha) (by rw [← hnn]; exact hb); rwa [hml.out] at this
      have hsz2 := shl_size hsz
      have hsn := nsets_le hsz
      clear htb htl hnn
      go_enter Try.func68, Try.ntmps68
      go_wp2_with fail
      refine (MassValid_any _ _ _ _ _ _ hxx).mono ?_; rintro e w1 ⟨rfl, hb1⟩
      obtain ⟨h10, h11, f20, f21⟩ := boxG (w.heap.size + 1) hb1 (by simp)
      have hB1 : Below w.heap.size w w1 := ((below_alloc w _).alloc (by simp) _).trans (hb1.mono (by simp <;> omega))
      have hp0 := keep hb1 (a := ⟨w.heap.size, 0, none⟩) (v := .int .i64 s) (by simp)
      have hp1 := keep hb1 (a := ⟨w.heap.size, 1, none⟩) (v := .slice ao n c) (by simp)
      have hy1 := hy.below hB1
      have hz1 : w.heap.size + 1 < w1.heap.size := by have := World.block_lt_of_cell? w1 _ h10; simpa using this
      clear hb1
      go_wp2_with (first | (go_at_call 38; refine (l1Moves_any _ _ _ _ _ _ hy1 hsz).mono ?_; rw [ho]; rintro e w' ⟨rfl, rfl⟩))
      refine region_join_made (fun a b g => ((((((((a.put (some 19) (.pointer (some ⟨w.heap.size, 0, none⟩))).put (some 20) (.int .i64 s)).put (some 21) (.pointer (some ⟨w.heap.size, 1, none⟩))).put (some 22) (.slice ao n c)).put (some 23) (.int .i64 n)).put (some 24) (.slice (some ⟨g, 0, none⟩) n n)).put (some 25) (.agg #[.int .i64 s, .slice (some ⟨g, 0, none⟩) n n])).put (some 6) (.pointer (some ⟨b, 0, none⟩)))) s n ?_ ?_
      · go_region_with (first | (refine upon_make (w := (w1.alloc _).drew) (X := fun r => Oper.upon Try.prog _ _ _ _ (r.andThen _)) n (by omega) ?_; intro w2 hrow hb2 hz2; have k0 := keep hb2 (a := ⟨w1.heap.size, 0, none⟩) (v := .int .i64 0) (by simp); have k1 := keep hb2 (a := ⟨w1.heap.size, 1, none⟩) (v := .slice none 0 0) (by simp); have k2 := keepF hb2 (a := ⟨w1.heap.size, 0, none⟩) (v := .int .i64 0) (by simp) (by simp); have k3 := keepF hb2 (a := ⟨w1.heap.size, 1, none⟩) (v := .slice none 0 0) (by simp) (by simp); have hp0 := keep hb2 (a := ⟨w.heap.size, 0, none⟩) (v := .int .i64 s) (by simp [hp0]); go_simp) | (refine upon_make (w := w1.drew) (X := fun r => Oper.upon Try.prog _ _ _ _ (r.andThen _)) n (by omega) ?_; intro w2 hrow hb2 hz2; have hp0 := keep hb2 (a := ⟨w.heap.size, 0, none⟩) (v := .int .i64 s) (by simp [hp0]); go_simp))
        all_goals first | (refine ⟨w2.heap.size, w1.heap.size, ?_, made_after _ rfl hrow hb2 hz2⟩; simp [Act.put]; done) | (refine ⟨w1.heap.size, w1.heap.size + 1, ?_, made_before rfl (W := (w1.alloc _).drew) (by simp) ((below_alloc w1 _).drew) hrow hb2 ⟨_, k0⟩ ⟨_, k1⟩⟩; simp [Act.put]; done)
      · intro b g w2 hmade
        have hB2 := chain hB1 hmade.below
        have hr0 := hmade.row
        have hc0 := hmade.c0
        have hc1 := hmade.c1
        have hlo := hmade.lo
        have hne := hmade.ne
        replace hp1 := keep hmade.below hp1
        replace f20 := keepF hmade.below h10 f20
        replace f21 := keepF hmade.below h11 f21
        replace h10 := keep hmade.below h10
        replace h11 := keep hmade.below h11
        have HST : Hid (∀ k, k < n → mapTo (fun a => imgTo a to m) xs (nsets s) (k + 1) = (mapTo (fun a => imgTo a to m) xs (nsets s) k).set (imgTo k to m) (nth xs k)) := fun k hk => by
          have e := mapTo_nth (fun a => imgTo a to m) xs (nsets s) n (fun a _ => HT.out a) HI.out k (by omega) k hk
          rw [if_neg (Nat.lt_irrefl k)] at e
          show (mapTo (fun a => imgTo a to m) xs (nsets s) k).set (imgTo k to m) (nth (mapTo (fun a => imgTo a to m) xs (nsets s) k) (imgTo k to m) + nth xs k) = _
          rw [e, Int.zero_add]
        have hr0' : Row w2 w1.heap.size (.slice (some ⟨g, 0, none⟩) n n) (mapTo (fun a => imgTo a to m) xs (nsets s) 0) := by
          show Row _ _ _ (List.replicate (nsets s) 0); rw [← HNN.out]; exact hr0
        have hgs := hr0.block g rfl
        clear hmade hr0 hp0 hy1
        go_wp2_with fail
        go_loopw [7] (fun i wr => ∃ k : Nat, k ≤ n ∧ i = .int .i64 k ∧ Row wr w1.heap.size (.slice (some ⟨g, 0, none⟩) n n) (mapTo (fun a => imgTo a to m) xs (nsets s) k) ∧ w2.grownBy wr (some g)) (fun i _ => n - (intOf i).toNat)
        case atStart => exact ⟨0, by omega, rfl, hr0', grownBy_refl _ _⟩
        case round =>
          obtain ⟨k, hk, rfl, hr, hg⟩ := hrel
          have hB : Below w.heap.size w wr := below_grownBy hB2 hB2.size hg (fun k e => by injection e with e; omega)
          have hq1 := keepG hg hp1 (by omega)
          have hd0 := keepG hg hc0 hne
          have hd1 := keepG hg hc1 hne
          by_cases hlt : k < n
          · obtain ⟨b2, off, rfl, hbs, hbs', hck⟩ := hx.at hB hlt
            have hyr := hy.below hB
            have hTk : imgTo k to m < n := by rw [HNN.out]; exact HT.out k
            have hT0 : (0 : Int) ≤ (imgTo k to m : Int) := by omega
            have hT1 : ((imgTo k to m : Nat) : Int) < (n : Int) := by omega
            have hk0 : (0 : Int) ≤ (k : Int) := by omega
            have hk1 : (k : Int) < (n : Int) := by omega
            obtain ⟨hc3, hf3, _⟩ := hr.cellAt hTk
            go_wp2
            refine wp_region_ov_tail 11 (by kernel_rfl) (by kernel_rfl) (fun _ _ _ _ _ h => h) ?_
            simp only [List.take_succ_cons, List.take_zero, List.drop_succ_cons, List.drop_zero]
            repeat (first | go_big_quiet_step ((go_at_call 109; exact ov_same (l1Move_any _ _ _ _ _ _ (by omega) (hyr.below (ov_below _ _)) (by omega) HTB.out))) | quiet_step ((go_at_call 109; exact ov_same (l1Move_any _ _ _ _ _ _ (by omega) (hyr.below (ov_below _ _)) (by omega) HTB.out))))
            refine wpQuiet_nil ?_
            intro _ hw_ov
            obtain ⟨x_ov, hw_ov2⟩ := hw_ov
            subst hw_ov2
            obtain ⟨w3, hw_ov3, hb3⟩ := ov_gen _ x_ov
            rw [hw_ov3]
            clear hw_ov3 x_ov
            have hr3 := hr.below hb3
            replace hf3 := keepF hb3 hc3 hf3
            replace hc3 := keep hb3 hc3
            obtain ⟨w4, hw4, hr4, hg4⟩ := store_gen hr3 hTk (nth xs k)
            have HG := hid (grownBy_trans (grownBy_trans hg (grownBy_below hb3 (some g))) hg4)
            have HW := hid hw4
            clear hw4 hg4 hr3 hr hb3 hq1 hg hd0 hd1
            go_wp2
            rw [HW.out]
            go_roundw
            case rel => first | exact ⟨k + 1, by omega, by go_num, by rw [HST.out k hlt]; exact hr4, HG.out⟩ | exact ⟨_, ⟨k + 1, by omega, by go_num, by rw [HST.out k hlt]; exact hr4, HG.out⟩, rfl⟩ | exact ⟨_, _, ⟨k + 1, by omega, by go_num, by rw [HST.out k hlt]; exact hr4, HG.out⟩, rfl, rfl⟩ | exact ⟨_, _, _, ⟨k + 1, by omega, by go_num, by rw [HST.out k hlt]; exact hr4, HG.out⟩, rfl, rfl, rfl⟩ | exact ⟨_, _, _, _, ⟨k + 1, by omega, by go_num, by rw [HST.out k hlt]; exact hr4, HG.out⟩, rfl, rfl, rfl, rfl⟩ | exact ⟨_, _, _, _, _, ⟨k + 1, by omega, by go_num, by rw [HST.out k hlt]; exact hr4, HG.out⟩, rfl, rfl, rfl, rfl, rfl⟩
            case measure => simp [intOf]; omega
          · have hkn : k = n := by omega
            subst hkn
            replace f20 := keepGF hg h10 (by omega) f20
            replace f21 := keepGF hg h11 (by omega) f21
            replace h10 := keepG hg h10 (by omega)
            replace h11 := keepG hg h11 (by omega)
            have hzz := hg.size
            clear hg hc0 hc1 hp1
            go_wp2
            refine bodyPost_ret (by simp [results, Try.results68, go_sem, h10, h11]) rfl ⟨⟨_, rfl, ((hr.setBelow (by simp; omega) _).setBelow (by simp; omega) _).mono (by omega)⟩, ?_⟩
            (repeat (first | exact Below.refl _ _ | assumption | refine Below.alloc ?_ (by simp <;> omega) _ | refine Below.setCell ?_ (by simp <;> omega) _ | refine Below.drew ?_ | refine below_drewN ?_))
theorem l11Pairs_any (s : Int) (ao : Option Addr) (n c : Nat) (xs : List Int) (w : World) (hx : IntsAt w ao n xs) :
    Calls Try.prog 64 #[.agg #[.int .i64 s, .slice ao n c]] w fun e w' => e = .returned (.bool (massOk s xs && (s == 4))) ∧ Below w.heap.size w w' := by
  go_enter Try.func64, Try.ntmps64
  go_wp2_with fail
  refine (MassValid_any _ _ _ _ _ _ (hx.below (below_alloc w _))).mono ?_; rintro e w1 ⟨rfl, hb1⟩
  obtain ⟨h10, h11, hB1⟩ := box2 hb1
  cases hm : massOk s xs
  all_goals
    go_wp2
    go_ret
    exact ⟨ret_bool (by simp [hm]), hB1⟩
def swapM (s : Int) (xs : List Int) : MR := if massOk s xs && (s == 4) then moveM s xs [0, 2, 1, 3] else MR.no
set_option maxHeartbeats 400000 in
theorem SwapPairs_any (s : Int) (ao : Option Addr) (n c : Nat) (xs : List Int) (w : World) (hx : IntsAt w ao n xs) :
    Calls Try.prog 27 #[.agg #[.int .i64 s, .slice ao n c]] w fun e w' => RetM (swapM s xs) w.heap.size e w' ∧ Below w.heap.size w w' := by
  have hxx := hx.below (w' := (w.alloc (.cells #[.int .i64 s, .slice ao n c] 25)).alloc (.cells #[.int .i64 0, .slice none 0 0] 25)) ((below_alloc w _).alloc (by simp) _)
  by_cases hok : massOk s xs = true ∧ s = 4
  · obtain ⟨hm, hs⟩ := hok
    have HR : Hid (swapM s xs = moveM s xs [0, 2, 1, 3]) := by show swapM s xs = _; subst hs; unfold swapM; rw [hm]; rfl
    rw [HR.out]
    subst hs
    go_enter Try.func27, Try.ntmps27
    go_wp2_with fail
    refine (isMass_any _ _ _ _ _ _ hxx).mono ?_; rintro e w1 ⟨rfl, hb1⟩
    obtain ⟨h10, h11, f20, f21⟩ := boxG (w.heap.size + 1) hb1 (by simp)
    have hB1 : Below w.heap.size w w1 := ((below_alloc w _).alloc (by simp) _).trans (hb1.mono (by simp <;> omega))
    have hp0 := keep hb1 (a := ⟨w.heap.size, 0, none⟩) (v := .int .i64 4) (by simp)
    have hp1 := keep hb1 (a := ⟨w.heap.size, 1, none⟩) (v := .slice ao n c) (by simp)
    have hz1 : w.heap.size + 1 < w1.heap.size := by have := World.block_lt_of_cell? w1 _ h10; simpa using this
    have hx1 := hx.below hB1
    clear hb1
    go_wp2_with fail
    refine (MoveMass_any _ _ _ _ _ _ _ _ [0, 2, 1, 3] _ (hx1.below (below_alloc _ _)) (ints_lit _ _ _ _ _ _ rfl rfl rfl (by decide))).mono ?_
    rintro e w7 ⟨⟨v, rfl, hr7⟩, hb7⟩
    obtain ⟨ao7, n7, c7, rfl, hi7⟩ := hr7.ints
    have hb7' := chain (below_alloc w1 _) hb7
    replace f20 := keepF hb7' h10 f20
    replace f21 := keepF hb7' h11 f21
    replace h10 := keep hb7' h10
    replace h11 := keep hb7' h11
    have hB7 := chain hB1 hb7'
    go_wp2
    refine bodyPost_ret (by simp [results, Try.results27, go_sem, h10, h11]) rfl ⟨⟨_, rfl, ((hr7.setBelow (by simp; omega) _).setBelow (by simp; omega) _).mono (by simp; omega)⟩, ?_⟩
    (repeat (first | exact Below.refl _ _ | assumption | refine Below.alloc ?_ (by simp <;> omega) _ | refine Below.setCell ?_ (by simp <;> omega) _ | refine Below.drew ?_ | refine below_drewN ?_))
  · have hbad : massOk s xs = false ∨ (massOk s xs = true ∧ s ≠ 4) := by
      cases h : massOk s xs
      · exact .inl rfl
      · exact .inr ⟨rfl, fun e => hok ⟨h, e⟩⟩
    have HR : Hid (swapM s xs = MR.no) := by show swapM s xs = _; unfold swapM; rcases hbad with h | ⟨h, h2⟩ <;> simp [h, *]
    rw [HR.out]
    have HN := hid hok; clear hok
    rcases hbad with hm | ⟨hm, hs⟩
    · go_enter Try.func27, Try.ntmps27
      go_wp2_with fail
      refine (isMass_any _ _ _ _ _ _ hxx).mono ?_; rintro e w1 ⟨rfl, hb1⟩
      obtain ⟨h10, h11, f20, f21⟩ := boxG (w.heap.size + 1) hb1 (by simp)
      have hB1 : Below w.heap.size w w1 := ((below_alloc w _).alloc (by simp) _).trans (hb1.mono (by simp <;> omega))
      clear hb1
      go_wp2
      refine bodyPost_ret (v := .tuple #[.agg #[.int .i64 0, .slice none 0 0], .bool false]) (by simp [results, Try.results27, go_sem, h10, h11]) rfl ⟨?_, ?_⟩
      · exact RetM.no _ _
      · (repeat (first | exact Below.refl _ _ | assumption | refine Below.alloc ?_ (by simp <;> omega) _ | refine Below.setCell ?_ (by simp <;> omega) _ | refine Below.drew ?_ | refine below_drewN ?_))
    · have hs2 : (s != 4) = true := by simpa using hs
      go_enter Try.func27, Try.ntmps27
      go_wp2_with fail
      refine (isMass_any _ _ _ _ _ _ hxx).mono ?_; rintro e w1 ⟨rfl, hb1⟩
      obtain ⟨h10, h11, f20, f21⟩ := boxG (w.heap.size + 1) hb1 (by simp)
      have hB1 : Below w.heap.size w w1 := ((below_alloc w _).alloc (by simp) _).trans (hb1.mono (by simp <;> omega))
      have hp0 := keep hb1 (a := ⟨w.heap.size, 0, none⟩) (v := .int .i64 s) (by simp)
      clear hb1
      go_wp2
      refine bodyPost_ret (v := .tuple #[.agg #[.int .i64 0, .slice none 0 0], .bool false]) (by simp [results, Try.results27, go_sem, h10, h11]) rfl ⟨?_, ?_⟩
      · exact RetM.no _ _
      · (repeat (first | exact Below.refl _ _ | assumption | refine Below.alloc ?_ (by simp <;> omega) _ | refine Below.setCell ?_ (by simp <;> omega) _ | refine Below.drew ?_ | refine below_drewN ?_))
set_option maxHeartbeats 400000 in
theorem specSwapPairs_any (s : Int) (ao : Option Addr) (n c : Nat) (xs : List Int) (w : World) (hx : IntsAt w ao n xs) :
    Calls Try.prog 28 #[.agg #[.int .i64 s, .slice ao n c]] w fun e w' => RetM (swapM s xs) w.heap.size e w' ∧ Below w.heap.size w w' := by
  have hxx := hx.below (w' := (w.alloc (.cells #[.int .i64 s, .slice ao n c] 25)).alloc (.cells #[.int .i64 0, .slice none 0 0] 25)) ((below_alloc w _).alloc (by simp) _)
  cases hok : (massOk s xs && (s == 4))
  · have HR : Hid (swapM s xs = MR.no) := by show swapM s xs = _; unfold swapM; rw [hok]; rfl
    rw [HR.out]
    go_enter Try.func28, Try.ntmps28
    go_wp2_with fail
    refine (l11Pairs_any _ _ _ _ _ _ hxx).mono ?_; rw [hok]; rintro e w1 ⟨rfl, hb1⟩
    obtain ⟨h10, h11, f20, f21⟩ := boxG (w.heap.size + 1) hb1 (by simp)
    have hB1 : Below w.heap.size w w1 := ((below_alloc w _).alloc (by simp) _).trans (hb1.mono (by simp <;> omega))
    clear hb1
    go_wp2
    refine bodyPost_ret (v := .tuple #[.agg #[.int .i64 0, .slice none 0 0], .bool false]) (by simp [results, Try.results28, go_sem, h10, h11]) rfl ⟨?_, ?_⟩
    · exact RetM.no _ _
    · (repeat (first | exact Below.refl _ _ | assumption | refine Below.alloc ?_ (by simp <;> omega) _ | refine Below.setCell ?_ (by simp <;> omega) _ | refine Below.drew ?_ | refine below_drewN ?_))
  · have HR : Hid (swapM s xs = moveM s xs [0, 2, 1, 3]) := by show swapM s xs = _; unfold swapM; rw [hok]; rfl
    rw [HR.out]
    go_enter Try.func28, Try.ntmps28
    go_wp2_with fail
    refine (l11Pairs_any _ _ _ _ _ _ hxx).mono ?_; rw [hok]; rintro e w1 ⟨rfl, hb1⟩
    obtain ⟨h10, h11, f20, f21⟩ := boxG (w.heap.size + 1) hb1 (by simp)
    have hB1 : Below w.heap.size w w1 := ((below_alloc w _).alloc (by simp) _).trans (hb1.mono (by simp <;> omega))
    have hp0 := keep hb1 (a := ⟨w.heap.size, 0, none⟩) (v := .int .i64 s) (by simp)
    have hp1 := keep hb1 (a := ⟨w.heap.size, 1, none⟩) (v := .slice ao n c) (by simp)
    have hz1 : w.heap.size + 1 < w1.heap.size := by have := World.block_lt_of_cell? w1 _ h10; simpa using this
    have hx1 := hx.below hB1
    clear hb1
    go_wp2_with fail
    refine (specMoveMass_any _ _ _ _ _ _ _ _ [0, 2, 1, 3] _ (hx1.below (below_alloc _ _)) (ints_lit _ _ _ _ _ _ rfl rfl rfl (by decide))).mono ?_
    rintro e w7 ⟨⟨v, rfl, hr7⟩, hb7⟩
    obtain ⟨ao7, n7, c7, rfl, hi7⟩ := hr7.ints
    have hb7' := chain (below_alloc w1 _) hb7
    replace f20 := keepF hb7' h10 f20
    replace f21 := keepF hb7' h11 f21
    replace h10 := keep hb7' h10
    replace h11 := keep hb7' h11
    have hB7 := chain hB1 hb7'
    go_wp2
    refine bodyPost_ret (by simp [results, Try.results28, go_sem, h10, h11]) rfl ⟨⟨_, rfl, ((hr7.setBelow (by simp; omega) _).setBelow (by simp; omega) _).mono (by simp; omega)⟩, ?_⟩
    (repeat (first | exact Below.refl _ _ | assumption | refine Below.alloc ?_ (by simp <;> omega) _ | refine Below.setCell ?_ (by simp <;> omega) _ | refine Below.drew ?_ | refine below_drewN ?_))
end Go.Proofs.Ytnbjhmghobljaaa
