/- Masses whose answers are put together: CoarsenMass both. -/
import Derived.Test.YtdkgomlpadeleaaGreatDoorS2
set_option linter.unusedSimpArgs false
set_option linter.unusedVariables false
namespace Go.Proofs.YtdkgomlpadeleaaGreatDoor
open Go.RowKit
/-- a mass in which answers are put together -/
def coarseM (s : Int) (xs to : List Int) (size : Int) : MR :=
  if massOk s xs && okSize size && answersOk to s size then mkMass size (mapTo (fun a => imgTo a to to.length) xs (nsets size) xs.length) else MR.no
theorem coarseM_len (s : Int) (xs to : List Int) (size : Int) : (coarseM s xs to size).parts.length ≤ 16 := by
  unfold coarseM; split
  · rename_i h
    simp only [Bool.and_eq_true] at h
    have h1 : (mkMass size (mapTo (fun a => imgTo a to to.length) xs (nsets size) xs.length)).parts.length ≤ (mapTo (fun a => imgTo a to to.length) xs (nsets size) xs.length).length := by
      unfold mkMass; split
      · simp [MR.no]
      · split <;> simp [MR.no]
    rw [mapTo_len] at h1; have := (nsets_le h.1.2).2; omega
  · simp [MR.no]
theorem coarseClos_any (a B : Nat) (ao : Option Addr) (n c : Nat) (xs : List Int) (w : World) (ha : a < 1000000000) (hB : w.cell? ⟨B, 0, none⟩ = some (.slice ao n c)) (hx : IntsAt w ao n xs) (hn : n ≤ 29) (hb : ∀ k, k < n → 0 ≤ nth xs k ∧ nth xs k ≤ 28) :
    Calls Tryz.prog 72 #[.int .i64 a, .pointer (some ⟨B, 0, none⟩)] w fun e w' => e = .returned (.int .i64 (imgTo a xs n)) ∧ w = w' := by
  go_enter Tryz.func72, Tryz.ntmps72
  go_wp2_with (first | (go_at_call 73; refine (imageOf_any _ _ _ _ _ _ ha hx hn hb).mono ?_; rintro e w' ⟨rfl, rfl⟩))
  go_ret
  exact ⟨rfl, rfl⟩
theorem coarseClos_call (vs : Array Value) (w' : World) : Sem.run Tryz.prog (callFunc 72 vs) w' = .ok (.enter 72 vs) w' := by
  have h1 : (Tryz.f72.name == "runtime.NumGoroutine") = false := by kernel_rfl
  have h2 : Tryz.f72.body.isNone = false := by kernel_rfl
  have h1' : ¬ Tryz.f72.name = "runtime.NumGoroutine" := by simpa using h1
  have h2' : ¬ Tryz.f72.body = none := by intro e; rw [e] at h2; simp at h2
  simp only [callFunc, Sem.run_bind, run_program, Result.andThen_ok, Tryz.func72, beq_iff_eq, Option.isNone_iff_eq_none, if_neg h1', if_neg h2', Sem.run_pure]
set_option maxHeartbeats 1000000 in
theorem CoarsenMass_any (s size : Int) (ao bo : Option Addr) (n c m d : Nat) (xs to : List Int) (w : World) (hx : IntsAt w ao n xs) (hy : IntsAt w bo m to) :
    Calls Tryz.prog 33 #[.agg #[.int .i64 s, .slice ao n c], .slice bo m d, .int .i64 size] w fun e w' => RetM (coarseM s xs to size) w.heap.size e w' ∧ Below w.heap.size w w' := by
  have hxx := hx.below (w' := ((w.alloc (.cells #[.int .i64 s, .slice ao n c] 25)).alloc (.cells #[.slice bo m d] 23)).alloc (.cells #[.int .i64 0, .slice none 0 0] 25)) (((below_alloc w _).alloc (by simp) _).alloc (by simp <;> omega) _)
  cases hm : massOk s xs
  · have HR : Hid (coarseM s xs to size = MR.no) := by simp [Hid, coarseM, hm]
    rw [HR.out]
    go_enter Tryz.func33, Tryz.ntmps33
    go_wp2_with fail
    refine (isMass_any _ _ _ _ _ _ hxx).mono ?_; rintro e w1 ⟨rfl, hb1⟩
    obtain ⟨h10, h11, f20, f21⟩ := boxG (w.heap.size + 1 + 1) hb1 (by simp)
    have hB1 : Below w.heap.size w w1 := (((below_alloc w _).alloc (by simp) _).alloc (by simp <;> omega) _).trans (hb1.mono (by simp <;> omega))
    clear hb1
    go_wp2
    refine bodyPost_ret (v := .tuple #[.agg #[.int .i64 0, .slice none 0 0], .bool false]) (by simp [results, Tryz.results33, go_sem, h10, h11]) rfl ⟨?_, ?_⟩
    · exact RetM.no _ _
    · (repeat (first | exact Below.refl _ _ | assumption | refine Below.alloc ?_ (by simp <;> omega) _ | refine Below.setCell ?_ (by simp <;> omega) _ | refine Below.drew ?_ | refine below_drewN ?_))
  · obtain ⟨hsz, hlen, h16, hbd, _, _, _⟩ := massOk_facts hm
    have HBD := hid hbd; clear hbd
    cases ho : (okSize size && answersOk to s size)
    · have HR : Hid (coarseM s xs to size = MR.no) := by
        show coarseM s xs to size = MR.no
        unfold coarseM; rw [hm, Bool.true_and, ho]; rfl
      rw [HR.out]
      have ho' : okSize size = false ∨ (okSize size = true ∧ answersOk to s size = false) := by
        cases h1 : okSize size
        · exact .inl rfl
        · rw [h1] at ho; exact .inr ⟨rfl, by simpa using ho⟩
      rcases ho' with h1 | ⟨h1, h2⟩
      all_goals
        go_enter Tryz.func33, Tryz.ntmps33
        go_wp2_with fail
        refine (isMass_any _ _ _ _ _ _ hxx).mono ?_; rintro e w1 ⟨rfl, hb1⟩
        obtain ⟨h10, h11, f20, f21⟩ := boxG (w.heap.size + 1 + 1) hb1 (by simp)
        have hB1 : Below w.heap.size w w1 := (((below_alloc w _).alloc (by simp) _).alloc (by simp <;> omega) _).trans (hb1.mono (by simp <;> omega))
        have hq := keep hb1 (a := ⟨w.heap.size + 1, 0, none⟩) (v := .slice bo m d) (by simp)
        have hp0 := keep hb1 (a := ⟨w.heap.size, 0, none⟩) (v := .int .i64 s) (by simp)
        have hy1 := hy.below hB1
        clear hb1
        go_wp2_with (first | (go_at_call 67; refine (isSize_any _ _).mono ?_; rintro e w' ⟨rfl, rfl⟩) | (go_at_call 70; refine (areAnswers_any _ _ _ _ _ _ _ hy1).mono ?_; rintro e w' ⟨rfl, rfl⟩))
        refine bodyPost_ret (v := .tuple #[.agg #[.int .i64 0, .slice none 0 0], .bool false]) (by simp [results, Tryz.results33, go_sem, h10, h11]) rfl ⟨?_, ?_⟩
        · exact RetM.no _ _
        · (repeat (first | exact Below.refl _ _ | assumption | refine Below.alloc ?_ (by simp <;> omega) _ | refine Below.setCell ?_ (by simp <;> omega) _ | refine Below.drew ?_ | refine below_drewN ?_))
    · have hs2 : okSize size = true := by cases h1 : okSize size <;> simp [h1] at ho; rfl
      have ha2 : answersOk to s size = true := by rw [hs2] at ho; simpa using ho
      have HR : Hid (coarseM s xs to size = mkMass size (mapTo (fun a => imgTo a to m) xs (nsets size) n)) := by
        show coarseM s xs to size = _
        unfold coarseM; rw [hm, hs2, ha2, hy.len, hx.len]; rfl
      rw [HR.out]
      obtain ⟨htl, htb⟩ := answersOk_facts ha2
      have hs4 : s ≤ 4 ∧ size ≤ 4 ∧ 1 ≤ size := by
        have h1 := okSize_iff.1 hsz; have h2 := okSize_iff.1 hs2; omega
      have hm4 : m ≤ 4 := by have := hy.len; omega
      have hml := hid hy.len
      have hnl := hid hx.len
      have HTB : Hid (∀ k, k < m → 0 ≤ nth to k ∧ nth to k ≤ 28) := fun k hk => by have := htb k (by rw [hml.out]; exact hk); omega
      have HT : Hid (∀ a, imgTo a to m < nsets size) := fun a => by
        refine imgTo_lt a to size.toNat m (fun x hx => ?_) m (Nat.le_refl _)
        have := htb x (by rw [hml.out]; exact hx); omega
      clear htb htl ho
      go_enter Tryz.func33, Tryz.ntmps33
      go_wp2_with fail
      refine (isMass_any _ _ _ _ _ _ hxx).mono ?_; rintro e w1 ⟨rfl, hb1⟩
      obtain ⟨h10, h11, f20, f21⟩ := boxG (w.heap.size + 1 + 1) hb1 (by simp)
      have hB1 : Below w.heap.size w w1 := (((below_alloc w _).alloc (by simp) _).alloc (by simp <;> omega) _).trans (hb1.mono (by simp <;> omega))
      have hq := keep hb1 (a := ⟨w.heap.size + 1, 0, none⟩) (v := .slice bo m d) (by simp)
      have hp0 := keep hb1 (a := ⟨w.heap.size, 0, none⟩) (v := .int .i64 s) (by simp)
      have hp1 := keep hb1 (a := ⟨w.heap.size, 1, none⟩) (v := .slice ao n c) (by simp)
      have hy1 := hy.below hB1
      have hx1 := hx.below hB1
      have hz1 : w.heap.size + 1 + 1 < w1.heap.size := by have := World.block_lt_of_cell? w1 _ h10; simpa using this
      clear hb1
      go_wp2_with (first | (go_at_call 67; refine (isSize_any _ _).mono ?_; rintro e w' ⟨rfl, rfl⟩) | (go_at_call 70; refine (areAnswers_any _ _ _ _ _ _ _ hy1).mono ?_; rintro e w' ⟨rfl, rfl⟩) | (go_at_call 71; fail))
      refine (mapped_any s size ao n c xs 72 #[.pointer (some ⟨w.heap.size + 1, 0, none⟩)] (fun a => imgTo a to m) w1 hx1 (by rw [← hnl.out]; exact h16) hs2 coarseClos_call (fun k hk => HBD.out k (by rw [hnl.out]; exact hk)) (fun a _ => HT.out a) (fun a w' ha hb => ?_)).mono ?_
      · exact (coarseClos_any a _ _ _ _ _ w' (by have := hnl.out; omega) (keep hb hq) (hy1.below hb) (by omega) HTB.out).mono fun e w'' ⟨he, hw⟩ => ⟨he, below_of_eq hw⟩
      rintro e w7 ⟨⟨v, rfl, hr7⟩, hb7⟩
      obtain ⟨ao7, n7, c7, rfl, hi7⟩ := hr7.ints
      replace f20 := keepF hb7 h10 f20
      replace f21 := keepF hb7 h11 f21
      replace h10 := keep hb7 h10
      replace h11 := keep hb7 h11
      have hB7 := chain hB1 hb7
      go_wp2
      refine bodyPost_ret (by simp [results, Tryz.results33, go_sem, h10, h11]) rfl ⟨⟨_, rfl, ((hr7.setBelow (by simp; omega) _).setBelow (by simp; omega) _).mono (by omega)⟩, ?_⟩
      (repeat (first | exact Below.refl _ _ | assumption | refine Below.alloc ?_ (by simp <;> omega) _ | refine Below.setCell ?_ (by simp <;> omega) _ | refine Below.drew ?_ | refine below_drewN ?_))
set_option maxHeartbeats 1000000 in
theorem specCoarsenMass_any (s size : Int) (ao bo : Option Addr) (n c m d : Nat) (xs to : List Int) (w : World) (hx : IntsAt w ao n xs) (hy : IntsAt w bo m to) (hs2 : okSize size = true) :
    Calls Tryz.prog 66 #[.agg #[.int .i64 s, .slice ao n c], .slice bo m d, .int .i64 size] w fun e w' => RetM (coarseM s xs to size) w.heap.size e w' ∧ Below w.heap.size w w' := by
  have hxx := hx.below (w' := (w.alloc (.cells #[.int .i64 s, .slice ao n c] 25)).alloc (.cells #[.int .i64 0, .slice none 0 0] 25)) ((below_alloc w _).alloc (by simp) _)
  cases hm : massOk s xs
  · have HR : Hid (coarseM s xs to size = MR.no) := by simp [Hid, coarseM, hm]
    rw [HR.out]
    go_enter Tryz.func66, Tryz.ntmps66
    go_wp2_with fail
    refine (MassValid_any _ _ _ _ _ _ hxx).mono ?_; rintro e w1 ⟨rfl, hb1⟩
    obtain ⟨h10, h11, f20, f21⟩ := boxG (w.heap.size + 1) hb1 (by simp)
    have hB1 : Below w.heap.size w w1 := ((below_alloc w _).alloc (by simp) _).trans (hb1.mono (by simp <;> omega))
    clear hb1
    go_wp2
    refine bodyPost_ret (v := .tuple #[.agg #[.int .i64 0, .slice none 0 0], .bool false]) (by simp [results, Tryz.results66, go_sem, h10, h11]) rfl ⟨?_, ?_⟩
    · exact RetM.no _ _
    · (repeat (first | exact Below.refl _ _ | assumption | refine Below.alloc ?_ (by simp <;> omega) _ | refine Below.setCell ?_ (by simp <;> omega) _ | refine Below.drew ?_ | refine below_drewN ?_))
  · obtain ⟨hsz, hlen, h16, hbd, _, _, _⟩ := massOk_facts hm
    have HBD := hid hbd; clear hbd
    cases ha2 : answersOk to s size
    · have HR : Hid (coarseM s xs to size = MR.no) := by
        show coarseM s xs to size = MR.no
        unfold coarseM; rw [hm, hs2, ha2]; rfl
      rw [HR.out]
      go_enter Tryz.func66, Tryz.ntmps66
      go_wp2_with fail
      refine (MassValid_any _ _ _ _ _ _ hxx).mono ?_; rintro e w1 ⟨rfl, hb1⟩
      obtain ⟨h10, h11, f20, f21⟩ := boxG (w.heap.size + 1) hb1 (by simp)
      have hB1 : Below w.heap.size w w1 := ((below_alloc w _).alloc (by simp) _).trans (hb1.mono (by simp <;> omega))
      have hp0 := keep hb1 (a := ⟨w.heap.size, 0, none⟩) (v := .int .i64 s) (by simp)
      have hy1 := hy.below hB1
      clear hb1
      go_wp2_with (first | (go_at_call 113; refine (l7Whole_any _ _ _ _ _ _ _ hy1 hsz hs2).mono ?_; rintro e w' ⟨rfl, rfl⟩))
      refine bodyPost_ret (v := .tuple #[.agg #[.int .i64 0, .slice none 0 0], .bool false]) (by simp [results, Tryz.results66, go_sem, h10, h11]) rfl ⟨?_, ?_⟩
      · exact RetM.no _ _
      · (repeat (first | exact Below.refl _ _ | assumption | refine Below.alloc ?_ (by simp <;> omega) _ | refine Below.setCell ?_ (by simp <;> omega) _ | refine Below.drew ?_ | refine below_drewN ?_))
    · have HR : Hid (coarseM s xs to size = mkMass size (mapTo (fun a => imgTo a to m) xs (nsets size) n)) := by
        show coarseM s xs to size = _
        unfold coarseM; rw [hm, hs2, ha2, hy.len, hx.len]; rfl
      rw [HR.out]
      obtain ⟨htl, htb⟩ := answersOk_facts ha2
      have hs4 : s ≤ 4 ∧ size ≤ 4 ∧ 1 ≤ size := by
        have h1 := okSize_iff.1 hsz; have h2 := okSize_iff.1 hs2; omega
      have hm4 : m ≤ 4 := by have := hy.len; omega
      have hml := hid hy.len
      have hnl := hid hx.len
      have hn16 : n ≤ 16 := by rw [← hnl.out]; exact h16
      have hcap := hx.cap
      have HTB : Hid (∀ k, k < m → 0 ≤ nth to k ∧ nth to k ≤ 28) := fun k hk => by have := htb k (by rw [hml.out]; exact hk); omega
      have HT : Hid (∀ a, imgTo a to m < nsets size) := fun a => by
        refine imgTo_lt a to size.toNat m (fun x hx => ?_) m (Nat.le_refl _)
        have := htb x (by rw [hml.out]; exact hx); omega
      have HBD2 := hid (mapTo_bd (fun a => imgTo a to m) xs (nsets size) n 1000000 (by omega) (fun k hk => HBD.out k (by rw [hnl.out]; exact hk)))
      have hsz2 := shl_size hs2
      have hsn := nsets_le hs2
      clear htb htl
      go_enter Tryz.func66, Tryz.ntmps66
      go_wp2_with fail
      refine (MassValid_any _ _ _ _ _ _ hxx).mono ?_; rintro e w1 ⟨rfl, hb1⟩
      obtain ⟨h10, h11, f20, f21⟩ := boxG (w.heap.size + 1) hb1 (by simp)
      have hB1 : Below w.heap.size w w1 := ((below_alloc w _).alloc (by simp) _).trans (hb1.mono (by simp <;> omega))
      have hp0 := keep hb1 (a := ⟨w.heap.size, 0, none⟩) (v := .int .i64 s) (by simp)
      have hp1 := keep hb1 (a := ⟨w.heap.size, 1, none⟩) (v := .slice ao n c) (by simp)
      have hy1 := hy.below hB1
      have hz1 : w.heap.size + 1 < w1.heap.size := by have := World.block_lt_of_cell? w1 _ h10; simpa using this
      clear hb1
      go_wp2_with (first | (go_at_call 113; refine (l7Whole_any _ _ _ _ _ _ _ hy1 hsz hs2).mono ?_; rintro e w' ⟨rfl, rfl⟩) | (at_make; refine wpList_make_ints rfl _ _ rfl (nsets size) _ _ rfl rfl hsz2 hsz2 (by omega) ?_; intro w2 hrow hb2 hz2))
      replace hp1 := keep hb2 hp1
      replace f20 := keepF hb2 h10 f20
      replace f21 := keepF hb2 h11 f21
      replace h10 := keep hb2 h10
      replace h11 := keep hb2 h11
      have hB2 := chain hB1 hb2
      have hy2 := hy.below hB2
      clear hp0 hb2 hy1
      go_loopw [9, 10] (fun i _ wr => ∃ k : Nat, k ≤ n ∧ i = .int .i64 k ∧ Row wr w1.heap.size (.slice (some ⟨w1.heap.size, 0, none⟩) (nsets size) (nsets size)) (mapTo (fun a => imgTo a to m) xs (nsets size) k) ∧ Below w1.heap.size w2 wr) (fun i _ _ => n - (intOf i).toNat)
      case atStart => exact ⟨0, by omega, rfl, hrow, Below.refl _ _⟩
      case round =>
        obtain ⟨k, hk, rfl, hr, hBr⟩ := hrel
        have hB : Below w.heap.size w wr := hB2.trans (hBr.mono (by omega))
        have hq1 := keepB hBr (by omega) hp1
        by_cases hlt : k < n
        · obtain ⟨b, off, rfl, hbs, hbs', hck⟩ := hx.at hB hlt
          have hyr := hy.below hB
          have hxb := HBD.out k (by rw [hnl.out]; exact hlt)
          have hTk : imgTo k to m < nsets size := HT.out k
          have hbd := HBD2.out k (by omega) (imgTo k to m)
          have hk16 : (k : Int) ≤ 16 := by omega
          have hk0 : (0 : Int) ≤ (k : Int) := by omega
          have hk1 : (k : Int) < (n : Int) := by omega
          obtain ⟨hc3, hf3, _⟩ := hr.cellAt hTk
          go_wp2_with (first | (go_at_call 120; refine (l1Move_any _ _ _ _ _ _ (by omega) hyr (by omega) HTB.out).mono ?_; rintro e w' ⟨rfl, rfl⟩))
          refine wp_region_ov_tail 13 (by kernel_rfl) (by kernel_rfl) (fun _ _ _ _ _ h => h) ?_
          simp only [List.take_succ_cons, List.take_zero, List.drop_succ_cons, List.drop_zero]
          repeat (first | go_big_quiet_step ((fail)) | quiet_step ((fail)))
          refine wpQuiet_nil ?_
          intro _ hw_ov
          obtain ⟨x_ov, hw_ov2⟩ := hw_ov
          subst hw_ov2
          obtain ⟨w3, hw_ov3, hb3⟩ := ov_gen _ x_ov
          rw [hw_ov3]
          clear hw_ov3 x_ov
          have hr3 := hr.below hb3
          replace hf3 := keepF hb3 hc3 hf3
          replace hc3 := keep hb3 hc3
          obtain ⟨w4, hw4, hr4, hg4⟩ := store_gen hr3 hTk (nth (mapTo (fun a => imgTo a to m) xs (nsets size) k) (imgTo k to m) + nth xs k)
          have hz3 : w1.heap.size ≤ w3.heap.size := by have := hBr.size; have := hb3.size; omega
          have hB4 := hid (belowG (hBr.trans (hb3.mono (by have := hBr.size; omega))) hz3 hg4 (Nat.le_refl _))
          have HW := hid hw4
          clear hw4 hg4 hr3 hr hb3 hq1
          go_wp2
          rw [HW.out]
          go_roundw
          case rel => first | exact ⟨k + 1, by omega, by go_num, hr4, hB4.out⟩ | exact ⟨_, ⟨k + 1, by omega, by go_num, hr4, hB4.out⟩, rfl⟩ | exact ⟨_, _, ⟨k + 1, by omega, by go_num, hr4, hB4.out⟩, rfl, rfl⟩ | exact ⟨_, _, _, ⟨k + 1, by omega, by go_num, hr4, hB4.out⟩, rfl, rfl, rfl⟩ | exact ⟨_, _, _, _, ⟨k + 1, by omega, by go_num, hr4, hB4.out⟩, rfl, rfl, rfl, rfl⟩ | exact ⟨_, _, _, _, _, ⟨k + 1, by omega, by go_num, hr4, hB4.out⟩, rfl, rfl, rfl, rfl, rfl⟩
          case measure => simp [intOf]; omega
        · have hkn : k = n := by omega
          subst hkn
          have g10 := keepB hBr (by omega) h10
          have g11 := keepB hBr (by omega) h11
          have gf20 := keepBF hBr (by omega) f20
          have gf21 := keepBF hBr (by omega) f21
          obtain ⟨a1, n1, c1, e1, hi⟩ := hr.ints
          injection e1 with e2 e3 e4
          subst e2 e3 e4
          have HB2 := hid (fun j (hj : j < nsets size) => (by have := HBD2.out k (Nat.le_refl _) j; omega : 0 ≤ nth (mapTo (fun a => imgTo a to m) xs (nsets size) k) j ∧ nth (mapTo (fun a => imgTo a to m) xs (nsets size) k) j ≤ 4000000000000000000))
          have hz7 : w.heap.size + 1 < wr.heap.size := by have := hBr.size; omega
          clear h10 h11 f20 f21 hp1
          go_wp2_with fail
          refine (l3Made_any _ _ _ _ _ _ hi hsn.2 HB2.out).mono ?_
          rintro e w7 ⟨⟨v, rfl, hr7⟩, hb7⟩
          obtain ⟨ao7, n7, c7, rfl, hi7⟩ := hr7.ints
          have h10 := g10
          have h11 := g11
          have f20 := gf20
          have f21 := gf21
          clear g10 g11 gf20 gf21
          replace f20 := keepF hb7 h10 f20
          replace f21 := keepF hb7 h11 f21
          replace h10 := keep hb7 h10
          replace h11 := keep hb7 h11
          have hB7 := chain hB hb7
          go_wp2
          refine bodyPost_ret (by simp [results, Tryz.results66, go_sem, h10, h11]) rfl ⟨⟨_, rfl, ((hr7.setBelow (by simp; omega) _).setBelow (by simp; omega) _).mono (by omega)⟩, ?_⟩
          (repeat (first | exact Below.refl _ _ | assumption | refine Below.alloc ?_ (by simp <;> omega) _ | refine Below.setCell ?_ (by simp <;> omega) _ | refine Below.drew ?_ | refine below_drewN ?_))
end Go.Proofs.YtdkgomlpadeleaaGreatDoor
