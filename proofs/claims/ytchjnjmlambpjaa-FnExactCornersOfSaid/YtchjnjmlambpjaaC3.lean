/- The chance of an order, both ways: chanceOfOrder, l10Order. -/
import Derived.Test.YtchjnjmlambpjaaC0
import Derived.Test.YtchjnjmlambpjaaS2
set_option linter.unusedSimpArgs false
set_option linter.unusedVariables false
namespace Go.Proofs.Ytchjnjmlambpjaa
open Go.RowKit
theorem fb_drop {o : List Int} {a k : Nat} (h : k < o.length) : firstBit (o.drop k) a = if hasB a (nth o k).toNat then 2 ^ (nth o k).toNat else firstBit (o.drop (k + 1)) a := by
  rw [List.drop_eq_getElem_cons h, nth_eq _ _ h]; rfl
theorem fb_end (o : List Int) (a : Nat) : firstBit (o.drop o.length) a = 0 := by rw [List.drop_length]; rfl
theorem mapTo_one (T : Nat → Nat) (xs : List Int) (N : Nat) (h : nth xs 0 = 0) : mapTo T xs N 1 = List.replicate N 0 := by
  show (List.replicate N (0 : Int)).set (T 0) (nth (List.replicate N 0) (T 0) + nth xs 0) = _
  rw [h, nth_replicate]
  apply List.ext_getElem
  · simp
  · intro i h1 h2
    rw [List.getElem_set]
    split <;> simp
theorem first_someF : ∀ m : Fin 5, ∀ a : Fin (2 ^ m.val), a.val ≠ 0 → ∃ x : Fin m.val, hasB a.val x.val = true := by decide
theorem first_some (m : Nat) (hm : m ≤ 4) (a : Nat) (ha : a < 2 ^ m) (h0 : a ≠ 0) : ∃ x, x < m ∧ hasB a x = true := by
  obtain ⟨x, hx⟩ := first_someF ⟨m, by omega⟩ ⟨a, ha⟩ h0
  exact ⟨x.val, x.isLt, hx⟩
theorem newBox (w : World) (u0 u1 : Value) (t : TypeId) (G : Nat) (h : w.heap.size = G) : (w.alloc (.cells #[u0, u1] t)).cell? ⟨G, 0, none⟩ = some u0 ∧ (w.alloc (.cells #[u0, u1] t)).cell? ⟨G, 1, none⟩ = some u1 ∧ (w.alloc (.cells #[u0, u1] t)).frozen? ⟨G, 0, none⟩ = false ∧ (w.alloc (.cells #[u0, u1] t)).frozen? ⟨G, 1, none⟩ = false := by
  subst h; simp
/-- what is known of an order's numbers -/
theorem ord_nums {n : Nat} {o : List Int} (h : OrdOk n o) (hn : n ≤ 4) : ∀ k, k < o.length → 0 ≤ nth o k ∧ nth o k ≤ 28 := fun k hk => by
  have := h.1 _ (nth_mem o k hk); omega
set_option maxHeartbeats 400000 in
theorem chanceClos_any (a B : Nat) (ao : Option Addr) (n c : Nat) (o : List Int) (w : World) (ha : a < 1000000000) (hB : w.cell? ⟨B, 0, none⟩ = some (.slice ao n c)) (hx : IntsAt w ao n o) (hb : ∀ k, k < n → 0 ≤ nth o k ∧ nth o k ≤ 28) :
    Calls Try.prog 121 #[.int .i64 a, .pointer (some ⟨B, 0, none⟩)] w fun e w' => e = .returned (.int .i64 (firstBit o a)) ∧ w = w' := by
  have hcap := hx.cap
  have hxl := hid hx.len
  obtain ⟨r, HR⟩ : ∃ r, Hid (firstBit o a = r) := ⟨_, rfl⟩
  rw [HR.out]
  go_enter Try.func121, Try.ntmps121
  go_wp2
  go_loop [5, 8] (fun _ i => ∃ k : Nat, k ≤ n ∧ i = .int .i64 k ∧ firstBit (o.drop k) a = r) (fun _ i => n - (intOf i).toNat)
  case atStart => exact ⟨0, by omega, rfl, HR.out⟩
  case round =>
    obtain ⟨k, hk, rfl, hf⟩ := hrel
    by_cases hlt : k < n
    · obtain ⟨b, off, rfl, hbs, hbs', hck⟩ := hx.at (Below.refl _ _) hlt
      have hxb := hb k hlt
      rw [fb_drop (by rw [hxl.out]; exact hlt)] at hf
      obtain ⟨y, hy⟩ : ∃ y : Nat, nth o k = (y : Int) := ⟨(nth o k).toNat, by omega⟩
      have hyt : (nth o k).toNat = y := by omega
      rw [hyt] at hf
      rw [hy] at hck hxb
      have hand := and_one a y ha
      have hsl := shl_nat y (by omega)
      clear hy hb hyt
      cases ht : hasB a y
      · have ht' : a.testBit y = false := ht
        have HF : Hid (firstBit (o.drop (k + 1)) a = r) := by rw [Hid, ← hf, ht]; rfl
        clear hf
        go_wp2
        go_round
        case rel => first | exact ⟨k + 1, by omega, by go_num, HF.out⟩ | exact ⟨_, ⟨k + 1, by omega, by go_num, HF.out⟩, rfl⟩ | exact ⟨_, _, ⟨k + 1, by omega, by go_num, HF.out⟩, rfl, rfl⟩ | exact ⟨_, _, _, ⟨k + 1, by omega, by go_num, HF.out⟩, rfl, rfl, rfl⟩ | exact ⟨_, _, _, _, ⟨k + 1, by omega, by go_num, HF.out⟩, rfl, rfl, rfl, rfl⟩ | exact ⟨_, _, _, _, _, ⟨k + 1, by omega, by go_num, HF.out⟩, rfl, rfl, rfl, rfl, rfl⟩
        case measure => simp [intOf]; omega
      · have ht' : a.testBit y = true := ht
        have HF : Hid (2 ^ y = r) := by rw [Hid, ← hf, ht]; rfl
        clear hf
        go_wp2
        go_ret
        exact ⟨by rw [← HF.out]; rfl, rfl⟩
    · have hkn : k = n := by omega
      subst hkn
      have HF : Hid (r = 0) := by rw [Hid, ← hf, ← hxl.out]; exact fb_end o a
      clear hf
      go_wp2
      go_ret
      exact ⟨by rw [HF.out]; rfl, rfl⟩
theorem chanceClos_call (vs : Array Value) (w' : World) : Sem.run Try.prog (callFunc 121 vs) w' = .ok (.enter 121 vs) w' := by
  have h1 : (Try.f121.name == "runtime.NumGoroutine") = false := by kernel_rfl
  have h2 : Try.f121.body.isNone = false := by kernel_rfl
  have h1' : ¬ Try.f121.name = "runtime.NumGoroutine" := by simpa using h1
  have h2' : ¬ Try.f121.body = none := by intro e; rw [e] at h2; simp at h2
  simp only [callFunc, Sem.run_bind, run_program, Result.andThen_ok, Try.func121, beq_iff_eq, Option.isNone_iff_eq_none, if_neg h1', if_neg h2', Sem.run_pure]
set_option maxHeartbeats 1000000 in
theorem chanceOfOrder_any (s : Int) (ao bo : Option Addr) (n c m d : Nat) (xs o : List Int) (w : World) (hx : IntsAt w ao n xs) (hy : IntsAt w bo m o) (hm : massOk s xs = true) (ho : OrdOk s.toNat o) :
    Calls Try.prog 74 #[.agg #[.int .i64 s, .slice ao n c], .slice bo m d] w fun e w' => RetM (chanceM s xs o) w.heap.size e w' ∧ Below w.heap.size w w' := by
  obtain ⟨hsz, hlen, h16, hbd, _, _, _⟩ := massOk_facts hm
  have HBD := hid hbd; clear hbd
  have hs4 : 1 ≤ s ∧ s ≤ 4 := by rcases okSize_iff.1 hsz with h | h | h | h <;> omega
  have HO := hid (ord_nums ho (by omega))
  have hns : nsets s = 2 ^ s.toNat := by rcases okSize_iff.1 hsz with rfl | rfl | rfl | rfl <;> rfl
  have HT : Hid (∀ a, a < n → firstBit o a < nsets s) := fun a _ => by rw [hns]; exact firstBit_lt o s.toNat a ho.1
  have hml := hid hy.len
  have hnl := hid hx.len
  have HR : Hid (chanceM s xs o = mkMass s (mapTo (fun a => firstBit o a) xs (nsets s) n)) := by
    show mkMass s (chP o xs xs.length) = _; unfold chP; rw [← hnl.out, hlen]
  rw [HR.out]
  have hn16 : n ≤ 16 := by rw [← hnl.out]; exact h16
  clear hns ho
  obtain ⟨W, HW⟩ : ∃ W, Hid (((w.alloc (.cells #[.int .i64 s, .slice ao n c] 28)).alloc (.cells #[.slice bo m d] 22)).alloc (.cells #[.int .i64 0, .slice none 0 0] 28) = W) := ⟨_, rfl⟩
  have hB0 : Below w.heap.size w W := by rw [← HW.out]; (repeat (first | exact Below.refl _ _ | assumption | refine Below.alloc ?_ (by first | omega | (simp <;> omega)) _ | refine Below.setCell ?_ (by first | omega | (simp <;> omega)) _ | refine Below.drew ?_ | refine below_drewN ?_))
  have hq : W.cell? ⟨w.heap.size + 1, 0, none⟩ = some (.slice bo m d) := by rw [← HW.out]; simp
  have hp0 : W.cell? ⟨w.heap.size, 0, none⟩ = some (.int .i64 s) := by rw [← HW.out]; simp
  have hp1 : W.cell? ⟨w.heap.size, 1, none⟩ = some (.slice ao n c) := by rw [← HW.out]; simp
  obtain ⟨h10, h11, f20, f21⟩ := newBox ((w.alloc (.cells #[.int .i64 s, .slice ao n c] 28)).alloc (.cells #[.slice bo m d] 22)) (.int .i64 0) (.slice none 0 0) 28 (w.heap.size + 1 + 1) (by simp)
  rw [HW.out] at h10 h11 f20 f21
  have hzW : w.heap.size + 1 + 1 < W.heap.size := by rw [← HW.out]; simp
  go_enter Try.func74, Try.ntmps74
  go_wp2_with fail
  rw [HW.out]
  refine (mapped_any s s ao n c xs 121 #[.pointer (some ⟨w.heap.size + 1, 0, none⟩)] (fun a => firstBit o a) W (hx.below hB0) hn16 hsz chanceClos_call (fun k hk => HBD.out k (by rw [hnl.out]; exact hk)) HT.out (fun a w' ha hb => ?_)).mono ?_
  · exact (chanceClos_any a _ _ _ _ _ w' (by omega) (keep hb hq) ((hy.below hB0).below hb) (fun k hk => HO.out k (by rw [hml.out]; exact hk))).mono fun e w'' ⟨he, hw⟩ => ⟨he, below_of_eq hw⟩
  rintro e w7 ⟨⟨v, rfl, hr7⟩, hb7⟩
  obtain ⟨ao7, n7, c7, rfl, hi7⟩ := hr7.ints
  replace f20 := keepF hb7 h10 f20
  replace f21 := keepF hb7 h11 f21
  replace h10 := keep hb7 h10
  replace h11 := keep hb7 h11
  have hB7 := chain hB0 hb7
  go_wp2
  refine bodyPost_ret (by simp [results, Try.results74, go_sem, h10, h11]) rfl ⟨⟨_, rfl, ((hr7.setBelow (by omega) _).setBelow (by omega) _).mono (by omega)⟩, ?_⟩
  (repeat (first | exact Below.refl _ _ | assumption | refine Below.alloc ?_ (by first | omega | (simp <;> omega)) _ | refine Below.setCell ?_ (by first | omega | (simp <;> omega)) _ | refine Below.drew ?_ | refine below_drewN ?_))
set_option maxHeartbeats 400000 in
theorem l10First_any (a : Nat) (ao : Option Addr) (n c : Nat) (o : List Int) (w : World) (ha : a < 1000000000) (hx : IntsAt w ao n o) (hb : ∀ k, k < n → 0 ≤ nth o k ∧ nth o k ≤ 28) (hs : ∃ k, k < n ∧ hasB a (nth o k).toNat = true) :
    Calls Try.prog 111 #[.int .i64 a, .slice ao n c] w fun e w' => (∃ y : Nat, e = .returned (.int .i64 y) ∧ firstBit o a = 2 ^ y ∧ y ≤ 28) ∧ w = w' := by
  have hcap := hx.cap
  have hxl := hid hx.len
  obtain ⟨k0, hk0, hh0⟩ := hs
  have HH := hid hh0
  clear hh0
  go_enter Try.func111, Try.ntmps111
  go_wp2
  go_loop [5] (fun i => ∃ k : Nat, k ≤ k0 ∧ i = .int .i64 k ∧ firstBit (o.drop k) a = firstBit o a) (fun i => n - (intOf i).toNat)
  case atStart => exact ⟨0, by omega, rfl, rfl⟩
  case round =>
    obtain ⟨k, hk, rfl, hf⟩ := hrel
    have hlt : k < n := by omega
    obtain ⟨b, off, rfl, hbs, hbs', hck⟩ := hx.at (Below.refl _ _) hlt
    have hxb := hb k hlt
    rw [fb_drop (by rw [hxl.out]; exact hlt)] at hf
    cases ht : hasB a (nth o k).toNat
    · have hne : k ≠ k0 := by rintro rfl; rw [HH.out] at ht; cases ht
      have HF : Hid (firstBit (o.drop (k + 1)) a = firstBit o a) := by rw [Hid, ← hf, ht]; rfl
      clear hf hb
      go_wp2_with (first | (go_at_call 133; refine (l1Has_any _ _ _ ha (by omega) (by omega)).mono ?_; rintro e w' ⟨rfl, rfl⟩))
      go_round
      case rel => first | exact ⟨k + 1, by omega, by go_num, HF.out⟩ | exact ⟨_, ⟨k + 1, by omega, by go_num, HF.out⟩, rfl⟩ | exact ⟨_, _, ⟨k + 1, by omega, by go_num, HF.out⟩, rfl, rfl⟩ | exact ⟨_, _, _, ⟨k + 1, by omega, by go_num, HF.out⟩, rfl, rfl, rfl⟩ | exact ⟨_, _, _, _, ⟨k + 1, by omega, by go_num, HF.out⟩, rfl, rfl, rfl, rfl⟩ | exact ⟨_, _, _, _, _, ⟨k + 1, by omega, by go_num, HF.out⟩, rfl, rfl, rfl, rfl, rfl⟩
      case measure => simp [intOf]; omega
    · have HF : Hid (firstBit o a = 2 ^ (nth o k).toNat) := by rw [Hid, ← hf, ht]; rfl
      clear hf hb
      go_wp2_with (first | (go_at_call 133; refine (l1Has_any _ _ _ ha (by omega) (by omega)).mono ?_; rintro e w' ⟨rfl, rfl⟩))
      go_ret
      exact ⟨⟨(nth o k).toNat, by rw [Int.toNat_of_nonneg hxb.1]; rfl, HF.out, by omega⟩, rfl⟩
set_option maxHeartbeats 1000000 in
theorem l10Order_any (s : Int) (ao bo : Option Addr) (n c m d : Nat) (xs o : List Int) (w : World) (hx : IntsAt w ao n xs) (hy : IntsAt w bo m o) (hm : massOk s xs = true) (h0 : nth xs 0 = 0) (ho : OrdOk s.toNat o) :
    Calls Try.prog 65 #[.agg #[.int .i64 s, .slice ao n c], .slice bo m d] w fun e w' => RetM (chanceM s xs o) w.heap.size e w' ∧ Below w.heap.size w w' := by
  obtain ⟨hsz, hlen, h16, hbd, _, _, _⟩ := massOk_facts hm
  have HBD := hid hbd; clear hbd
  have hs4 : 1 ≤ s ∧ s ≤ 4 := by rcases okSize_iff.1 hsz with h | h | h | h <;> omega
  have HO := hid (ord_nums ho (by omega))
  have hns : nsets s = 2 ^ s.toNat := by rcases okSize_iff.1 hsz with rfl | rfl | rfl | rfl <;> rfl
  have hml := hid hy.len
  have hnl := hid hx.len
  have HT : Hid (∀ a, a < n → firstBit o a < n) := fun a _ => by rw [← hnl.out, hlen, hns]; exact firstBit_lt o s.toNat a ho.1
  have HS : Hid (∀ a, 1 ≤ a → a < n → ∃ k, k < m ∧ hasB a (nth o k).toNat = true) := fun a h1 h2 => by
    obtain ⟨y, hy1, hy2⟩ := first_some s.toNat (by omega) a (by rw [← hnl.out, hlen, hns] at h2; exact h2) (by omega)
    obtain ⟨k, hk, e⟩ := List.getElem_of_mem (ho.2 y hy1)
    exact ⟨k, by rw [← hml.out]; exact hk, by rw [nth_eq _ _ hk, e]; exact hy2⟩
  have HR : Hid (chanceM s xs o = mkMass s (mapTo (fun a => firstBit o a) xs n n)) := by
    show mkMass s (chP o xs xs.length) = _; unfold chP; rw [← hnl.out]
  rw [HR.out]
  have hn16 : n ≤ 16 := by rw [← hnl.out]; exact h16
  have hn1 : 1 ≤ n := by rw [← hnl.out, hlen, hns]; exact Nat.one_le_two_pow
  have HZ := hid (mapTo_one (fun a => firstBit o a) xs n h0)
  have HBD2 := hid (mapTo_bd (fun a => firstBit o a) xs n n 1000000 (by omega) (fun k hk => HBD.out k (by rw [hnl.out]; exact hk)))
  have hcap := hx.cap
  clear hns ho
  obtain ⟨W, HW⟩ : ∃ W, Hid ((w.alloc (.cells #[.int .i64 s, .slice ao n c] 28)).alloc (.cells #[.int .i64 0, .slice none 0 0] 28) = W) := ⟨_, rfl⟩
  have hB1 : Below w.heap.size w W := by rw [← HW.out]; (repeat (first | exact Below.refl _ _ | assumption | refine Below.alloc ?_ (by first | omega | (simp <;> omega)) _ | refine Below.setCell ?_ (by first | omega | (simp <;> omega)) _ | refine Below.drew ?_ | refine below_drewN ?_))
  have hp0 : W.cell? ⟨w.heap.size, 0, none⟩ = some (.int .i64 s) := by rw [← HW.out]; simp
  have hp1 : W.cell? ⟨w.heap.size, 1, none⟩ = some (.slice ao n c) := by rw [← HW.out]; simp
  have h10 : W.cell? ⟨w.heap.size + 1, 0, none⟩ = some (.int .i64 0) := by rw [← HW.out]; simp
  have h11 : W.cell? ⟨w.heap.size + 1, 1, none⟩ = some (.slice none 0 0) := by rw [← HW.out]; simp
  have f20 : W.frozen? ⟨w.heap.size + 1, 0, none⟩ = false := by rw [← HW.out]; simp
  have f21 : W.frozen? ⟨w.heap.size + 1, 1, none⟩ = false := by rw [← HW.out]; simp
  have hzW : w.heap.size + 1 < W.heap.size := by rw [← HW.out]; simp
  have hy1 := hy.below hB1
  go_enter Try.func65, Try.ntmps65
  go_wp2_with (first | (at_make; rw [HW.out]; refine wpList_make_ints rfl _ _ rfl n _ _ rfl rfl rfl rfl (by omega) ?_; intro w2 hrow hb2 hz2))
  replace hp1 := keep hb2 hp1
  replace hp0 := keep hb2 hp0
  replace f20 := keepF hb2 h10 f20
  replace f21 := keepF hb2 h11 f21
  replace h10 := keep hb2 h10
  replace h11 := keep hb2 h11
  have hB2 := chain hB1 hb2
  clear hb2
  rw [← HZ.out] at hrow
  go_loopw [7] (fun i wr => ∃ k : Nat, 1 ≤ k ∧ k ≤ n ∧ i = .int .i64 k ∧ Row wr W.heap.size (.slice (some ⟨W.heap.size, 0, none⟩) n n) (mapTo (fun a => firstBit o a) xs n k) ∧ Below W.heap.size w2 wr) (fun i _ => n - (intOf i).toNat)
  case atStart => exact ⟨1, by omega, hn1, rfl, hrow, Below.refl _ _⟩
  case round =>
    obtain ⟨k, hk1, hk, rfl, hr, hBr⟩ := hrel
    have hB : Below w.heap.size w wr := hB2.trans (hBr.mono (by omega))
    have hq1 := keepB hBr (by omega) hp1
    by_cases hlt : k < n
    · obtain ⟨b, off, rfl, hbs, hbs', hck⟩ := hx.at hB hlt
      have hyr := hy.below hB
      have hxb := HBD.out k (by rw [hnl.out]; exact hlt)
      have hTk : firstBit o k < n := HT.out k hlt
      have hbd := HBD2.out k (by omega) (firstBit o k)
      have hk16 : (k : Int) ≤ 16 := by omega
      have hk0 : (0 : Int) ≤ (k : Int) := by omega
      have hk1' : (k : Int) < (n : Int) := by omega
      obtain ⟨hc3, hf3, _⟩ := hr.cellAt hTk
      go_wp2_with fail
      refine (l10First_any k bo m d o _ (by omega) hyr (fun k hk => HO.out k (by rw [hml.out]; exact hk)) (HS.out k hk1 hlt)).mono ?_; rintro e w' ⟨⟨y, rfl, hfy, hy28⟩, rfl⟩
      have hsl := shl_nat y (by omega)
      have HFY := hid hfy
      rw [hfy] at hTk hc3 hf3
      rw [hfy] at hbd
      obtain ⟨Y, hY⟩ : ∃ Y, 2 ^ y = Y := ⟨_, rfl⟩
      have hsl2 : wrap64 (2 ^ y) = (Y : Int) := by rw [hsl, hY]
      rw [hY] at hTk hc3 hf3 hbd
      have HT1 : Hid (mapTo (fun a => firstBit o a) xs n (k + 1) = (mapTo (fun a => firstBit o a) xs n k).set Y (nth (mapTo (fun a => firstBit o a) xs n k) Y + nth xs k)) := by
        rw [Hid, ← hY, ← hfy]; rfl
      clear hsl hfy
      go_wp2
      refine wp_region_ov_tail 13 (by kernel_rfl) (by kernel_rfl) (fun _ _ _ _ _ h => h) ?_
      simp only [List.take_succ_cons, List.take_zero, List.drop_succ_cons, List.drop_zero]
      repeat (first | go_big_quiet_step ((fail)) | quiet_step ((fail)))
      refine wpQuiet_nil ?_
      intro _ hw_ov
      obtain ⟨x_ov, hw_ov2⟩ := hw_ov
      subst hw_ov2
      obtain ⟨w3, hw_ov3, hb3⟩ := ov_gen _ x_ov
      rw [hw_ov3]
      clear hw_ov3 x_ov
      have hr3 := hr.below hb3
      replace hf3 := keepF hb3 hc3 hf3
      replace hc3 := keep hb3 hc3
      obtain ⟨w4, hw4, hr4, hg4⟩ := store_gen hr3 hTk (nth (mapTo (fun a => firstBit o a) xs n k) Y + nth xs k)
      have hz3 : W.heap.size ≤ w3.heap.size := by have := hBr.size; have := hb3.size; omega
      have hB4 := hid (belowG (hBr.trans (hb3.mono (by have := hBr.size; omega))) hz3 hg4 (Nat.le_refl _))
      have HW4 := hid hw4
      clear hw4 hg4 hr3 hr hb3 hq1
      go_wp2
      rw [HW4.out]
      go_roundw
      case rel => first | exact ⟨k + 1, by omega, by omega, by go_num, by rw [HT1.out]; exact hr4, hB4.out⟩ | exact ⟨_, ⟨k + 1, by omega, by omega, by go_num, by rw [HT1.out]; exact hr4, hB4.out⟩, rfl⟩ | exact ⟨_, _, ⟨k + 1, by omega, by omega, by go_num, by rw [HT1.out]; exact hr4, hB4.out⟩, rfl, rfl⟩ | exact ⟨_, _, _, ⟨k + 1, by omega, by omega, by go_num, by rw [HT1.out]; exact hr4, hB4.out⟩, rfl, rfl, rfl⟩ | exact ⟨_, _, _, _, ⟨k + 1, by omega, by omega, by go_num, by rw [HT1.out]; exact hr4, hB4.out⟩, rfl, rfl, rfl, rfl⟩ | exact ⟨_, _, _, _, _, ⟨k + 1, by omega, by omega, by go_num, by rw [HT1.out]; exact hr4, hB4.out⟩, rfl, rfl, rfl, rfl, rfl⟩
      case measure => simp [intOf]; omega
    · have hkn : k = n := by omega
      subst hkn
      have g10 := keepB hBr (by omega) h10
      have g11 := keepB hBr (by omega) h11
      have gp0 := keepB hBr (by omega) hp0
      have gq1 := keepB hBr (by omega) hp1
      have gf20 := keepBF hBr (by omega) f20
      have gf21 := keepBF hBr (by omega) f21
      obtain ⟨a1, n1, c1, e1, hi⟩ := hr.ints
      injection e1 with e2 e3 e4
      subst e2 e3 e4
      have HB2 := hid (fun j (hj : j < k) => (by have := HBD2.out k (Nat.le_refl _) j; omega : 0 ≤ nth (mapTo (fun a => firstBit o a) xs k k) j ∧ nth (mapTo (fun a => firstBit o a) xs k k) j ≤ 4000000000000000000))
      have hz7 : w.heap.size + 1 < wr.heap.size := by have := hBr.size; omega
      clear h10 h11 f20 f21 hp1 hp0
      go_wp2_with fail
      refine (l3Made_any _ _ _ _ _ _ hi hn16 HB2.out).mono ?_
      rintro e w7 ⟨⟨v, rfl, hr7⟩, hb7⟩
      obtain ⟨ao7, n7, c7, rfl, hi7⟩ := hr7.ints
      have h10 := g10
      have h11 := g11
      have f20 := gf20
      have f21 := gf21
      clear g10 g11 gf20 gf21
      replace f20 := keepF hb7 h10 f20
      replace f21 := keepF hb7 h11 f21
      replace h10 := keep hb7 h10
      replace h11 := keep hb7 h11
      have hB7 := chain hB hb7
      go_wp2
      refine bodyPost_ret (by simp [results, Try.results65, go_sem, h10, h11]) rfl ⟨⟨_, rfl, ((hr7.setBelow (by omega) _).setBelow (by omega) _).mono (by omega)⟩, ?_⟩
      (repeat (first | exact Below.refl _ _ | assumption | refine Below.alloc ?_ (by first | omega | (simp <;> omega)) _ | refine Below.setCell ?_ (by first | omega | (simp <;> omega)) _ | refine Below.drew ?_ | refine below_drewN ?_))
end Go.Proofs.Ytchjnjmlambpjaa
