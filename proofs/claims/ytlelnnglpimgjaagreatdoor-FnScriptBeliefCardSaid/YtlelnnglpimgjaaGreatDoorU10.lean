/- The reference's LearnMass, and what it draws for laws on sets of masses. -/
import Derived.Test.YtlelnnglpimgjaaGreatDoorD8
import Derived.Test.YtlelnnglpimgjaaGreatDoorD13
import Derived.Test.YtlelnnglpimgjaaGreatDoorU8
set_option linter.unusedSimpArgs false
set_option linter.unusedVariables false
namespace Go.Proofs.YtlelnnglpimgjaaGreatDoor
open Go.RowKit
theorem learn_map {s : Int} {xs : List Int} {a : Nat} {N : Nat} (hN : xs.length = N) (hs : nsets s = N) (ha : a < N) (h2 : ∀ x, x < N → x &&& a < N) : togTo (fun x b => x &&& b) xs (sureP s a) N N N = mapTo (fun b => a &&& b) xs N N := by
  refine dot_ext _ _ N (togTo_len _ _ _ _ _ _) (mapTo_len _ _ _ _) fun g => ?_
  rw [(dot_togTo g (fun x b => x &&& b) xs (sureP s a) N N N (fun x b hx hb => Nat.lt_of_le_of_lt Nat.and_le_left hx)).1, dot_mapTo g _ xs N N]
  · refine dot_congr _ _ fun x hx => ?_
    congr 1
    have h3 := sureP_dot (fun b => g (x &&& b)) s a (by omega)
    rw [hs] at h3
    rw [h3, Nat.and_comm]
  · intro x hx; rw [Nat.and_comm]; exact h2 x hx
theorem mapTo_le {xs : List Int} {T : Nat → Nat} {N j : Nat} (hT : ∀ a, a < N → T a < N) (h0 : ∀ a, a < N → 0 ≤ nth xs a) (hj : j < N) : nth (mapTo T xs N N) j ≤ isumTo xs N := by
  have h1 := dot_mapTo (at1 j) T xs N N hT
  rw [dot_at1, if_pos hj] at h1
  rw [h1, ← dot_one]
  exact dot_mono xs N h0 fun a _ _ => by unfold at1; split <;> omega
theorem mass_sumT {s : Int} {xs : List Int} (h : massOk s xs = true) : isumTo xs xs.length ≤ 1000000 := by
  obtain ⟨_, _, _, _, _, h2, _⟩ := massOk_facts h
  exact h2
theorem l3Set_any (s a : Int) (ao : Option Addr) (n c : Nat) (xs : List Int) (w : World) (hx : IntsAt w ao n xs) :
    Calls Tryz.prog 46 #[.agg #[.int .i64 s, .slice ao n c], .int .i64 a] w fun e w' => e = .returned (.bool (massOk s xs && setOk s a)) ∧ Below w.heap.size w w' := by
  cases hm : massOk s xs
  · go_enter Tryz.func46, Tryz.ntmps46
    go_wp2_with fail
    refine (MassValid_any _ _ _ _ xs _ (hx.below (by (repeat (first | exact Below.refl _ _ | assumption | refine Below.alloc ?_ (by first | omega | (simp <;> omega)) _ | refine Below.setCell ?_ (by first | omega | (simp <;> omega)) _ | refine Below.drew ?_ | refine below_drewN ?_))))).mono ?_; rw [hm]; rintro e w1 ⟨rfl, hb1⟩
    have hB1 : Below w.heap.size w w1 := Below.trans (by (repeat (first | exact Below.refl _ _ | assumption | refine Below.alloc ?_ (by first | omega | (simp <;> omega)) _ | refine Below.setCell ?_ (by first | omega | (simp <;> omega)) _ | refine Below.drew ?_ | refine below_drewN ?_))) (hb1.mono (by simp <;> omega))
    go_wp2
    go_ret
    exact ⟨rfl, hB1⟩
  · cases ho : setOk s a
    all_goals
      go_enter Tryz.func46, Tryz.ntmps46
      go_wp2_with fail
      refine (MassValid_any _ _ _ _ xs _ (hx.below (by (repeat (first | exact Below.refl _ _ | assumption | refine Below.alloc ?_ (by first | omega | (simp <;> omega)) _ | refine Below.setCell ?_ (by first | omega | (simp <;> omega)) _ | refine Below.drew ?_ | refine below_drewN ?_))))).mono ?_; rw [hm]; rintro e w1 ⟨rfl, hb1⟩
      have p0 := keep hb1 (a := ⟨w.heap.size, 0, none⟩) (v := .int .i64 s) (by simp)
      have hB1 : Below w.heap.size w w1 := Below.trans (by (repeat (first | exact Below.refl _ _ | assumption | refine Below.alloc ?_ (by first | omega | (simp <;> omega)) _ | refine Below.setCell ?_ (by first | omega | (simp <;> omega)) _ | refine Below.drew ?_ | refine below_drewN ?_))) (hb1.mono (by simp <;> omega))
      clear hb1
      go_wp2_with fail
      refine (SetValid_any s a _).mono ?_; rw [ho]; rintro e w' ⟨rfl, rfl⟩
      go_wp2
      go_ret
      exact ⟨rfl, hB1⟩
set_option maxRecDepth 100000 in
set_option maxHeartbeats 2000000 in
theorem l7Cut_any (s : Int) (a : Nat) (ao : Option Addr) (n c : Nat) (xs : List Int) (w : World) (hx : IntsAt w ao n xs) (hn : n ≤ 16) (ha : a < 16) (hb : ∀ k, k < n → 0 ≤ nth xs k ∧ nth xs k ≤ 1000000) (h2 : ∀ x, x < n → a &&& x < n) :
    Calls Tryz.prog 48 #[.agg #[.int .i64 s, .slice ao n c], .int .i64 a] w fun e w' => (∃ v, e = .returned v ∧ Row w' w.heap.size v (mapTo (fun b => a &&& b) xs n n)) ∧ Below w.heap.size w w' := by
  have hcap := hx.cap
  have HBD := hid (mapTo_bd (fun b => a &&& b) xs n n 1000000 (by omega) hb)
  have HB := hid hb; have H2 := hid h2
  clear hb h2
  go_enter Tryz.func48, Tryz.ntmps48
  go_wp2_with (at_make; refine wpList_make_ints rfl _ _ rfl n _ _ rfl rfl rfl rfl (by omega) ?_; intro w2 hrow hb2 hz2)
  have p0 := keep hb2 (a := ⟨w.heap.size, 0, none⟩) (v := .int .i64 s) (by simp)
  have p1 := keep hb2 (a := ⟨w.heap.size, 1, none⟩) (v := .slice ao n c) (by simp)
  have hB2 : Below w.heap.size w w2 := Below.trans (by (repeat (first | exact Below.refl _ _ | assumption | refine Below.alloc ?_ (by first | omega | (simp <;> omega)) _ | refine Below.setCell ?_ (by first | omega | (simp <;> omega)) _ | refine Below.drew ?_ | refine below_drewN ?_))) (hb2.mono (by simp <;> omega))
  have hsz : (w.alloc (.cells #[.int .i64 s, .slice ao n c] 25)).heap.size = w.heap.size + 1 := by simp
  rw [hsz] at hrow hz2
  obtain ⟨g, hg⟩ : ∃ g, w.heap.size + 1 = g := ⟨_, rfl⟩
  have hgw : w.heap.size < g := by omega
  rw [hg] at hrow hz2 ⊢
  have hr0 : Row w2 g (.slice (some ⟨g, 0, none⟩) n n) (mapTo (fun b => a &&& b) xs n 0) := hrow
  clear hrow hb2 hg
  go_loopw [6] (fun i wr => ∃ k : Nat, k ≤ n ∧ i = .int .i64 k ∧ Row wr g (.slice (some ⟨g, 0, none⟩) n n) (mapTo (fun b => a &&& b) xs n k) ∧ Span g (g + 1) w2 wr) (fun i _ => n - (intOf i).toNat)
  case atStart => exact ⟨0, by omega, rfl, hr0, Span.refl _ _ _⟩
  case round =>
    obtain ⟨k, hk, rfl, hr, hg⟩ := hrel
    have hB : Below w.heap.size w wr := Span.below hB2 hB2.size hg (by omega)
    have r0 := Span.keep hg p0 (by omega)
    have r1 := Span.keep hg p1 (by omega)
    by_cases hlt : k < n
    · have hk0 : (0 : Int) ≤ (k : Int) := by omega
      have hk1 : (k : Int) < (n : Int) := by omega
      obtain ⟨bx, ox, rfl, _, _, hck⟩ := hx.at hB hlt
      have hTk := H2.out k hlt
      have hand := and_nat a k (by omega) (by omega)
      have hxb := HB.out k hlt
      have hbd := HBD.out k (by omega) (a &&& k)
      obtain ⟨q, hq⟩ : ∃ q, a &&& k = q := ⟨_, rfl⟩
      have HS : Hid (mapTo (fun b => a &&& b) xs n (k + 1) = (mapTo (fun b => a &&& b) xs n k).set q (nth (mapTo (fun b => a &&& b) xs n k) q + nth xs k)) := by rw [Hid, ← hq]; rfl
      rw [hq] at hTk hand hbd
      have hq0 : (0 : Int) ≤ (q : Int) := by omega
      have hq1 : (q : Int) < (n : Int) := by omega
      obtain ⟨hc3, hf3, _⟩ := hr.cellAt hTk
      have hadd : IntKind.i64.wrap (nth (mapTo (fun b => a &&& b) xs n k) q + nth xs k) = nth (mapTo (fun b => a &&& b) xs n k) q + nth xs k := IntWalk.i64_in _ (by omega)
      obtain ⟨w4, hw4, hr4, hg4⟩ := store_gen hr hTk (nth (mapTo (fun b => a &&& b) xs n k) q + nth xs k)
      have hsw : Span g (g + 1) wr w4 := by rw [← hw4]; exact Span.set (by show g ≤ g ∧ g < g + 1; omega)
      have HG := hid ((hg.trans hsw).trans (Span.of_below (drew_below w4)))
      have hr5 := hr4.below (drew_below w4)
      have HW := hid hw4
      clear hw4 hg4 hr hg hq hsw hr4
      go_wp2
      go_big_region
      all_goals
        rw [HW.out]
        go_wp2
        go_roundw
        case rel => first | exact ⟨k + 1, by omega, by go_num, by rw [HS.out]; exact hr5, HG.out⟩ | exact ⟨_, ⟨k + 1, by omega, by go_num, by rw [HS.out]; exact hr5, HG.out⟩, rfl⟩ | exact ⟨_, _, ⟨k + 1, by omega, by go_num, by rw [HS.out]; exact hr5, HG.out⟩, rfl, rfl⟩ | exact ⟨_, _, _, ⟨k + 1, by omega, by go_num, by rw [HS.out]; exact hr5, HG.out⟩, rfl, rfl, rfl⟩ | exact ⟨_, _, _, _, ⟨k + 1, by omega, by go_num, by rw [HS.out]; exact hr5, HG.out⟩, rfl, rfl, rfl, rfl⟩ | exact ⟨_, _, _, _, _, ⟨k + 1, by omega, by go_num, by rw [HS.out]; exact hr5, HG.out⟩, rfl, rfl, rfl, rfl, rfl⟩
        case measure => simp [intOf]; omega
    · obtain rfl : k = n := by omega
      clear hg p0 p1
      go_wp2
      go_ret
      exact ⟨⟨_, rfl, hr.mono (by omega)⟩, hB⟩
set_option maxRecDepth 100000 in
set_option maxHeartbeats 2000000 in
theorem specLearnMass_any (s a : Int) (ao : Option Addr) (n c : Nat) (xs : List Int) (w : World) (hx : IntsAt w ao n xs) :
    Calls Tryz.prog 8 #[.agg #[.int .i64 s, .slice ao n c], .int .i64 a] w fun e w' => RetM (learnM s xs a) w.heap.size e w' ∧ Below w.heap.size w w' := by
  cases hok : massOk s xs && setOk s a
  · have HR : Hid (learnM s xs a = MR.no) := by show learnM s xs a = MR.no; unfold learnM; rw [hok]; rfl
    rw [HR.out]
    go_enter Tryz.func8, Tryz.ntmps8
    go_wp2_with fail
    refine (l3Set_any s a _ _ _ xs _ (hx.below (by (repeat (first | exact Below.refl _ _ | assumption | refine Below.alloc ?_ (by first | omega | (simp <;> omega)) _ | refine Below.setCell ?_ (by first | omega | (simp <;> omega)) _ | refine Below.drew ?_ | refine below_drewN ?_))))).mono ?_; rw [hok]; rintro e w1 ⟨rfl, hb1⟩
    obtain ⟨h10, h11, f20, f21⟩ := boxG (w.heap.size + 1) hb1 (by simp)
    have hB1 : Below w.heap.size w w1 := Below.trans (by (repeat (first | exact Below.refl _ _ | assumption | refine Below.alloc ?_ (by first | omega | (simp <;> omega)) _ | refine Below.setCell ?_ (by first | omega | (simp <;> omega)) _ | refine Below.drew ?_ | refine below_drewN ?_))) (hb1.mono (by simp <;> omega))
    clear hb1
    go_wp2
    refine bodyPost_ret (v := .tuple #[.agg #[.int .i64 0, .slice none 0 0], .bool false]) (by simp [results, Tryz.results8, go_sem, h10, h11]) rfl ⟨?_, ?_⟩
    · exact RetM.no _ _
    · (repeat (first | exact Below.refl _ _ | assumption | refine Below.alloc ?_ (by first | omega | (simp <;> omega)) _ | refine Below.setCell ?_ (by first | omega | (simp <;> omega)) _ | refine Below.drew ?_ | refine below_drewN ?_))
  · have hok2 := hok
    rw [Bool.and_eq_true] at hok2
    obtain ⟨hm, hset⟩ := hok2
    obtain ⟨hs, hlen, h16, hbd, _, _, _⟩ := massOk_facts hm
    have hnl := hx.len
    have hnn := nsets_le hs
    have hin : inB 0 ((nsets s : Int) - 1) a = true := by simpa [setOk, hs] using hset
    obtain ⟨q, rfl⟩ : ∃ q : Nat, a = (q : Int) := ⟨a.toNat, by have := inB_iff.1 hin; omega⟩
    have hq : q < n := by have := inB_iff.1 hin; omega
    have hlt : ∀ x, x < n → x &&& q < n := fun x hx => Nat.lt_of_le_of_lt Nat.and_le_left hx
    have hlt2 : ∀ x, x < n → q &&& x < n := fun x hx => Nat.lt_of_le_of_lt Nat.and_le_left hq
    have HR : Hid (learnM s xs (q : Int) = mkMass s ((mapTo (fun b => q &&& b) xs n n).set 0 0)) := by
      show learnM s xs (q : Int) = _
      unfold learnM; rw [hok]; unfold learnP
      rw [hnl, Int.toNat_natCast, learn_map hnl (by omega) hq hlt]; rfl
    rw [HR.out]
    have HBD : Hid (∀ k, k < n → 0 ≤ nth xs k ∧ nth xs k ≤ 1000000) := fun k hk => hbd k (by omega)
    have hn16 : n ≤ 16 := by omega
    have hn1 : 1 ≤ n := by omega
    have HTL : Hid ((mapTo (fun b => q &&& b) xs n n).length = n) := mapTo_len _ _ _ _
    have hsum := mass_sumT hm
    have HTB : Hid (∀ k, k < n → 0 ≤ nth (mapTo (fun b => q &&& b) xs n n) k ∧ nth (mapTo (fun b => q &&& b) xs n n) k ≤ 1000000) := fun k hk => by
      have h1 := (mapTo_bd (fun b => q &&& b) xs n n 1000000 (by omega) HBD.out n (Nat.le_refl _) k).1
      have h2 := mapTo_le (T := fun b => q &&& b) hlt2 (fun j hj => (HBD.out j hj).1) hk
      rw [hnl] at hsum
      omega
    have HOK := hid hok
    have HL2 := hid hlt2
    have HC : Hid (∀ w', IntsAt w' ao n xs → Calls Tryz.prog 48 #[.agg #[.int .i64 s, .slice ao n c], .int .i64 (q : Int)] w' fun e w'' => (∃ v, e = .returned v ∧ Row w'' w'.heap.size v (mapTo (fun b => q &&& b) xs n n)) ∧ Below w'.heap.size w' w'') := fun w' h => l7Cut_any s q _ _ _ xs w' h hn16 (by omega) HBD.out hlt2
    obtain ⟨T, hT⟩ : ∃ T, mapTo (fun b => q &&& b) xs n n = T := ⟨_, rfl⟩
    rw [hT] at HTL HTB HC ⊢
    clear hlen hnl hbd hok hm hset hin hlt hlt2 hT HL2
    go_enter Tryz.func8, Tryz.ntmps8
    go_wp2_with fail
    refine (l3Set_any s q _ _ _ xs _ (hx.below (by (repeat (first | exact Below.refl _ _ | assumption | refine Below.alloc ?_ (by first | omega | (simp <;> omega)) _ | refine Below.setCell ?_ (by first | omega | (simp <;> omega)) _ | refine Below.drew ?_ | refine below_drewN ?_))))).mono ?_; rw [HOK.out]; rintro e w1 ⟨rfl, hb1⟩
    obtain ⟨h10, h11, f20, f21⟩ := boxG (w.heap.size + 1) hb1 (by simp)
    have hp0 := keep hb1 (a := ⟨w.heap.size, 0, none⟩) (v := .int .i64 s) (by simp)
    have hp1 := keep hb1 (a := ⟨w.heap.size, 1, none⟩) (v := .slice ao n c) (by simp)
    have hB1 : Below w.heap.size w w1 := Below.trans (by (repeat (first | exact Below.refl _ _ | assumption | refine Below.alloc ?_ (by first | omega | (simp <;> omega)) _ | refine Below.setCell ?_ (by first | omega | (simp <;> omega)) _ | refine Below.drew ?_ | refine below_drewN ?_))) (hb1.mono (by simp <;> omega))
    have hz1 : w.heap.size + 1 < w1.heap.size := by have := World.block_lt_of_cell? w1 _ h10; simpa using this
    clear hb1
    go_wp2_with fail
    go_region_held3 (fun w' => w'.cell? ⟨w.heap.size, 0, none⟩ = some (.int .i64 s) ∧ w'.cell? ⟨w.heap.size, 1, none⟩ = some (.slice ao n c)) (first | (refine ⟨by assumption, by assumption⟩; done) | (refine ⟨by simp [*], by simp [*]⟩; done) | go_keep) (first | (go_at_call 48; refine (HC.out _ ((hx.below hB1).below (drew_below w1))).mono ?_; rintro e w3 ⟨⟨vt, rfl, hrt⟩, hb3⟩; obtain ⟨gt, ct, het, _, _, hit⟩ := hrt.form (by rw [HTL.out]; omega); rw [HTL.out] at het hit; subst het; have hB3 := chain (drew_below w1) hb3; have k0 := keep hB3 hp0; have k1 := keep hB3 hp1) | (go_at_call 47; refine (l6Normal_any s _ _ _ T _ hit hn1 hn16 (fun k hk => by have := HTB.out k hk; omega)).mono ?_; rintro e w4 ⟨⟨v, rfl, hr4⟩, hb4⟩; obtain ⟨ao7, n7, c7, rfl, hi7⟩ := hr4.ints; have hB4 := chain hB3 hb4; have k0 := keep hB4 hp0; have k1 := keep hB4 hp1; have f20 := keepF hB4 h10 f20; have f21 := keepF hB4 h11 f21; have h10 := keep hB4 h10; have h11 := keep hB4 h11))
    all_goals
      have hB7 := chain hB1 hB4
      have hz3 := hB3.size
      go_wp2
      refine bodyPost_ret (by simp [results, Tryz.results8, go_sem, h10, h11]) rfl ⟨⟨_, rfl, ((hr4.setBelow (by simp; omega) _).setBelow (by simp; omega) _).mono (by omega)⟩, ?_⟩
      (repeat (first | exact Below.refl _ _ | assumption | refine Below.alloc ?_ (by first | omega | (simp <;> omega)) _ | refine Below.setCell ?_ (by first | omega | (simp <;> omega)) _ | refine Below.drew ?_ | refine below_drewN ?_))
set_option maxRecDepth 100000 in
set_option maxHeartbeats 2000000 in
theorem l1Set_any (R P : Nat) (w : World) (hr : Rd w R P) (hP : P ≤ 340000000) :
    Calls Tryz.prog 97 #[.pointer (some ⟨R, 0, none⟩)] w (Drew R (P + 3) w (fun v _ => ∃ a : Int, v = .int .i64 a)) := by
  have hR := hr.1
  go_enter Tryz.func97, Tryz.ntmps97
  go_wp2_with fail
  refine (pick_any R _ _ _ hr (by omega) (by omega)).mono ?_; rintro e w1 ⟨_, rfl, ⟨z, rfl, hz0, hz1⟩, hrd, hs⟩
  by_cases e0 : z = 0
  · subst e0
    go_wp2_with fail
    refine (num_any R _ _ 3 _ [-1, 16, 9223372036854775807] _ (hrd.on (by (repeat (first | exact Below.refl _ _ | assumption | refine Below.alloc ?_ (by first | omega | (simp <;> omega)) _ | refine Below.setCell ?_ (by first | omega | (simp <;> omega)) _ | refine Below.drew ?_ | refine below_drewN ?_)))) (by omega) (ints_lit w1 _ 3 [-1, 16, 9223372036854775807] w1.heap.size 3 rfl (by simp) rfl (by omega)) (by have := hs.size; omega) (by omega) (by omega)).mono ?_; rintro e w2 ⟨_, rfl, ⟨i, hi, rfl⟩, hrd2, hs2⟩
    have ht : Span R (R + 1) w1 w2 := Span.trans (Span.of_below (by (repeat (first | exact Below.refl _ _ | assumption | refine Below.alloc ?_ (by first | omega | (simp <;> omega)) _ | refine Below.setCell ?_ (by first | omega | (simp <;> omega)) _ | refine Below.drew ?_ | refine below_drewN ?_)))) hs2
    generalize nth [-1, 16, 9223372036854775807] i = q
    go_wp2
    go_ret
    exact ⟨_, rfl, ⟨_, rfl⟩, hrd2.mono (by omega), hs.trans ht⟩
  · have hzf : (z == 0) = false := by simpa using e0
    go_wp2_with fail
    refine (pick_any R _ _ _ hrd (by omega) (by omega)).mono ?_; rintro e w2 ⟨_, rfl, ⟨x, rfl, hx0, hx1⟩, hrd2, hs2⟩
    go_wp2_with fail
    refine (pick_any R _ _ _ hrd2 (by omega) (by omega)).mono ?_; rintro e w3 ⟨_, rfl, ⟨y, rfl, hy0, hy1⟩, hrd3, hs3⟩
    have hss := (hs.trans hs2).trans hs3
    clear hs hs2 hs3 hrd hrd2
    rcases (show y = 0 ∨ y = 1 ∨ y = 2 ∨ y = 3 by omega) with rfl | rfl | rfl | rfl
    all_goals
      go_wp2
      go_ret
      exact ⟨_, rfl, ⟨_, rfl⟩, hrd3.mono (by omega), hss⟩
theorem l1Any_any (a : Int) (w : World) : Calls Tryz.prog 99 #[.int .i64 a] w fun e w' => e = .returned (.bool (inB 0 15 a)) ∧ w = w' := by
  go_enter Tryz.func99, Tryz.ntmps99
  go_wp2_with (first | (go_at_call 138; refine (l1In_any _ _ _ _).mono ?_; rintro e w' ⟨rfl, rfl⟩))
  go_ret
  exact ⟨rfl, rfl⟩
/-- some mass and some number -/
def SomeSet (base : Nat) (v : Value) (w' : World) : Prop := ∃ s p xs, ∃ a : Int, v = .tuple #[.agg #[.int .i64 s, p], .int .i64 a] ∧ Row w' base p xs ∧ xs.length ≤ 17
set_option maxRecDepth 100000 in
set_option maxHeartbeats 4000000 in
theorem l3With_any (R P : Nat) (w : World) (hr : Rd w R P) (hP : P ≤ 330000000) :
    Calls Tryz.prog 39 #[.pointer (some ⟨R, 0, none⟩)] w (Drew R (P + 60) w (SomeSet w.heap.size)) := by
  have hR := hr.1
  go_enter Tryz.func39, Tryz.ntmps39
  go_wp2_with fail
  refine (l3Open_any R _ _ (hr.on (by (repeat (first | exact Below.refl _ _ | assumption | refine Below.alloc ?_ (by first | omega | (simp <;> omega)) _ | refine Below.setCell ?_ (by first | omega | (simp <;> omega)) _ | refine Below.drew ?_ | refine below_drewN ?_)))) (by omega)).mono ?_; rintro e w1 ⟨_, rfl, ⟨s, p, xs, rfl, hrm, hlm⟩, hrd, hs⟩
  have rb : Bx w1 w.heap.size (.int .i64 0) (.slice none 0 0) := (Bx.mk2 (w := w) rfl).span hs (by omega)
  have hW1 := rb.lt
  have ht : Span R (R + 1) w w1 := Span.trans (Span.of_below (by (repeat (first | exact Below.refl _ _ | assumption | refine Below.alloc ?_ (by first | omega | (simp <;> omega)) _ | refine Below.setCell ?_ (by first | omega | (simp <;> omega)) _ | refine Below.drew ?_ | refine below_drewN ?_)))) hs
  replace hrm : Row w1 (w.heap.size + 1) p xs := hrm.mono (by simp)
  obtain ⟨am, nm, cm, rfl, him⟩ := hrm.ints
  have hvm : ∀ b, (Value.slice am nm cm).ownBlock = some b → w.heap.size + 1 ≤ b := fun b e => (hrm.block b e).1
  have hz1 := ht.size
  clear hs him
  have r0 := rb.c0
  have r1 := rb.c1
  have r2 := rb.f0
  have r3 := rb.f1
  go_wp2_with fail
  clear r0 r1 r2 r3
  refine (l1Set_any R _ _ (hrd.on (by (repeat (first | exact Below.refl _ _ | assumption | refine Below.alloc ?_ (by first | omega | (simp <;> omega)) _ | refine Below.setCell ?_ (by first | omega | (simp <;> omega)) _ | refine Below.drew ?_ | refine below_drewN ?_)))) (by omega)).mono ?_; rintro e w2 ⟨_, rfl, ⟨a, rfl⟩, hrd2, hs2⟩
  have mb : Bx w2 w1.heap.size (.int .i64 s) (.slice am nm cm) := (Bx.mk2 (w := w1) rfl).span hs2 (by omega)
  have ht2 : Span R (R + 1) w1 w2 := Span.trans (Span.of_below (by (repeat (first | exact Below.refl _ _ | assumption | refine Below.alloc ?_ (by first | omega | (simp <;> omega)) _ | refine Below.setCell ?_ (by first | omega | (simp <;> omega)) _ | refine Below.drew ?_ | refine below_drewN ?_)))) hs2
  replace rb := rb.span ht2 (by omega)
  replace hrm := Span.row ht2 hrm (fun b e => by have := hvm b e; omega)
  have hsp := ht.trans ht2
  have hz2 := ht2.size
  clear ht ht2 hs2 hrd
  obtain ⟨M0, hM0⟩ : ∃ b, w1.heap.size = b := ⟨_, rfl⟩
  have hMw : w.heap.size < M0 := by rw [← hM0]; exact hW1
  rw [hM0] at mb ⊢
  have m0 := mb.c0
  have m1 := mb.c1
  go_wp2_with fail
  refine (MassValid_any s _ _ _ xs _ hrm.view).mono ?_; rintro e w3 ⟨rfl, hb3⟩
  replace rb := rb.below hb3
  replace mb := mb.below hb3
  replace hrm := hrm.below hb3
  have hrd3 := hrd2.on hb3
  have hsp3 : Span R (R + 1) w w3 := hsp.trans (Span.of_below hb3)
  have hz3 := hb3.size
  clear hb3 hrd2 hsp m0 m1
  have m0 := mb.c0
  have m1 := mb.c1
  have s0 := rb.c0; have s1 := rb.c1; have s2 := rb.f0; have s3 := rb.f1; have s4 := rb.lt
  cases hm : massOk s xs
  · clear hm
    have rb2 := rb.put2 (.int .i64 s) (.slice am nm cm)
    have r20 := rb2.c0
    have r21 := rb2.c1
    have hr2 := (hrm.mono (base' := w.heap.size + 1) (by omega)).put2 (b := w.heap.size) (x := .int .i64 s) (y := .slice am nm cm) (fun k e => by have := hvm k e; omega)
    go_wp2
    refine bodyPost_ret (v := .tuple #[.agg #[.int .i64 s, .slice am nm cm], .int .i64 _]) (by simp [results, Tryz.results39, go_sem, r20, r21]; first | done | rfl) rfl ⟨_, rfl, ⟨s, _, xs, _, rfl, hr2.mono (by omega), hlm⟩, ?_, ?_⟩
    · exact (hrd3.below (B := R + 1) (by (repeat (first | exact Below.refl _ _ | assumption | refine Below.alloc ?_ (by first | omega | (simp <;> omega)) _ | refine Below.setCell ?_ (by first | omega | (simp <;> omega)) _ | refine Below.drew ?_ | refine below_drewN ?_))) (by omega)).mono (by omega)
    · exact hsp3.on (by (repeat (first | exact Below.refl _ _ | assumption | refine Below.alloc ?_ (by first | omega | (simp <;> omega)) _ | refine Below.setCell ?_ (by first | omega | (simp <;> omega)) _ | refine Below.drew ?_ | refine below_drewN ?_)))
  · clear hm
    go_wp2_with fail
    refine (l1Any_any a _).mono ?_; rintro e w' ⟨rfl, rfl⟩
    cases ha : inB 0 15 a
    · clear ha
      have rb2 := rb.put2 (.int .i64 s) (.slice am nm cm)
      have r20 := rb2.c0
      have r21 := rb2.c1
      have hr2 := (hrm.mono (base' := w.heap.size + 1) (by omega)).put2 (b := w.heap.size) (x := .int .i64 s) (y := .slice am nm cm) (fun k e => by have := hvm k e; omega)
      go_wp2
      refine bodyPost_ret (v := .tuple #[.agg #[.int .i64 s, .slice am nm cm], .int .i64 _]) (by simp [results, Tryz.results39, go_sem, r20, r21]; first | done | rfl) rfl ⟨_, rfl, ⟨s, _, xs, _, rfl, hr2.mono (by omega), hlm⟩, ?_, ?_⟩
      · exact (hrd3.below (B := R + 1) (by (repeat (first | exact Below.refl _ _ | assumption | refine Below.alloc ?_ (by first | omega | (simp <;> omega)) _ | refine Below.setCell ?_ (by first | omega | (simp <;> omega)) _ | refine Below.drew ?_ | refine below_drewN ?_))) (by omega)).mono (by omega)
      · exact hsp3.on (by (repeat (first | exact Below.refl _ _ | assumption | refine Below.alloc ?_ (by first | omega | (simp <;> omega)) _ | refine Below.setCell ?_ (by first | omega | (simp <;> omega)) _ | refine Below.drew ?_ | refine below_drewN ?_)))
    · clear ha
      go_wp2_with fail
      refine (pick_any R _ _ _ hrd3 (by omega) (by omega)).mono ?_; rintro e w4 ⟨_, rfl, ⟨z, rfl, hz0, hz1⟩, hrd4, hs4⟩
      have hrm4 := Span.row hs4 hrm (fun b e => by have := hvm b e; omega)
      have rb4 := rb.span hs4 (by omega)
      have mb4 := mb.span hs4 (by omega)
      have hsp4 := hsp3.trans hs4
      clear m0 m1 s0 s1 s2 s3 s4 hs4 hrd3 hsp3 rb mb hrm
      have m0 := mb4.c0; have m1 := mb4.c1
      have s0 := rb4.c0; have s1 := rb4.c1; have s2 := rb4.f0; have s3 := rb4.f1; have s4 := rb4.lt
      by_cases hzp : 0 < z
      · have hzp2 := hzp
        have rb2 := rb4.put2 (.int .i64 s) (.slice am nm cm)
        have r20 := rb2.c0
        have r21 := rb2.c1
        have hr2 := (hrm4.mono (base' := w.heap.size + 1) (by omega)).put2 (b := w.heap.size) (x := .int .i64 s) (y := .slice am nm cm) (fun k e => by have := hvm k e; omega)
        go_wp2
        refine bodyPost_ret (v := .tuple #[.agg #[.int .i64 s, .slice am nm cm], .int .i64 _]) (by simp [results, Tryz.results39, go_sem, r20, r21]; first | done | rfl) rfl ⟨_, rfl, ⟨s, _, xs, _, rfl, hr2.mono (by omega), hlm⟩, ?_, ?_⟩
        · exact (hrd4.below (B := R + 1) (by (repeat (first | exact Below.refl _ _ | assumption | refine Below.alloc ?_ (by first | omega | (simp <;> omega)) _ | refine Below.setCell ?_ (by first | omega | (simp <;> omega)) _ | refine Below.drew ?_ | refine below_drewN ?_))) (by omega)).mono (by omega)
        · exact hsp4.on (by (repeat (first | exact Below.refl _ _ | assumption | refine Below.alloc ?_ (by first | omega | (simp <;> omega)) _ | refine Below.setCell ?_ (by first | omega | (simp <;> omega)) _ | refine Below.drew ?_ | refine below_drewN ?_)))
      · have hzn := hzp
        have rb2 := rb4.put2 (.int .i64 s) (.slice am nm cm)
        have r20 := rb2.c0
        have r21 := rb2.c1
        have hr2 := (hrm4.mono (base' := w.heap.size + 1) (by omega)).put2 (b := w.heap.size) (x := .int .i64 s) (y := .slice am nm cm) (fun k e => by have := hvm k e; omega)
        go_wp2
        refine bodyPost_ret (v := .tuple #[.agg #[.int .i64 s, .slice am nm cm], .int .i64 _]) (by simp [results, Tryz.results39, go_sem, r20, r21]; first | done | rfl) rfl ⟨_, rfl, ⟨s, _, xs, _, rfl, hr2.mono (by omega), hlm⟩, ?_, ?_⟩
        · exact (hrd4.below (B := R + 1) (by (repeat (first | exact Below.refl _ _ | assumption | refine Below.alloc ?_ (by first | omega | (simp <;> omega)) _ | refine Below.setCell ?_ (by first | omega | (simp <;> omega)) _ | refine Below.drew ?_ | refine below_drewN ?_))) (by omega)).mono (by omega)
        · exact hsp4.on (by (repeat (first | exact Below.refl _ _ | assumption | refine Below.alloc ?_ (by first | omega | (simp <;> omega)) _ | refine Below.setCell ?_ (by first | omega | (simp <;> omega)) _ | refine Below.drew ?_ | refine below_drewN ?_)))
set_option maxRecDepth 100000 in
set_option maxHeartbeats 1000000 in
theorem DrawLearnMass_any (ao : Option Addr) (n c : Nat) (w : World) (hx : BytesIn w w.heap.size ao n) (hnc : n ≤ c) :
    Calls Tryz.prog 6 #[.slice ao n c] w fun e w' => (∃ s p xs, ∃ a : Int, e = .returned (.tuple #[.agg #[.int .i64 s, p], .int .i64 a]) ∧ Row w' w.heap.size p xs ∧ xs.length ≤ 17) ∧ Below w.heap.size w w' := by
  obtain ⟨R, hRe⟩ : ∃ R, w.heap.size + 1 = R := ⟨_, rfl⟩
  have HX := hid hx
  clear hx
  go_enter Tryz.func6, Tryz.ntmps6
  go_wp2_with fail
  refine (l14OpenR_any ao n c R _ (by simp; exact hRe) (HX.out.on (below_alloc w _) (by omega)) hnc).mono ?_; rintro e w1 ⟨rfl, hrd, hb⟩
  have hz : R ≤ w1.heap.size := by have := hb.size; simp at this; omega
  have r0 := hb.cell (p := ⟨w.heap.size, 0, none⟩) (by simp; omega)
  have r1 := hb.cell (p := ⟨w.heap.size, 1, none⟩) (by simp; omega)
  have fr0 := hb.frozen (p := ⟨w.heap.size, 0, none⟩) (by simp; omega)
  have fr1 := hb.frozen (p := ⟨w.heap.size, 1, none⟩) (by simp; omega)
  simp at r0 r1 fr0 fr1
  have hB : Below w.heap.size w w1 := (below_alloc w _).trans (hb.mono (by omega))
  have hR1 := hrd.1
  clear hb
  go_wp2_with fail
  refine (l3With_any R _ _ hrd (by omega)).mono ?_; rintro e w2 ⟨_, rfl, ⟨s, p, xs, a, rfl, hr, hl⟩, hrd2, ht⟩
  obtain ⟨a2, n2, c2, rfl, hi2⟩ := hr.ints
  have gr0 := (Span.keepF ht ⟨by omega, fr0⟩ (by omega)).2
  have gr1 := (Span.keepF ht ⟨by omega, fr1⟩ (by omega)).2
  replace r0 := Span.keep ht r0 (by omega)
  replace r1 := Span.keep ht r1 (by omega)
  replace hB := Span.below hB hB.size ht (by omega)
  have hz2 := ht.size
  replace hr : Row w2 (w.heap.size + 1) (.slice a2 n2 c2) xs := hr.mono (by omega)
  clear ht hrd fr0 fr1
  go_wp2
  refine bodyPost_ret (v := .tuple #[.agg #[.int .i64 s, .slice a2 n2 c2], .int .i64 a]) (by simp [results, Tryz.results6, go_sem, r0, r1]) rfl ⟨⟨_, _, xs, _, rfl, ?_, hl⟩, ?_⟩
  · refine Row.mono (base := w.heap.size + 1) ?_ (by omega)
    (repeat (first | exact hr | (refine Row.setBelow ?_ ?_ _; rotate_left; focus (first | (omega) | (simp; done) | (simp; omega))) | (refine Row.setOther ?_ ?_ _; rotate_left; focus (intro h_own; have h_own2 := own_eq h_own; first | (omega) | (simp at h_own2; omega))) | refine Row.below ?_ (below_alloc _ _)))
  · (repeat (first | exact Below.refl _ _ | assumption | refine Below.alloc ?_ (by first | omega | (simp <;> omega)) _ | refine Below.setCell ?_ (by first | omega | (simp <;> omega)) _ | refine Below.drew ?_ | refine below_drewN ?_))
set_option maxRecDepth 100000 in
set_option maxHeartbeats 1000000 in
theorem DrawBeliefOf_any (ao : Option Addr) (n c : Nat) (w : World) (hx : BytesIn w w.heap.size ao n) (hnc : n ≤ c) :
    Calls Tryz.prog 19 #[.slice ao n c] w fun e w' => (∃ s p xs, ∃ a : Int, e = .returned (.tuple #[.agg #[.int .i64 s, p], .int .i64 a]) ∧ Row w' w.heap.size p xs ∧ xs.length ≤ 17) ∧ Below w.heap.size w w' := by
  obtain ⟨R, hRe⟩ : ∃ R, w.heap.size + 1 = R := ⟨_, rfl⟩
  have HX := hid hx
  clear hx
  go_enter Tryz.func19, Tryz.ntmps19
  go_wp2_with fail
  refine (l14OpenR_any ao n c R _ (by simp; exact hRe) (HX.out.on (below_alloc w _) (by omega)) hnc).mono ?_; rintro e w1 ⟨rfl, hrd, hb⟩
  have hz : R ≤ w1.heap.size := by have := hb.size; simp at this; omega
  have r0 := hb.cell (p := ⟨w.heap.size, 0, none⟩) (by simp; omega)
  have r1 := hb.cell (p := ⟨w.heap.size, 1, none⟩) (by simp; omega)
  have fr0 := hb.frozen (p := ⟨w.heap.size, 0, none⟩) (by simp; omega)
  have fr1 := hb.frozen (p := ⟨w.heap.size, 1, none⟩) (by simp; omega)
  simp at r0 r1 fr0 fr1
  have hB : Below w.heap.size w w1 := (below_alloc w _).trans (hb.mono (by omega))
  have hR1 := hrd.1
  clear hb
  go_wp2_with fail
  refine (l3With_any R _ _ hrd (by omega)).mono ?_; rintro e w2 ⟨_, rfl, ⟨s, p, xs, a, rfl, hr, hl⟩, hrd2, ht⟩
  obtain ⟨a2, n2, c2, rfl, hi2⟩ := hr.ints
  have gr0 := (Span.keepF ht ⟨by omega, fr0⟩ (by omega)).2
  have gr1 := (Span.keepF ht ⟨by omega, fr1⟩ (by omega)).2
  replace r0 := Span.keep ht r0 (by omega)
  replace r1 := Span.keep ht r1 (by omega)
  replace hB := Span.below hB hB.size ht (by omega)
  have hz2 := ht.size
  replace hr : Row w2 (w.heap.size + 1) (.slice a2 n2 c2) xs := hr.mono (by omega)
  clear ht hrd fr0 fr1
  go_wp2
  refine bodyPost_ret (v := .tuple #[.agg #[.int .i64 s, .slice a2 n2 c2], .int .i64 a]) (by simp [results, Tryz.results19, go_sem, r0, r1]) rfl ⟨⟨_, _, xs, _, rfl, ?_, hl⟩, ?_⟩
  · refine Row.mono (base := w.heap.size + 1) ?_ (by omega)
    (repeat (first | exact hr | (refine Row.setBelow ?_ ?_ _; rotate_left; focus (first | (omega) | (simp; done) | (simp; omega))) | (refine Row.setOther ?_ ?_ _; rotate_left; focus (intro h_own; have h_own2 := own_eq h_own; first | (omega) | (simp at h_own2; omega))) | refine Row.below ?_ (below_alloc _ _)))
  · (repeat (first | exact Below.refl _ _ | assumption | refine Below.alloc ?_ (by first | omega | (simp <;> omega)) _ | refine Below.setCell ?_ (by first | omega | (simp <;> omega)) _ | refine Below.drew ?_ | refine below_drewN ?_))
end Go.Proofs.YtlelnnglpimgjaaGreatDoor
