/- Masses whose parts are moved: mapped, RefineMass, MoveMass. -/
import Derived.Test.YtlelnnglpimgjaaGreatDoorS1
set_option linter.unusedSimpArgs false
set_option linter.unusedVariables false
namespace Go.Proofs.YtlelnnglpimgjaaGreatDoor
open Go.RowKit
theorem keepB {B : Nat} {w1 w2 : World} {b o : Nat} {v : Value} (hb : Below B w1 w2) (hlt : b < B) (h : w1.cell? ⟨b, o, none⟩ = some v) : w2.cell? ⟨b, o, none⟩ = some v := (hb.cell (p := ⟨b, o, none⟩) hlt).trans h
theorem keepBF {B : Nat} {w1 w2 : World} {b o : Nat} (hb : Below B w1 w2) (hlt : b < B) (h : w1.frozen? ⟨b, o, none⟩ = false) : w2.frozen? ⟨b, o, none⟩ = false := (hb.frozen (p := ⟨b, o, none⟩) hlt).trans h
theorem IntsAt.belowB {B : Nat} {w w1 w2 : World} {ao : Option Addr} {n : Nat} {xs : List Int} (h : IntsAt w ao n xs) (h1 : Below w.heap.size w w1) (h2 : Below B w1 w2) (hB : w.heap.size ≤ B) : IntsAt w2 ao n xs :=
  h.below (h1.trans (h2.mono hB))
set_option maxHeartbeats 1000000 in
theorem mapped_any (s size : Int) (ao : Option Addr) (n c : Nat) (xs : List Int) (fid : FuncId) (caps : Array Value) (T : Nat → Nat) (w : World) (hx : IntsAt w ao n xs) (hn : n ≤ 16) (hs : okSize size = true)
    (hcf : ∀ (vs : Array Value) (w' : World), Sem.run Tryz.prog (callFunc fid vs) w' = .ok (.enter fid vs) w')
    (hb : ∀ k, k < n → 0 ≤ nth xs k ∧ nth xs k ≤ 1000000) (hT : ∀ a, a < n → T a < nsets size)
    (hto : ∀ (a : Nat) (w' : World), a < n → Below w.heap.size w w' → Calls Tryz.prog fid (#[.int .i64 a] ++ caps) w' fun e w'' => e = .returned (.int .i64 (T a)) ∧ Below w'.heap.size w' w'') :
    Calls Tryz.prog 51 #[.agg #[.int .i64 s, .slice ao n c], .int .i64 size, .func (.func fid) #[] caps] w fun e w' => RetM (mkMass size (mapTo T xs (nsets size) n)) w.heap.size e w' ∧ Below w.heap.size w w' := by
  have hcap := hx.cap
  have HTO := hid hto; clear hto
  have HT := hid hT; clear hT
  have HBD := hid (mapTo_bd T xs (nsets size) n 1000000 (by omega) hb)
  have hs0 : 1 ≤ size ∧ size ≤ 4 := by rcases okSize_iff.1 hs with h | h | h | h <;> omega
  have hsz := shl_size hs
  have hsn := nsets_le hs
  go_enter Tryz.func51, Tryz.ntmps51
  go_wp2_with (at_make; refine wpList_make_ints rfl _ _ rfl (nsets size) _ _ rfl rfl hsz hsz (by omega) ?_; intro w2 hrow hb2 hz2; (have hp1 := keep hb2 (a := ⟨w.heap.size, 1, none⟩) (v := .slice ao n c) (by simp)))
  have hp0 := keep hb2 (a := ⟨w.heap.size, 0, none⟩) (v := .int .i64 s) (by simp)
  obtain ⟨h10, h11, f20, f21⟩ := boxG (w.heap.size + 1) hb2 (by simp)
  have hB2 : Below w.heap.size w w2 := ((below_alloc w _).alloc (by simp) _).trans (hb2.mono (by simp <;> omega))
  have hrow' : Row w2 (w.heap.size + 1 + 1) (.slice (some ⟨w.heap.size + 1 + 1, 0, none⟩) (nsets size) (nsets size)) (List.replicate (nsets size) 0) := by simpa using hrow
  have hz2' : w.heap.size + 1 + 1 < w2.heap.size := by simpa using hz2
  clear hrow hb2 hz2
  go_loopw [9, 10, 17] (fun _ _ i wr => ∃ k : Nat, k ≤ n ∧ i = .int .i64 k ∧ Row wr (w.heap.size + 1 + 1) (.slice (some ⟨w.heap.size + 1 + 1, 0, none⟩) (nsets size) (nsets size)) (mapTo T xs (nsets size) k) ∧ Below (w.heap.size + 1 + 1) w2 wr) (fun _ _ i _ => n - (intOf i).toNat)
  case atStart => exact ⟨0, by omega, rfl, hrow', Below.refl _ _⟩
  case round =>
    obtain ⟨k, hk, rfl, hr, hBr⟩ := hrel
    have hB : Below w.heap.size w wr := hB2.trans (hBr.mono (by omega))
    by_cases hlt : k < n
    · obtain ⟨b, off, rfl, hbs, hbs', hck⟩ := hx.at hB hlt
      have hxb := hb k hlt
      have hTk := HT.out k hlt
      have hbd := HBD.out k (by omega) (T k)
      have hk16 : (k : Int) ≤ 16 := by omega
      have hlen := hid (mapTo_len T xs (nsets size) k)
      clear hb
      go_wp2_with fail
      refine (HTO.out k wr hlt hB).mono ?_; rintro e w3 ⟨rfl, hb3⟩
      have hr3 := hr.below hb3
      obtain ⟨hc3, hf3, _⟩ := hr3.cellAt hTk
      obtain ⟨w4, hw4, hr4, hg4⟩ := store_gen hr3 hTk (nth (mapTo T xs (nsets size) k) (T k) + nth xs k)
      have hz3 : w.heap.size + 1 + 1 ≤ w3.heap.size := by have := hBr.size; have := hb3.size; omega
      have hB4 := hid (belowG (hBr.trans (hb3.mono (by have := hBr.size; omega))) hz3 hg4 (Nat.le_refl _))
      have HW := hid hw4
      clear hw4 hg4 hr3 hr
      go_wp2
      rw [HW.out]
      go_roundw
      case rel => first | exact ⟨k + 1, by omega, by go_num, hr4, hB4.out⟩ | exact ⟨_, ⟨k + 1, by omega, by go_num, hr4, hB4.out⟩, rfl⟩ | exact ⟨_, _, ⟨k + 1, by omega, by go_num, hr4, hB4.out⟩, rfl, rfl⟩ | exact ⟨_, _, _, ⟨k + 1, by omega, by go_num, hr4, hB4.out⟩, rfl, rfl, rfl⟩ | exact ⟨_, _, _, _, ⟨k + 1, by omega, by go_num, hr4, hB4.out⟩, rfl, rfl, rfl, rfl⟩ | exact ⟨_, _, _, _, _, ⟨k + 1, by omega, by go_num, hr4, hB4.out⟩, rfl, rfl, rfl, rfl, rfl⟩
      case measure => simp [intOf]; omega
    · have hkn : k = n := by omega
      subst hkn
      have hp0' := keepB hBr (by omega) hp0
      have g10 := keepB hBr (by omega) h10
      have g11 := keepB hBr (by omega) h11
      have gf20 := keepBF hBr (by omega) f20
      have gf21 := keepBF hBr (by omega) f21
      obtain ⟨a1, n1, c1, e1, hi⟩ := hr.ints
      injection e1 with e2 e3 e4
      subst e2 e3 e4
      have HB2 := hid (fun j (hj : j < nsets size) => (by have := HBD.out k (Nat.le_refl _) j; omega : 0 ≤ nth (mapTo T xs (nsets size) k) j ∧ nth (mapTo T xs (nsets size) k) j ≤ 4000000000000000000))
      clear h10 h11 f20 f21 hp0 hp1 hb
      go_wp2_with fail
      refine (makeMass_any _ _ _ _ _ _ hi hsn.2 HB2.out).mono ?_
      rintro e w7 ⟨⟨v, rfl, hr7⟩, hb7⟩
      obtain ⟨ao7, n7, c7, rfl, hi7⟩ := hr7.ints
      have hz7 : w.heap.size + 1 + 1 < wr.heap.size := by have := hBr.size; omega
      have h10 := g10
      have h11 := g11
      have f20 := gf20
      have f21 := gf21
      clear g10 g11 gf20 gf21
      replace f20 := keepF hb7 h10 f20
      replace f21 := keepF hb7 h11 f21
      replace h10 := keep hb7 h10
      replace h11 := keep hb7 h11
      have hB7 := chain hB hb7
      go_wp2
      refine bodyPost_ret (by simp [results, Tryz.results51, go_sem, h10, h11]) rfl ⟨⟨_, rfl, ((hr7.setBelow (by simp; omega) _).setBelow (by simp; omega) _).mono (by omega)⟩, ?_⟩
      (repeat (first | exact Below.refl _ _ | assumption | refine Below.alloc ?_ (by simp <;> omega) _ | refine Below.setCell ?_ (by simp <;> omega) _ | refine Below.drew ?_ | refine below_drewN ?_))
theorem refClos_call (vs : Array Value) (w' : World) : Sem.run Tryz.prog (callFunc 270 vs) w' = .ok (.enter 270 vs) w' := by
  have h1 : (Tryz.f270.name == "runtime.NumGoroutine") = false := by kernel_rfl
  have h2 : Tryz.f270.body.isNone = false := by kernel_rfl
  have h1' : ¬ Tryz.f270.name = "runtime.NumGoroutine" := by simpa using h1
  have h2' : ¬ Tryz.f270.body = none := by intro e; rw [e] at h2; simp at h2
  simp only [callFunc, Sem.run_bind, run_program, Result.andThen_ok, Tryz.func270, beq_iff_eq, Option.isNone_iff_eq_none, if_neg h1', if_neg h2', Sem.run_pure]
/-- a mass in which answers are told apart -/
def refineM (s : Int) (xs to : List Int) (size : Int) : MR :=
  if massOk s xs && okSize size && answersOk to size s then mkMass size (mapTo (fun a => refTo a to to.length) xs (nsets size) xs.length) else MR.no
theorem massOk_facts {s : Int} {xs : List Int} (h : massOk s xs = true) : okSize s = true ∧ xs.length = nsets s ∧ xs.length ≤ 16 ∧ (∀ k, k < xs.length → 0 ≤ nth xs k ∧ nth xs k ≤ 1000000) ∧ 1 ≤ isum xs ∧ isum xs ≤ 1000000 ∧ gcdL xs = 1 := by
  simp only [massOk, Bool.and_eq_true, beq_iff_eq] at h
  obtain ⟨⟨⟨⟨h1, h2⟩, h3⟩, h4⟩, h5⟩ := h
  refine ⟨h1, h2, by have := nsets_le h1; omega, fun k hk => inB_iff.1 ((allN_iff _ _).1 h3 k hk), (inB_iff.1 h4).1, (inB_iff.1 h4).2, h5⟩
theorem answersOk_facts {xs : List Int} {n size : Int} (h : answersOk xs n size = true) : (xs.length : Int) = n ∧ ∀ k, k < xs.length → 0 ≤ nth xs k ∧ nth xs k ≤ size - 1 := by
  simp only [answersOk, Bool.and_eq_true, beq_iff_eq] at h
  exact ⟨h.2, fun k hk => inB_iff.1 ((allN_iff _ _).1 h.1 k hk)⟩
set_option maxHeartbeats 1000000 in
theorem RefineMass_any (s size : Int) (ao bo : Option Addr) (n c m d : Nat) (xs to : List Int) (w : World) (hx : IntsAt w ao n xs) (hy : IntsAt w bo m to) :
    Calls Tryz.prog 251 #[.agg #[.int .i64 s, .slice ao n c], .slice bo m d, .int .i64 size] w fun e w' => RetM (refineM s xs to size) w.heap.size e w' ∧ Below w.heap.size w w' := by
  have hxx := hx.below (w' := ((w.alloc (.cells #[.int .i64 s, .slice ao n c] 25)).alloc (.cells #[.slice bo m d] 23)).alloc (.cells #[.int .i64 0, .slice none 0 0] 25)) (((below_alloc w _).alloc (by simp) _).alloc (by simp <;> omega) _)
  cases hm : massOk s xs
  · have HR : Hid (refineM s xs to size = MR.no) := by simp [Hid, refineM, hm]
    rw [HR.out]
    go_enter Tryz.func251, Tryz.ntmps251
    go_wp2_with fail
    refine (isMass_any _ _ _ _ _ _ hxx).mono ?_; rintro e w1 ⟨rfl, hb1⟩
    obtain ⟨h10, h11, f20, f21⟩ := boxG (w.heap.size + 1 + 1) hb1 (by simp)
    have hB1 : Below w.heap.size w w1 := (((below_alloc w _).alloc (by simp) _).alloc (by simp <;> omega) _).trans (hb1.mono (by simp <;> omega))
    clear hb1
    go_wp2
    refine bodyPost_ret (v := .tuple #[.agg #[.int .i64 0, .slice none 0 0], .bool false]) (by simp [results, Tryz.results251, go_sem, h10, h11]) rfl ⟨?_, ?_⟩
    · exact RetM.no _ _
    · (repeat (first | exact Below.refl _ _ | assumption | refine Below.alloc ?_ (by simp <;> omega) _ | refine Below.setCell ?_ (by simp <;> omega) _ | refine Below.drew ?_ | refine below_drewN ?_))
  · obtain ⟨hsz, hlen, h16, hbd, _, _, _⟩ := massOk_facts hm
    have HBD := hid hbd; clear hbd
    cases ho : (okSize size && answersOk to size s)
    · have HR : Hid (refineM s xs to size = MR.no) := by
        show refineM s xs to size = MR.no
        unfold refineM; rw [hm, Bool.true_and, ho]; rfl
      rw [HR.out]
      have ho' : okSize size = false ∨ (okSize size = true ∧ answersOk to size s = false) := by
        cases h1 : okSize size
        · exact .inl rfl
        · rw [h1] at ho; exact .inr ⟨rfl, by simpa using ho⟩
      rcases ho' with h1 | ⟨h1, h2⟩
      all_goals
        go_enter Tryz.func251, Tryz.ntmps251
        go_wp2_with fail
        refine (isMass_any _ _ _ _ _ _ hxx).mono ?_; rintro e w1 ⟨rfl, hb1⟩
        obtain ⟨h10, h11, f20, f21⟩ := boxG (w.heap.size + 1 + 1) hb1 (by simp)
        have hB1 : Below w.heap.size w w1 := (((below_alloc w _).alloc (by simp) _).alloc (by simp <;> omega) _).trans (hb1.mono (by simp <;> omega))
        have hq := keep hb1 (a := ⟨w.heap.size + 1, 0, none⟩) (v := .slice bo m d) (by simp)
        have hp0 := keep hb1 (a := ⟨w.heap.size, 0, none⟩) (v := .int .i64 s) (by simp)
        have hy1 := hy.below hB1
        clear hb1
        go_wp2_with (first | (go_at_call 50; refine (isSize_any _ _).mono ?_; rintro e w' ⟨rfl, rfl⟩) | (go_at_call 249; refine (areAnswers_any _ _ _ _ _ _ _ hy1).mono ?_; rintro e w' ⟨rfl, rfl⟩))
        refine bodyPost_ret (v := .tuple #[.agg #[.int .i64 0, .slice none 0 0], .bool false]) (by simp [results, Tryz.results251, go_sem, h10, h11]) rfl ⟨?_, ?_⟩
        · exact RetM.no _ _
        · (repeat (first | exact Below.refl _ _ | assumption | refine Below.alloc ?_ (by simp <;> omega) _ | refine Below.setCell ?_ (by simp <;> omega) _ | refine Below.drew ?_ | refine below_drewN ?_))
    · have hs2 : okSize size = true := by cases h1 : okSize size <;> simp [h1] at ho; rfl
      have ha2 : answersOk to size s = true := by rw [hs2] at ho; simpa using ho
      have HR : Hid (refineM s xs to size = mkMass size (mapTo (fun a => refTo a to m) xs (nsets size) n)) := by
        show refineM s xs to size = _
        unfold refineM; rw [hm, hs2, ha2, hy.len, hx.len]; rfl
      rw [HR.out]
      obtain ⟨htl, htb⟩ := answersOk_facts ha2
      have hs4 : s ≤ 4 ∧ size ≤ 4 ∧ 1 ≤ size := by
        have h1 := okSize_iff.1 hsz; have h2 := okSize_iff.1 hs2; omega
      have hm4 : m ≤ 4 := by have := hy.len; omega
      have hml := hid hy.len
      have hnl := hid hx.len
      have HTB : Hid (∀ k, k < m → 0 ≤ nth to k ∧ nth to k ≤ 29) := fun k hk => by have := htb k (by rw [hml.out]; exact hk); omega
      have hns : nsets size = 2 ^ m := by
        have := hml.out
        have e : size.toNat = m := by omega
        unfold nsets; rw [e]
      have HNS := hid hns
      clear htb htl hns ho
      go_enter Tryz.func251, Tryz.ntmps251
      go_wp2_with fail
      refine (isMass_any _ _ _ _ _ _ hxx).mono ?_; rintro e w1 ⟨rfl, hb1⟩
      obtain ⟨h10, h11, f20, f21⟩ := boxG (w.heap.size + 1 + 1) hb1 (by simp)
      have hB1 : Below w.heap.size w w1 := (((below_alloc w _).alloc (by simp) _).alloc (by simp <;> omega) _).trans (hb1.mono (by simp <;> omega))
      have hq := keep hb1 (a := ⟨w.heap.size + 1, 0, none⟩) (v := .slice bo m d) (by simp)
      have hp0 := keep hb1 (a := ⟨w.heap.size, 0, none⟩) (v := .int .i64 s) (by simp)
      have hp1 := keep hb1 (a := ⟨w.heap.size, 1, none⟩) (v := .slice ao n c) (by simp)
      have hy1 := hy.below hB1
      have hx1 := hx.below hB1
      have hz1 : w.heap.size + 1 + 1 < w1.heap.size := by have := World.block_lt_of_cell? w1 _ h10; simpa using this
      clear hb1
      go_wp2_with (first | (go_at_call 50; refine (isSize_any _ _).mono ?_; rintro e w' ⟨rfl, rfl⟩) | (go_at_call 249; refine (areAnswers_any _ _ _ _ _ _ _ hy1).mono ?_; rintro e w' ⟨rfl, rfl⟩) | (go_at_call 51; fail))
      refine (mapped_any s size ao n c xs 270 #[.pointer (some ⟨w.heap.size + 1, 0, none⟩)] (fun a => refTo a to m) w1 hx1 (by rw [← hnl.out]; exact h16) hs2 refClos_call (fun k hk => HBD.out k (by rw [hnl.out]; exact hk)) (fun a _ => by rw [HNS.out]; exact refTo_lt _ _ _ _ (Nat.le_refl _)) (fun a w' ha hb => ?_)).mono ?_
      · exact (refClos_any a _ _ _ _ _ w' (by have := hnl.out; omega) (keep hb hq) (hy1.below hb) hm4 HTB.out).mono fun e w'' ⟨he, hw⟩ => ⟨he, below_of_eq hw⟩
      rintro e w7 ⟨⟨v, rfl, hr7⟩, hb7⟩
      obtain ⟨ao7, n7, c7, rfl, hi7⟩ := hr7.ints
      replace f20 := keepF hb7 h10 f20
      replace f21 := keepF hb7 h11 f21
      replace h10 := keep hb7 h10
      replace h11 := keep hb7 h11
      have hB7 := chain hB1 hb7
      go_wp2
      refine bodyPost_ret (by simp [results, Tryz.results251, go_sem, h10, h11]) rfl ⟨⟨_, rfl, ((hr7.setBelow (by simp; omega) _).setBelow (by simp; omega) _).mono (by omega)⟩, ?_⟩
      (repeat (first | exact Below.refl _ _ | assumption | refine Below.alloc ?_ (by simp <;> omega) _ | refine Below.setCell ?_ (by simp <;> omega) _ | refine Below.drew ?_ | refine below_drewN ?_))
end Go.Proofs.YtlelnnglpimgjaaGreatDoor
