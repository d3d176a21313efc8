/- Learning: CutMass, LearnMass, FocusMass of the program; the commands set, cut, learn, focus. -/
import Derived.Test.YtefmlbahmakboaaGreatDoorU5
import Derived.Test.YtefmlbahmakboaaGreatDoorS9
import Derived.Test.YtefmlbahmakboaaGreatDoorE3
import Derived.Deep.RegionHeld3
set_option linter.unusedSimpArgs false
set_option linter.unusedVariables false
namespace Go.Proofs.YtefmlbahmakboaaGreatDoor
open Go.RowKit
theorem set_of {s : Int} {a : Nat} (hs : okSize s = true) (ha : a < nsets s) : inB 0 ((nsets s : Int) - 1) (a : Int) = true := inB_iff.2 (by omega)
/-- what a mass tells within a set -/
def cutM (s : Int) (xs : List Int) (a : Nat) : MR := mkMass s (mapTo (fun b => a &&& b) xs (nsets s) xs.length)
def learnP (s : Int) (xs : List Int) (a : Nat) : List Int := togTo (fun a b => a &&& b) xs (sureP s a) xs.length xs.length xs.length
/-- what a mass tells if a set is learned -/
def learnM (s : Int) (xs : List Int) (a : Int) : MR := if massOk s xs && setOk s a then mkMass s ((learnP s xs a.toNat).set 0 0) else MR.no
def focV (xs : List Int) (a b : Nat) : Int := if b ≠ 0 ∧ b &&& a = b then nth xs b else 0
def focTo2 (xs : List Int) (a N k : Nat) : List Int := iter (fun b l => if b ≠ 0 ∧ b &&& a = b then l.set b (nth xs b) else l) (List.replicate N 0) k
theorem focTo2_succ (xs : List Int) (a N k : Nat) : focTo2 xs a N (k + 1) = if k ≠ 0 ∧ k &&& a = k then (focTo2 xs a N k).set k (nth xs k) else focTo2 xs a N k := rfl
theorem focTo2_len (xs : List Int) (a N k : Nat) : (focTo2 xs a N k).length = N := by
  induction k with
  | zero => simp [focTo2, iter]
  | succ k ih =>
    rw [focTo2_succ]; split
    · rw [List.length_set]; exact ih
    · exact ih
theorem focTo2_bd {xs : List Int} {a N : Nat} (hb : ∀ k, k < N → 0 ≤ nth xs k ∧ nth xs k ≤ 1000000) (k : Nat) (hk : k ≤ N) (j : Nat) : 0 ≤ nth (focTo2 xs a N k) j ∧ nth (focTo2 xs a N k) j ≤ 1000000 := by
  induction k with
  | zero => show 0 ≤ nth (List.replicate N 0) j ∧ nth (List.replicate N 0) j ≤ _; rw [nth_replicate]; omega
  | succ k ih =>
    rw [focTo2_succ]
    have := hb k (by omega)
    split
    · rw [nth_set]; split
      · omega
      · exact ih (by omega)
    · exact ih (by omega)
/-- what a mass tells of cases of a set -/
def focusM (s : Int) (xs : List Int) (a : Nat) : MR := mkMass s (focTo2 xs a xs.length xs.length)
theorem cutClos_any (a b B : Nat) (w : World) (ha : a < 16) (hb : b < 16) (hB : w.cell? ⟨B, 0, none⟩ = some (.int .i64 a)) :
    Calls Tryz.prog 200 #[.int .i64 b, .pointer (some ⟨B, 0, none⟩)] w fun e w' => e = .returned (.int .i64 ((a &&& b : Nat) : Int)) ∧ w = w' := by
  have h := and_nat a b (by omega) (by omega)
  go_enter Tryz.func200, Tryz.ntmps200
  go_wp2
  go_ret
  exact ⟨ret_int (by simp [h]), rfl⟩
theorem cutClos_call (vs : Array Value) (w' : World) : Sem.run Tryz.prog (callFunc 200 vs) w' = .ok (.enter 200 vs) w' := by
  have h1 : (Tryz.f200.name == "runtime.NumGoroutine") = false := by kernel_rfl
  have h2 : Tryz.f200.body.isNone = false := by kernel_rfl
  have h1' : ¬ Tryz.f200.name = "runtime.NumGoroutine" := by simpa using h1
  have h2' : ¬ Tryz.f200.body = none := by intro e; rw [e] at h2; simp at h2
  simp only [callFunc, Sem.run_bind, run_program, Result.andThen_ok, Tryz.func200, beq_iff_eq, Option.isNone_iff_eq_none, if_neg h1', if_neg h2', Sem.run_pure]
set_option maxRecDepth 100000 in
set_option maxHeartbeats 1000000 in
theorem CutMass_of (s : Int) (a : Nat) (ao : Option Addr) (n c : Nat) (xs : List Int) (w : World) (hx : IntsAt w ao n xs) (hm : massOk s xs = true) (ha : a < nsets s) :
    Calls Tryz.prog 151 #[.agg #[.int .i64 s, .slice ao n c], .int .i64 a] w fun e w' => RetM (cutM s xs a) w.heap.size e w' ∧ Below w.heap.size w w' := by
  have hxx := hx.below (w' := ((w.alloc (.cells #[.int .i64 s, .slice ao n c] 25)).alloc (.cells #[.int .i64 a] 3)).alloc (.cells #[.int .i64 0, .slice none 0 0] 25)) (((below_alloc w _).alloc (by simp) _).alloc (by simp <;> omega) _)
  obtain ⟨hs, hlen, h16, hbd, _, _, _⟩ := massOk_facts hm
  have hnl := hx.len
  have HBD : Hid (∀ k, k < n → 0 ≤ nth xs k ∧ nth xs k ≤ 1000000) := fun k hk => hbd k (by omega)
  have hnn := nsets_le hs
  have hin := set_of hs ha
  have HR : Hid (cutM s xs a = mkMass s (mapTo (fun b => a &&& b) xs (nsets s) n)) := by rw [Hid, ← hnl]; rfl
  rw [HR.out]
  rw [hnl] at h16
  have hn2 : n = nsets s := by omega
  have HN2 := hid hn2
  clear hbd hlen hnl hn2
  go_enter Tryz.func151, Tryz.ntmps151
  go_wp2_with fail
  refine (isMass_any _ _ _ _ _ _ hxx).mono ?_; rw [hm]; rintro e w1 ⟨rfl, hb1⟩
  obtain ⟨h10, h11, f20, f21⟩ := boxG (w.heap.size + 1 + 1) hb1 (by simp)
  have hB1 : Below w.heap.size w w1 := (((below_alloc w _).alloc (by simp) _).alloc (by simp <;> omega) _).trans (hb1.mono (by simp <;> omega))
  have hq := keep hb1 (a := ⟨w.heap.size + 1, 0, none⟩) (v := .int .i64 a) (by simp)
  have hp0 := keep hb1 (a := ⟨w.heap.size, 0, none⟩) (v := .int .i64 s) (by simp)
  have hp1 := keep hb1 (a := ⟨w.heap.size, 1, none⟩) (v := .slice ao n c) (by simp)
  have hx1 := hx.below hB1
  have hz1 : w.heap.size + 1 + 1 < w1.heap.size := by have := World.block_lt_of_cell? w1 _ h10; simpa using this
  clear hb1
  go_wp2_with (first | (go_at_call 159; refine (isSetOf_any s a _ hs).mono ?_; rintro e w' ⟨rfl, rfl⟩) | (go_at_call 184; fail))
  refine (mapped_any s s ao n c xs 200 #[.pointer (some ⟨w.heap.size + 1, 0, none⟩)] (fun b => a &&& b) w1 hx1 h16 hs cutClos_call HBD.out (fun b _ => Nat.lt_of_le_of_lt Nat.and_le_left ha) (fun b w' hb hbl => ?_)).mono ?_
  · exact (cutClos_any a b _ w' (by omega) (by omega) (keep hbl hq)).mono fun e w'' ⟨he, hw⟩ => ⟨he, below_of_eq hw⟩
  rintro e w7 ⟨⟨v, rfl, hr7⟩, hb7⟩
  obtain ⟨ao7, n7, c7, rfl, hi7⟩ := hr7.ints
  replace f20 := keepF hb7 h10 f20
  replace f21 := keepF hb7 h11 f21
  replace h10 := keep hb7 h10
  replace h11 := keep hb7 h11
  have hB7 := chain hB1 hb7
  go_wp2
  refine bodyPost_ret (by simp [results, Tryz.results151, go_sem, h10, h11]) rfl ⟨⟨_, rfl, ((hr7.setBelow (by simp; omega) _).setBelow (by simp; omega) _).mono (by omega)⟩, ?_⟩
  (repeat (first | exact Below.refl _ _ | assumption | refine Below.alloc ?_ (by simp <;> omega) _ | refine Below.setCell ?_ (by simp <;> omega) _ | refine Below.drew ?_ | refine below_drewN ?_))
set_option maxRecDepth 100000 in
set_option maxHeartbeats 2000000 in
theorem withoutNone_any (s : Int) (ao : Option Addr) (n c : Nat) (ps : List Int) (w : World) (hx : Row w 0 (.slice ao n c) ps) (h0 : 1 ≤ ps.length) (h16 : ps.length ≤ 16) (hb : ∀ k, k < ps.length → 0 ≤ nth ps k ∧ nth ps k ≤ 4000000000000000000) :
    Calls Tryz.prog 36 #[.int .i64 s, .slice ao n c] w fun e w' => RetM (mkMass s (ps.set 0 0)) w.heap.size e w' ∧ Below w.heap.size w w' := by
  have HB := hid hb
  obtain ⟨N, hN⟩ : ∃ N, ps.length = N := ⟨_, rfl⟩
  have HN := hid hN
  rw [hN] at h0 h16
  clear hb hN
  obtain ⟨w1, hw1⟩ : ∃ w1, w.alloc (.cells #[.int .i64 0, .slice none 0 0] 25) = w1 := ⟨_, rfl⟩
  have hz : w1.heap.size = w.heap.size + 1 := by rw [← hw1]; simp
  have hlit : Row ((w.alloc (.cells #[.int .i64 0, .slice none 0 0] 25)).alloc (.cells #[] 3)) (w.heap.size + 1) (.slice (some ⟨w.heap.size + 1, 0, none⟩) 0 0) [] := by
    rw [hw1, ← hz]; exact World.ownsRow_lit w1 #[] 0 (Nat.le_refl _) (by unfold maxLen; omega) rfl
  have hx1 : Row ((w.alloc (.cells #[.int .i64 0, .slice none 0 0] 25)).alloc (.cells #[] 3)) 0 (.slice ao n c) ps := hx.below (by (repeat (first | exact Below.refl _ _ | assumption | refine Below.alloc ?_ (by first | omega | (simp <;> omega)) _ | refine Below.setCell ?_ (by first | omega | (simp <;> omega)) _ | refine Below.drew ?_ | refine below_drewN ?_)))
  have rb : Bx ((w.alloc (.cells #[.int .i64 0, .slice none 0 0] 25)).alloc (.cells #[] 3)) w.heap.size (.int .i64 0) (.slice none 0 0) := (Bx.mk2 rfl).below (below_alloc _ _)
  clear hw1 hz w1 hx
  go_enter Tryz.func36, Tryz.ntmps36
  go_wp2_with (at_builtin; refine wpList_append_own2 rfl _ _ rfl (w.heap.size + 1) (.slice (some ⟨w.heap.size + 1, 0, none⟩) 0 0) [] 0 rfl (by rfl) hlit 0 (.slice ao n c) ps (by rfl) hx1 (by rw [HN.out]; omega) (by simp) ?_; intro ag ng cg w2 hrow2 hgrow; rw [List.nil_append] at hrow2; obtain ⟨g2, c2, he2, _, _, _⟩ := hrow2.form (by rw [HN.out]; omega); rw [HN.out] at he2; injection he2 with e1 e2 e3; subst e1 e2 e3; have rb2 := rb.grown (g := w.heap.size + 1) hgrow (by omega); have r0 := rb2.c0; have r1 := rb2.c1; have hB2 := below_grownBy (B := w.heap.size) (show Below w.heap.size w ((w.alloc (.cells #[.int .i64 0, .slice none 0 0] 25)).alloc (.cells #[] 3)) by (repeat (first | exact Below.refl _ _ | assumption | refine Below.alloc ?_ (by first | omega | (simp <;> omega)) _ | refine Below.setCell ?_ (by first | omega | (simp <;> omega)) _ | refine Below.drew ?_ | refine below_drewN ?_))) (by simp; omega) hgrow (fun b e => by have := own_eq e; omega); obtain ⟨c0, d0, _⟩ := hrow2.cellAt (show 0 < ng by omega); clear hgrow rb hlit hx1)
  obtain ⟨w3, hw3, hr3, hg3⟩ := store_gen hrow2 (show 0 < ng by omega) 0
  rw [hw3]
  have hgb := hrow2.block g2 rfl
  have hB3 := belowG hB2 hB2.size hg3 (by omega)
  have rb3 := rb2.grown hg3 (by omega)
  have hz3 := rb3.lt
  obtain ⟨h10, h11, f20, f21, _⟩ := rb3
  clear hw3 hg3 hrow2 c0 d0 r0 r1 rb2 hB2
  have HBK : Hid (∀ k, k < ng → 0 ≤ nth (ps.set 0 0) k ∧ nth (ps.set 0 0) k ≤ 4000000000000000000) := fun k hk => by
    have := HB.out k (by rw [HN.out]; exact hk)
    rw [nth_set]; split <;> omega
  go_wp2_with fail
  refine (makeMass_any s _ _ _ (ps.set 0 0) _ hr3.view h16 HBK.out).mono ?_; rintro e w5 ⟨⟨v, rfl, hr5⟩, hb5⟩
  obtain ⟨a5, n5, c5, rfl, hi5⟩ := hr5.ints
  replace f20 := keepF hb5 h10 f20
  replace f21 := keepF hb5 h11 f21
  replace h10 := keep hb5 h10
  replace h11 := keep hb5 h11
  have hB5 := chain hB3 hb5
  have hz5 := hb5.size
  clear hb5
  go_wp2
  refine bodyPost_ret (v := .tuple #[.agg #[.int .i64 (mkMass s (ps.set 0 0)).size, .slice a5 n5 c5], .bool (mkMass s (ps.set 0 0)).ok]) (by simp [results, Tryz.results36, go_sem, h10, h11, f20, f21]) rfl ⟨?_, ?_⟩
  · exact ⟨_, rfl, (((hr5.mono (base' := w.heap.size + 1) (by omega)).setBelow (by simp) _).setBelow (by simp) _).mono (by omega)⟩
  · (repeat (first | exact Below.refl _ _ | assumption | refine Below.alloc ?_ (by first | omega | (simp <;> omega)) _ | refine Below.setCell ?_ (by first | omega | (simp <;> omega)) _ | refine Below.drew ?_ | refine below_drewN ?_))
set_option maxRecDepth 100000 in
set_option maxHeartbeats 4000000 in
theorem LearnMass_any (s a : Int) (ao : Option Addr) (n c : Nat) (xs : List Int) (w : World) (hx : IntsAt w ao n xs) :
    Calls Tryz.prog 152 #[.agg #[.int .i64 s, .slice ao n c], .int .i64 a] w fun e w' => RetM (learnM s xs a) w.heap.size e w' ∧ Below w.heap.size w w' := by
  have hxx := hx.below (w' := (w.alloc (.cells #[.int .i64 s, .slice ao n c] 25)).alloc (.cells #[.int .i64 0, .slice none 0 0] 25)) ((below_alloc w _).alloc (by simp) _)
  cases hm : massOk s xs
  · have HR : Hid (learnM s xs a = MR.no) := by show learnM s xs a = MR.no; unfold learnM; rw [hm]; rfl
    rw [HR.out]
    go_enter Tryz.func152, Tryz.ntmps152
    go_wp2_with fail
    refine (isMass_any _ _ _ _ xs _ hxx).mono ?_; rw [hm]; rintro e w1 ⟨rfl, hb1⟩
    obtain ⟨h10, h11, f20, f21⟩ := boxG (w.heap.size + 1) hb1 (by simp)
    have hB1 : Below w.heap.size w w1 := ((below_alloc w _).alloc (by simp) _).trans (hb1.mono (by simp <;> omega))
    clear hb1
    go_wp2
    refine bodyPost_ret (v := .tuple #[.agg #[.int .i64 0, .slice none 0 0], .bool false]) (by simp [results, Tryz.results152, go_sem, h10, h11]) rfl ⟨?_, ?_⟩
    · exact RetM.no _ _
    · (repeat (first | exact Below.refl _ _ | assumption | refine Below.alloc ?_ (by simp <;> omega) _ | refine Below.setCell ?_ (by simp <;> omega) _ | refine Below.drew ?_ | refine below_drewN ?_))
  · obtain ⟨hs, hlen, h16, hbd, _, _, _⟩ := massOk_facts hm
    have hnl := hx.len
    have hnn := nsets_le hs
    cases hset : setOk s a
    · have HR : Hid (learnM s xs a = MR.no) := by show learnM s xs a = MR.no; unfold learnM; rw [hset]; simp
      have hin : inB 0 ((nsets s : Int) - 1) a = false := by simpa [setOk, hs] using hset
      rw [HR.out]
      have HM := hid hm
      clear hlen hnl hbd
      go_enter Tryz.func152, Tryz.ntmps152
      go_wp2_with fail
      refine (isMass_any _ _ _ _ xs _ hxx).mono ?_; rw [HM.out]; rintro e w1 ⟨rfl, hb1⟩
      obtain ⟨h10, h11, f20, f21⟩ := boxG (w.heap.size + 1) hb1 (by simp)
      have hp0 := keep hb1 (a := ⟨w.heap.size, 0, none⟩) (v := .int .i64 s) (by simp)
      have hp1 := keep hb1 (a := ⟨w.heap.size, 1, none⟩) (v := .slice ao n c) (by simp)
      have hB1 : Below w.heap.size w w1 := ((below_alloc w _).alloc (by simp) _).trans (hb1.mono (by simp <;> omega))
      clear hb1 hm
      go_wp2_with (first | (go_at_call 159; refine (isSetOf_any s a _ hs).mono ?_; rintro e w' ⟨rfl, rfl⟩))
      refine bodyPost_ret (v := .tuple #[.agg #[.int .i64 0, .slice none 0 0], .bool false]) (by simp [results, Tryz.results152, go_sem, h10, h11]) rfl ⟨?_, ?_⟩
      · exact RetM.no _ _
      · (repeat (first | exact Below.refl _ _ | assumption | refine Below.alloc ?_ (by simp <;> omega) _ | refine Below.setCell ?_ (by simp <;> omega) _ | refine Below.drew ?_ | refine below_drewN ?_))
    · have hin : inB 0 ((nsets s : Int) - 1) a = true := by simpa [setOk, hs] using hset
      obtain ⟨q, rfl⟩ : ∃ q : Nat, a = (q : Int) := ⟨a.toNat, by have := inB_iff.1 hin; omega⟩
      have hq : q < nsets s := by have := inB_iff.1 hin; omega
      have hn2 : n = nsets s := by omega
      have HR : Hid (learnM s xs (q : Int) = mkMass s ((togTo (fun a b => a &&& b) xs (sureP s q) n n n).set 0 0)) := by
        show learnM s xs (q : Int) = _
        unfold learnM; rw [hm, hset]; unfold learnP; rw [hnl, Int.toNat_natCast]; rfl
      rw [HR.out]
      have HM := hid hm
      have HBD : Hid (∀ k, k < n → 0 ≤ nth xs k ∧ nth xs k ≤ 1000000) := fun k hk => hbd k (by omega)
      have HSB : Hid (∀ k, k < n → 0 ≤ nth (sureP s q) k ∧ nth (sureP s q) k ≤ 1000000) := fun k _ => by
        unfold sureP; rw [nth_set, nth_replicate]; split <;> omega
      have HSL : Hid ((sureP s q).length = n) := by rw [Hid, sureP_len, hn2]
      have HTL : Hid ((togTo (fun a b => a &&& b) xs (sureP s q) n n n).length = n) := togTo_len _ _ _ _ _ _
      have hn16 : n ≤ 16 := by omega
      have HTB : Hid (∀ k, k < (togTo (fun a b => a &&& b) xs (sureP s q) n n n).length → 0 ≤ nth (togTo (fun a b => a &&& b) xs (sureP s q) n n n) k ∧ nth (togTo (fun a b => a &&& b) xs (sureP s q) n n n) k ≤ 4000000000000000000) := fun k _ => by
        have := togTo_bd (fun a b => a &&& b) xs (sureP s q) n n n hn16 HBD.out HSB.out n (Nat.le_refl _) k; omega
      have hn1 : 1 ≤ n := by omega
      have HQ := hid hq
      clear hlen hnl hbd hn2 hset hq
      go_enter Tryz.func152, Tryz.ntmps152
      go_wp2_with fail
      refine (isMass_any _ _ _ _ xs _ hxx).mono ?_; rw [HM.out]; rintro e w1 ⟨rfl, hb1⟩
      obtain ⟨h10, h11, f20, f21⟩ := boxG (w.heap.size + 1) hb1 (by simp)
      have hp0 := keep hb1 (a := ⟨w.heap.size, 0, none⟩) (v := .int .i64 s) (by simp)
      have hp1 := keep hb1 (a := ⟨w.heap.size, 1, none⟩) (v := .slice ao n c) (by simp)
      have hB1 : Below w.heap.size w w1 := ((below_alloc w _).alloc (by simp) _).trans (hb1.mono (by simp <;> omega))
      have hz1 : w.heap.size + 1 < w1.heap.size := by have := World.block_lt_of_cell? w1 _ h10; simpa using this
      clear hb1 hm
      have hne1 : ¬ w.heap.size + 1 = w.heap.size := by omega
      have hne2 : ¬ w.heap.size = w.heap.size + 1 := by omega
      go_wp2_with (first | (go_at_call 159; refine (isSetOf_any s q _ hs).mono ?_; rintro e w' ⟨rfl, rfl⟩) | fail)
      go_region_held3 (fun w' => w'.cell? ⟨w.heap.size, 0, none⟩ = some (.int .i64 s) ∧ w'.cell? ⟨w.heap.size, 1, none⟩ = some (.slice ao n c)) (first | (refine ⟨by assumption, by assumption⟩; done) | (refine ⟨by simp [*], by simp [*]⟩; done) | go_keep) (first | (go_at_call 56; refine (sureMass_any s q w1.drew hs HQ.out).mono ?_; rintro e w2 ⟨⟨vs, rfl, hrs⟩, hb2⟩; obtain ⟨a2, n2, c2, rfl, his⟩ := hrs.ints; have hns : n2 = n := (by rw [← his.len]; exact HSL.out); subst hns; have hB2 := chain (drew_below w1) hb2; have k0 := keep hB2 hp0; have k1 := keep hB2 hp1) | (go_at_call 37; refine (conjoined_any s s _ _ _ _ _ _ xs (sureP s q) _ ((hx.below hB1).below hB2) his hn16 (Nat.le_refl _) HBD.out HSB.out).mono ?_; rintro e w3 ⟨⟨vt, rfl, hrt⟩, hb3⟩; obtain ⟨at', nt, ct, rfl, hit⟩ := hrt.ints; have hB3 := chain hB2 hb3; have k0 := keep hB3 hp0; have k1 := keep hB3 hp1) | (go_at_call 36; refine (withoutNone_any s _ _ _ _ _ (hrt.mono (Nat.zero_le _)) (by rw [HTL.out]; exact hn1) (by rw [HTL.out]; exact hn16) HTB.out).mono ?_; rintro e w4 ⟨⟨v, rfl, hr4⟩, hb4⟩; obtain ⟨ao7, n7, c7, rfl, hi7⟩ := hr4.ints; have hB4 := chain hB3 hb4; have k0 := keep hB4 hp0; have k1 := keep hB4 hp1; have f20 := keepF hB4 h10 f20; have f21 := keepF hB4 h11 f21; have h10 := keep hB4 h10; have h11 := keep hB4 h11))
      all_goals
        have hB7 := chain hB1 hB4
        have hz3 := hB3.size
        go_wp2
        refine bodyPost_ret (by simp [results, Tryz.results152, go_sem, h10, h11]) rfl ⟨⟨_, rfl, ((hr4.setBelow (by simp; omega) _).setBelow (by simp; omega) _).mono (by omega)⟩, ?_⟩
        (repeat (first | exact Below.refl _ _ | assumption | refine Below.alloc ?_ (by simp <;> omega) _ | refine Below.setCell ?_ (by simp <;> omega) _ | refine Below.drew ?_ | refine below_drewN ?_))
theorem andNot_foc : ∀ a b : Fin 16, (bits BinOp.andNot IntKind.i64 ((b.val : Nat) : Int) ((a.val : Nat) : Int) == 0) = decide (b.val &&& a.val = b.val) := by decide +kernel
set_option maxRecDepth 100000 in
set_option maxHeartbeats 4000000 in
theorem FocusMass_of (s : Int) (a : Nat) (ao : Option Addr) (n c : Nat) (xs : List Int) (w : World) (hx : IntsAt w ao n xs) (hm : massOk s xs = true) (ha : a < nsets s) :
    Calls Tryz.prog 153 #[.agg #[.int .i64 s, .slice ao n c], .int .i64 a] w fun e w' => RetM (focusM s xs a) w.heap.size e w' ∧ Below w.heap.size w w' := by
  obtain ⟨hs, hlen, h16, hbd, _, _, _⟩ := massOk_facts hm
  have hnl := hx.len
  have hnn := nsets_le hs
  have hin := set_of hs ha
  have HR : Hid (focusM s xs a = mkMass s (focTo2 xs a n n)) := by rw [Hid, ← hnl]; rfl
  rw [HR.out]
  have HBD : Hid (∀ k, k < n → 0 ≤ nth xs k ∧ nth xs k ≤ 1000000) := fun k hk => hbd k (by omega)
  have HM := hid hm
  have hn16 : n ≤ 16 := by omega
  have ha16 : a < 16 := by omega
  have hxx := hx.below (w' := (w.alloc (.cells #[.int .i64 s, .slice ao n c] 25)).alloc (.cells #[.int .i64 0, .slice none 0 0] 25)) ((below_alloc w _).alloc (by simp) _)
  clear hbd hlen hnl h16 hm
  go_enter Tryz.func153, Tryz.ntmps153
  go_wp2_with fail
  refine (isMass_any _ _ _ _ xs _ hxx).mono ?_; rw [HM.out]; rintro e w1 ⟨rfl, hb1⟩
  obtain ⟨h10, h11, f20, f21⟩ := boxG (w.heap.size + 1) hb1 (by simp)
  have hp0 := keep hb1 (a := ⟨w.heap.size, 0, none⟩) (v := .int .i64 s) (by simp)
  have hp1 := keep hb1 (a := ⟨w.heap.size, 1, none⟩) (v := .slice ao n c) (by simp)
  have hB1 : Below w.heap.size w w1 := ((below_alloc w _).alloc (by simp) _).trans (hb1.mono (by simp <;> omega))
  have hz1 : w.heap.size + 1 < w1.heap.size := by have := World.block_lt_of_cell? w1 _ h10; simpa using this
  clear hb1
  go_wp2_with (first | (go_at_call 159; refine (isSetOf_any s a _ hs).mono ?_; rintro e w' ⟨rfl, rfl⟩) | (at_make; refine wpList_make_ints rfl _ _ rfl n _ _ rfl rfl rfl rfl (by omega) ?_; intro w2 hrow hb2 hz2; (have p0' := keep hb2 hp0); (have p1' := keep hb2 hp1); (have h10' := keep hb2 h10); (have h11' := keep hb2 h11); (have f20' := keepF hb2 h10 f20); (have f21' := keepF hb2 h11 f21)))
  have hB2 : Below w.heap.size w w2 := chain hB1 hb2
  clear hp0 hp1 h10 h11 f20 f21 hb2
  obtain ⟨g, hg⟩ : ∃ g, w1.heap.size = g := ⟨_, rfl⟩
  rw [hg] at hrow hz2 hz1 ⊢
  clear hg
  have hr0 : Row w2 g (.slice (some ⟨g, 0, none⟩) n n) (focTo2 xs a n 0) := hrow
  clear hrow
  go_loopw [7, 8, 27] (fun _ _ i wr => ∃ k : Nat, k ≤ n ∧ i = .int .i64 k ∧ Row wr g (.slice (some ⟨g, 0, none⟩) n n) (focTo2 xs a n k) ∧ w2.grownBy wr (some g)) (fun _ _ i _ => n - (intOf i).toNat)
  case atStart => exact ⟨0, by omega, rfl, hr0, grownBy_refl _ _⟩
  case round =>
    obtain ⟨k, hk, rfl, hr, hg⟩ := hrel
    have hB : Below w.heap.size w wr := below_grownBy hB2 hB2.size hg (fun k e => by injection e with e; omega)
    by_cases hlt : k < n
    · have hk0 : (0 : Int) ≤ (k : Int) := by omega
      have hk1 : (k : Int) < (n : Int) := by omega
      obtain ⟨bx, ox, rfl, _, _, hck⟩ := hx.at hB hlt
      have HS := hid (focTo2_succ xs a n k)
      have han := andNot_foc ⟨a, ha16⟩ ⟨k, by omega⟩
      simp only at han
      obtain ⟨hc3, hf3, _⟩ := hr.cellAt hlt
      obtain ⟨x, hx9⟩ : ∃ x, nth xs k = x := ⟨_, rfl⟩
      rw [hx9] at hck HS
      clear hx9
      by_cases hk9 : k = 0
      · have HS2 : Hid (focTo2 xs a n (k + 1) = focTo2 xs a n k) := by rw [Hid, HS.out, if_neg (fun h => h.1 hk9)]
        have hkz2 : ((k : Int) != 0) = false := by rw [hk9]; rfl
        clear hc3 hf3 han HS hk9
        go_wp2
        go_roundw
        case rel => first | exact ⟨k + 1, by omega, by go_num, by rw [HS2.out]; exact hr, hg⟩ | exact ⟨_, ⟨k + 1, by omega, by go_num, by rw [HS2.out]; exact hr, hg⟩, rfl⟩ | exact ⟨_, _, ⟨k + 1, by omega, by go_num, by rw [HS2.out]; exact hr, hg⟩, rfl, rfl⟩ | exact ⟨_, _, _, ⟨k + 1, by omega, by go_num, by rw [HS2.out]; exact hr, hg⟩, rfl, rfl, rfl⟩ | exact ⟨_, _, _, _, ⟨k + 1, by omega, by go_num, by rw [HS2.out]; exact hr, hg⟩, rfl, rfl, rfl, rfl⟩ | exact ⟨_, _, _, _, _, ⟨k + 1, by omega, by go_num, by rw [HS2.out]; exact hr, hg⟩, rfl, rfl, rfl, rfl, rfl⟩
        case measure => simp [intOf]; omega
      · have hkz : ((k : Int) == 0) = false := by rw [beq_eq_false_iff_ne]; omega
        have hkz2 : ((k : Int) != 0) = true := by rw [bne_iff_ne]; omega
        by_cases hsub : k &&& a = k
        · have HS2 : Hid (focTo2 xs a n (k + 1) = (focTo2 xs a n k).set k x) := by rw [Hid, HS.out, if_pos ⟨hk9, hsub⟩]
          rw [decide_eq_true hsub] at han
          obtain ⟨w4, hw4, hr4, hg4⟩ := store_gen hr hlt x
          have HG := hid (grownBy_trans hg hg4)
          have HW := hid hw4
          clear hw4 hg4 hr hg HS hsub
          go_wp2
          rw [HW.out]
          go_roundw
          case rel => first | exact ⟨k + 1, by omega, by go_num, by rw [HS2.out]; exact hr4, HG.out⟩ | exact ⟨_, ⟨k + 1, by omega, by go_num, by rw [HS2.out]; exact hr4, HG.out⟩, rfl⟩ | exact ⟨_, _, ⟨k + 1, by omega, by go_num, by rw [HS2.out]; exact hr4, HG.out⟩, rfl, rfl⟩ | exact ⟨_, _, _, ⟨k + 1, by omega, by go_num, by rw [HS2.out]; exact hr4, HG.out⟩, rfl, rfl, rfl⟩ | exact ⟨_, _, _, _, ⟨k + 1, by omega, by go_num, by rw [HS2.out]; exact hr4, HG.out⟩, rfl, rfl, rfl, rfl⟩ | exact ⟨_, _, _, _, _, ⟨k + 1, by omega, by go_num, by rw [HS2.out]; exact hr4, HG.out⟩, rfl, rfl, rfl, rfl, rfl⟩
          case measure => simp [intOf]; omega
        · have HS2 : Hid (focTo2 xs a n (k + 1) = focTo2 xs a n k) := by rw [Hid, HS.out, if_neg (fun h => hsub h.2)]
          rw [decide_eq_false hsub] at han
          clear hc3 hf3 HS hsub
          go_wp2
          go_roundw
          case rel => first | exact ⟨k + 1, by omega, by go_num, by rw [HS2.out]; exact hr, hg⟩ | exact ⟨_, ⟨k + 1, by omega, by go_num, by rw [HS2.out]; exact hr, hg⟩, rfl⟩ | exact ⟨_, _, ⟨k + 1, by omega, by go_num, by rw [HS2.out]; exact hr, hg⟩, rfl, rfl⟩ | exact ⟨_, _, _, ⟨k + 1, by omega, by go_num, by rw [HS2.out]; exact hr, hg⟩, rfl, rfl, rfl⟩ | exact ⟨_, _, _, _, ⟨k + 1, by omega, by go_num, by rw [HS2.out]; exact hr, hg⟩, rfl, rfl, rfl, rfl⟩ | exact ⟨_, _, _, _, _, ⟨k + 1, by omega, by go_num, by rw [HS2.out]; exact hr, hg⟩, rfl, rfl, rfl, rfl, rfl⟩
          case measure => simp [intOf]; omega
    · obtain rfl : k = n := by omega
      have f20 := keepGF hg h10' (by omega) f20'
      have f21 := keepGF hg h11' (by omega) f21'
      have h10 := keepG hg h10' (by omega)
      have h11 := keepG hg h11' (by omega)
      have p0 := keepG hg p0' (by omega)
      have hzz := hg.size
      have HBK : Hid (∀ j, j < k → 0 ≤ nth (focTo2 xs a k k) j ∧ nth (focTo2 xs a k k) j ≤ 4000000000000000000) := fun j hj => by have := focTo2_bd (a := a) HBD.out k (Nat.le_refl _) j; omega
      clear hg p0' p1' h10' h11' f20' f21'
      go_wp2_with fail
      refine (makeMass_any _ _ _ _ (focTo2 xs a k k) _ hr.view hn16 HBK.out).mono ?_; rintro e w5 ⟨⟨v, rfl, hr5⟩, hb5⟩
      obtain ⟨a5, n5, c5, rfl, hi5⟩ := hr5.ints
      replace f20 := keepF hb5 h10 f20
      replace f21 := keepF hb5 h11 f21
      replace h10 := keep hb5 h10
      replace h11 := keep hb5 h11
      have hB5 := chain hB hb5
      have hz5 := hb5.size
      clear hb5
      go_wp2
      refine bodyPost_ret (v := .tuple #[.agg #[.int .i64 (mkMass s (focTo2 xs a k k)).size, .slice a5 n5 c5], .bool (mkMass s (focTo2 xs a k k)).ok]) (by simp [results, Tryz.results153, go_sem, h10, h11, f20, f21]) rfl ⟨?_, ?_⟩
      · exact ⟨_, rfl, (((hr5.mono (base' := w.heap.size + 1 + 1) (by omega)).setBelow (by simp <;> omega) _).setBelow (by simp <;> omega) _).mono (by omega)⟩
      · (repeat (first | exact Below.refl _ _ | assumption | refine Below.alloc ?_ (by first | omega | (simp <;> omega)) _ | refine Below.setCell ?_ (by first | omega | (simp <;> omega)) _ | refine Below.drew ?_ | refine below_drewN ?_))
theorem Desk.putA {w : World} {D : Nat} {d : DS} (h : Desk w D d) (a : Int) : Desk (w.setCell ⟨D, 4, none⟩ (.int .i64 a)) D ⟨d.s, d.xs, d.t, d.ys, a⟩ := by
  obtain ⟨a1, n1, c1, h1, h2, h3⟩ := h.m
  obtain ⟨a2, n2, c2, k1, k2, k3⟩ := h.n
  refine ⟨by simp; exact h.lt, ?_, ?_, ?_, by simp [h.f0], by simp [h.f1], by simp [h.f2], by simp [h.f3], by simp [h.f4], ⟨a1, n1, c1, ?_, h2.setOther (a := ⟨D, 4, none⟩) h3 _, h3⟩, ⟨a2, n2, c2, ?_, k2.setOther (a := ⟨D, 4, none⟩) k3 _, k3⟩⟩
  · exact (World.cell?_setCell_other _ _ _ _ (by simp)).trans h.c0
  · exact (World.cell?_setCell_other _ _ _ _ (by simp)).trans h.c2
  · exact World.cell?_setCell_same _ _ _ h.c4
  · exact (World.cell?_setCell_other _ _ _ _ (by simp)).trans h1
  · exact (World.cell?_setCell_other _ _ _ _ (by simp)).trans k1
set_option maxRecDepth 100000 in
set_option maxHeartbeats 2000000 in
theorem run_set (d : DS) {a : Nat} (ha : a < 16) : Ln ([115, 101, 116] ++ 32 :: setT a) d [111, 107] ⟨d.s, d.xs, d.t, d.ys, (a : Int)⟩ := by
  intro w0 w D hv hD hb hd
  have HC := hid (cut_app 32 [115, 101, 116] (setT a) (by decide))
  have hln := setT_len ⟨a, ha⟩
  simp only at hln
  have hll : ([115, 101, 116] ++ 32 :: setT a : List UInt8).length ≤ 2000000 := by simp; omega
  have hz0 := hb.size
  obtain ⟨T, hT⟩ : ∃ T, setT a = T := ⟨_, rfl⟩
  have HTT := hid hT
  rw [hT] at HC hll ⊢
  clear hT hln
  obtain ⟨L, hL⟩ : ∃ L, ([115, 101, 116] ++ 32 :: T : List UInt8) = L := ⟨_, rfl⟩
  rw [hL] at HC hll ⊢
  clear hL
  go_enter Tryz.func58, Tryz.ntmps58
  go_wp2_with fail
  refine (cut_any L 32 _ _ _ HC.out hll _ (hv.below hb)).mono ?_; rw [show bs [115, 101, 116] = ByteArray.mk #[115, 101, 116] from rfl]; rintro e w1 ⟨rfl, hb1⟩
  have hd1 := hd.below hb1
  have hs1 := Span.of_below (lo := D) (hi := D + 1) hb1
  clear hb1 hd
  go_wp2_with fail
  rw [← HTT.out]
  refine (ParseSet_any a _ ha).mono ?_; rintro e w2 ⟨rfl, hb2⟩
  have hd2 := hd1.below hb2
  have hs2 := hs1.trans (Span.of_below hb2)
  have h4 := hd2.c4
  have g4 := hd2.f4
  have hd3 := hd2.putA (a : Int)
  have hs3 : Span D (D + 1) w (w2.setCell ⟨D, 4, none⟩ (.int .i64 (a : Int))) := hs2.trans (Span.set (by show D ≤ D ∧ D < D + 1; omega))
  clear hb2 hd1 hs1 hs2
  go_wp2
  go_ret
  exact ⟨rfl, hd3, hs3⟩
set_option maxRecDepth 100000 in
set_option maxHeartbeats 4000000 in
theorem pl_cut (d : DS) (a : Nat) (hda : d.a = (a : Int)) (hm : massOk d.s d.xs = true) (ha : a < nsets d.s) : Pl [99, 117, 116] d (tellM (cutM d.s d.xs a)) (leftM d (cutM d.s d.xs a)) := by
  intro w0 w D hv hD hb hd
  rw [show bs [99, 117, 116] = ByteArray.mk #[99, 117, 116] from rfl]
  obtain ⟨r, hr⟩ : ∃ r, cutM d.s d.xs a = r := ⟨_, rfl⟩
  rw [hr]
  have HR := hid hr
  obtain ⟨am, nm, cm, h1, hrm, hnm⟩ := hd.m
  have h0 := hd.c0
  have h4 := hd.c4
  rw [hda] at h4
  have hlt := hd.lt
  have hz0 := hb.size
  have HP : Hid (∀ w', Below w.heap.size w w' → Calls Tryz.prog 151 #[.agg #[.int .i64 d.s, .slice am nm cm], .int .i64 (a : Int)] w' fun e w'' => RetM r w'.heap.size e w'' ∧ Below w'.heap.size w' w'') := fun w' h => by rw [← HR.out]; exact CutMass_of d.s a _ _ _ d.xs w' (hrm.view.below h) hm ha
  clear hr hda hm ha
  go_enter Tryz.func99, Tryz.ntmps99
  go_wp2_with fail
  go_region_with (first | (go_at_call 151; refine (HP.out _ (by (repeat (first | exact Below.refl _ _ | assumption | refine Below.alloc ?_ (by first | omega | (simp <;> omega)) _ | refine Below.setCell ?_ (by first | omega | (simp <;> omega)) _ | refine Below.drew ?_ | refine below_drewN ?_)))).mono ?_; rintro e w1 ⟨⟨v, rfl, hr1⟩, hb1⟩; obtain ⟨a, n, c, rfl, hi⟩ := hr1.ints; have hbb : Below w.heap.size w w1 := Below.trans (by (repeat (first | exact Below.refl _ _ | assumption | refine Below.alloc ?_ (by first | omega | (simp <;> omega)) _ | refine Below.setCell ?_ (by first | omega | (simp <;> omega)) _ | refine Below.drew ?_ | refine below_drewN ?_))) (hb1.mono (Nat.le_refl _)); have k0 := keep hbb h0; have k1 := keep hbb h1; have k4 := keep hbb h4; have hne : (Value.slice a n c).ownBlock ≠ some D := fun e => by have h9 := (hr1.block _ e).1; have h8 : w.heap.size ≤ D := h9; omega) | (go_at_call 146; refine (become_any w0 w1 D d r a n c hv hD (hb.trans (hbb.mono hz0)) (hd.below hbb) (hr1.mono (Nat.zero_le _)) hne).mono ?_; rintro e w2 ⟨rfl, hd2, hs2⟩))
  all_goals
    have hs3 := (Span.of_below (lo := D) (hi := D + 1) hbb).trans hs2
    clear hs2 hb1
    go_wp2
    go_ret
    exact ⟨rfl, hd2, hs3⟩
set_option maxRecDepth 100000 in
set_option maxHeartbeats 4000000 in
theorem pl_learn (d : DS) (a : Nat) (hda : d.a = (a : Int)) (hm : massOk d.s d.xs = true) (ha : a < nsets d.s) : Pl [108, 101, 97, 114, 110] d (tellM (learnM d.s d.xs (a : Int))) (leftM d (learnM d.s d.xs (a : Int))) := by
  intro w0 w D hv hD hb hd
  rw [show bs [108, 101, 97, 114, 110] = ByteArray.mk #[108, 101, 97, 114, 110] from rfl]
  obtain ⟨r, hr⟩ : ∃ r, learnM d.s d.xs (a : Int) = r := ⟨_, rfl⟩
  rw [hr]
  have HR := hid hr
  obtain ⟨am, nm, cm, h1, hrm, hnm⟩ := hd.m
  have h0 := hd.c0
  have h4 := hd.c4
  rw [hda] at h4
  have hlt := hd.lt
  have hz0 := hb.size
  have HP : Hid (∀ w', Below w.heap.size w w' → Calls Tryz.prog 152 #[.agg #[.int .i64 d.s, .slice am nm cm], .int .i64 (a : Int)] w' fun e w'' => RetM r w'.heap.size e w'' ∧ Below w'.heap.size w' w'') := fun w' h => by rw [← HR.out]; exact LearnMass_any d.s a _ _ _ d.xs w' (hrm.view.below h)
  clear hr hda hm ha
  go_enter Tryz.func99, Tryz.ntmps99
  go_wp2_with fail
  go_region_with (first | (go_at_call 152; refine (HP.out _ (by (repeat (first | exact Below.refl _ _ | assumption | refine Below.alloc ?_ (by first | omega | (simp <;> omega)) _ | refine Below.setCell ?_ (by first | omega | (simp <;> omega)) _ | refine Below.drew ?_ | refine below_drewN ?_)))).mono ?_; rintro e w1 ⟨⟨v, rfl, hr1⟩, hb1⟩; obtain ⟨a, n, c, rfl, hi⟩ := hr1.ints; have hbb : Below w.heap.size w w1 := Below.trans (by (repeat (first | exact Below.refl _ _ | assumption | refine Below.alloc ?_ (by first | omega | (simp <;> omega)) _ | refine Below.setCell ?_ (by first | omega | (simp <;> omega)) _ | refine Below.drew ?_ | refine below_drewN ?_))) (hb1.mono (Nat.le_refl _)); have k0 := keep hbb h0; have k1 := keep hbb h1; have k4 := keep hbb h4; have hne : (Value.slice a n c).ownBlock ≠ some D := fun e => by have h9 := (hr1.block _ e).1; have h8 : w.heap.size ≤ D := h9; omega) | (go_at_call 146; refine (become_any w0 w1 D d r a n c hv hD (hb.trans (hbb.mono hz0)) (hd.below hbb) (hr1.mono (Nat.zero_le _)) hne).mono ?_; rintro e w2 ⟨rfl, hd2, hs2⟩))
  all_goals
    have hs3 := (Span.of_below (lo := D) (hi := D + 1) hbb).trans hs2
    clear hs2 hb1
    go_wp2
    go_ret
    exact ⟨rfl, hd2, hs3⟩
set_option maxRecDepth 100000 in
set_option maxHeartbeats 4000000 in
theorem pl_focus (d : DS) (a : Nat) (hda : d.a = (a : Int)) (hm : massOk d.s d.xs = true) (ha : a < nsets d.s) : Pl [102, 111, 99, 117, 115] d (tellM (focusM d.s d.xs a)) (leftM d (focusM d.s d.xs a)) := by
  intro w0 w D hv hD hb hd
  rw [show bs [102, 111, 99, 117, 115] = ByteArray.mk #[102, 111, 99, 117, 115] from rfl]
  obtain ⟨r, hr⟩ : ∃ r, focusM d.s d.xs a = r := ⟨_, rfl⟩
  rw [hr]
  have HR := hid hr
  obtain ⟨am, nm, cm, h1, hrm, hnm⟩ := hd.m
  have h0 := hd.c0
  have h4 := hd.c4
  rw [hda] at h4
  have hlt := hd.lt
  have hz0 := hb.size
  have HP : Hid (∀ w', Below w.heap.size w w' → Calls Tryz.prog 153 #[.agg #[.int .i64 d.s, .slice am nm cm], .int .i64 (a : Int)] w' fun e w'' => RetM r w'.heap.size e w'' ∧ Below w'.heap.size w' w'') := fun w' h => by rw [← HR.out]; exact FocusMass_of d.s a _ _ _ d.xs w' (hrm.view.below h) hm ha
  clear hr hda hm ha
  go_enter Tryz.func99, Tryz.ntmps99
  go_wp2_with fail
  go_region_with (first | (go_at_call 153; refine (HP.out _ (by (repeat (first | exact Below.refl _ _ | assumption | refine Below.alloc ?_ (by first | omega | (simp <;> omega)) _ | refine Below.setCell ?_ (by first | omega | (simp <;> omega)) _ | refine Below.drew ?_ | refine below_drewN ?_)))).mono ?_; rintro e w1 ⟨⟨v, rfl, hr1⟩, hb1⟩; obtain ⟨a, n, c, rfl, hi⟩ := hr1.ints; have hbb : Below w.heap.size w w1 := Below.trans (by (repeat (first | exact Below.refl _ _ | assumption | refine Below.alloc ?_ (by first | omega | (simp <;> omega)) _ | refine Below.setCell ?_ (by first | omega | (simp <;> omega)) _ | refine Below.drew ?_ | refine below_drewN ?_))) (hb1.mono (Nat.le_refl _)); have k0 := keep hbb h0; have k1 := keep hbb h1; have k4 := keep hbb h4; have hne : (Value.slice a n c).ownBlock ≠ some D := fun e => by have h9 := (hr1.block _ e).1; have h8 : w.heap.size ≤ D := h9; omega) | (go_at_call 146; refine (become_any w0 w1 D d r a n c hv hD (hb.trans (hbb.mono hz0)) (hd.below hbb) (hr1.mono (Nat.zero_le _)) hne).mono ?_; rintro e w2 ⟨rfl, hd2, hs2⟩))
  all_goals
    have hs3 := (Span.of_below (lo := D) (hi := D + 1) hbb).trans hs2
    clear hs2 hb1
    go_wp2
    go_ret
    exact ⟨rfl, hd2, hs3⟩
end Go.Proofs.YtefmlbahmakboaaGreatDoor
