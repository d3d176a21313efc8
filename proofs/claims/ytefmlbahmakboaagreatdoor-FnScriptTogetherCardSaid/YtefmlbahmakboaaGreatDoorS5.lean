/- Masses moved along orders: isOrder, l1Moves, MoveMass, SwapPairs. -/
import Derived.Test.YtefmlbahmakboaaGreatDoorS4
set_option linter.unusedSimpArgs false
set_option linter.unusedVariables false
namespace Go.Proofs.YtefmlbahmakboaaGreatDoor
open Go.RowKit
theorem run_make_ints (w : World) (n : Nat) (hn : n ≤ 1000000000) : ∃ w', Sem.run Tryz.prog (Instr.makeSlice 23 (.int .i64 (n : Int)) (.int .i64 (n : Int))) w = .ok (.slice (some ⟨w.heap.size, 0, none⟩) n n) w' ∧
    Row w' w.heap.size (.slice (some ⟨w.heap.size, 0, none⟩) n n) (List.replicate n 0) ∧ Below w.heap.size w w' ∧ w.heap.size < w'.heap.size := by
  obtain ⟨i0, hi, hz0, hz1, hz2⟩ := info_parts info_int
  obtain ⟨w', hrun, r1, r2⟩ := run_make_full (P := Tryz.prog) w w.heap.size 23 3 i0 (.int .i64 0) 1 Tryz.underlying23 hi hz0 hz1 .i64 .i64 n (by rw [hz2]; omega) (by unfold maxLen; omega) (Nat.le_refl _)
  refine ⟨w', hrun, ?_, ⟨r2.os, r2.tape, r2.output, r2.size, fun k hk => r2.block k hk (by simp)⟩, (World.ownsRow.lt r1 _ rfl).2⟩
  have e : (madeCells (Value.int IntKind.i64 0).cells (n * 1)).toList = (List.replicate n (0 : Int)).map (Value.int .i64) := by
    simp only [madeCells, Value.cells]
    apply List.ext_getElem
    · simp
    · intro i h1 h2; simp [Nat.mod_one]
  simp only [Row, List.length_replicate]
  rw [← e]; exact r1
theorem upon_make {w : World} {X : Result Value → Prop} (n : Nat) (hn : n ≤ 1000000000) (h : ∀ w', Row w' w.heap.size (.slice (some ⟨w.heap.size, 0, none⟩) n n) (List.replicate n 0) → Below w.heap.size w w' → w.heap.size < w'.heap.size → X (.ok (.slice (some ⟨w.heap.size, 0, none⟩) n n) w')) :
    X (Sem.run Tryz.prog (Instr.makeSlice 23 (.int .i64 (n : Int)) (.int .i64 (n : Int))) w) := by
  obtain ⟨w2, hrun, hrow, hb2, hz2⟩ := run_make_ints w n hn
  rw [hrun]; exact h w2 hrow hb2 hz2
/-- a mass's box b and its parts' block g were just made -/
structure Made (w w' : World) (b g : Nat) (s : Int) (n : Nat) : Prop where
  row : Row w' w.heap.size (.slice (some ⟨g, 0, none⟩) n n) (List.replicate n 0)
  c0 : w'.cell? ⟨b, 0, none⟩ = some (.int .i64 s)
  c1 : w'.cell? ⟨b, 1, none⟩ = some (.slice (some ⟨g, 0, none⟩) n n)
  ne : b ≠ g
  lo : w.heap.size ≤ b
  below : Below w.heap.size w w'
theorem made_after {w w2 : World} {s : Int} {n g : Nat} (t : TypeId) (hg : g = w.heap.size) (hrow : Row w2 w.drew.heap.size (.slice (some ⟨w.drew.heap.size, 0, none⟩) n n) (List.replicate n 0)) (hb : Below w.drew.heap.size w.drew w2) (hz : w.drew.heap.size < w2.heap.size) :
    Made w (w2.alloc (.cells #[.int .i64 s, .slice (some ⟨g, 0, none⟩) n n] t)) w2.heap.size g s n := by
  subst hg
  refine ⟨hrow.below (below_alloc _ _), by simp, by simp, ?_, Nat.le_of_lt hz, (chain (drew_below w) hb).alloc (Nat.le_of_lt hz) _⟩
  have : w.heap.size < w2.heap.size := hz
  omega
theorem made_before {w w2 : World} {s : Int} {n g : Nat} (hg : g = w.heap.size + 1) {W : World} (hW : W.heap.size = w.heap.size + 1) (hWB : Below w.heap.size w W) (hrow : Row w2 W.heap.size (.slice (some ⟨W.heap.size, 0, none⟩) n n) (List.replicate n 0)) (hb : Below W.heap.size W w2)
    (k0 : ∃ v, w2.cell? ⟨w.heap.size, 0, none⟩ = some v) (k1 : ∃ v, w2.cell? ⟨w.heap.size, 1, none⟩ = some v) :
    Made w ((w2.setCell ⟨w.heap.size, 0, none⟩ (.int .i64 s)).setCell ⟨w.heap.size, 1, none⟩ (.slice (some ⟨g, 0, none⟩) n n)) w.heap.size g s n := by
  subst hg
  obtain ⟨v0, k0⟩ := k0
  obtain ⟨v1, k1⟩ := k1
  rw [hW] at hrow
  have c0 : ((w2.setCell ⟨w.heap.size, 0, none⟩ (.int .i64 s)).setCell ⟨w.heap.size, 1, none⟩ (.slice (some ⟨w.heap.size + 1, 0, none⟩) n n)).cell? ⟨w.heap.size, 0, none⟩ = some (.int .i64 s) := by simp [go_sem, k0]
  have c1 : ((w2.setCell ⟨w.heap.size, 0, none⟩ (.int .i64 s)).setCell ⟨w.heap.size, 1, none⟩ (.slice (some ⟨w.heap.size + 1, 0, none⟩) n n)).cell? ⟨w.heap.size, 1, none⟩ = some (.slice (some ⟨w.heap.size + 1, 0, none⟩) n n) := by simp [go_sem, k0, k1]
  exact ⟨((hrow.setBelow (Nat.lt_succ_self _) _).setBelow (Nat.lt_succ_self _) _).mono (by omega), c0, c1, by omega, Nat.le_refl _, ((hWB.trans (hb.mono (by omega))).setCell (Nat.le_refl _) _).setCell (Nat.le_refl _) _⟩
theorem region_join_made {id : Nat} {ops : Array Oper} {a : Act} {w : World} {Q : Exit → Act → World → Prop} (F : Act → Nat → Nat → Act) (s : Int) (n : Nat)
    (h : (Code.region id ops true).wp Tryz.prog (fun x a' w' => match x with | .normal => ∃ b g, a' = F a b g ∧ Made w w' b g s n | _ => False) a w)
    (hK : ∀ b g w', Made w w' b g s n → Q .normal (F a b g) w') : (Code.region id ops true).wp Tryz.prog Q a w :=
  Code.wp_mono (fun e a' w' h => by
    cases e with
    | normal => obtain ⟨b, g, rfl, hb⟩ := h; exact hK b g w' hb
    | _ => exact h.elim) h
set_option maxHeartbeats 400000 in
theorem isOrder_any (s : Int) (ao : Option Addr) (n c : Nat) (xs : List Int) (w : World) (hx : IntsAt w ao n xs) (hs : okSize s = true) :
    Calls Tryz.prog 222 #[.int .i64 s, .slice ao n c] w fun e w' => e = .returned (.bool (ordI s xs)) ∧ w = w' := by
  have hcap := hx.cap
  have HL := hid hx.len
  have hs0 : 1 ≤ s ∧ s ≤ 4 := by rcases okSize_iff.1 hs with h | h | h | h <;> omega
  have hsn := nsets_le hs
  cases ha : allN (fun k => inB 0 (s - 1) (nth xs k)) xs.length
  · obtain ⟨k0, hk0, hbad⟩ := allN_ex ha
    have HE : Hid (ordI s xs = false) := by show ordI s xs = false; unfold ordI; rw [ha]; rfl
    rw [HE.out]
    rw [HL.out] at hk0
    have HB := hid hbad
    clear hbad ha
    go_enter Tryz.func222, Tryz.ntmps222
    go_wp2
    go_loop [5, 7, 10] (fun q _ i => ∃ k : Nat, k ≤ k0 ∧ i = .int .i64 k ∧ q = .int .i64 (seenTo xs k) ∧ seenTo xs k < 2 ^ 4) (fun _ _ i => n - (intOf i).toNat)
    case atStart => exact ⟨0, by omega, rfl, rfl, Nat.two_pow_pos 4⟩
    case round =>
      obtain ⟨k, hk, rfl, rfl, hq⟩ := hrel
      have hlt : k < n := by omega
      obtain ⟨b, off, rfl, hbs, _, hck⟩ := hx.at (Below.refl _ _) hlt
      cases hxb : inB 0 (s - 1) (nth xs k)
      · rcases inB_false.1 hxb with h | h
        · go_wp2
          go_ret
          exact ⟨rfl, rfl⟩
        · have h' : s ≤ nth xs k := by omega
          have h0 : ¬ nth xs k < 0 := by omega
          go_wp2
          go_ret
          exact ⟨rfl, rfl⟩
      · have hxb' := inB_iff.1 hxb
        have h1 : 0 ≤ nth xs k := by omega
        have h2 : nth xs k < s := by omega
        have hne : k ≠ k0 := by rintro rfl; have := HB.out; rw [hxb] at this; cases this
        obtain ⟨y, hy⟩ : ∃ y : Nat, nth xs k = (y : Int) := ⟨(nth xs k).toNat, by omega⟩
        have HS : Hid (seenTo xs (k + 1) = seenTo xs k ||| 2 ^ y) := by
          have e : (nth xs k).toNat = y := by omega
          show seenTo xs k ||| 2 ^ (nth xs k).toNat = _; rw [e]
        have hsl := shl_nat y (by omega)
        have HO := hid (or_pow (seenTo xs k) y (by omega) (by omega))
        have HQ := hid (Nat.or_lt_two_pow hq (Nat.pow_lt_pow_right (by decide) (by omega : y < 4)))
        replace hq := hid hq
        rw [hy] at hck h1 h2
        clear hxb hxb' hy
        go_wp2
        go_round
        case rel => first | exact ⟨k + 1, by omega, by go_num, by rw [HS.out, HO.out], by rw [HS.out]; exact HQ.out⟩ | exact ⟨_, ⟨k + 1, by omega, by go_num, by rw [HS.out, HO.out], by rw [HS.out]; exact HQ.out⟩, rfl⟩ | exact ⟨_, _, ⟨k + 1, by omega, by go_num, by rw [HS.out, HO.out], by rw [HS.out]; exact HQ.out⟩, rfl, rfl⟩ | exact ⟨_, _, _, ⟨k + 1, by omega, by go_num, by rw [HS.out, HO.out], by rw [HS.out]; exact HQ.out⟩, rfl, rfl, rfl⟩ | exact ⟨_, _, _, _, ⟨k + 1, by omega, by go_num, by rw [HS.out, HO.out], by rw [HS.out]; exact HQ.out⟩, rfl, rfl, rfl, rfl⟩ | exact ⟨_, _, _, _, _, ⟨k + 1, by omega, by go_num, by rw [HS.out, HO.out], by rw [HS.out]; exact HQ.out⟩, rfl, rfl, rfl, rfl, rfl⟩
        case measure => simp [intOf]; omega
  · have HA := hid ((allN_iff _ _).1 ha)
    have HE : Hid (ordI s xs = (((n : Int) == s) && ((seenTo xs n : Int) == (nsets s : Int) - 1))) := by show ordI s xs = _; unfold ordI; rw [ha, Bool.true_and, HL.out]
    rw [HE.out]
    clear ha
    go_enter Tryz.func222, Tryz.ntmps222
    go_wp2
    go_loop [5, 7, 10] (fun q _ i => ∃ k : Nat, k ≤ n ∧ i = .int .i64 k ∧ q = .int .i64 (seenTo xs k) ∧ seenTo xs k < 2 ^ 4) (fun _ _ i => n - (intOf i).toNat)
    case atStart => exact ⟨0, by omega, rfl, rfl, Nat.two_pow_pos 4⟩
    case round =>
      obtain ⟨k, hk, rfl, rfl, hq⟩ := hrel
      by_cases hlt : k < n
      · obtain ⟨b, off, rfl, hbs, _, hck⟩ := hx.at (Below.refl _ _) hlt
        have hxb := HA.out k (by rw [HL.out]; exact hlt)
        have hxb' := inB_iff.1 hxb
        have h1 : 0 ≤ nth xs k := by omega
        have h2 : nth xs k < s := by omega
        obtain ⟨y, hy⟩ : ∃ y : Nat, nth xs k = (y : Int) := ⟨(nth xs k).toNat, by omega⟩
        have HS : Hid (seenTo xs (k + 1) = seenTo xs k ||| 2 ^ y) := by
          have e : (nth xs k).toNat = y := by omega
          show seenTo xs k ||| 2 ^ (nth xs k).toNat = _; rw [e]
        have hsl := shl_nat y (by omega)
        have HO := hid (or_pow (seenTo xs k) y (by omega) (by omega))
        have HQ := hid (Nat.or_lt_two_pow hq (Nat.pow_lt_pow_right (by decide) (by omega : y < 4)))
        replace hq := hid hq
        rw [hy] at hck h1 h2
        clear hxb hxb' hy
        go_wp2
        go_round
        case rel => first | exact ⟨k + 1, by omega, by go_num, by rw [HS.out, HO.out], by rw [HS.out]; exact HQ.out⟩ | exact ⟨_, ⟨k + 1, by omega, by go_num, by rw [HS.out, HO.out], by rw [HS.out]; exact HQ.out⟩, rfl⟩ | exact ⟨_, _, ⟨k + 1, by omega, by go_num, by rw [HS.out, HO.out], by rw [HS.out]; exact HQ.out⟩, rfl, rfl⟩ | exact ⟨_, _, _, ⟨k + 1, by omega, by go_num, by rw [HS.out, HO.out], by rw [HS.out]; exact HQ.out⟩, rfl, rfl, rfl⟩ | exact ⟨_, _, _, _, ⟨k + 1, by omega, by go_num, by rw [HS.out, HO.out], by rw [HS.out]; exact HQ.out⟩, rfl, rfl, rfl, rfl⟩ | exact ⟨_, _, _, _, _, ⟨k + 1, by omega, by go_num, by rw [HS.out, HO.out], by rw [HS.out]; exact HQ.out⟩, rfl, rfl, rfl, rfl, rfl⟩
        case measure => simp [intOf]; omega
      · have hkn : k = n := by omega
        have HK := hid hkn
        clear hkn
        cases he : ((n : Int) == s)
        · have he' : ¬ (n : Int) = s := by simpa using he
          go_wp2_with (first | (go_at_call 198; refine (fullSet_any _ _ hs).mono ?_; rintro e w' ⟨rfl, rfl⟩))
          go_ret
          exact ⟨ret_bool (by simp), rfl⟩
        · have he' : (n : Int) = s := by simpa using he
          go_wp2_with (first | (go_at_call 198; refine (fullSet_any _ _ hs).mono ?_; rintro e w' ⟨rfl, rfl⟩))
          all_goals go_ret
          have hks : (k : Int) = s := by rw [HK.out]; exact he'
          all_goals exact ⟨ret_bool (by rw [← HK.out]; simp [hks]), rfl⟩
theorem moveClos_call (vs : Array Value) (w' : World) : Sem.run Tryz.prog (callFunc 223 vs) w' = .ok (.enter 223 vs) w' := by
  have h1 : (Tryz.f223.name == "runtime.NumGoroutine") = false := by kernel_rfl
  have h2 : Tryz.f223.body.isNone = false := by kernel_rfl
  have h1' : ¬ Tryz.f223.name = "runtime.NumGoroutine" := by simpa using h1
  have h2' : ¬ Tryz.f223.body = none := by intro e; rw [e] at h2; simp at h2
  simp only [callFunc, Sem.run_bind, run_program, Result.andThen_ok, Tryz.func223, beq_iff_eq, Option.isNone_iff_eq_none, if_neg h1', if_neg h2', Sem.run_pure]
theorem ordS_facts {s : Int} {to : List Int} (hs : okSize s = true) (h : ordS s to = true) : (to.length : Int) = s ∧ ∀ k, k < to.length → 0 ≤ nth to k ∧ nth to k ≤ s - 1 := by
  simp only [ordS, Bool.and_eq_true, beq_iff_eq] at h
  refine ⟨h.2, fun k hk => ?_⟩
  have := (allN_iff _ _).1 h.1 k hk
  simp only [ordNew, Bool.and_eq_true] at this
  exact inB_iff.1 this.1
set_option maxHeartbeats 1000000 in
theorem MoveMass_any (s : Int) (ao bo : Option Addr) (n c m d : Nat) (xs to : List Int) (w : World) (hx : IntsAt w ao n xs) (hy : IntsAt w bo m to) :
    Calls Tryz.prog 173 #[.agg #[.int .i64 s, .slice ao n c], .slice bo m d] w fun e w' => RetM (moveM s xs to) w.heap.size e w' ∧ Below w.heap.size w w' := by
  have hxx := hx.below (w' := ((w.alloc (.cells #[.int .i64 s, .slice ao n c] 25)).alloc (.cells #[.slice bo m d] 23)).alloc (.cells #[.int .i64 0, .slice none 0 0] 25)) (((below_alloc w _).alloc (by simp) _).alloc (by simp <;> omega) _)
  cases hm : massOk s xs
  · have HR : Hid (moveM s xs to = MR.no) := by simp [Hid, moveM, hm]
    rw [HR.out]
    go_enter Tryz.func173, Tryz.ntmps173
    go_wp2_with fail
    refine (isMass_any _ _ _ _ _ _ hxx).mono ?_; rintro e w1 ⟨rfl, hb1⟩
    obtain ⟨h10, h11, f20, f21⟩ := boxG (w.heap.size + 1 + 1) hb1 (by simp)
    have hB1 : Below w.heap.size w w1 := (((below_alloc w _).alloc (by simp) _).alloc (by simp <;> omega) _).trans (hb1.mono (by simp <;> omega))
    clear hb1
    go_wp2
    refine bodyPost_ret (v := .tuple #[.agg #[.int .i64 0, .slice none 0 0], .bool false]) (by simp [results, Tryz.results173, go_sem, h10, h11]) rfl ⟨?_, ?_⟩
    · exact RetM.no _ _
    · (repeat (first | exact Below.refl _ _ | assumption | refine Below.alloc ?_ (by simp <;> omega) _ | refine Below.setCell ?_ (by simp <;> omega) _ | refine Below.drew ?_ | refine below_drewN ?_))
  · obtain ⟨hsz, hlen, h16, hbd, _, _, _⟩ := massOk_facts hm
    have HBD := hid hbd; clear hbd
    have hmm := hid hm
    cases ho : ordS s to
    · have HR : Hid (moveM s xs to = MR.no) := by show moveM s xs to = MR.no; unfold moveM; rw [ho]; simp
      rw [HR.out]
      go_enter Tryz.func173, Tryz.ntmps173
      go_wp2_with fail
      refine (isMass_any _ _ _ _ _ _ hxx).mono ?_; rintro e w1 ⟨rfl, hb1⟩
      obtain ⟨h10, h11, f20, f21⟩ := boxG (w.heap.size + 1 + 1) hb1 (by simp)
      have hB1 : Below w.heap.size w w1 := (((below_alloc w _).alloc (by simp) _).alloc (by simp <;> omega) _).trans (hb1.mono (by simp <;> omega))
      have hq := keep hb1 (a := ⟨w.heap.size + 1, 0, none⟩) (v := .slice bo m d) (by simp)
      have hp0 := keep hb1 (a := ⟨w.heap.size, 0, none⟩) (v := .int .i64 s) (by simp)
      have hy1 := hy.below hB1
      clear hb1
      go_wp2_with (first | (go_at_call 222; refine (isOrder_any _ _ _ _ _ _ hy1 hsz).mono ?_; rw [(ord_facts hsz).1, ho]; rintro e w' ⟨rfl, rfl⟩))
      refine bodyPost_ret (v := .tuple #[.agg #[.int .i64 0, .slice none 0 0], .bool false]) (by simp [results, Tryz.results173, go_sem, h10, h11]) rfl ⟨?_, ?_⟩
      · exact RetM.no _ _
      · (repeat (first | exact Below.refl _ _ | assumption | refine Below.alloc ?_ (by simp <;> omega) _ | refine Below.setCell ?_ (by simp <;> omega) _ | refine Below.drew ?_ | refine below_drewN ?_))
    · have HR : Hid (moveM s xs to = mkMass s (mapTo (fun a => imgTo a to m) xs (nsets s) n)) := by
        show moveM s xs to = _
        rw [← moveM_eq hm ho, hy.len, hx.len]
      rw [HR.out]
      obtain ⟨htl, htb⟩ := ordS_facts hsz ho
      have hs4 : s ≤ 4 ∧ 1 ≤ s := by
        have h1 := okSize_iff.1 hsz; omega
      have hm4 : m ≤ 4 := by have := hy.len; omega
      have hml := hid hy.len
      have hnl := hid hx.len
      have HTB : Hid (∀ k, k < m → 0 ≤ nth to k ∧ nth to k ≤ 28) := fun k hk => by have := htb k (by rw [hml.out]; exact hk); omega
      have HT : Hid (∀ a, imgTo a to m < nsets s) := fun a => by rw [← hml.out]; exact imgTo_lt_nsets hsz ho a
      clear htb htl
      go_enter Tryz.func173, Tryz.ntmps173
      go_wp2_with fail
      refine (isMass_any _ _ _ _ _ _ hxx).mono ?_; rintro e w1 ⟨rfl, hb1⟩
      obtain ⟨h10, h11, f20, f21⟩ := boxG (w.heap.size + 1 + 1) hb1 (by simp)
      have hB1 : Below w.heap.size w w1 := (((below_alloc w _).alloc (by simp) _).alloc (by simp <;> omega) _).trans (hb1.mono (by simp <;> omega))
      have hq := keep hb1 (a := ⟨w.heap.size + 1, 0, none⟩) (v := .slice bo m d) (by simp)
      have hp0 := keep hb1 (a := ⟨w.heap.size, 0, none⟩) (v := .int .i64 s) (by simp)
      have hp1 := keep hb1 (a := ⟨w.heap.size, 1, none⟩) (v := .slice ao n c) (by simp)
      have hy1 := hy.below hB1
      have hx1 := hx.below hB1
      have hz1 : w.heap.size + 1 + 1 < w1.heap.size := by have := World.block_lt_of_cell? w1 _ h10; simpa using this
      clear hb1
      go_wp2_with (first | (go_at_call 222; refine (isOrder_any _ _ _ _ _ _ hy1 hsz).mono ?_; rw [(ord_facts hsz).1, ho]; rintro e w' ⟨rfl, rfl⟩) | (go_at_call 184; fail))
      refine (mapped_any s s ao n c xs 223 #[.pointer (some ⟨w.heap.size + 1, 0, none⟩)] (fun a => imgTo a to m) w1 hx1 (by rw [← hnl.out]; exact h16) hsz moveClos_call (fun k hk => HBD.out k (by rw [hnl.out]; exact hk)) (fun a _ => HT.out a) (fun a w' ha hb => ?_)).mono ?_
      · exact (moveClos_any a _ _ _ _ _ w' (by have := hnl.out; omega) (keep hb hq) (hy1.below hb) (by omega) HTB.out).mono fun e w'' ⟨he, hw⟩ => ⟨he, below_of_eq hw⟩
      rintro e w7 ⟨⟨v, rfl, hr7⟩, hb7⟩
      obtain ⟨ao7, n7, c7, rfl, hi7⟩ := hr7.ints
      replace f20 := keepF hb7 h10 f20
      replace f21 := keepF hb7 h11 f21
      replace h10 := keep hb7 h10
      replace h11 := keep hb7 h11
      have hB7 := chain hB1 hb7
      go_wp2
      refine bodyPost_ret (by simp [results, Tryz.results173, go_sem, h10, h11]) rfl ⟨⟨_, rfl, ((hr7.setBelow (by simp; omega) _).setBelow (by simp; omega) _).mono (by omega)⟩, ?_⟩
      (repeat (first | exact Below.refl _ _ | assumption | refine Below.alloc ?_ (by simp <;> omega) _ | refine Below.setCell ?_ (by simp <;> omega) _ | refine Below.drew ?_ | refine below_drewN ?_))
end Go.Proofs.YtefmlbahmakboaaGreatDoor
