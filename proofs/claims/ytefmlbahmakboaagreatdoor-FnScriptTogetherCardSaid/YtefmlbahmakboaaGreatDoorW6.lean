/- Gains and acts: isNormal, areGains, areActs, ActsValid. Gains and acts: areGains, areActs, ActsValid; spec: l10Gains, ActsValid. -/
import Derived.Test.YtefmlbahmakboaaGreatDoorW3
set_option linter.unusedSimpArgs false
set_option linter.unusedVariables false
namespace Go.Proofs.YtefmlbahmakboaaGreatDoor
open Go.RowKit
def nthL (xss : List (List Int)) (k : Nat) : List Int := xss.getD k []
/-- a slice of slices that reads as lists of integers -/
structure RowsAt (w : World) (ao : Option Addr) (n : Nat) (xss : List (List Int)) : Prop where
  len : xss.length = n
  cap : n ≤ 9223372036854775807
  cell : 0 < n → ∃ b off, ao = some ⟨b, off, none⟩ ∧ b < w.heap.size ∧ ∀ k, k < n → ∃ a' n' c', w.cell? ⟨b, off + k, none⟩ = some (.slice a' n' c') ∧ IntsAt w a' n' (nthL xss k)
theorem RowsAt.below {w w' : World} {ao n xss} (h : RowsAt w ao n xss) (hb : Below w.heap.size w w') : RowsAt w' ao n xss := by
  refine ⟨h.len, h.cap, fun hn => ?_⟩
  obtain ⟨b, off, rfl, hbs, hc⟩ := h.cell hn
  refine ⟨b, off, rfl, Nat.lt_of_lt_of_le hbs hb.size, fun k hk => ?_⟩
  obtain ⟨a', n', c', h1, h2⟩ := hc k hk
  exact ⟨a', n', c', (hb.cell (p := ⟨b, off + k, none⟩) hbs).trans h1, h2.below hb⟩
theorem RowsAt.at {w w' : World} {ao n xss} (h : RowsAt w ao n xss) (hb : Below w.heap.size w w') {k : Nat} (hk : k < n) :
    ∃ b off a' n' c', ao = some ⟨b, off, none⟩ ∧ b < w.heap.size ∧ b < w'.heap.size ∧ w'.cell? ⟨b, off + k, none⟩ = some (.slice a' n' c') ∧ IntsAt w' a' n' (nthL xss k) := by
  obtain ⟨b, off, e, hbs, hc⟩ := (h.below hb).cell (by omega)
  obtain ⟨b', off', e', hbs', _⟩ := h.cell (by omega)
  rw [e] at e'
  injection e' with e'
  injection e' with e1 e2
  subst e1 e2
  obtain ⟨a', n', c', h1, h2⟩ := hc k hk
  exact ⟨b, off, a', n', c', e, hbs', hbs, h1, h2⟩
def normalOk (s : Int) (xs : List Int) : Bool := massOk s xs && (nth xs 0 == 0)
def gainOk (xs : List Int) (k : Nat) : Bool := inB (-1000) 1000 (nth xs k)
def gainsOk (s : Int) (xs : List Int) : Bool := ((xs.length : Int) == s) && allN (gainOk xs) xs.length
def actsOk (s : Int) (xs : List Int) (acts : List (List Int)) : Bool := normalOk s xs && (inB 1 8 (acts.length : Int) && allN (fun k => gainsOk s (nthL acts k)) acts.length)
theorem isNormal_any (s : Int) (ao : Option Addr) (n c : Nat) (xs : List Int) (w : World) (hx : IntsAt w ao n xs) :
    Calls Tryz.prog 70 #[.agg #[.int .i64 s, .slice ao n c]] w fun e w' => e = .returned (.bool (normalOk s xs)) ∧ Below w.heap.size w w' := by
  cases hm : massOk s xs
  · go_enter Tryz.func70, Tryz.ntmps70
    go_wp2_with fail
    refine (isMass_any _ _ _ _ _ _ (hx.below (below_alloc w _))).mono ?_; rw [hm]; rintro e w1 ⟨rfl, hb1⟩
    obtain ⟨h10, h11, hB1⟩ := box2 hb1
    clear hb1
    go_wp2
    go_ret
    exact ⟨ret_bool (by simp [normalOk, hm]), hB1⟩
  · have hn : 0 < n := by
      have h1 : xs.length = nsets s := by simp only [massOk, Bool.and_eq_true, beq_iff_eq] at hm; exact hm.1.1.1.2
      have h2 : okSize s = true := by simp only [massOk, Bool.and_eq_true, beq_iff_eq] at hm; exact hm.1.1.1.1
      have := nsets_le h2; have := hx.len; omega
    obtain ⟨b, off, rfl, hbs, hc⟩ := hx.cell hn
    have hc0 := hc 0 hn
    rw [Nat.add_zero] at hc0
    have hcap := hx.cap
    have hn0 : (0 : Int) < (n : Int) := by omega
    go_enter Tryz.func70, Tryz.ntmps70
    go_wp2_with fail
    refine (isMass_any _ _ _ _ _ _ (hx.below (below_alloc w _))).mono ?_; rw [hm]; rintro e w1 ⟨rfl, hb1⟩
    obtain ⟨h10, h11, hB1⟩ := box2 hb1
    replace hc0 := keep hB1 hc0
    clear hb1
    go_wp2
    go_ret
    exact ⟨ret_bool (by simp [normalOk, hm]), hB1⟩
theorem IsNormal_any (s : Int) (ao : Option Addr) (n c : Nat) (xs : List Int) (w : World) (hx : IntsAt w ao n xs) :
    Calls Tryz.prog 114 #[.agg #[.int .i64 s, .slice ao n c]] w fun e w' => e = .returned (.bool (normalOk s xs)) ∧ Below w.heap.size w w' := by
  cases hm : massOk s xs
  · go_enter Tryz.func114, Tryz.ntmps114
    go_wp2_with fail
    refine (MassValid_any _ _ _ _ _ _ (hx.below (below_alloc w _))).mono ?_; rw [hm]; rintro e w1 ⟨rfl, hb1⟩
    obtain ⟨h10, h11, hB1⟩ := box2 hb1
    clear hb1
    go_wp2
    go_ret
    exact ⟨ret_bool (by simp [normalOk, hm]), hB1⟩
  · have hn : 0 < n := by
      have h1 : xs.length = nsets s := by simp only [massOk, Bool.and_eq_true, beq_iff_eq] at hm; exact hm.1.1.1.2
      have h2 : okSize s = true := by simp only [massOk, Bool.and_eq_true, beq_iff_eq] at hm; exact hm.1.1.1.1
      have := nsets_le h2; have := hx.len; omega
    obtain ⟨b, off, rfl, hbs, hc⟩ := hx.cell hn
    have hc0 := hc 0 hn
    rw [Nat.add_zero] at hc0
    have hcap := hx.cap
    have hn0 : (0 : Int) < (n : Int) := by omega
    go_enter Tryz.func114, Tryz.ntmps114
    go_wp2_with fail
    refine (MassValid_any _ _ _ _ _ _ (hx.below (below_alloc w _))).mono ?_; rw [hm]; rintro e w1 ⟨rfl, hb1⟩
    obtain ⟨h10, h11, hB1⟩ := box2 hb1
    replace hc0 := keep hB1 hc0
    clear hb1
    go_wp2
    go_ret
    exact ⟨ret_bool (by simp [normalOk, hm]), hB1⟩
theorem allN_step (p : Nat → Bool) (k : Nat) : allN p (k + 1) = (allN p k && p k) := rfl
set_option maxHeartbeats 400000 in
theorem IndexFuncI_any (ao : Option Addr) (n c : Nat) (vals : Nat → Value) (fid : FuncId) (caps : Array Value) (p : Nat → Bool) (w : World) (hcap : n ≤ 9223372036854775807)
    (hcf : ∀ (vs : Array Value) (w' : World), Sem.run Tryz.prog (callFunc fid vs) w' = .ok (.enter fid vs) w')
    (hel : ∀ k, k < n → ∃ b off, ao = some ⟨b, off, none⟩ ∧ b < w.heap.size ∧ w.cell? ⟨b, off + k, none⟩ = some (vals k))
    (hto : ∀ (k : Nat) (w' : World), k < n → Below w.heap.size w w' → Calls Tryz.prog fid (#[vals k] ++ caps) w' fun e w'' => e = .returned (.bool (p k)) ∧ Below w'.heap.size w' w'') :
    Calls Tryz.prog 180 #[.slice ao n c, .func (.func fid) #[] caps] w fun e w' => (∃ r : Int, e = .returned (.int .i64 r) ∧ decide (0 ≤ r) = !allN (fun k => !p k) n) ∧ Below w.heap.size w w' := by
  have HTO := hid hto; clear hto
  have HEL := hid hel; clear hel
  go_enter Tryz.func180, Tryz.ntmps180
  go_wp2
  go_loopw [5, 8] (fun _ i wr => ∃ k : Nat, k ≤ n ∧ i = .int .i64 k ∧ allN (fun k => !p k) k = true ∧ Below w.heap.size w wr) (fun _ i _ => n - (intOf i).toNat)
  case atStart => exact ⟨0, by omega, rfl, rfl, Below.refl _ _⟩
  case round =>
    obtain ⟨k, hk, rfl, ha, hB⟩ := hrel
    have HA := hid ha; clear ha
    by_cases hlt : k < n
    · obtain ⟨b, off, rfl, hbs, hck⟩ := HEL.out k hlt
      replace hck := (hB.cell (p := ⟨b, off + k, none⟩) hbs).trans hck
      have hbs' : b < wr.heap.size := Nat.lt_of_lt_of_le hbs hB.size
      go_wp2_with fail
      refine (HTO.out k wr hlt hB).mono ?_; rintro e w3 ⟨rfl, hb3⟩
      have hB3 := chain hB hb3
      cases hp : p k
      · go_wp2
        go_roundw
        case rel => first | exact ⟨k + 1, by omega, by go_num, by show (allN (fun k => !p k) k && !p k) = true; rw [HA.out, hp]; rfl, hB3⟩ | exact ⟨_, ⟨k + 1, by omega, by go_num, by show (allN (fun k => !p k) k && !p k) = true; rw [HA.out, hp]; rfl, hB3⟩, rfl⟩ | exact ⟨_, _, ⟨k + 1, by omega, by go_num, by show (allN (fun k => !p k) k && !p k) = true; rw [HA.out, hp]; rfl, hB3⟩, rfl, rfl⟩ | exact ⟨_, _, _, ⟨k + 1, by omega, by go_num, by show (allN (fun k => !p k) k && !p k) = true; rw [HA.out, hp]; rfl, hB3⟩, rfl, rfl, rfl⟩ | exact ⟨_, _, _, _, ⟨k + 1, by omega, by go_num, by show (allN (fun k => !p k) k && !p k) = true; rw [HA.out, hp]; rfl, hB3⟩, rfl, rfl, rfl, rfl⟩ | exact ⟨_, _, _, _, _, ⟨k + 1, by omega, by go_num, by show (allN (fun k => !p k) k && !p k) = true; rw [HA.out, hp]; rfl, hB3⟩, rfl, rfl, rfl, rfl, rfl⟩
        case measure => simp [intOf]; omega
      · have HF : Hid (allN (fun k => !p k) n = false) := allN_false hlt (by simp [hp])
        go_wp2
        go_ret
        exact ⟨⟨_, rfl, by rw [HF.out]; simp⟩, hB3⟩
    · have hkn : k = n := by omega
      subst hkn
      go_wp2
      go_ret
      exact ⟨⟨_, rfl, by rw [HA.out]; simp⟩, hB⟩
theorem ContainsFuncI_any (ao : Option Addr) (n c : Nat) (vals : Nat → Value) (fid : FuncId) (caps : Array Value) (p : Nat → Bool) (w : World) (hcap : n ≤ 9223372036854775807)
    (hcf : ∀ (vs : Array Value) (w' : World), Sem.run Tryz.prog (callFunc fid vs) w' = .ok (.enter fid vs) w')
    (hel : ∀ k, k < n → ∃ b off, ao = some ⟨b, off, none⟩ ∧ b < w.heap.size ∧ w.cell? ⟨b, off + k, none⟩ = some (vals k))
    (hto : ∀ (k : Nat) (w' : World), k < n → Below w.heap.size w w' → Calls Tryz.prog fid (#[vals k] ++ caps) w' fun e w'' => e = .returned (.bool (p k)) ∧ Below w'.heap.size w' w'') :
    Calls Tryz.prog 118 #[.slice ao n c, .func (.func fid) #[] caps] w fun e w' => e = .returned (.bool (!allN (fun k => !p k) n)) ∧ Below w.heap.size w w' := by
  have HTO := hid hto; clear hto
  have HEL := hid hel; clear hel
  go_enter Tryz.func118, Tryz.ntmps118
  go_wp2_with fail
  refine (IndexFuncI_any _ _ _ vals _ _ p _ hcap hcf HEL.out HTO.out).mono ?_; rintro e w1 ⟨⟨r, rfl, hr⟩, hb1⟩
  have HR := hid hr; clear hr
  go_wp2
  go_ret
  exact ⟨ret_bool (by rw [← HR.out]), hb1⟩
set_option maxHeartbeats 400000 in
theorem IndexFuncII_any (ao : Option Addr) (n c : Nat) (vals : Nat → Value) (fid : FuncId) (caps : Array Value) (p : Nat → Bool) (w : World) (hcap : n ≤ 9223372036854775807)
    (hcf : ∀ (vs : Array Value) (w' : World), Sem.run Tryz.prog (callFunc fid vs) w' = .ok (.enter fid vs) w')
    (hel : ∀ k, k < n → ∃ b off, ao = some ⟨b, off, none⟩ ∧ b < w.heap.size ∧ w.cell? ⟨b, off + k, none⟩ = some (vals k))
    (hto : ∀ (k : Nat) (w' : World), k < n → Below w.heap.size w w' → Calls Tryz.prog fid (#[vals k] ++ caps) w' fun e w'' => e = .returned (.bool (p k)) ∧ Below w'.heap.size w' w'') :
    Calls Tryz.prog 121 #[.slice ao n c, .func (.func fid) #[] caps] w fun e w' => (∃ r : Int, e = .returned (.int .i64 r) ∧ decide (0 ≤ r) = !allN (fun k => !p k) n) ∧ Below w.heap.size w w' := by
  have HTO := hid hto; clear hto
  have HEL := hid hel; clear hel
  go_enter Tryz.func121, Tryz.ntmps121
  go_wp2
  go_loopw [5, 8] (fun _ i wr => ∃ k : Nat, k ≤ n ∧ i = .int .i64 k ∧ allN (fun k => !p k) k = true ∧ Below w.heap.size w wr) (fun _ i _ => n - (intOf i).toNat)
  case atStart => exact ⟨0, by omega, rfl, rfl, Below.refl _ _⟩
  case round =>
    obtain ⟨k, hk, rfl, ha, hB⟩ := hrel
    have HA := hid ha; clear ha
    by_cases hlt : k < n
    · obtain ⟨b, off, rfl, hbs, hck⟩ := HEL.out k hlt
      replace hck := (hB.cell (p := ⟨b, off + k, none⟩) hbs).trans hck
      have hbs' : b < wr.heap.size := Nat.lt_of_lt_of_le hbs hB.size
      go_wp2_with fail
      refine (HTO.out k wr hlt hB).mono ?_; rintro e w3 ⟨rfl, hb3⟩
      have hB3 := chain hB hb3
      cases hp : p k
      · go_wp2
        go_roundw
        case rel => first | exact ⟨k + 1, by omega, by go_num, by show (allN (fun k => !p k) k && !p k) = true; rw [HA.out, hp]; rfl, hB3⟩ | exact ⟨_, ⟨k + 1, by omega, by go_num, by show (allN (fun k => !p k) k && !p k) = true; rw [HA.out, hp]; rfl, hB3⟩, rfl⟩ | exact ⟨_, _, ⟨k + 1, by omega, by go_num, by show (allN (fun k => !p k) k && !p k) = true; rw [HA.out, hp]; rfl, hB3⟩, rfl, rfl⟩ | exact ⟨_, _, _, ⟨k + 1, by omega, by go_num, by show (allN (fun k => !p k) k && !p k) = true; rw [HA.out, hp]; rfl, hB3⟩, rfl, rfl, rfl⟩ | exact ⟨_, _, _, _, ⟨k + 1, by omega, by go_num, by show (allN (fun k => !p k) k && !p k) = true; rw [HA.out, hp]; rfl, hB3⟩, rfl, rfl, rfl, rfl⟩ | exact ⟨_, _, _, _, _, ⟨k + 1, by omega, by go_num, by show (allN (fun k => !p k) k && !p k) = true; rw [HA.out, hp]; rfl, hB3⟩, rfl, rfl, rfl, rfl, rfl⟩
        case measure => simp [intOf]; omega
      · have HF : Hid (allN (fun k => !p k) n = false) := allN_false hlt (by simp [hp])
        go_wp2
        go_ret
        exact ⟨⟨_, rfl, by rw [HF.out]; simp⟩, hB3⟩
    · have hkn : k = n := by omega
      subst hkn
      go_wp2
      go_ret
      exact ⟨⟨_, rfl, by rw [HA.out]; simp⟩, hB⟩
theorem ContainsFuncII_any (ao : Option Addr) (n c : Nat) (vals : Nat → Value) (fid : FuncId) (caps : Array Value) (p : Nat → Bool) (w : World) (hcap : n ≤ 9223372036854775807)
    (hcf : ∀ (vs : Array Value) (w' : World), Sem.run Tryz.prog (callFunc fid vs) w' = .ok (.enter fid vs) w')
    (hel : ∀ k, k < n → ∃ b off, ao = some ⟨b, off, none⟩ ∧ b < w.heap.size ∧ w.cell? ⟨b, off + k, none⟩ = some (vals k))
    (hto : ∀ (k : Nat) (w' : World), k < n → Below w.heap.size w w' → Calls Tryz.prog fid (#[vals k] ++ caps) w' fun e w'' => e = .returned (.bool (p k)) ∧ Below w'.heap.size w' w'') :
    Calls Tryz.prog 75 #[.slice ao n c, .func (.func fid) #[] caps] w fun e w' => e = .returned (.bool (!allN (fun k => !p k) n)) ∧ Below w.heap.size w w' := by
  have HTO := hid hto; clear hto
  have HEL := hid hel; clear hel
  go_enter Tryz.func75, Tryz.ntmps75
  go_wp2_with fail
  refine (IndexFuncII_any _ _ _ vals _ _ p _ hcap hcf HEL.out HTO.out).mono ?_; rintro e w1 ⟨⟨r, rfl, hr⟩, hb1⟩
  have HR := hid hr; clear hr
  go_wp2
  go_ret
  exact ⟨ret_bool (by rw [← HR.out]), hb1⟩
theorem gainsClos_any (x : Int) (w : World) :
    Calls Tryz.prog 119 #[.int .i64 x] w fun e w' => e = .returned (.bool (!inB (-1000) 1000 x)) ∧ Below w.heap.size w w' := by
  cases h : inB (-1000) 1000 x
  · rcases inB_false.1 h with h1 | h1
    · go_enter Tryz.func119, Tryz.ntmps119
      go_wp2
      go_ret
      exact ⟨rfl, Below.refl _ _⟩
    · have h2 : ¬ x < -1000 := by omega
      go_enter Tryz.func119, Tryz.ntmps119
      go_wp2
      go_ret
      exact ⟨rfl, Below.refl _ _⟩
  · have h1 := inB_iff.1 h
    have h2 : ¬ x < -1000 := by omega
    have h3 : ¬ 1000 < x := by omega
    go_enter Tryz.func119, Tryz.ntmps119
    go_wp2
    go_ret
    exact ⟨rfl, Below.refl _ _⟩
theorem gainsClos_call (vs : Array Value) (w' : World) : Sem.run Tryz.prog (callFunc 119 vs) w' = .ok (.enter 119 vs) w' := by
  have h1 : (Tryz.f119.name == "runtime.NumGoroutine") = false := by kernel_rfl
  have h2 : Tryz.f119.body.isNone = false := by kernel_rfl
  have h1' : ¬ Tryz.f119.name = "runtime.NumGoroutine" := by simpa using h1
  have h2' : ¬ Tryz.f119.body = none := by intro e; rw [e] at h2; simp at h2
  simp only [callFunc, Sem.run_bind, run_program, Result.andThen_ok, Tryz.func119, beq_iff_eq, Option.isNone_iff_eq_none, if_neg h1', if_neg h2', Sem.run_pure]
theorem areGains_any (s : Int) (v : Value) (ao : Option Addr) (n c : Nat) (xs : List Int) (w : World) (hx : IntsAt w ao n xs) :
    Calls Tryz.prog 71 #[.agg #[.int .i64 s, v], .slice ao n c] w fun e w' => e = .returned (.bool (gainsOk s xs)) ∧ Below w.heap.size w w' := by
  have hcap := hx.cap
  have HL := hid hx.len
  cases he : ((n : Int) == s)
  · have he' : ¬ (n : Int) = s := by simpa using he
    have HG : Hid (gainsOk s xs = false) := by show gainsOk s xs = false; unfold gainsOk; rw [HL.out, he]; rfl
    rw [HG.out]
    go_enter Tryz.func71, Tryz.ntmps71
    go_wp2
    go_ret
    exact ⟨ret_bool (by simp), below_alloc w _⟩
  · have he' : (n : Int) = s := by simpa using he
    have HG : Hid (gainsOk s xs = allN (gainOk xs) n) := by show gainsOk s xs = _; unfold gainsOk; rw [HL.out, he]; rfl
    rw [HG.out]
    subst he'
    have hxx := hx.below (below_alloc w (.cells #[.int .i64 n, v] 25))
    go_enter Tryz.func71, Tryz.ntmps71
    go_wp2_with fail
    refine (ContainsFuncI_any ao n c (fun k => .int .i64 (nth xs k)) 119 #[] (fun k => !gainOk xs k) _ hcap gainsClos_call ?_ ?_).mono ?_
    · intro k hk
      obtain ⟨b, off, e, hbs, hc⟩ := hxx.cell (by omega)
      exact ⟨b, off, e, hbs, hc k hk⟩
    · intro k w' hk hB
      exact gainsClos_any (nth xs k) w'
    rintro e w1 ⟨rfl, hb1⟩
    have hB1 := (below_alloc w (.cells #[.int .i64 n, v] 25)).trans (hb1.mono (by simp))
    have HA : Hid (allN (fun k => !!gainOk xs k) n = allN (gainOk xs) n) := by show allN _ n = _; simp
    clear hb1
    go_wp2
    go_ret
    exact ⟨ret_bool (by rw [← HA.out]), hB1⟩
theorem actsClos_any (B : Nat) (s : Int) (v : Value) (ao : Option Addr) (n c : Nat) (xs : List Int) (w : World) (hx : IntsAt w ao n xs) (h0 : w.cell? ⟨B, 0, none⟩ = some (.int .i64 s)) (h1 : w.cell? ⟨B, 1, none⟩ = some v) :
    Calls Tryz.prog 110 #[.slice ao n c, .pointer (some ⟨B, 0, none⟩)] w fun e w' => e = .returned (.bool (!gainsOk s xs)) ∧ Below w.heap.size w w' := by
  go_enter Tryz.func110, Tryz.ntmps110
  go_wp2_with fail
  refine (areGains_any s v ao n c xs _ hx).mono ?_; rintro e w1 ⟨rfl, hb1⟩
  go_wp2
  go_ret
  exact ⟨rfl, hb1⟩
theorem actsClos_call (vs : Array Value) (w' : World) : Sem.run Tryz.prog (callFunc 110 vs) w' = .ok (.enter 110 vs) w' := by
  have h1 : (Tryz.f110.name == "runtime.NumGoroutine") = false := by kernel_rfl
  have h2 : Tryz.f110.body.isNone = false := by kernel_rfl
  have h1' : ¬ Tryz.f110.name = "runtime.NumGoroutine" := by simpa using h1
  have h2' : ¬ Tryz.f110.body = none := by intro e; rw [e] at h2; simp at h2
  simp only [callFunc, Sem.run_bind, run_program, Result.andThen_ok, Tryz.func110, beq_iff_eq, Option.isNone_iff_eq_none, if_neg h1', if_neg h2', Sem.run_pure]
theorem RowsAt.vals {w : World} {ao n xss} (h : RowsAt w ao n xss) : ∃ vals : Nat → Value, ∀ k, k < n → (∃ b off, ao = some ⟨b, off, none⟩ ∧ b < w.heap.size ∧ w.cell? ⟨b, off + k, none⟩ = some (vals k)) ∧ ∃ a' n' c', vals k = .slice a' n' c' ∧ IntsAt w a' n' (nthL xss k) := by
  by_cases h0 : 0 < n
  · obtain ⟨b, off, e, hbs, hc⟩ := h.cell h0
    refine ⟨fun k => (w.cell? ⟨b, off + k, none⟩).getD undef, fun k hk => ?_⟩
    obtain ⟨a', n', c', h1, h2⟩ := hc k hk
    exact ⟨⟨b, off, e, hbs, by show w.cell? _ = some ((w.cell? ⟨b, off + k, none⟩).getD undef); rw [h1]; rfl⟩, a', n', c', by show (w.cell? ⟨b, off + k, none⟩).getD undef = _; rw [h1]; rfl, h2⟩
  · exact ⟨fun _ => undef, fun k hk => by omega⟩
set_option maxHeartbeats 400000 in
theorem areActs_any (s : Int) (ao bo : Option Addr) (n c m d : Nat) (xs : List Int) (acts : List (List Int)) (w : World) (hx : IntsAt w ao n xs) (hy : RowsAt w bo m acts) :
    Calls Tryz.prog 60 #[.agg #[.int .i64 s, .slice ao n c], .slice bo m d] w fun e w' => e = .returned (.bool (actsOk s xs acts)) ∧ Below w.heap.size w w' := by
  have hcap := hy.cap
  have HL := hid hy.len
  cases hN : normalOk s xs
  · have HG : Hid (actsOk s xs acts = false) := by show actsOk s xs acts = false; unfold actsOk; rw [hN]; rfl
    rw [HG.out]
    go_enter Tryz.func60, Tryz.ntmps60
    go_wp2_with fail
    refine (isNormal_any _ _ _ _ _ _ (hx.below (below_alloc w _))).mono ?_; rw [hN]; rintro e w1 ⟨rfl, hb1⟩
    obtain ⟨h10, h11, hB1⟩ := box2 hb1
    clear hb1
    go_wp2
    go_ret
    exact ⟨rfl, hB1⟩
  · cases hm : inB 1 8 (m : Int)
    · have HG : Hid (actsOk s xs acts = false) := by show actsOk s xs acts = false; unfold actsOk; rw [HL.out, hm]; simp
      rw [HG.out]
      rcases inB_false.1 hm with h | h
      · go_enter Tryz.func60, Tryz.ntmps60
        go_wp2_with fail
        refine (isNormal_any _ _ _ _ _ _ (hx.below (below_alloc w _))).mono ?_; rw [hN]; rintro e w1 ⟨rfl, hb1⟩
        obtain ⟨h10, h11, hB1⟩ := box2 hb1
        clear hb1
        go_wp2
        go_ret
        exact ⟨rfl, hB1⟩
      · have h2 : ¬ (m : Int) < 1 := by omega
        go_enter Tryz.func60, Tryz.ntmps60
        go_wp2_with fail
        refine (isNormal_any _ _ _ _ _ _ (hx.below (below_alloc w _))).mono ?_; rw [hN]; rintro e w1 ⟨rfl, hb1⟩
        obtain ⟨h10, h11, hB1⟩ := box2 hb1
        clear hb1
        go_wp2
        go_ret
        exact ⟨rfl, hB1⟩
    · have hm' := inB_iff.1 hm
      have h1 : ¬ (m : Int) < 1 := by omega
      have h2 : ¬ (8 : Int) < m := by omega
      have HG : Hid (actsOk s xs acts = allN (fun k => gainsOk s (nthL acts k)) m) := by show actsOk s xs acts = _; unfold actsOk; rw [hN, HL.out, hm]; rfl
      rw [HG.out]
      go_enter Tryz.func60, Tryz.ntmps60
      go_wp2_with fail
      refine (isNormal_any _ _ _ _ _ _ (hx.below (below_alloc w _))).mono ?_; rw [hN]; rintro e w1 ⟨rfl, hb1⟩
      obtain ⟨h10, h11, hB1⟩ := box2 hb1
      have hy1 := hy.below hB1
      clear hb1
      obtain ⟨vals, hv⟩ := hy1.vals
      have HV := hid hv; clear hv
      go_wp2_with fail
      refine (ContainsFuncII_any bo m d vals 110 #[.pointer (some ⟨w.heap.size, 0, none⟩)] (fun k => !gainsOk s (nthL acts k)) _ hcap actsClos_call (fun k hk => (HV.out k hk).1) ?_).mono ?_
      · intro k w' hk hB
        obtain ⟨_, a', n', c', e, hi⟩ := HV.out k hk
        rw [e]
        exact actsClos_any _ s _ a' n' c' _ w' (hi.below hB) (keep hB h10) (keep hB h11)
      rintro e w2 ⟨rfl, hb2⟩
      have hB2 := chain hB1 hb2
      have HA : Hid (allN (fun k => !!gainsOk s (nthL acts k)) m = allN (fun k => gainsOk s (nthL acts k)) m) := by show allN _ m = _; simp
      clear hb2
      go_wp2
      go_ret
      exact ⟨ret_bool (by rw [← HA.out]), hB2⟩
set_option maxHeartbeats 400000 in
theorem l10Gains_any (s : Int) (ao bo : Option Addr) (n c m d : Nat) (xs gs : List Int) (w : World) (hx : IntsAt w ao n xs) (hy : IntsAt w bo m gs) :
    Calls Tryz.prog 113 #[.agg #[.int .i64 s, .slice ao n c], .slice bo m d] w fun e w' => e = .returned (.bool (massOk s xs && gainsOk s gs)) ∧ Below w.heap.size w w' := by
  have hcap := hy.cap
  have HL := hid hy.len
  have hBa := below_alloc w (.cells #[.int .i64 s, .slice ao n c] 25)
  cases ha : allN (gainOk gs) gs.length
  · obtain ⟨k0, hk0, hbad⟩ := allN_ex ha
    have HE : Hid ((massOk s xs && gainsOk s gs) = false) := by show (massOk s xs && gainsOk s gs) = false; unfold gainsOk; rw [ha]; simp
    rw [HE.out]
    rw [HL.out] at hk0
    have HB := hid hbad
    clear hbad ha
    go_enter Tryz.func113, Tryz.ntmps113
    go_wp2
    go_loop [5] (fun i => ∃ k : Nat, k ≤ k0 ∧ i = .int .i64 k) (fun i => m - (intOf i).toNat)
    case atStart => exact ⟨0, by omega, rfl⟩
    case round =>
      obtain ⟨k, hk, rfl⟩ := hrel
      have hlt : k < m := by omega
      obtain ⟨b, off, rfl, hbs, hbs', hck⟩ := hy.at hBa hlt
      cases hxb : inB (-1000) 1000 (nth gs k)
      · go_wp2_with (first | (go_at_call 115; refine (l1In_any _ _ _ _).mono ?_; rintro e w' ⟨rfl, rfl⟩))
        go_ret
        exact ⟨rfl, hBa⟩
      · have hne : k ≠ k0 := by rintro rfl; have := HB.out; unfold gainOk at this; rw [hxb] at this; cases this
        go_wp2_with (first | (go_at_call 115; refine (l1In_any _ _ _ _).mono ?_; rintro e w' ⟨rfl, rfl⟩))
        go_round
        case rel => first | exact ⟨k + 1, by omega, by go_num⟩ | exact ⟨_, ⟨k + 1, by omega, by go_num⟩, rfl⟩ | exact ⟨_, _, ⟨k + 1, by omega, by go_num⟩, rfl, rfl⟩ | exact ⟨_, _, _, ⟨k + 1, by omega, by go_num⟩, rfl, rfl, rfl⟩ | exact ⟨_, _, _, _, ⟨k + 1, by omega, by go_num⟩, rfl, rfl, rfl, rfl⟩ | exact ⟨_, _, _, _, _, ⟨k + 1, by omega, by go_num⟩, rfl, rfl, rfl, rfl, rfl⟩
        case measure => simp [intOf]; omega
  · have HA := hid ((allN_iff _ _).1 ha)
    have HE : Hid ((massOk s xs && gainsOk s gs) = (massOk s xs && ((m : Int) == s))) := by show (massOk s xs && gainsOk s gs) = _; unfold gainsOk; rw [ha, HL.out]; simp
    rw [HE.out]
    clear ha
    go_enter Tryz.func113, Tryz.ntmps113
    go_wp2
    go_loop [5] (fun i => ∃ k : Nat, k ≤ m ∧ i = .int .i64 k) (fun i => m - (intOf i).toNat)
    case atStart => exact ⟨0, by omega, rfl⟩
    case round =>
      obtain ⟨k, hk, rfl⟩ := hrel
      by_cases hlt : k < m
      · obtain ⟨b, off, rfl, hbs, hbs', hck⟩ := hy.at hBa hlt
        have hxb : inB (-1000) 1000 (nth gs k) = true := HA.out k (by rw [HL.out]; exact hlt)
        go_wp2_with (first | (go_at_call 115; refine (l1In_any _ _ _ _).mono ?_; rintro e w' ⟨rfl, rfl⟩))
        go_round
        case rel => first | exact ⟨k + 1, by omega, by go_num⟩ | exact ⟨_, ⟨k + 1, by omega, by go_num⟩, rfl⟩ | exact ⟨_, _, ⟨k + 1, by omega, by go_num⟩, rfl, rfl⟩ | exact ⟨_, _, _, ⟨k + 1, by omega, by go_num⟩, rfl, rfl, rfl⟩ | exact ⟨_, _, _, _, ⟨k + 1, by omega, by go_num⟩, rfl, rfl, rfl, rfl⟩ | exact ⟨_, _, _, _, _, ⟨k + 1, by omega, by go_num⟩, rfl, rfl, rfl, rfl, rfl⟩
        case measure => simp [intOf]; omega
      · cases hm : massOk s xs
        all_goals
          go_wp2_with fail
          refine (MassValid_any _ _ _ _ _ _ (hx.below hBa)).mono ?_; rw [hm]; rintro e w1 ⟨rfl, hb1⟩
          obtain ⟨h10, h11, hB1⟩ := box2 hb1
          clear hb1
          go_wp2
          go_ret
          exact ⟨ret_bool (by simp [hm]), hB1⟩
set_option maxHeartbeats 400000 in
theorem specActsValid_any (s : Int) (ao bo : Option Addr) (n c m d : Nat) (xs : List Int) (acts : List (List Int)) (w : World) (hx : IntsAt w ao n xs) (hy : RowsAt w bo m acts) :
    Calls Tryz.prog 64 #[.agg #[.int .i64 s, .slice ao n c], .slice bo m d] w fun e w' => e = .returned (.bool (actsOk s xs acts)) ∧ Below w.heap.size w w' := by
  have hcap := hy.cap
  have HL := hid hy.len
  have hBa := below_alloc w (.cells #[.int .i64 s, .slice ao n c] 25)
  have hp0 : (w.alloc (.cells #[.int .i64 s, .slice ao n c] 25)).cell? ⟨w.heap.size, 0, none⟩ = some (.int .i64 s) := by simp
  have hp1 : (w.alloc (.cells #[.int .i64 s, .slice ao n c] 25)).cell? ⟨w.heap.size, 1, none⟩ = some (.slice ao n c) := by simp
  cases ha : allN (fun k => massOk s xs && gainsOk s (nthL acts k)) acts.length
  · obtain ⟨k0, hk0, hbad⟩ := allN_ex ha
    have HE : Hid (actsOk s xs acts = false) := by
      show actsOk s xs acts = false
      unfold actsOk normalOk
      cases hm : massOk s xs
      · rfl
      · rw [hm] at hbad
        have : allN (fun k => gainsOk s (nthL acts k)) acts.length = false := allN_false hk0 (by simpa using hbad)
        rw [this]; simp
    rw [HE.out]
    rw [HL.out] at hk0
    have HB := hid hbad
    clear hbad ha
    go_enter Tryz.func64, Tryz.ntmps64
    go_wp2
    go_loopw [5] (fun i wr => ∃ k : Nat, k ≤ k0 ∧ i = .int .i64 k ∧ Below (w.alloc (.cells #[.int .i64 s, .slice ao n c] 25)).heap.size (w.alloc (.cells #[.int .i64 s, .slice ao n c] 25)) wr) (fun i _ => m - (intOf i).toNat)
    case atStart => exact ⟨0, by omega, rfl, Below.refl _ _⟩
    case round =>
      obtain ⟨k, hk, rfl, hBr⟩ := hrel
      have hlt : k < m := by omega
      have hB := hBa.trans (hBr.mono (by simp))
      obtain ⟨b, off, a', n', c', rfl, hbs, hbs', hck, hi⟩ := hy.at hB hlt
      have hq0 := keep hBr hp0
      have hq1 := keep hBr hp1
      have hxr := hx.below hB
      have hk0' : (0 : Int) ≤ (k : Int) := by omega
      have hk1 : (k : Int) < (m : Int) := by omega
      cases hxb : (massOk s xs && gainsOk s (nthL acts k))
      · go_wp2
        refine wp_region_ov_tail 5 (by kernel_rfl) (by kernel_rfl) (fun _ _ _ _ _ h => h) ?_
        simp only [List.take_succ_cons, List.take_zero, List.drop_succ_cons, List.drop_zero]
        repeat (first | go_big_quiet_step ((fail)) | quiet_step ((fail)))
        refine wpQuiet_nil ?_
        intro _ hw_ov
        obtain ⟨x_ov, hw_ov2⟩ := hw_ov
        subst hw_ov2
        obtain ⟨w3, hw_ov3, hb3⟩ := ov_gen _ x_ov
        rw [hw_ov3]
        clear hw_ov3 x_ov
        have hB3 := chain hB hb3
        go_wp2_with fail
        refine (l10Gains_any _ _ _ _ _ _ _ _ _ _ (hxr.below hb3) (hi.below hb3)).mono ?_; rw [hxb]; rintro e w4 ⟨rfl, hb4⟩
        have hB4 := chain hB3 hb4
        clear hb3 hb4
        go_wp2
        go_ret
        exact ⟨rfl, hB4⟩
      · have hne : k ≠ k0 := by rintro rfl; have := HB.out; rw [hxb] at this; cases this
        have HBR := hid hBr
        clear hBr
        go_wp2
        refine wp_region_ov_tail 5 (by kernel_rfl) (by kernel_rfl) (fun _ _ _ _ _ h => h) ?_
        simp only [List.take_succ_cons, List.take_zero, List.drop_succ_cons, List.drop_zero]
        repeat (first | go_big_quiet_step ((fail)) | quiet_step ((fail)))
        refine wpQuiet_nil ?_
        intro _ hw_ov
        obtain ⟨x_ov, hw_ov2⟩ := hw_ov
        subst hw_ov2
        obtain ⟨w3, hw_ov3, hb3⟩ := ov_gen _ x_ov
        rw [hw_ov3]
        clear hw_ov3 x_ov
        go_wp2_with fail
        refine (l10Gains_any _ _ _ _ _ _ _ _ _ _ (hxr.below hb3) (hi.below hb3)).mono ?_; rw [hxb]; rintro e w4 ⟨rfl, hb4⟩
        have HB4 := hid (chain (chain HBR.out hb3) hb4)
        clear hb3 hb4
        go_wp2
        go_roundw
        case rel => first | exact ⟨k + 1, by omega, by go_num, HB4.out⟩ | exact ⟨_, ⟨k + 1, by omega, by go_num, HB4.out⟩, rfl⟩ | exact ⟨_, _, ⟨k + 1, by omega, by go_num, HB4.out⟩, rfl, rfl⟩ | exact ⟨_, _, _, ⟨k + 1, by omega, by go_num, HB4.out⟩, rfl, rfl, rfl⟩ | exact ⟨_, _, _, _, ⟨k + 1, by omega, by go_num, HB4.out⟩, rfl, rfl, rfl, rfl⟩ | exact ⟨_, _, _, _, _, ⟨k + 1, by omega, by go_num, HB4.out⟩, rfl, rfl, rfl, rfl, rfl⟩
        case measure => simp [intOf]; omega
  · have HA := hid ((allN_iff _ _).1 ha)
    have HE : Hid (actsOk s xs acts = (normalOk s xs && inB 1 8 (m : Int))) := by
      show actsOk s xs acts = _
      unfold actsOk
      rw [HL.out]
      by_cases h0 : m = 0
      · subst h0; simp [inB]
      · have hk := HA.out 0 (by rw [HL.out]; omega)
        simp only [Bool.and_eq_true] at hk
        have : allN (fun k => gainsOk s (nthL acts k)) m = true := (allN_iff _ _).2 fun k hk => by
          have := HA.out k (by rw [HL.out]; exact hk)
          simp only [Bool.and_eq_true] at this; exact this.2
        rw [this]; simp
    rw [HE.out]
    clear ha
    go_enter Tryz.func64, Tryz.ntmps64
    go_wp2
    go_loopw [5] (fun i wr => ∃ k : Nat, k ≤ m ∧ i = .int .i64 k ∧ Below (w.alloc (.cells #[.int .i64 s, .slice ao n c] 25)).heap.size (w.alloc (.cells #[.int .i64 s, .slice ao n c] 25)) wr) (fun i _ => m - (intOf i).toNat)
    case atStart => exact ⟨0, by omega, rfl, Below.refl _ _⟩
    case round =>
      obtain ⟨k, hk, rfl, hBr⟩ := hrel
      have hB := hBa.trans (hBr.mono (by simp))
      have hq0 := keep hBr hp0
      have hq1 := keep hBr hp1
      have hxr := hx.below hB
      by_cases hlt : k < m
      · obtain ⟨b, off, a', n', c', rfl, hbs, hbs', hck, hi⟩ := hy.at hB hlt
        have hk0' : (0 : Int) ≤ (k : Int) := by omega
        have hk1 : (k : Int) < (m : Int) := by omega
        have hxb : (massOk s xs && gainsOk s (nthL acts k)) = true := HA.out k (by rw [HL.out]; exact hlt)
        have HBR := hid hBr
        clear hBr
        go_wp2
        refine wp_region_ov_tail 5 (by kernel_rfl) (by kernel_rfl) (fun _ _ _ _ _ h => h) ?_
        simp only [List.take_succ_cons, List.take_zero, List.drop_succ_cons, List.drop_zero]
        repeat (first | go_big_quiet_step ((fail)) | quiet_step ((fail)))
        refine wpQuiet_nil ?_
        intro _ hw_ov
        obtain ⟨x_ov, hw_ov2⟩ := hw_ov
        subst hw_ov2
        obtain ⟨w3, hw_ov3, hb3⟩ := ov_gen _ x_ov
        rw [hw_ov3]
        clear hw_ov3 x_ov
        go_wp2_with fail
        refine (l10Gains_any _ _ _ _ _ _ _ _ _ _ (hxr.below hb3) (hi.below hb3)).mono ?_; rw [hxb]; rintro e w4 ⟨rfl, hb4⟩
        have HB4 := hid (chain (chain HBR.out hb3) hb4)
        clear hb3 hb4
        go_wp2
        go_roundw
        case rel => first | exact ⟨k + 1, by omega, by go_num, HB4.out⟩ | exact ⟨_, ⟨k + 1, by omega, by go_num, HB4.out⟩, rfl⟩ | exact ⟨_, _, ⟨k + 1, by omega, by go_num, HB4.out⟩, rfl, rfl⟩ | exact ⟨_, _, _, ⟨k + 1, by omega, by go_num, HB4.out⟩, rfl, rfl, rfl⟩ | exact ⟨_, _, _, _, ⟨k + 1, by omega, by go_num, HB4.out⟩, rfl, rfl, rfl, rfl⟩ | exact ⟨_, _, _, _, _, ⟨k + 1, by omega, by go_num, HB4.out⟩, rfl, rfl, rfl, rfl, rfl⟩
        case measure => simp [intOf]; omega
      · clear hBr
        cases hN : normalOk s xs
        · go_wp2_with fail
          refine (IsNormal_any _ _ _ _ _ _ hxr).mono ?_; rw [hN]; rintro e w4 ⟨rfl, hb4⟩
          have hB4 := chain hB hb4
          clear hb4
          go_wp2
          go_ret
          exact ⟨ret_bool (by simp [hN]), hB4⟩
        · go_wp2_with fail
          refine (IsNormal_any _ _ _ _ _ _ hxr).mono ?_; rw [hN]; rintro e w4 ⟨rfl, hb4⟩
          have hB4 := chain hB hb4
          clear hb4
          go_wp2_with (first | (go_at_call 115; refine (l1In_any _ _ _ _).mono ?_; rintro e w' ⟨rfl, rfl⟩))
          go_ret
          exact ⟨ret_bool (by simp [hN]), hB4⟩
end Go.Proofs.YtefmlbahmakboaaGreatDoor
