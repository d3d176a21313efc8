/- Gains and acts: isNormal, areGains, areActs, ActsValid. -/
import Derived.Test.YtchjnjmlambpjaaW3
set_option linter.unusedSimpArgs false
set_option linter.unusedVariables false
namespace Go.Proofs.Ytchjnjmlambpjaa
open Go.RowKit
def nthL (xss : List (List Int)) (k : Nat) : List Int := xss.getD k []
/-- a slice of slices that reads as lists of integers -/
structure RowsAt (w : World) (ao : Option Addr) (n : Nat) (xss : List (List Int)) : Prop where
  len : xss.length = n
  cap : n ≤ 9223372036854775807
  cell : 0 < n → ∃ b off, ao = some ⟨b, off, none⟩ ∧ b < w.heap.size ∧ ∀ k, k < n → ∃ a' n' c', w.cell? ⟨b, off + k, none⟩ = some (.slice a' n' c') ∧ IntsAt w a' n' (nthL xss k)
theorem RowsAt.below {w w' : World} {ao n xss} (h : RowsAt w ao n xss) (hb : Below w.heap.size w w') : RowsAt w' ao n xss := by
  refine ⟨h.len, h.cap, fun hn => ?_⟩
  obtain ⟨b, off, rfl, hbs, hc⟩ := h.cell hn
  refine ⟨b, off, rfl, Nat.lt_of_lt_of_le hbs hb.size, fun k hk => ?_⟩
  obtain ⟨a', n', c', h1, h2⟩ := hc k hk
  exact ⟨a', n', c', (hb.cell (p := ⟨b, off + k, none⟩) hbs).trans h1, h2.below hb⟩
theorem RowsAt.at {w w' : World} {ao n xss} (h : RowsAt w ao n xss) (hb : Below w.heap.size w w') {k : Nat} (hk : k < n) :
    ∃ b off a' n' c', ao = some ⟨b, off, none⟩ ∧ b < w.heap.size ∧ b < w'.heap.size ∧ w'.cell? ⟨b, off + k, none⟩ = some (.slice a' n' c') ∧ IntsAt w' a' n' (nthL xss k) := by
  obtain ⟨b, off, e, hbs, hc⟩ := (h.below hb).cell (by omega)
  obtain ⟨b', off', e', hbs', _⟩ := h.cell (by omega)
  rw [e] at e'
  injection e' with e'
  injection e' with e1 e2
  subst e1 e2
  obtain ⟨a', n', c', h1, h2⟩ := hc k hk
  exact ⟨b, off, a', n', c', e, hbs', hbs, h1, h2⟩
def normalOk (s : Int) (xs : List Int) : Bool := massOk s xs && (nth xs 0 == 0)
def gainOk (xs : List Int) (k : Nat) : Bool := inB (-1000) 1000 (nth xs k)
def gainsOk (s : Int) (xs : List Int) : Bool := ((xs.length : Int) == s) && allN (gainOk xs) xs.length
def actsOk (s : Int) (xs : List Int) (acts : List (List Int)) : Bool := normalOk s xs && (inB 1 8 (acts.length : Int) && allN (fun k => gainsOk s (nthL acts k)) acts.length)
theorem isNormal_any (s : Int) (ao : Option Addr) (n c : Nat) (xs : List Int) (w : World) (hx : IntsAt w ao n xs) :
    Calls Try.prog 67 #[.agg #[.int .i64 s, .slice ao n c]] w fun e w' => e = .returned (.bool (normalOk s xs)) ∧ Below w.heap.size w w' := by
  cases hm : massOk s xs
  · go_enter Try.func67, Try.ntmps67
    go_wp2_with fail
    refine (isMass_any _ _ _ _ _ _ (hx.below (below_alloc w _))).mono ?_; rw [hm]; rintro e w1 ⟨rfl, hb1⟩
    obtain ⟨h10, h11, hB1⟩ := box2 hb1
    clear hb1
    go_wp2
    go_ret
    exact ⟨ret_bool (by simp [normalOk, hm]), hB1⟩
  · have hn : 0 < n := by
      have h1 : xs.length = nsets s := by simp only [massOk, Bool.and_eq_true, beq_iff_eq] at hm; exact hm.1.1.1.2
      have h2 : okSize s = true := by simp only [massOk, Bool.and_eq_true, beq_iff_eq] at hm; exact hm.1.1.1.1
      have := nsets_le h2; have := hx.len; omega
    obtain ⟨b, off, rfl, hbs, hc⟩ := hx.cell hn
    have hc0 := hc 0 hn
    rw [Nat.add_zero] at hc0
    have hcap := hx.cap
    have hn0 : (0 : Int) < (n : Int) := by omega
    go_enter Try.func67, Try.ntmps67
    go_wp2_with fail
    refine (isMass_any _ _ _ _ _ _ (hx.below (below_alloc w _))).mono ?_; rw [hm]; rintro e w1 ⟨rfl, hb1⟩
    obtain ⟨h10, h11, hB1⟩ := box2 hb1
    replace hc0 := keep hB1 hc0
    clear hb1
    go_wp2
    go_ret
    exact ⟨ret_bool (by simp [normalOk, hm]), hB1⟩
theorem IsNormal_any (s : Int) (ao : Option Addr) (n c : Nat) (xs : List Int) (w : World) (hx : IntsAt w ao n xs) :
    Calls Try.prog 63 #[.agg #[.int .i64 s, .slice ao n c]] w fun e w' => e = .returned (.bool (normalOk s xs)) ∧ Below w.heap.size w w' := by
  cases hm : massOk s xs
  · go_enter Try.func63, Try.ntmps63
    go_wp2_with fail
    refine (MassValid_any _ _ _ _ _ _ (hx.below (below_alloc w _))).mono ?_; rw [hm]; rintro e w1 ⟨rfl, hb1⟩
    obtain ⟨h10, h11, hB1⟩ := box2 hb1
    clear hb1
    go_wp2
    go_ret
    exact ⟨ret_bool (by simp [normalOk, hm]), hB1⟩
  · have hn : 0 < n := by
      have h1 : xs.length = nsets s := by simp only [massOk, Bool.and_eq_true, beq_iff_eq] at hm; exact hm.1.1.1.2
      have h2 : okSize s = true := by simp only [massOk, Bool.and_eq_true, beq_iff_eq] at hm; exact hm.1.1.1.1
      have := nsets_le h2; have := hx.len; omega
    obtain ⟨b, off, rfl, hbs, hc⟩ := hx.cell hn
    have hc0 := hc 0 hn
    rw [Nat.add_zero] at hc0
    have hcap := hx.cap
    have hn0 : (0 : Int) < (n : Int) := by omega
    go_enter Try.func63, Try.ntmps63
    go_wp2_with fail
    refine (MassValid_any _ _ _ _ _ _ (hx.below (below_alloc w _))).mono ?_; rw [hm]; rintro e w1 ⟨rfl, hb1⟩
    obtain ⟨h10, h11, hB1⟩ := box2 hb1
    replace hc0 := keep hB1 hc0
    clear hb1
    go_wp2
    go_ret
    exact ⟨ret_bool (by simp [normalOk, hm]), hB1⟩
theorem allN_step (p : Nat → Bool) (k : Nat) : allN p (k + 1) = (allN p k && p k) := rfl
set_option maxHeartbeats 400000 in
theorem IndexFuncI_any (ao : Option Addr) (n c : Nat) (vals : Nat → Value) (fid : FuncId) (caps : Array Value) (p : Nat → Bool) (w : World) (hcap : n ≤ 9223372036854775807)
    (hcf : ∀ (vs : Array Value) (w' : World), Sem.run Try.prog (callFunc fid vs) w' = .ok (.enter fid vs) w')
    (hel : ∀ k, k < n → ∃ b off, ao = some ⟨b, off, none⟩ ∧ b < w.heap.size ∧ w.cell? ⟨b, off + k, none⟩ = some (vals k))
    (hto : ∀ (k : Nat) (w' : World), k < n → Below w.heap.size w w' → Calls Try.prog fid (#[vals k] ++ caps) w' fun e w'' => e = .returned (.bool (p k)) ∧ Below w'.heap.size w' w'') :
    Calls Try.prog 147 #[.slice ao n c, .func (.func fid) #[] caps] w fun e w' => (∃ r : Int, e = .returned (.int .i64 r) ∧ decide (0 ≤ r) = !allN (fun k => !p k) n) ∧ Below w.heap.size w w' := by
  have HTO := hid hto; clear hto
  have HEL := hid hel; clear hel
  go_enter Try.func147, Try.ntmps147
  go_wp2
  go_loopw [5, 8] (fun _ i wr => ∃ k : Nat, k ≤ n ∧ i = .int .i64 k ∧ allN (fun k => !p k) k = true ∧ Below w.heap.size w wr) (fun _ i _ => n - (intOf i).toNat)
  case atStart => exact ⟨0, by omega, rfl, rfl, Below.refl _ _⟩
  case round =>
    obtain ⟨k, hk, rfl, ha, hB⟩ := hrel
    have HA := hid ha; clear ha
    by_cases hlt : k < n
    · obtain ⟨b, off, rfl, hbs, hck⟩ := HEL.out k hlt
      replace hck := (hB.cell (p := ⟨b, off + k, none⟩) hbs).trans hck
      have hbs' : b < wr.heap.size := Nat.lt_of_lt_of_le hbs hB.size
      go_wp2_with fail
      refine (HTO.out k wr hlt hB).mono ?_; rintro e w3 ⟨rfl, hb3⟩
      have hB3 := chain hB hb3
      cases hp : p k
      · go_wp2
        go_roundw
        case rel => first | exact ⟨k + 1, by omega, by go_num, by show (allN (fun k => !p k) k && !p k) = true; rw [HA.out, hp]; rfl, hB3⟩ | exact ⟨_, ⟨k + 1, by omega, by go_num, by show (allN (fun k => !p k) k && !p k) = true; rw [HA.out, hp]; rfl, hB3⟩, rfl⟩ | exact ⟨_, _, ⟨k + 1, by omega, by go_num, by show (allN (fun k => !p k) k && !p k) = true; rw [HA.out, hp]; rfl, hB3⟩, rfl, rfl⟩ | exact ⟨_, _, _, ⟨k + 1, by omega, by go_num, by show (allN (fun k => !p k) k && !p k) = true; rw [HA.out, hp]; rfl, hB3⟩, rfl, rfl, rfl⟩ | exact ⟨_, _, _, _, ⟨k + 1, by omega, by go_num, by show (allN (fun k => !p k) k && !p k) = true; rw [HA.out, hp]; rfl, hB3⟩, rfl, rfl, rfl, rfl⟩ | exact ⟨_, _, _, _, _, ⟨k + 1, by omega, by go_num, by show (allN (fun k => !p k) k && !p k) = true; rw [HA.out, hp]; rfl, hB3⟩, rfl, rfl, rfl, rfl, rfl⟩
        case measure => simp [intOf]; omega
      · have HF : Hid (allN (fun k => !p k) n = false) := allN_false hlt (by simp [hp])
        go_wp2
        go_ret
        exact ⟨⟨_, rfl, by rw [HF.out]; simp⟩, hB3⟩
    · have hkn : k = n := by omega
      subst hkn
      go_wp2
      go_ret
      exact ⟨⟨_, rfl, by rw [HA.out]; simp⟩, hB⟩
theorem ContainsFuncI_any (ao : Option Addr) (n c : Nat) (vals : Nat → Value) (fid : FuncId) (caps : Array Value) (p : Nat → Bool) (w : World) (hcap : n ≤ 9223372036854775807)
    (hcf : ∀ (vs : Array Value) (w' : World), Sem.run Try.prog (callFunc fid vs) w' = .ok (.enter fid vs) w')
    (hel : ∀ k, k < n → ∃ b off, ao = some ⟨b, off, none⟩ ∧ b < w.heap.size ∧ w.cell? ⟨b, off + k, none⟩ = some (vals k))
    (hto : ∀ (k : Nat) (w' : World), k < n → Below w.heap.size w w' → Calls Try.prog fid (#[vals k] ++ caps) w' fun e w'' => e = .returned (.bool (p k)) ∧ Below w'.heap.size w' w'') :
    Calls Try.prog 116 #[.slice ao n c, .func (.func fid) #[] caps] w fun e w' => e = .returned (.bool (!allN (fun k => !p k) n)) ∧ Below w.heap.size w w' := by
  have HTO := hid hto; clear hto
  have HEL := hid hel; clear hel
  go_enter Try.func116, Try.ntmps116
  go_wp2_with fail
  refine (IndexFuncI_any _ _ _ vals _ _ p _ hcap hcf HEL.out HTO.out).mono ?_; rintro e w1 ⟨⟨r, rfl, hr⟩, hb1⟩
  have HR := hid hr; clear hr
  go_wp2
  go_ret
  exact ⟨ret_bool (by rw [← HR.out]), hb1⟩
set_option maxHeartbeats 400000 in
theorem IndexFuncII_any (ao : Option Addr) (n c : Nat) (vals : Nat → Value) (fid : FuncId) (caps : Array Value) (p : Nat → Bool) (w : World) (hcap : n ≤ 9223372036854775807)
    (hcf : ∀ (vs : Array Value) (w' : World), Sem.run Try.prog (callFunc fid vs) w' = .ok (.enter fid vs) w')
    (hel : ∀ k, k < n → ∃ b off, ao = some ⟨b, off, none⟩ ∧ b < w.heap.size ∧ w.cell? ⟨b, off + k, none⟩ = some (vals k))
    (hto : ∀ (k : Nat) (w' : World), k < n → Below w.heap.size w w' → Calls Try.prog fid (#[vals k] ++ caps) w' fun e w'' => e = .returned (.bool (p k)) ∧ Below w'.heap.size w' w'') :
    Calls Try.prog 143 #[.slice ao n c, .func (.func fid) #[] caps] w fun e w' => (∃ r : Int, e = .returned (.int .i64 r) ∧ decide (0 ≤ r) = !allN (fun k => !p k) n) ∧ Below w.heap.size w w' := by
  have HTO := hid hto; clear hto
  have HEL := hid hel; clear hel
  go_enter Try.func143, Try.ntmps143
  go_wp2
  go_loopw [5, 8] (fun _ i wr => ∃ k : Nat, k ≤ n ∧ i = .int .i64 k ∧ allN (fun k => !p k) k = true ∧ Below w.heap.size w wr) (fun _ i _ => n - (intOf i).toNat)
  case atStart => exact ⟨0, by omega, rfl, rfl, Below.refl _ _⟩
  case round =>
    obtain ⟨k, hk, rfl, ha, hB⟩ := hrel
    have HA := hid ha; clear ha
    by_cases hlt : k < n
    · obtain ⟨b, off, rfl, hbs, hck⟩ := HEL.out k hlt
      replace hck := (hB.cell (p := ⟨b, off + k, none⟩) hbs).trans hck
      have hbs' : b < wr.heap.size := Nat.lt_of_lt_of_le hbs hB.size
      go_wp2_with fail
      refine (HTO.out k wr hlt hB).mono ?_; rintro e w3 ⟨rfl, hb3⟩
      have hB3 := chain hB hb3
      cases hp : p k
      · go_wp2
        go_roundw
        case rel => first | exact ⟨k + 1, by omega, by go_num, by show (allN (fun k => !p k) k && !p k) = true; rw [HA.out, hp]; rfl, hB3⟩ | exact ⟨_, ⟨k + 1, by omega, by go_num, by show (allN (fun k => !p k) k && !p k) = true; rw [HA.out, hp]; rfl, hB3⟩, rfl⟩ | exact ⟨_, _, ⟨k + 1, by omega, by go_num, by show (allN (fun k => !p k) k && !p k) = true; rw [HA.out, hp]; rfl, hB3⟩, rfl, rfl⟩ | exact ⟨_, _, _, ⟨k + 1, by omega, by go_num, by show (allN (fun k => !p k) k && !p k) = true; rw [HA.out, hp]; rfl, hB3⟩, rfl, rfl, rfl⟩ | exact ⟨_, _, _, _, ⟨k + 1, by omega, by go_num, by show (allN (fun k => !p k) k && !p k) = true; rw [HA.out, hp]; rfl, hB3⟩, rfl, rfl, rfl, rfl⟩ | exact ⟨_, _, _, _, _, ⟨k + 1, by omega, by go_num, by show (allN (fun k => !p k) k && !p k) = true; rw [HA.out, hp]; rfl, hB3⟩, rfl, rfl, rfl, rfl, rfl⟩
        case measure => simp [intOf]; omega
      · have HF : Hid (allN (fun k => !p k) n = false) := allN_false hlt (by simp [hp])
        go_wp2
        go_ret
        exact ⟨⟨_, rfl, by rw [HF.out]; simp⟩, hB3⟩
    · have hkn : k = n := by omega
      subst hkn
      go_wp2
      go_ret
      exact ⟨⟨_, rfl, by rw [HA.out]; simp⟩, hB⟩
theorem ContainsFuncII_any (ao : Option Addr) (n c : Nat) (vals : Nat → Value) (fid : FuncId) (caps : Array Value) (p : Nat → Bool) (w : World) (hcap : n ≤ 9223372036854775807)
    (hcf : ∀ (vs : Array Value) (w' : World), Sem.run Try.prog (callFunc fid vs) w' = .ok (.enter fid vs) w')
    (hel : ∀ k, k < n → ∃ b off, ao = some ⟨b, off, none⟩ ∧ b < w.heap.size ∧ w.cell? ⟨b, off + k, none⟩ = some (vals k))
    (hto : ∀ (k : Nat) (w' : World), k < n → Below w.heap.size w w' → Calls Try.prog fid (#[vals k] ++ caps) w' fun e w'' => e = .returned (.bool (p k)) ∧ Below w'.heap.size w' w'') :
    Calls Try.prog 106 #[.slice ao n c, .func (.func fid) #[] caps] w fun e w' => e = .returned (.bool (!allN (fun k => !p k) n)) ∧ Below w.heap.size w w' := by
  have HTO := hid hto; clear hto
  have HEL := hid hel; clear hel
  go_enter Try.func106, Try.ntmps106
  go_wp2_with fail
  refine (IndexFuncII_any _ _ _ vals _ _ p _ hcap hcf HEL.out HTO.out).mono ?_; rintro e w1 ⟨⟨r, rfl, hr⟩, hb1⟩
  have HR := hid hr; clear hr
  go_wp2
  go_ret
  exact ⟨ret_bool (by rw [← HR.out]), hb1⟩
end Go.Proofs.Ytchjnjmlambpjaa
