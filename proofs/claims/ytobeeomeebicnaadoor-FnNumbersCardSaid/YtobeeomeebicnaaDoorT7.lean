/- spec.l14Num: a canonical numeral of at most 17 digits (printed by numgen.py). -/
import Derived.Test.YtobeeomeebicnaaDoorT5
import Derived.Test.YtobeeomeebicnaaDoorB0
set_option linter.unusedSimpArgs false
set_option linter.unusedVariables false
namespace Go.Proofs.YtobeeomeebicnaaDoor
open Go.RowKit
theorem numR_neg {l : List UInt8} (h : l.head? = some 45) : numR l = numB true l.tail := by unfold numR; rw [if_pos h]
theorem numR_pos {l : List UInt8} (h : l.head? ≠ some 45) : numR l = numB false l := by unfold numR; rw [if_neg h]
theorem numB_long {neg : Bool} {b : List UInt8} (h : b = [] ∨ 17 < b.length ∨ (b.head? = some 48 ∧ (1 < b.length ∨ neg = true))) : numB neg b = none := by unfold numB; rw [if_pos h]
theorem numB_rest {neg : Bool} {b : List UInt8} (h : ¬ (b = [] ∨ 17 < b.length ∨ (b.head? = some 48 ∧ (1 < b.length ∨ neg = true)))) : numB neg b = (Lib.decFrom 0 b).map fun (m : Nat) => if neg then -(m : Int) else (m : Int) := by unfold numB; rw [if_neg h]
theorem bytes_nil {b : ByteArray} (h : b.size = 0) : b.data.toList = [] := List.length_eq_zero_iff.1 (by rw [size_list]; exact h)
theorem bytes_head {b : ByteArray} (h : 0 < b.size) : b.data.toList.head? = some (b[0]'h) := by
  have := byte_at b 0 h
  rw [List.head?_eq_getElem?]; exact this
theorem decFrom_bad : ∀ (l : List UInt8) (a k : Nat) (x : UInt8), l[k]? = some x → Lib.digitVal x = none → Lib.decFrom a l = none
  | [], _, k, x, h, _ => by simp at h
  | b :: l, a, 0, x, h, hx => by
    simp at h; subst h
    simp only [Lib.decFrom, hx]
  | b :: l, a, k + 1, x, h, hx => by
    simp only [Lib.decFrom]
    cases Lib.digitVal b with
    | none => rfl
    | some d => exact decFrom_bad l _ k x (by simpa using h) hx
theorem decFrom_pow : ∀ (l : List UInt8) (k m : Nat), Lib.decFrom 0 (l.take k) = some m → m < 10 ^ k := fun l k m h => by
  have := Lib.decFrom_lt _ _ _ h
  have h2 : (l.take k).length ≤ k := by simp; omega
  have h3 : 10 ^ (l.take k).length ≤ 10 ^ k := Nat.pow_le_pow_right (by decide) h2
  omega
theorem pow_le17 {k : Nat} (h : k ≤ 17) : 10 ^ k ≤ 100000000000000000 := Nat.pow_le_pow_right (n := 10) (by decide) h
theorem drop1_data (s : ByteArray) : (s.extract 1 s.size).data.toList = s.data.toList.tail := by
  rw [piece_data, List.take_of_length_le (by rw [List.length_drop, size_list]; omega), List.drop_one]
theorem drop1_size (s : ByteArray) : (s.extract 1 s.size).size = s.size - 1 := by
  rw [← size_list, drop1_data, List.length_tail, size_list]
set_option maxRecDepth 100000 in
set_option maxHeartbeats 1600000 in
theorem l14Num_neg (s : ByteArray) (w : World) (hs : s.size ≤ 2000000) (h0 : 0 < s.size) (h45 : s[0] = 45) :
    Calls Tryd.prog 20 #[.string s] w fun e w' => e = .returned (.tuple #[.int .i64 ((numR s.data.toList).getD 0), .bool (numR s.data.toList).isSome]) ∧ w = w' := by
  have HB : Hid ((s.extract 1 s.size).size = s.size - 1) := drop1_size s
  have HR : Hid (numR s.data.toList = numB true (s.extract 1 s.size).data.toList) := by show _ = _; rw [numR_neg (by rw [bytes_head h0, h45]), drop1_data]
  have hc45 : ((s[0].toNat : Int) == 45) = true := by rw [h45]; decide
  obtain ⟨b, hb⟩ : ∃ b, b = s.extract 1 s.size := ⟨_, rfl⟩
  have hbs : b.size ≤ 2000000 := by rw [hb, drop1_size]; omega
  rw [← hb] at HB HR
  have hsl : s.extract 1 s.size = b := hb.symm
  have HS := hid hb; clear hb
  by_cases hz : b.size = 0
  · have HN : Hid (numB true b.data.toList = none) := numB_long (Or.inl (bytes_nil hz))
    go_enter Tryd.func20, Tryd.ntmps20
    go_wp2
    all_goals refine bodyPost_ret (v := .tuple #[.int .i64 (0), .bool false]) (by simp [results, Tryd.results20, go_sem]) rfl ⟨by rw [HR.out, HN.out]; rfl, rfl⟩
  have hz1 : 0 < b.size := by omega
  have ze : ((b.size : Int) == 0) = false := by rw [beq_eq_false_iff_ne]; omega
  by_cases hg : 17 < b.size
  · have HN : Hid (numB true b.data.toList = none) := numB_long (Or.inr (Or.inl (by rw [size_list]; exact hg)))
    go_enter Tryd.func20, Tryd.ntmps20
    go_wp2
    all_goals refine bodyPost_ret (v := .tuple #[.int .i64 (0), .bool false]) (by simp [results, Tryd.results20, go_sem]) rfl ⟨by rw [HR.out, HN.out]; rfl, rfl⟩
  have zg : decide (17 < (b.size : Int)) = false := by simp; omega
  by_cases hq : b[0] = 48
  · have HN : Hid (numB true b.data.toList = none) := numB_long (Or.inr (Or.inr ⟨by rw [bytes_head hz1, hq], Or.inr rfl⟩))
    have hc48 : ((b[0].toNat : Int) == 48) = true := by rw [hq]; decide
    go_enter Tryd.func20, Tryd.ntmps20
    go_wp2
    all_goals refine bodyPost_ret (v := .tuple #[.int .i64 (0), .bool false]) (by simp [results, Tryd.results20, go_sem]) rfl ⟨by rw [HR.out, HN.out]; rfl, rfl⟩
  have HN : Hid (numB true b.data.toList = (Lib.decFrom 0 b.data.toList).map fun (m : Nat) => if (true : Bool) then -(m : Int) else (m : Int)) := by
    refine numB_rest ?_
    rw [size_list, bytes_head hz1]
    rintro (h | h | ⟨h, h2⟩)
    · have := congrArg List.length h; rw [size_list] at this; rw [this] at hz1; exact absurd hz1 (by decide)
    · omega
    · exact hq (Option.some.inj h)
  have hc48 : ((b[0].toNat : Int) == 48) = false := by simp; intro e; apply hq; apply UInt8.toNat_inj.1; simp; omega
  clear hq
  have fin : ∀ (c : Unit), True := fun _ => trivial
  go_enter Tryd.func20, Tryd.ntmps20
  go_wp2
  go_loop [5, 6] (fun m i => ∃ (k m' : Nat), k ≤ b.size ∧ i = .int .i64 k ∧ m = .int .i64 m' ∧ Hid (Lib.decFrom 0 (b.data.toList.take k) = some m')) (fun _ i => b.size - (intOf i).toNat)
  case atStart => exact ⟨0, 0, by omega, rfl, rfl, rfl⟩
  case round =>
    obtain ⟨k, m, hk, rfl, rfl, HD⟩ := hrel
    have hm := decFrom_pow _ _ _ HD.out
    have hp17 := pow_le17 (k := k) (by omega)
    have hm17 : m < 100000000000000000 := by omega
    clear hm hp17
    by_cases hlt : k < b.size
    · have hby := hid (byte_at b k hlt)
      obtain ⟨x, hx⟩ : ∃ x : Int, x = (b[k].toNat : Int) := ⟨_, rfl⟩
      have hxe : (b[k].toNat : Int) = x := hx.symm
      have hx0 : 0 ≤ x ∧ x < 256 := by have := (b[k]).toNat_lt; omega
      have HX := hid hx; clear hx
      by_cases hd1 : x < 48
      · have HE : Hid (Lib.decFrom 0 b.data.toList = none) := decFrom_bad _ _ k _ hby.out (by have := HX.out; unfold Lib.digitVal; rw [if_neg (by omega)])
        go_wp2
        all_goals refine bodyPost_ret (v := .tuple #[.int .i64 (0), .bool false]) (by simp [results, Tryd.results20, go_sem]) rfl ⟨by rw [HR.out, HN.out, HE.out]; rfl, rfl⟩
      by_cases hd2 : 57 < x
      · have HE : Hid (Lib.decFrom 0 b.data.toList = none) := decFrom_bad _ _ k _ hby.out (by have := HX.out; unfold Lib.digitVal; rw [if_neg (by omega)])
        go_wp2
        all_goals refine bodyPost_ret (v := .tuple #[.int .i64 (0), .bool false]) (by simp [results, Tryd.results20, go_sem]) rfl ⟨by rw [HR.out, HN.out, HE.out]; rfl, rfl⟩
      have HT : Hid (Lib.decFrom 0 (b.data.toList.take (k + 1)) = some (m * 10 + (x - 48).toNat)) := by
        refine Lib.decFrom_take _ k 0 m _ _ HD.out hby.out ?_
        have := HX.out
        unfold Lib.digitVal; rw [if_pos (by omega)]; congr 1; omega
      go_wp2
      go_round
      case rel => first | exact ⟨k + 1, m * 10 + (x - 48).toNat, by omega, by go_num, by congr 1; omega, HT⟩ | exact ⟨_, ⟨k + 1, m * 10 + (x - 48).toNat, by omega, by go_num, by congr 1; omega, HT⟩, rfl⟩ | exact ⟨_, _, ⟨k + 1, m * 10 + (x - 48).toNat, by omega, by go_num, by congr 1; omega, HT⟩, rfl, rfl⟩ | exact ⟨_, _, _, ⟨k + 1, m * 10 + (x - 48).toNat, by omega, by go_num, by congr 1; omega, HT⟩, rfl, rfl, rfl⟩ | exact ⟨_, _, _, _, ⟨k + 1, m * 10 + (x - 48).toNat, by omega, by go_num, by congr 1; omega, HT⟩, rfl, rfl, rfl, rfl⟩ | exact ⟨_, _, _, _, _, ⟨k + 1, m * 10 + (x - 48).toNat, by omega, by go_num, by congr 1; omega, HT⟩, rfl, rfl, rfl, rfl, rfl⟩
      case measure => simp [intOf]; omega
    · have hkn : k = b.size := by omega
      have HE : Hid (Lib.decFrom 0 b.data.toList = some m) := by show _ = _; rw [← HD.out, List.take_of_length_le (by rw [size_list]; omega)]
      clear hkn
      go_wp2
      refine bodyPost_ret (v := .tuple #[.int .i64 (-(m : Int)), .bool true]) (by simp [results, Tryd.results20, go_sem]) rfl ⟨by rw [HR.out, HN.out, HE.out]; rfl, rfl⟩
set_option maxRecDepth 100000 in
set_option maxHeartbeats 1600000 in
theorem l14Num_pos (s : ByteArray) (w : World) (hs : s.size ≤ 2000000) (h45 : ∀ h : 0 < s.size, s[0] ≠ 45) :
    Calls Tryd.prog 20 #[.string s] w fun e w' => e = .returned (.tuple #[.int .i64 ((numR s.data.toList).getD 0), .bool (numR s.data.toList).isSome]) ∧ w = w' := by
  have HR : Hid (numR s.data.toList = numB false s.data.toList) := by
    show _ = _; refine numR_pos ?_
    by_cases h : 0 < s.size
    · rw [bytes_head h]; intro e; exact h45 h (Option.some.inj e)
    · rw [bytes_nil (by omega)]; simp
  by_cases hz : s.size = 0
  · have HN : Hid (numB false s.data.toList = none) := numB_long (Or.inl (bytes_nil hz))
    go_enter Tryd.func20, Tryd.ntmps20
    go_wp2
    all_goals refine bodyPost_ret (v := .tuple #[.int .i64 (0), .bool false]) (by simp [results, Tryd.results20, go_sem]) rfl ⟨by rw [HR.out, HN.out]; rfl, rfl⟩
  have hz1 : 0 < s.size := by omega
  have hc45 : ((s[0].toNat : Int) == 45) = false := by simp; intro e; apply h45 hz1; apply UInt8.toNat_inj.1; simp; omega
  have ze : ((s.size : Int) == 0) = false := by rw [beq_eq_false_iff_ne]; omega
  by_cases hg : 17 < s.size
  · have HN : Hid (numB false s.data.toList = none) := numB_long (Or.inr (Or.inl (by rw [size_list]; exact hg)))
    go_enter Tryd.func20, Tryd.ntmps20
    go_wp2
    all_goals refine bodyPost_ret (v := .tuple #[.int .i64 (0), .bool false]) (by simp [results, Tryd.results20, go_sem]) rfl ⟨by rw [HR.out, HN.out]; rfl, rfl⟩
  have zg : decide (17 < (s.size : Int)) = false := by simp; omega
  by_cases hq : s[0] = 48 ∧ 1 < s.size
  · have HN : Hid (numB false s.data.toList = none) := numB_long (Or.inr (Or.inr ⟨by rw [bytes_head hz1, hq.1], Or.inl (by rw [size_list]; exact hq.2)⟩))
    have hc48 : ((s[0].toNat : Int) == 48) = true := by rw [hq.1]; decide
    have hq2 := hq.2; clear hq
    have zo : decide (1 < (s.size : Int)) = true := by simp; omega
    go_enter Tryd.func20, Tryd.ntmps20
    go_wp2
    all_goals refine bodyPost_ret (v := .tuple #[.int .i64 (0), .bool false]) (by simp [results, Tryd.results20, go_sem]) rfl ⟨by rw [HR.out, HN.out]; rfl, rfl⟩
  have HN : Hid (numB false s.data.toList = (Lib.decFrom 0 s.data.toList).map fun (m : Nat) => if (false : Bool) then -(m : Int) else (m : Int)) := by
    refine numB_rest ?_
    rw [size_list, bytes_head hz1]
    rintro (h | h | ⟨h, h2⟩)
    · have := congrArg List.length h; rw [size_list] at this; rw [this] at hz1; exact absurd hz1 (by decide)
    · omega
    · rcases h2 with h2 | h2
      · exact hq ⟨Option.some.inj h, h2⟩
      · cases h2
  by_cases hq1 : s[0] = 48
  · have hc48 : ((s[0].toNat : Int) == 48) = true := by rw [hq1]; decide
    have hsz1 : ¬ 1 < s.size := fun h => hq ⟨hq1, h⟩
    have zo : decide (1 < (s.size : Int)) = false := by simp; omega
    clear hq hq1
    go_enter Tryd.func20, Tryd.ntmps20
    go_wp2
    go_loop [5, 6] (fun m i => ∃ (k m' : Nat), k ≤ s.size ∧ i = .int .i64 k ∧ m = .int .i64 m' ∧ Hid (Lib.decFrom 0 (s.data.toList.take k) = some m')) (fun _ i => s.size - (intOf i).toNat)
    case atStart => exact ⟨0, 0, by omega, rfl, rfl, rfl⟩
    case round =>
      obtain ⟨k, m, hk, rfl, rfl, HD⟩ := hrel
      have hm := decFrom_pow _ _ _ HD.out
      have hp17 := pow_le17 (k := k) (by omega)
      have hm17 : m < 100000000000000000 := by omega
      clear hm hp17
      by_cases hlt : k < s.size
      · have hby := hid (byte_at s k hlt)
        obtain ⟨x, hx⟩ : ∃ x : Int, x = (s[k].toNat : Int) := ⟨_, rfl⟩
        have hxe : (s[k].toNat : Int) = x := hx.symm
        have hx0 : 0 ≤ x ∧ x < 256 := by have := (s[k]).toNat_lt; omega
        have HX := hid hx; clear hx
        by_cases hd1 : x < 48
        · have HE : Hid (Lib.decFrom 0 s.data.toList = none) := decFrom_bad _ _ k _ hby.out (by have := HX.out; unfold Lib.digitVal; rw [if_neg (by omega)])
          go_wp2
          all_goals refine bodyPost_ret (v := .tuple #[.int .i64 (0), .bool false]) (by simp [results, Tryd.results20, go_sem]) rfl ⟨by rw [HR.out, HN.out, HE.out]; rfl, rfl⟩
        by_cases hd2 : 57 < x
        · have HE : Hid (Lib.decFrom 0 s.data.toList = none) := decFrom_bad _ _ k _ hby.out (by have := HX.out; unfold Lib.digitVal; rw [if_neg (by omega)])
          go_wp2
          all_goals refine bodyPost_ret (v := .tuple #[.int .i64 (0), .bool false]) (by simp [results, Tryd.results20, go_sem]) rfl ⟨by rw [HR.out, HN.out, HE.out]; rfl, rfl⟩
        have HT : Hid (Lib.decFrom 0 (s.data.toList.take (k + 1)) = some (m * 10 + (x - 48).toNat)) := by
          refine Lib.decFrom_take _ k 0 m _ _ HD.out hby.out ?_
          have := HX.out
          unfold Lib.digitVal; rw [if_pos (by omega)]; congr 1; omega
        go_wp2
        go_round
        case rel => first | exact ⟨k + 1, m * 10 + (x - 48).toNat, by omega, by go_num, by congr 1; omega, HT⟩ | exact ⟨_, ⟨k + 1, m * 10 + (x - 48).toNat, by omega, by go_num, by congr 1; omega, HT⟩, rfl⟩ | exact ⟨_, _, ⟨k + 1, m * 10 + (x - 48).toNat, by omega, by go_num, by congr 1; omega, HT⟩, rfl, rfl⟩ | exact ⟨_, _, _, ⟨k + 1, m * 10 + (x - 48).toNat, by omega, by go_num, by congr 1; omega, HT⟩, rfl, rfl, rfl⟩ | exact ⟨_, _, _, _, ⟨k + 1, m * 10 + (x - 48).toNat, by omega, by go_num, by congr 1; omega, HT⟩, rfl, rfl, rfl, rfl⟩ | exact ⟨_, _, _, _, _, ⟨k + 1, m * 10 + (x - 48).toNat, by omega, by go_num, by congr 1; omega, HT⟩, rfl, rfl, rfl, rfl, rfl⟩
        case measure => simp [intOf]; omega
      · have hkn : k = s.size := by omega
        have HE : Hid (Lib.decFrom 0 s.data.toList = some m) := by show _ = _; rw [← HD.out, List.take_of_length_le (by rw [size_list]; omega)]
        clear hkn
        go_wp2
        refine bodyPost_ret (v := .tuple #[.int .i64 ((m : Int)), .bool true]) (by simp [results, Tryd.results20, go_sem]) rfl ⟨by rw [HR.out, HN.out, HE.out]; rfl, rfl⟩
  · have hc48 : ((s[0].toNat : Int) == 48) = false := by simp; intro e; apply hq1; apply UInt8.toNat_inj.1; simp; omega
    clear hq hq1
    go_enter Tryd.func20, Tryd.ntmps20
    go_wp2
    go_loop [5, 6] (fun m i => ∃ (k m' : Nat), k ≤ s.size ∧ i = .int .i64 k ∧ m = .int .i64 m' ∧ Hid (Lib.decFrom 0 (s.data.toList.take k) = some m')) (fun _ i => s.size - (intOf i).toNat)
    case atStart => exact ⟨0, 0, by omega, rfl, rfl, rfl⟩
    case round =>
      obtain ⟨k, m, hk, rfl, rfl, HD⟩ := hrel
      have hm := decFrom_pow _ _ _ HD.out
      have hp17 := pow_le17 (k := k) (by omega)
      have hm17 : m < 100000000000000000 := by omega
      clear hm hp17
      by_cases hlt : k < s.size
      · have hby := hid (byte_at s k hlt)
        obtain ⟨x, hx⟩ : ∃ x : Int, x = (s[k].toNat : Int) := ⟨_, rfl⟩
        have hxe : (s[k].toNat : Int) = x := hx.symm
        have hx0 : 0 ≤ x ∧ x < 256 := by have := (s[k]).toNat_lt; omega
        have HX := hid hx; clear hx
        by_cases hd1 : x < 48
        · have HE : Hid (Lib.decFrom 0 s.data.toList = none) := decFrom_bad _ _ k _ hby.out (by have := HX.out; unfold Lib.digitVal; rw [if_neg (by omega)])
          go_wp2
          all_goals refine bodyPost_ret (v := .tuple #[.int .i64 (0), .bool false]) (by simp [results, Tryd.results20, go_sem]) rfl ⟨by rw [HR.out, HN.out, HE.out]; rfl, rfl⟩
        by_cases hd2 : 57 < x
        · have HE : Hid (Lib.decFrom 0 s.data.toList = none) := decFrom_bad _ _ k _ hby.out (by have := HX.out; unfold Lib.digitVal; rw [if_neg (by omega)])
          go_wp2
          all_goals refine bodyPost_ret (v := .tuple #[.int .i64 (0), .bool false]) (by simp [results, Tryd.results20, go_sem]) rfl ⟨by rw [HR.out, HN.out, HE.out]; rfl, rfl⟩
        have HT : Hid (Lib.decFrom 0 (s.data.toList.take (k + 1)) = some (m * 10 + (x - 48).toNat)) := by
          refine Lib.decFrom_take _ k 0 m _ _ HD.out hby.out ?_
          have := HX.out
          unfold Lib.digitVal; rw [if_pos (by omega)]; congr 1; omega
        go_wp2
        go_round
        case rel => first | exact ⟨k + 1, m * 10 + (x - 48).toNat, by omega, by go_num, by congr 1; omega, HT⟩ | exact ⟨_, ⟨k + 1, m * 10 + (x - 48).toNat, by omega, by go_num, by congr 1; omega, HT⟩, rfl⟩ | exact ⟨_, _, ⟨k + 1, m * 10 + (x - 48).toNat, by omega, by go_num, by congr 1; omega, HT⟩, rfl, rfl⟩ | exact ⟨_, _, _, ⟨k + 1, m * 10 + (x - 48).toNat, by omega, by go_num, by congr 1; omega, HT⟩, rfl, rfl, rfl⟩ | exact ⟨_, _, _, _, ⟨k + 1, m * 10 + (x - 48).toNat, by omega, by go_num, by congr 1; omega, HT⟩, rfl, rfl, rfl, rfl⟩ | exact ⟨_, _, _, _, _, ⟨k + 1, m * 10 + (x - 48).toNat, by omega, by go_num, by congr 1; omega, HT⟩, rfl, rfl, rfl, rfl, rfl⟩
        case measure => simp [intOf]; omega
      · have hkn : k = s.size := by omega
        have HE : Hid (Lib.decFrom 0 s.data.toList = some m) := by show _ = _; rw [← HD.out, List.take_of_length_le (by rw [size_list]; omega)]
        clear hkn
        go_wp2
        refine bodyPost_ret (v := .tuple #[.int .i64 ((m : Int)), .bool true]) (by simp [results, Tryd.results20, go_sem]) rfl ⟨by rw [HR.out, HN.out, HE.out]; rfl, rfl⟩
theorem l14Num_any (s : ByteArray) (w : World) (hs : s.size ≤ 2000000) :
    Calls Tryd.prog 20 #[.string s] w fun e w' => e = .returned (.tuple #[.int .i64 ((numR s.data.toList).getD 0), .bool (numR s.data.toList).isSome]) ∧ w = w' := by
  by_cases h0 : 0 < s.size
  · by_cases h45 : s[0] = 45
    · exact l14Num_neg s w hs h0 h45
    · exact l14Num_pos s w hs (fun _ => h45)
  · exact l14Num_pos s w hs (fun h => absurd h h0)
end Go.Proofs.YtobeeomeebicnaaDoor
