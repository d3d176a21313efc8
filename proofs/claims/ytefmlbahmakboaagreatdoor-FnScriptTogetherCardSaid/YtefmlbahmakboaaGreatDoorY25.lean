/- The law FnScriptTogether: its walk (printed by scriptgen.py). -/
import Derived.Test.YtefmlbahmakboaaGreatDoorJ4
import Derived.Test.YtefmlbahmakboaaGreatDoorJ5
import Derived.Test.YtefmlbahmakboaaGreatDoorE3
set_option linter.unusedSimpArgs false
set_option linter.unusedVariables false
namespace Go.Proofs.YtefmlbahmakboaaGreatDoor
open Go.RowKit
theorem mkbs (l : Array UInt8) : ByteArray.mk l = bs l.toList := rfl
theorem tellM_len (r : MR) : (tellM r).length ≤ 220 := by
  unfold tellM; split
  · exact massT_len _ _
  · simp
theorem iMassValid_any (s : Int) (ao : Option Addr) (n c : Nat) (xs : List Int) (w : World) (hx : IntsAt w ao n xs) :
    Calls Tryz.prog 9 #[.agg #[.int .i64 s, .slice ao n c]] w fun e w' => e = .returned (.bool (massOk s xs)) ∧ Below w.heap.size w w' := by
  go_enter Tryz.func9, Tryz.ntmps9
  go_wp2_with fail
  refine (isMass_any _ _ _ _ xs _ (hx.below (by (repeat (first | exact Below.refl _ _ | assumption | refine Below.alloc ?_ (by first | omega | (simp <;> omega)) _ | refine Below.setCell ?_ (by first | omega | (simp <;> omega)) _ | refine Below.drew ?_ | refine below_drewN ?_))))).mono ?_; rintro e w1 ⟨rfl, hb1⟩
  go_wp2
  go_ret
  exact ⟨rfl, Below.trans (by (repeat (first | exact Below.refl _ _ | assumption | refine Below.alloc ?_ (by first | omega | (simp <;> omega)) _ | refine Below.setCell ?_ (by first | omega | (simp <;> omega)) _ | refine Below.drew ?_ | refine below_drewN ?_))) (hb1.mono (by simp <;> omega))⟩
/-- a line, or no -/
theorem weLine_any (l : List UInt8) (ok : Bool) (w : World) (hl : l.length ≤ 100000) :
    Calls Tryz.prog 20 #[.string (bs l), .bool ok] w fun e w' => e = .returned (.string (bs ((if ok then l else [110, 111]) ++ [10]))) ∧ w = w' := by
  have kz : ¬ 9223372036854775807 < (bs l).size + (ByteArray.mk #[10]).size := by simp only [bs_size]; simp [ByteArray.size]; omega
  cases ok
  · go_enter Tryz.func20, Tryz.ntmps20
    go_wp2
    go_ret
    exact ⟨rfl, rfl⟩
  · have HE : Hid (bs l ++ ByteArray.mk #[10] = bs (l ++ [10])) := by rw [Hid, mkbs, bs_append]
    go_enter Tryz.func20, Tryz.ntmps20
    go_wp2
    go_ret
    exact ⟨by rw [HE.out]; rfl, rfl⟩
theorem weLine_of (r : MR) (w : World) :
    Calls Tryz.prog 20 #[.string (bs (massT r.size r.parts)), .bool r.ok] w fun e w' => e = .returned (.string (bs (tellM r ++ [10]))) ∧ Below w.heap.size w w' :=
  (weLine_any _ r.ok w (by have := massT_len r.size r.parts; omega)).mono fun e w' ⟨he, hw⟩ => ⟨by rw [he]; rfl, by subst hw; exact Below.refl _ _⟩
/-- the line of a fraction -/
theorem wePart_any (f : FR) (w : World) (hp : Pow w) :
    Calls Tryz.prog 16 #[.agg #[.int .i64 f.num, .int .i64 f.den], .bool f.ok] w fun e w' => e = .returned (.string (bs (tellF f ++ [10]))) ∧ Below w.heap.size w w' := by
  have HE : Hid ((if f.ok then fracT f.num f.den else [110, 111]) ++ [10] = tellF f ++ [10]) := rfl
  have HL := hid (fracT_len f.num f.den)
  go_enter Tryz.func16, Tryz.ntmps16
  go_wp2_with fail
  refine (FormatFraction_any _ _ _ (hp.below (by (repeat (first | exact Below.refl _ _ | assumption | refine Below.alloc ?_ (by first | omega | (simp <;> omega)) _ | refine Below.setCell ?_ (by first | omega | (simp <;> omega)) _ | refine Below.drew ?_ | refine below_drewN ?_))))).mono ?_; rintro e w1 ⟨rfl, hb1⟩
  go_wp2_with fail
  refine (weLine_any _ f.ok _ (by have := HL.out; omega)).mono ?_; rintro e w' ⟨rfl, rfl⟩
  rw [HE.out]
  go_wp2
  go_ret
  exact ⟨rfl, Below.trans (by (repeat (first | exact Below.refl _ _ | assumption | refine Below.alloc ?_ (by first | omega | (simp <;> omega)) _ | refine Below.setCell ?_ (by first | omega | (simp <;> omega)) _ | refine Below.drew ?_ | refine below_drewN ?_))) (hb1.mono (by simp <;> omega))⟩
theorem leftM_t (d : DS) (r : MR) : (leftM d r).t = d.t := by unfold leftM; split <;> rfl
theorem leftM_ys (d : DS) (r : MR) : (leftM d r).ys = d.ys := by unfold leftM; split <;> rfl
theorem pl_andE (d : DS) {s u : Int} {xs ys : List Int} (h1 : d.s = s) (h2 : d.xs = xs) (h3 : d.t = u) (h4 : d.ys = ys) : Pl [97, 110, 100] d (tellM (togM (fun a b => a &&& b) s xs u ys)) (leftM d (togM (fun a b => a &&& b) s xs u ys)) := by
  subst h1 h2 h3 h4; exact pl_and d
theorem pl_orE (d : DS) {s u : Int} {xs ys : List Int} (h1 : d.s = s) (h2 : d.xs = xs) (h3 : d.t = u) (h4 : d.ys = ys) : Pl [111, 114] d (tellM (togM (fun a b => a ||| b) s xs u ys)) (leftM d (togM (fun a b => a ||| b) s xs u ys)) := by
  subst h1 h2 h3 h4; exact pl_or d
theorem pl_xorE (d : DS) {s u : Int} {xs ys : List Int} (h1 : d.s = s) (h2 : d.xs = xs) (h3 : d.t = u) (h4 : d.ys = ys) : Pl [120, 111, 114] d (tellM (togM (fun a b => a ^^^ b) s xs u ys)) (leftM d (togM (fun a b => a ^^^ b) s xs u ys)) := by
  subst h1 h2 h3 h4; exact pl_xor d
theorem truthT_len (b : Bool) : (truthT b).length ≤ 5 := by cases b <;> decide
theorem weWord_any (b : Bool) (w : World) : Calls Tryz.prog 17 #[.bool b] w fun e w' => e = .returned (.string (bs (truthT b ++ [10]))) ∧ Below w.heap.size w w' := by
  cases b
  · go_enter Tryz.func17, Tryz.ntmps17
    go_wp2
    go_ret
    exact ⟨rfl, Below.refl _ _⟩
  · go_enter Tryz.func17, Tryz.ntmps17
    go_wp2
    go_ret
    exact ⟨rfl, Below.refl _ _⟩
set_option maxRecDepth 100000 in
set_option maxHeartbeats 16000000 in
theorem FnScriptTogether_walk (ao : Option Addr) (n c : Nat) (w : World) (hx : n ≤ 1048576 → BytesIn w w.heap.size ao n) (hnc : n ≤ c) (hcap : n ≤ 9223372036854775807)
    (hP : Pow w) (hSE : ∃ tp p, w.var? Tryz.prog "strconv.ErrSyntax" = some #[.iface tp p]) (hRE : ∃ tp p, w.var? Tryz.prog "strconv.ErrRange" = some #[.iface tp p]) (hsh : w.ShapedOpen Tryz.prog) :
    Calls Tryz.prog 3 #[.slice ao n c] w fun e w' => e = .returned (.bool true) ∧ Below w.heap.size w w' := by
  have HV := hid (libV_of w hP hSE hRE hsh)
  clear hP hSE hRE hsh
  by_cases hn : 1048576 < n
  · go_enter Tryz.func3, Tryz.ntmps3
    go_wp2
    go_ret
    exact ⟨rfl, Below.refl _ _⟩
  have HX := hid (hx (by omega))
  clear hx
  go_enter Tryz.func3, Tryz.ntmps3
  have hB := Below.refl w.heap.size w
  go_wp2_with fail
  refine (DrawJoinMasses_any ao n c _ HX.out hnc).mono ?_; rintro e w1 ⟨⟨s, p, xs, u, q, ks, rfl, hr, hlx, hr2, hlk⟩, hb⟩
  have hd := hb
  replace hB := chain hB hd
  have hs1 := hd.size
  clear hb hd
  obtain ⟨am, nm, cm, rfl, him⟩ := hr.ints
  clear hr
  obtain ⟨ak, nk, ck, rfl, hik⟩ := hr2.ints
  clear hr2
  obtain ⟨rN, HN⟩ : ∃ r, Hid (joinM s xs u ks = r) := ⟨_, rfl⟩
  go_wp2_with fail
  refine (JoinMasses_any _ _ _ _ _ _ _ _ xs ks _ (him.below (by (repeat (first | exact Below.refl _ _ | assumption | refine Below.alloc ?_ (by first | omega | (simp <;> omega)) _ | refine Below.setCell ?_ (by first | omega | (simp <;> omega)) _ | refine Below.drew ?_ | refine below_drewN ?_)))) (hik.below (by (repeat (first | exact Below.refl _ _ | assumption | refine Below.alloc ?_ (by first | omega | (simp <;> omega)) _ | refine Below.setCell ?_ (by first | omega | (simp <;> omega)) _ | refine Below.drew ?_ | refine below_drewN ?_))))).mono ?_; rw [HN.out]; rintro e w2 ⟨⟨vN, rfl, hrN⟩, hb⟩
  obtain ⟨aN, nN, cN, rfl, hiN⟩ := hrN.ints
  clear hrN
  have mm0 := keep hb (a := ⟨w1.heap.size, 0, none⟩) (v := .int .i64 s) (by simp)
  have mm1 := keep hb (a := ⟨w1.heap.size, 1, none⟩) (v := .slice am nm cm) (by simp)
  have hN1 : w1.heap.size < w2.heap.size := by have := World.block_lt_of_cell? w2 _ mm0; simpa using this
  have kk0 := keep hb (a := ⟨w1.heap.size + 1, 0, none⟩) (v := .int .i64 u) (by simp)
  have kk1 := keep hb (a := ⟨w1.heap.size + 1, 1, none⟩) (v := .slice ak nk ck) (by simp)
  have hN2 : w1.heap.size + 1 < w2.heap.size := by have := World.block_lt_of_cell? w2 _ kk0; simpa using this
  have hd : Below w1.heap.size w1 w2 := Below.trans (by (repeat (first | exact Below.refl _ _ | assumption | refine Below.alloc ?_ (by first | omega | (simp <;> omega)) _ | refine Below.setCell ?_ (by first | omega | (simp <;> omega)) _ | refine Below.drew ?_ | refine below_drewN ?_))) (hb.mono (by simp <;> omega))
  replace him := him.below hd
  replace hik := hik.below hd
  replace hB := chain hB hd
  have hs2 := hd.size
  clear hb hd
  obtain ⟨rW, HW⟩ : ∃ r, Hid (joinM s xs u ks = r) := ⟨_, rfl⟩
  go_wp2_with fail
  refine (specJoinMasses_any _ _ _ _ _ _ _ _ xs ks _ (him.below (by (repeat (first | exact Below.refl _ _ | assumption | refine Below.alloc ?_ (by first | omega | (simp <;> omega)) _ | refine Below.setCell ?_ (by first | omega | (simp <;> omega)) _ | refine Below.drew ?_ | refine below_drewN ?_)))) (hik.below (by (repeat (first | exact Below.refl _ _ | assumption | refine Below.alloc ?_ (by first | omega | (simp <;> omega)) _ | refine Below.setCell ?_ (by first | omega | (simp <;> omega)) _ | refine Below.drew ?_ | refine below_drewN ?_))))).mono ?_; rw [HW.out]; rintro e w3 ⟨⟨vW, rfl, hrW⟩, hb⟩
  obtain ⟨aW, nW, cW, rfl, hiW⟩ := hrW.ints
  clear hrW
  have mN0 := keep hb (a := ⟨w2.heap.size, 0, none⟩) (v := .int .i64 rN.size) (by simp)
  have mN1 := keep hb (a := ⟨w2.heap.size, 1, none⟩) (v := .slice aN nN cN) (by simp)
  have hN3 : w2.heap.size < w3.heap.size := by have := World.block_lt_of_cell? w3 _ mN0; simpa using this
  have hd : Below w2.heap.size w2 w3 := Below.trans (by (repeat (first | exact Below.refl _ _ | assumption | refine Below.alloc ?_ (by first | omega | (simp <;> omega)) _ | refine Below.setCell ?_ (by first | omega | (simp <;> omega)) _ | refine Below.drew ?_ | refine below_drewN ?_))) (hb.mono (by simp <;> omega))
  replace mm0 := keep hd mm0
  replace mm1 := keep hd mm1
  replace kk0 := keep hd kk0
  replace kk1 := keep hd kk1
  replace him := him.below hd
  replace hik := hik.below hd
  replace hiN := hiN.below hd
  replace hB := chain hB hd
  have hs3 := hd.size
  clear hb hd
  have hE : rW = rN := HW.out.symm.trans HN.out
  subst hE
  clear HN
  go_wp2_with fail
  refine (weEqual_eq _ _ _ _ _ _ _ _ _ _ _ (hiN.below (by (repeat (first | exact Below.refl _ _ | assumption | refine Below.alloc ?_ (by first | omega | (simp <;> omega)) _ | refine Below.setCell ?_ (by first | omega | (simp <;> omega)) _ | refine Below.drew ?_ | refine below_drewN ?_)))) (hiW.below (by (repeat (first | exact Below.refl _ _ | assumption | refine Below.alloc ?_ (by first | omega | (simp <;> omega)) _ | refine Below.setCell ?_ (by first | omega | (simp <;> omega)) _ | refine Below.drew ?_ | refine below_drewN ?_)))) rfl rfl).mono ?_; rintro e w4 ⟨rfl, hb⟩
  have mW0 := keep hb (a := ⟨w3.heap.size, 0, none⟩) (v := .int .i64 rW.size) (by simp)
  have mW1 := keep hb (a := ⟨w3.heap.size, 1, none⟩) (v := .slice aW nW cW) (by simp)
  have hN4 : w3.heap.size < w4.heap.size := by have := World.block_lt_of_cell? w4 _ mW0; simpa using this
  have hd : Below w3.heap.size w3 w4 := Below.trans (by (repeat (first | exact Below.refl _ _ | assumption | refine Below.alloc ?_ (by first | omega | (simp <;> omega)) _ | refine Below.setCell ?_ (by first | omega | (simp <;> omega)) _ | refine Below.drew ?_ | refine below_drewN ?_))) (hb.mono (by simp <;> omega))
  replace mm0 := keep hd mm0
  replace mm1 := keep hd mm1
  replace kk0 := keep hd kk0
  replace kk1 := keep hd kk1
  replace mN0 := keep hd mN0
  replace mN1 := keep hd mN1
  replace him := him.below hd
  replace hik := hik.below hd
  replace hiN := hiN.below hd
  replace hiW := hiW.below hd
  replace hB := chain hB hd
  have hs4 := hd.size
  clear hb hd
  cases hm1 : massOk s xs
  · go_wp2_with fail
    refine (iMassValid_any s _ _ _ xs _ him).mono ?_; rw [hm1]; rintro e w5 ⟨rfl, hb⟩
    have hd := hb
    replace mm0 := keep hd mm0
    replace mm1 := keep hd mm1
    replace kk0 := keep hd kk0
    replace kk1 := keep hd kk1
    replace mN0 := keep hd mN0
    replace mN1 := keep hd mN1
    replace mW0 := keep hd mW0
    replace mW1 := keep hd mW1
    replace him := him.below hd
    replace hik := hik.below hd
    replace hiN := hiN.below hd
    replace hiW := hiW.below hd
    replace hB := chain hB hd
    have hs5 := hd.size
    clear hb hd
    go_wp2_with fail
    refine (weEqual_eq _ _ _ _ _ _ _ _ _ _ _ hiN hiW rfl rfl).mono ?_; rintro e w6 ⟨rfl, hb⟩
    have hd := hb
    replace mm0 := keep hd mm0
    replace mm1 := keep hd mm1
    replace kk0 := keep hd kk0
    replace kk1 := keep hd kk1
    replace mN0 := keep hd mN0
    replace mN1 := keep hd mN1
    replace mW0 := keep hd mW0
    replace mW1 := keep hd mW1
    replace him := him.below hd
    replace hik := hik.below hd
    replace hiN := hiN.below hd
    replace hiW := hiW.below hd
    replace hB := chain hB hd
    have hs6 := hd.size
    clear hb hd
    go_wp2
    go_ret
    exact ⟨rfl, hB⟩
  · go_wp2_with fail
    refine (iMassValid_any s _ _ _ xs _ him).mono ?_; rw [hm1]; rintro e w5 ⟨rfl, hb⟩
    have hd := hb
    replace mm0 := keep hd mm0
    replace mm1 := keep hd mm1
    replace kk0 := keep hd kk0
    replace kk1 := keep hd kk1
    replace mN0 := keep hd mN0
    replace mN1 := keep hd mN1
    replace mW0 := keep hd mW0
    replace mW1 := keep hd mW1
    replace him := him.below hd
    replace hik := hik.below hd
    replace hiN := hiN.below hd
    replace hiW := hiW.below hd
    replace hB := chain hB hd
    have hs5 := hd.size
    clear hb hd
    cases hm2 : massOk u ks
    · go_wp2_with fail
      refine (iMassValid_any u _ _ _ ks _ hik).mono ?_; rw [hm2]; rintro e w6 ⟨rfl, hb⟩
      have hd := hb
      replace mm0 := keep hd mm0
      replace mm1 := keep hd mm1
      replace kk0 := keep hd kk0
      replace kk1 := keep hd kk1
      replace mN0 := keep hd mN0
      replace mN1 := keep hd mN1
      replace mW0 := keep hd mW0
      replace mW1 := keep hd mW1
      replace him := him.below hd
      replace hik := hik.below hd
      replace hiN := hiN.below hd
      replace hiW := hiW.below hd
      replace hB := chain hB hd
      have hs6 := hd.size
      clear hb hd
      go_wp2_with fail
      refine (weEqual_eq _ _ _ _ _ _ _ _ _ _ _ hiN hiW rfl rfl).mono ?_; rintro e w7 ⟨rfl, hb⟩
      have hd := hb
      replace mm0 := keep hd mm0
      replace mm1 := keep hd mm1
      replace kk0 := keep hd kk0
      replace kk1 := keep hd kk1
      replace mN0 := keep hd mN0
      replace mN1 := keep hd mN1
      replace mW0 := keep hd mW0
      replace mW1 := keep hd mW1
      replace him := him.below hd
      replace hik := hik.below hd
      replace hiN := hiN.below hd
      replace hiW := hiW.below hd
      replace hB := chain hB hd
      have hs7 := hd.size
      clear hb hd
      go_wp2
      go_ret
      exact ⟨rfl, hB⟩
    · go_wp2_with fail
      refine (iMassValid_any u _ _ _ ks _ hik).mono ?_; rw [hm2]; rintro e w6 ⟨rfl, hb⟩
      have hd := hb
      replace mm0 := keep hd mm0
      replace mm1 := keep hd mm1
      replace kk0 := keep hd kk0
      replace kk1 := keep hd kk1
      replace mN0 := keep hd mN0
      replace mN1 := keep hd mN1
      replace mW0 := keep hd mW0
      replace mW1 := keep hd mW1
      replace him := him.below hd
      replace hik := hik.below hd
      replace hiN := hiN.below hd
      replace hiW := hiW.below hd
      replace hB := chain hB hd
      have hs6 := hd.size
      clear hb hd
      have HM1 := hid hm1
      have HM2 := hid hm2
      clear hm1 hm2
      obtain ⟨rA, HA⟩ : ∃ r, Hid (togM (fun a b => a &&& b) s xs u ks = r) := ⟨_, rfl⟩
      go_wp2_with fail
      refine (ConjoinMasses_any _ _ _ _ _ _ _ _ xs ks _ him hik).mono ?_; rw [HA.out]; rintro e w7 ⟨⟨vA, rfl, hrA⟩, hb⟩
      obtain ⟨aA, nA, cA, rfl, hiA⟩ := hrA.ints
      clear hrA
      have hd := hb
      replace mm0 := keep hd mm0
      replace mm1 := keep hd mm1
      replace kk0 := keep hd kk0
      replace kk1 := keep hd kk1
      replace mN0 := keep hd mN0
      replace mN1 := keep hd mN1
      replace mW0 := keep hd mW0
      replace mW1 := keep hd mW1
      replace him := him.below hd
      replace hik := hik.below hd
      replace hiN := hiN.below hd
      replace hiW := hiW.below hd
      replace hB := chain hB hd
      have hs7 := hd.size
      clear hb hd
      obtain ⟨rB, HB⟩ : ∃ r, Hid (togM (fun a b => a ||| b) s xs u ks = r) := ⟨_, rfl⟩
      go_wp2_with fail
      refine (DisjoinMasses_any _ _ _ _ _ _ _ _ xs ks _ (him.below (by (repeat (first | exact Below.refl _ _ | assumption | refine Below.alloc ?_ (by first | omega | (simp <;> omega)) _ | refine Below.setCell ?_ (by first | omega | (simp <;> omega)) _ | refine Below.drew ?_ | refine below_drewN ?_)))) (hik.below (by (repeat (first | exact Below.refl _ _ | assumption | refine Below.alloc ?_ (by first | omega | (simp <;> omega)) _ | refine Below.setCell ?_ (by first | omega | (simp <;> omega)) _ | refine Below.drew ?_ | refine below_drewN ?_))))).mono ?_; rw [HB.out]; rintro e w8 ⟨⟨vB, rfl, hrB⟩, hb⟩
      obtain ⟨aB, nB, cB, rfl, hiB⟩ := hrB.ints
      clear hrB
      have mA0 := keep hb (a := ⟨w7.heap.size, 0, none⟩) (v := .int .i64 rA.size) (by simp)
      have mA1 := keep hb (a := ⟨w7.heap.size, 1, none⟩) (v := .slice aA nA cA) (by simp)
      have hN5 : w7.heap.size < w8.heap.size := by have := World.block_lt_of_cell? w8 _ mA0; simpa using this
      have hd : Below w7.heap.size w7 w8 := Below.trans (by (repeat (first | exact Below.refl _ _ | assumption | refine Below.alloc ?_ (by first | omega | (simp <;> omega)) _ | refine Below.setCell ?_ (by first | omega | (simp <;> omega)) _ | refine Below.drew ?_ | refine below_drewN ?_))) (hb.mono (by simp <;> omega))
      replace mm0 := keep hd mm0
      replace mm1 := keep hd mm1
      replace kk0 := keep hd kk0
      replace kk1 := keep hd kk1
      replace mN0 := keep hd mN0
      replace mN1 := keep hd mN1
      replace mW0 := keep hd mW0
      replace mW1 := keep hd mW1
      replace him := him.below hd
      replace hik := hik.below hd
      replace hiN := hiN.below hd
      replace hiW := hiW.below hd
      replace hiA := hiA.below hd
      replace hB := chain hB hd
      have hs8 := hd.size
      clear hb hd
      obtain ⟨rC, HC⟩ : ∃ r, Hid (togM (fun a b => a ^^^ b) s xs u ks = r) := ⟨_, rfl⟩
      go_wp2_with fail
      refine (DifferMasses_any _ _ _ _ _ _ _ _ xs ks _ (him.below (by (repeat (first | exact Below.refl _ _ | assumption | refine Below.alloc ?_ (by first | omega | (simp <;> omega)) _ | refine Below.setCell ?_ (by first | omega | (simp <;> omega)) _ | refine Below.drew ?_ | refine below_drewN ?_)))) (hik.below (by (repeat (first | exact Below.refl _ _ | assumption | refine Below.alloc ?_ (by first | omega | (simp <;> omega)) _ | refine Below.setCell ?_ (by first | omega | (simp <;> omega)) _ | refine Below.drew ?_ | refine below_drewN ?_))))).mono ?_; rw [HC.out]; rintro e w9 ⟨⟨vC, rfl, hrC⟩, hb⟩
      obtain ⟨aC, nC, cC, rfl, hiC⟩ := hrC.ints
      clear hrC
      have mB0 := keep hb (a := ⟨w8.heap.size, 0, none⟩) (v := .int .i64 rB.size) (by simp)
      have mB1 := keep hb (a := ⟨w8.heap.size, 1, none⟩) (v := .slice aB nB cB) (by simp)
      have hN6 : w8.heap.size < w9.heap.size := by have := World.block_lt_of_cell? w9 _ mB0; simpa using this
      have hd : Below w8.heap.size w8 w9 := Below.trans (by (repeat (first | exact Below.refl _ _ | assumption | refine Below.alloc ?_ (by first | omega | (simp <;> omega)) _ | refine Below.setCell ?_ (by first | omega | (simp <;> omega)) _ | refine Below.drew ?_ | refine below_drewN ?_))) (hb.mono (by simp <;> omega))
      replace mm0 := keep hd mm0
      replace mm1 := keep hd mm1
      replace kk0 := keep hd kk0
      replace kk1 := keep hd kk1
      replace mN0 := keep hd mN0
      replace mN1 := keep hd mN1
      replace mW0 := keep hd mW0
      replace mW1 := keep hd mW1
      replace mA0 := keep hd mA0
      replace mA1 := keep hd mA1
      replace him := him.below hd
      replace hik := hik.below hd
      replace hiN := hiN.below hd
      replace hiW := hiW.below hd
      replace hiA := hiA.below hd
      replace hiB := hiB.below hd
      replace hB := chain hB hd
      have hs9 := hd.size
      clear hb hd
      obtain ⟨fF, HF⟩ : ∃ r, Hid (confF s xs u ks = r) := ⟨_, rfl⟩
      go_wp2_with fail
      refine (ConflictOf_any _ _ _ _ _ _ _ _ xs ks _ (him.below (by (repeat (first | exact Below.refl _ _ | assumption | refine Below.alloc ?_ (by first | omega | (simp <;> omega)) _ | refine Below.setCell ?_ (by first | omega | (simp <;> omega)) _ | refine Below.drew ?_ | refine below_drewN ?_)))) (hik.below (by (repeat (first | exact Below.refl _ _ | assumption | refine Below.alloc ?_ (by first | omega | (simp <;> omega)) _ | refine Below.setCell ?_ (by first | omega | (simp <;> omega)) _ | refine Below.drew ?_ | refine below_drewN ?_))))).mono ?_; rw [HF.out]; rintro e w10 ⟨rfl, hb⟩
      have mC0 := keep hb (a := ⟨w9.heap.size, 0, none⟩) (v := .int .i64 rC.size) (by simp)
      have mC1 := keep hb (a := ⟨w9.heap.size, 1, none⟩) (v := .slice aC nC cC) (by simp)
      have hN7 : w9.heap.size < w10.heap.size := by have := World.block_lt_of_cell? w10 _ mC0; simpa using this
      have hd : Below w9.heap.size w9 w10 := Below.trans (by (repeat (first | exact Below.refl _ _ | assumption | refine Below.alloc ?_ (by first | omega | (simp <;> omega)) _ | refine Below.setCell ?_ (by first | omega | (simp <;> omega)) _ | refine Below.drew ?_ | refine below_drewN ?_))) (hb.mono (by simp <;> omega))
      replace mm0 := keep hd mm0
      replace mm1 := keep hd mm1
      replace kk0 := keep hd kk0
      replace kk1 := keep hd kk1
      replace mN0 := keep hd mN0
      replace mN1 := keep hd mN1
      replace mW0 := keep hd mW0
      replace mW1 := keep hd mW1
      replace mA0 := keep hd mA0
      replace mA1 := keep hd mA1
      replace mB0 := keep hd mB0
      replace mB1 := keep hd mB1
      replace him := him.below hd
      replace hik := hik.below hd
      replace hiN := hiN.below hd
      replace hiW := hiW.below hd
      replace hiA := hiA.below hd
      replace hiB := hiB.below hd
      replace hiC := hiC.below hd
      replace hB := chain hB hd
      have hs10 := hd.size
      clear hb hd
      obtain ⟨fD, HD⟩ : ∃ r, Hid (distF s xs u ks = r) := ⟨_, rfl⟩
      go_wp2_with fail
      refine (DistanceOf_any _ _ _ _ _ _ _ _ xs ks _ (him.below (by (repeat (first | exact Below.refl _ _ | assumption | refine Below.alloc ?_ (by first | omega | (simp <;> omega)) _ | refine Below.setCell ?_ (by first | omega | (simp <;> omega)) _ | refine Below.drew ?_ | refine below_drewN ?_)))) (hik.below (by (repeat (first | exact Below.refl _ _ | assumption | refine Below.alloc ?_ (by first | omega | (simp <;> omega)) _ | refine Below.setCell ?_ (by first | omega | (simp <;> omega)) _ | refine Below.drew ?_ | refine below_drewN ?_))))).mono ?_; rw [HD.out]; rintro e w11 ⟨rfl, hb⟩
      have fF0 := keep hb (a := ⟨w10.heap.size, 0, none⟩) (v := .int .i64 fF.num) (by simp)
      have fF1 := keep hb (a := ⟨w10.heap.size, 1, none⟩) (v := .int .i64 fF.den) (by simp)
      have hN8 : w10.heap.size < w11.heap.size := by have := World.block_lt_of_cell? w11 _ fF0; simpa using this
      have hd : Below w10.heap.size w10 w11 := Below.trans (by (repeat (first | exact Below.refl _ _ | assumption | refine Below.alloc ?_ (by first | omega | (simp <;> omega)) _ | refine Below.setCell ?_ (by first | omega | (simp <;> omega)) _ | refine Below.drew ?_ | refine below_drewN ?_))) (hb.mono (by simp <;> omega))
      replace mm0 := keep hd mm0
      replace mm1 := keep hd mm1
      replace kk0 := keep hd kk0
      replace kk1 := keep hd kk1
      replace mN0 := keep hd mN0
      replace mN1 := keep hd mN1
      replace mW0 := keep hd mW0
      replace mW1 := keep hd mW1
      replace mA0 := keep hd mA0
      replace mA1 := keep hd mA1
      replace mB0 := keep hd mB0
      replace mB1 := keep hd mB1
      replace mC0 := keep hd mC0
      replace mC1 := keep hd mC1
      replace him := him.below hd
      replace hik := hik.below hd
      replace hiN := hiN.below hd
      replace hiW := hiW.below hd
      replace hiA := hiA.below hd
      replace hiB := hiB.below hd
      replace hiC := hiC.below hd
      replace hB := chain hB hd
      have hs11 := hd.size
      clear hb hd
      obtain ⟨TK, HTK⟩ : ∃ T, Hid (massT u ks = T) := ⟨_, rfl⟩
      have hlK : TK.length ≤ 220 := by rw [← HTK.out]; exact massT_len _ _
      obtain ⟨TM, HTM⟩ : ∃ T, Hid (massT s xs = T) := ⟨_, rfl⟩
      have hlM : TM.length ≤ 220 := by rw [← HTM.out]; exact massT_len _ _
      obtain ⟨TN, HTN⟩ : ∃ T, Hid (massT rW.size rW.parts = T) := ⟨_, rfl⟩
      have hlN : TN.length ≤ 220 := by rw [← HTN.out]; exact massT_len _ _
      obtain ⟨TA, HTA⟩ : ∃ T, Hid (massT rA.size rA.parts = T) := ⟨_, rfl⟩
      have hlA : TA.length ≤ 220 := by rw [← HTA.out]; exact massT_len _ _
      obtain ⟨TB, HTB⟩ : ∃ T, Hid (massT rB.size rB.parts = T) := ⟨_, rfl⟩
      have hlB : TB.length ≤ 220 := by rw [← HTB.out]; exact massT_len _ _
      obtain ⟨TC, HTC⟩ : ∃ T, Hid (massT rC.size rC.parts = T) := ⟨_, rfl⟩
      have hlC : TC.length ≤ 220 := by rw [← HTC.out]; exact massT_len _ _
      obtain ⟨LN, HLN⟩ : ∃ T, Hid (tellM rW = T) := ⟨_, rfl⟩
      have hmN : LN.length ≤ 220 := by rw [← HLN.out]; exact tellM_len _
      have HWLN : Hid (∀ w', Calls Tryz.prog 20 #[.string (bs TN), .bool rW.ok] w' fun e w'' => e = .returned (.string (bs (LN ++ [10]))) ∧ Below w'.heap.size w' w'') := fun w' => by rw [← HTN.out, ← HLN.out]; exact weLine_of rW w'
      obtain ⟨LA, HLA⟩ : ∃ T, Hid (tellM rA = T) := ⟨_, rfl⟩
      have hmA : LA.length ≤ 220 := by rw [← HLA.out]; exact tellM_len _
      have HWLA : Hid (∀ w', Calls Tryz.prog 20 #[.string (bs TA), .bool rA.ok] w' fun e w'' => e = .returned (.string (bs (LA ++ [10]))) ∧ Below w'.heap.size w' w'') := fun w' => by rw [← HTA.out, ← HLA.out]; exact weLine_of rA w'
      obtain ⟨LB, HLB⟩ : ∃ T, Hid (tellM rB = T) := ⟨_, rfl⟩
      have hmB : LB.length ≤ 220 := by rw [← HLB.out]; exact tellM_len _
      have HWLB : Hid (∀ w', Calls Tryz.prog 20 #[.string (bs TB), .bool rB.ok] w' fun e w'' => e = .returned (.string (bs (LB ++ [10]))) ∧ Below w'.heap.size w' w'') := fun w' => by rw [← HTB.out, ← HLB.out]; exact weLine_of rB w'
      obtain ⟨LC, HLC⟩ : ∃ T, Hid (tellM rC = T) := ⟨_, rfl⟩
      have hmC : LC.length ≤ 220 := by rw [← HLC.out]; exact tellM_len _
      have HWLC : Hid (∀ w', Calls Tryz.prog 20 #[.string (bs TC), .bool rC.ok] w' fun e w'' => e = .returned (.string (bs (LC ++ [10]))) ∧ Below w'.heap.size w' w'') := fun w' => by rw [← HTC.out, ← HLC.out]; exact weLine_of rC w'
      obtain ⟨LF, HLF⟩ : ∃ T, Hid (tellF fF = T) := ⟨_, rfl⟩
      have hmF : LF.length ≤ 70 := by rw [← HLF.out]; exact tellF_len _
      have HWPF : Hid (∀ w', LibV w' → Calls Tryz.prog 16 #[.agg #[.int .i64 fF.num, .int .i64 fF.den], .bool fF.ok] w' fun e w'' => e = .returned (.string (bs (LF ++ [10]))) ∧ Below w'.heap.size w' w'') := hid fun w' h => by rw [← HLF.out]; exact wePart_any fF w' h.pow
      obtain ⟨LD, HLD⟩ : ∃ T, Hid (tellF fD = T) := ⟨_, rfl⟩
      have hmD : LD.length ≤ 70 := by rw [← HLD.out]; exact tellF_len _
      have HWPD : Hid (∀ w', LibV w' → Calls Tryz.prog 16 #[.agg #[.int .i64 fD.num, .int .i64 fD.den], .bool fD.ok] w' fun e w'' => e = .returned (.string (bs (LD ++ [10]))) ∧ Below w'.heap.size w' w'') := hid fun w' h => by rw [← HLD.out]; exact wePart_any fD w' h.pow
      obtain ⟨b1, hb1⟩ : ∃ b : Bool, b = true ↔ (oneQ s xs u ks = true ∧ HallD subN xs.length xs ks (isum xs) (isum ks)) := by
        by_cases h : (oneQ s xs u ks = true ∧ HallD subN xs.length xs ks (isum xs) (isum ks))
        · exact ⟨true, by simp only [true_iff]; exact h⟩
        · exact ⟨false, by simp only [Bool.false_eq_true, false_iff]; exact h⟩
      have HB1 := hid hb1
      clear hb1
      obtain ⟨b2, HB2⟩ : ∃ b, Hid (moreB s xs u ks = b) := ⟨_, rfl⟩
      obtain ⟨L1, HL1⟩ : ∃ T, Hid (truthT b1 = T) := ⟨_, rfl⟩
      have hm1 : L1.length ≤ 5 := by rw [← HL1.out]; exact truthT_len _
      have HWW1 : Hid (∀ w', Calls Tryz.prog 17 #[.bool b1] w' fun e w'' => e = .returned (.string (bs (L1 ++ [10]))) ∧ Below w'.heap.size w' w'') := fun w' => by rw [← HL1.out]; exact weWord_any b1 w'
      obtain ⟨L2, HL2⟩ : ∃ T, Hid (truthT b2 = T) := ⟨_, rfl⟩
      have hm2 : L2.length ≤ 5 := by rw [← HL2.out]; exact truthT_len _
      have HWW2 : Hid (∀ w', Calls Tryz.prog 17 #[.bool b2] w' fun e w'' => e = .returned (.string (bs (L2 ++ [10]))) ∧ Below w'.heap.size w' w'') := fun w' => by rw [← HL2.out]; exact weWord_any b2 w'
      have HSP : Hid (∀ w', IntsAt w' am nm xs → IntsAt w' ak nk ks → Calls Tryz.prog 18 #[.agg #[.int .i64 s, .slice am nm cm], .agg #[.int .i64 u, .slice ak nk ck]] w' fun e w'' => e = .returned (.bool b1) ∧ Below w'.heap.size w' w'') := hid fun w' h1 h2 => IsSpecialized_is s u _ _ _ _ _ _ xs ks b1 w' h1 h2 (by rw [← h1.len]; exact HB1.out)
      have HMP : Hid (∀ w', IntsAt w' am nm xs → IntsAt w' ak nk ks → Calls Tryz.prog 19 #[.agg #[.int .i64 s, .slice am nm cm], .agg #[.int .i64 u, .slice ak nk ck]] w' fun e w'' => e = .returned (.bool b2) ∧ Below w'.heap.size w' w'') := hid fun w' h1 h2 => by rw [← HB2.out]; exact MorePossible_any s u _ _ _ _ _ _ xs ks w' h1 h2
      have kzs0 : ¬ 9223372036854775807 < (ByteArray.mk #[108, 101, 102, 116, 32]).size + (bs TM).size := by
        have z0 : (ByteArray.mk #[108, 101, 102, 116, 32]).size = 5 := rfl
        simp only [ByteArray.size_append, bs_size, List.length_append, List.length_singleton, z0]; omega
      have kzs1 : ¬ 9223372036854775807 < (ByteArray.mk #[108, 101, 102, 116, 32] ++ bs TM).size + (ByteArray.mk #[10]).size := by
        have z0 : (ByteArray.mk #[108, 101, 102, 116, 32]).size = 5 := rfl
        have z1 : (ByteArray.mk #[10]).size = 1 := rfl
        simp only [ByteArray.size_append, bs_size, List.length_append, List.length_singleton, z0, z1]; omega
      have kzs2 : ¬ 9223372036854775807 < (ByteArray.mk #[108, 101, 102, 116, 32] ++ bs TM ++ ByteArray.mk #[10]).size + (ByteArray.mk #[114, 105, 103, 104, 116, 32]).size := by
        have z0 : (ByteArray.mk #[108, 101, 102, 116, 32]).size = 5 := rfl
        have z1 : (ByteArray.mk #[10]).size = 1 := rfl
        have z2 : (ByteArray.mk #[114, 105, 103, 104, 116, 32]).size = 6 := rfl
        simp only [ByteArray.size_append, bs_size, List.length_append, List.length_singleton, z0, z1, z2]; omega
      have HSET : Hid (ByteArray.mk #[108, 101, 102, 116, 32] ++ bs TM ++ ByteArray.mk #[10] = bs ([108, 101, 102, 116] ++ 32 :: TM ++ [10])) := by rw [Hid]; simp only [mkbs, bs_append]; congr 1 <;> simp
      go_wp2_with fail
      refine (FormatMass_any s _ _ _ xs _ (him.below (by (repeat (first | exact Below.refl _ _ | assumption | refine Below.alloc ?_ (by first | omega | (simp <;> omega)) _ | refine Below.setCell ?_ (by first | omega | (simp <;> omega)) _ | refine Below.drew ?_ | refine below_drewN ?_)))) ((HV.out.below hB).below (by (repeat (first | exact Below.refl _ _ | assumption | refine Below.alloc ?_ (by first | omega | (simp <;> omega)) _ | refine Below.setCell ?_ (by first | omega | (simp <;> omega)) _ | refine Below.drew ?_ | refine below_drewN ?_))))).mono ?_; rw [HTM.out]; rintro e w12 ⟨rfl, hb⟩
      have fD0 := keep hb (a := ⟨w11.heap.size, 0, none⟩) (v := .int .i64 fD.num) (by simp)
      have fD1 := keep hb (a := ⟨w11.heap.size, 1, none⟩) (v := .int .i64 fD.den) (by simp)
      have hN9 : w11.heap.size < w12.heap.size := by have := World.block_lt_of_cell? w12 _ fD0; simpa using this
      have hd : Below w11.heap.size w11 w12 := Below.trans (by (repeat (first | exact Below.refl _ _ | assumption | refine Below.alloc ?_ (by first | omega | (simp <;> omega)) _ | refine Below.setCell ?_ (by first | omega | (simp <;> omega)) _ | refine Below.drew ?_ | refine below_drewN ?_))) (hb.mono (by simp <;> omega))
      replace mm0 := keep hd mm0
      replace mm1 := keep hd mm1
      replace kk0 := keep hd kk0
      replace kk1 := keep hd kk1
      replace mN0 := keep hd mN0
      replace mN1 := keep hd mN1
      replace mW0 := keep hd mW0
      replace mW1 := keep hd mW1
      replace mA0 := keep hd mA0
      replace mA1 := keep hd mA1
      replace mB0 := keep hd mB0
      replace mB1 := keep hd mB1
      replace mC0 := keep hd mC0
      replace mC1 := keep hd mC1
      replace fF0 := keep hd fF0
      replace fF1 := keep hd fF1
      replace him := him.below hd
      replace hik := hik.below hd
      replace hiN := hiN.below hd
      replace hiW := hiW.below hd
      replace hiA := hiA.below hd
      replace hiB := hiB.below hd
      replace hiC := hiC.below hd
      replace hB := chain hB hd
      have hs12 := hd.size
      clear hb hd
      obtain ⟨SET, hSET⟩ : ∃ T, bs ([108, 101, 102, 116] ++ 32 :: TM ++ [10]) = T := ⟨_, rfl⟩
      have hSl : SET.size ≤ 230 := by rw [← hSET, bs_size]; simp; omega
      rw [hSET] at HSET
      have HST := hid hSET
      clear hSET
      have kzt0 : ¬ 9223372036854775807 < (SET).size + (ByteArray.mk #[114, 105, 103, 104, 116, 32]).size := by
        have z0 : (ByteArray.mk #[114, 105, 103, 104, 116, 32]).size = 6 := rfl
        simp only [ByteArray.size_append, bs_size, List.length_append, List.length_singleton, z0]; omega
      have kzt1 : ¬ 9223372036854775807 < (SET ++ ByteArray.mk #[114, 105, 103, 104, 116, 32]).size + (bs TK).size := by
        have z0 : (ByteArray.mk #[114, 105, 103, 104, 116, 32]).size = 6 := rfl
        simp only [ByteArray.size_append, bs_size, List.length_append, List.length_singleton, z0]; omega
      have kzt2 : ¬ 9223372036854775807 < (SET ++ ByteArray.mk #[114, 105, 103, 104, 116, 32] ++ bs TK).size + (ByteArray.mk (List.toArray (10 :: 99 :: 111 :: 110 :: 102 :: 108 :: 105 :: 99 :: 116 :: 10 :: 100 :: 105 :: 115 :: 116 :: 97 :: 110 :: 99 :: 101 :: 10 :: 115 :: 112 :: 101 :: 99 :: 105 :: 97 :: 108 :: 105 :: 122 :: 101 :: 100 :: 10 :: 108 :: 101 :: 115 :: 115 :: 10 :: 106 :: 111 :: 105 :: 110 :: 10 :: []))).size := by
        have z0 : (ByteArray.mk #[114, 105, 103, 104, 116, 32]).size = 6 := rfl
        have z1 : (ByteArray.mk (List.toArray (10 :: 99 :: 111 :: 110 :: 102 :: 108 :: 105 :: 99 :: 116 :: 10 :: 100 :: 105 :: 115 :: 116 :: 97 :: 110 :: 99 :: 101 :: 10 :: 115 :: 112 :: 101 :: 99 :: 105 :: 97 :: 108 :: 105 :: 122 :: 101 :: 100 :: 10 :: 108 :: 101 :: 115 :: 115 :: 10 :: 106 :: 111 :: 105 :: 110 :: 10 :: []))).size = 41 := rfl
        simp only [ByteArray.size_append, bs_size, List.length_append, List.length_singleton, z0, z1]; omega
      have kzt3 : ¬ 9223372036854775807 < (SET ++ ByteArray.mk #[114, 105, 103, 104, 116, 32] ++ bs TK ++ ByteArray.mk (List.toArray (10 :: 99 :: 111 :: 110 :: 102 :: 108 :: 105 :: 99 :: 116 :: 10 :: 100 :: 105 :: 115 :: 116 :: 97 :: 110 :: 99 :: 101 :: 10 :: 115 :: 112 :: 101 :: 99 :: 105 :: 97 :: 108 :: 105 :: 122 :: 101 :: 100 :: 10 :: 108 :: 101 :: 115 :: 115 :: 10 :: 106 :: 111 :: 105 :: 110 :: 10 :: []))).size + (SET).size := by
        have z0 : (ByteArray.mk #[114, 105, 103, 104, 116, 32]).size = 6 := rfl
        have z1 : (ByteArray.mk (List.toArray (10 :: 99 :: 111 :: 110 :: 102 :: 108 :: 105 :: 99 :: 116 :: 10 :: 100 :: 105 :: 115 :: 116 :: 97 :: 110 :: 99 :: 101 :: 10 :: 115 :: 112 :: 101 :: 99 :: 105 :: 97 :: 108 :: 105 :: 122 :: 101 :: 100 :: 10 :: 108 :: 101 :: 115 :: 115 :: 10 :: 106 :: 111 :: 105 :: 110 :: 10 :: []))).size = 41 := rfl
        simp only [ByteArray.size_append, bs_size, List.length_append, List.length_singleton, z0, z1]; omega
      have kzt4 : ¬ 9223372036854775807 < (SET ++ ByteArray.mk #[114, 105, 103, 104, 116, 32] ++ bs TK ++ ByteArray.mk (List.toArray (10 :: 99 :: 111 :: 110 :: 102 :: 108 :: 105 :: 99 :: 116 :: 10 :: 100 :: 105 :: 115 :: 116 :: 97 :: 110 :: 99 :: 101 :: 10 :: 115 :: 112 :: 101 :: 99 :: 105 :: 97 :: 108 :: 105 :: 122 :: 101 :: 100 :: 10 :: 108 :: 101 :: 115 :: 115 :: 10 :: 106 :: 111 :: 105 :: 110 :: 10 :: [])) ++ SET).size + (ByteArray.mk #[97, 110, 100, 10]).size := by
        have z0 : (ByteArray.mk #[114, 105, 103, 104, 116, 32]).size = 6 := rfl
        have z1 : (ByteArray.mk (List.toArray (10 :: 99 :: 111 :: 110 :: 102 :: 108 :: 105 :: 99 :: 116 :: 10 :: 100 :: 105 :: 115 :: 116 :: 97 :: 110 :: 99 :: 101 :: 10 :: 115 :: 112 :: 101 :: 99 :: 105 :: 97 :: 108 :: 105 :: 122 :: 101 :: 100 :: 10 :: 108 :: 101 :: 115 :: 115 :: 10 :: 106 :: 111 :: 105 :: 110 :: 10 :: []))).size = 41 := rfl
        have z2 : (ByteArray.mk #[97, 110, 100, 10]).size = 4 := rfl
        simp only [ByteArray.size_append, bs_size, List.length_append, List.length_singleton, z0, z1, z2]; omega
      have kzt5 : ¬ 9223372036854775807 < (SET ++ ByteArray.mk #[114, 105, 103, 104, 116, 32] ++ bs TK ++ ByteArray.mk (List.toArray (10 :: 99 :: 111 :: 110 :: 102 :: 108 :: 105 :: 99 :: 116 :: 10 :: 100 :: 105 :: 115 :: 116 :: 97 :: 110 :: 99 :: 101 :: 10 :: 115 :: 112 :: 101 :: 99 :: 105 :: 97 :: 108 :: 105 :: 122 :: 101 :: 100 :: 10 :: 108 :: 101 :: 115 :: 115 :: 10 :: 106 :: 111 :: 105 :: 110 :: 10 :: [])) ++ SET ++ ByteArray.mk #[97, 110, 100, 10]).size + (SET).size := by
        have z0 : (ByteArray.mk #[114, 105, 103, 104, 116, 32]).size = 6 := rfl
        have z1 : (ByteArray.mk (List.toArray (10 :: 99 :: 111 :: 110 :: 102 :: 108 :: 105 :: 99 :: 116 :: 10 :: 100 :: 105 :: 115 :: 116 :: 97 :: 110 :: 99 :: 101 :: 10 :: 115 :: 112 :: 101 :: 99 :: 105 :: 97 :: 108 :: 105 :: 122 :: 101 :: 100 :: 10 :: 108 :: 101 :: 115 :: 115 :: 10 :: 106 :: 111 :: 105 :: 110 :: 10 :: []))).size = 41 := rfl
        have z2 : (ByteArray.mk #[97, 110, 100, 10]).size = 4 := rfl
        simp only [ByteArray.size_append, bs_size, List.length_append, List.length_singleton, z0, z1, z2]; omega
      have kzt6 : ¬ 9223372036854775807 < (SET ++ ByteArray.mk #[114, 105, 103, 104, 116, 32] ++ bs TK ++ ByteArray.mk (List.toArray (10 :: 99 :: 111 :: 110 :: 102 :: 108 :: 105 :: 99 :: 116 :: 10 :: 100 :: 105 :: 115 :: 116 :: 97 :: 110 :: 99 :: 101 :: 10 :: 115 :: 112 :: 101 :: 99 :: 105 :: 97 :: 108 :: 105 :: 122 :: 101 :: 100 :: 10 :: 108 :: 101 :: 115 :: 115 :: 10 :: 106 :: 111 :: 105 :: 110 :: 10 :: [])) ++ SET ++ ByteArray.mk #[97, 110, 100, 10] ++ SET).size + (ByteArray.mk #[111, 114, 10]).size := by
        have z0 : (ByteArray.mk #[114, 105, 103, 104, 116, 32]).size = 6 := rfl
        have z1 : (ByteArray.mk (List.toArray (10 :: 99 :: 111 :: 110 :: 102 :: 108 :: 105 :: 99 :: 116 :: 10 :: 100 :: 105 :: 115 :: 116 :: 97 :: 110 :: 99 :: 101 :: 10 :: 115 :: 112 :: 101 :: 99 :: 105 :: 97 :: 108 :: 105 :: 122 :: 101 :: 100 :: 10 :: 108 :: 101 :: 115 :: 115 :: 10 :: 106 :: 111 :: 105 :: 110 :: 10 :: []))).size = 41 := rfl
        have z2 : (ByteArray.mk #[97, 110, 100, 10]).size = 4 := rfl
        have z3 : (ByteArray.mk #[111, 114, 10]).size = 3 := rfl
        simp only [ByteArray.size_append, bs_size, List.length_append, List.length_singleton, z0, z1, z2, z3]; omega
      have kzt7 : ¬ 9223372036854775807 < (SET ++ ByteArray.mk #[114, 105, 103, 104, 116, 32] ++ bs TK ++ ByteArray.mk (List.toArray (10 :: 99 :: 111 :: 110 :: 102 :: 108 :: 105 :: 99 :: 116 :: 10 :: 100 :: 105 :: 115 :: 116 :: 97 :: 110 :: 99 :: 101 :: 10 :: 115 :: 112 :: 101 :: 99 :: 105 :: 97 :: 108 :: 105 :: 122 :: 101 :: 100 :: 10 :: 108 :: 101 :: 115 :: 115 :: 10 :: 106 :: 111 :: 105 :: 110 :: 10 :: [])) ++ SET ++ ByteArray.mk #[97, 110, 100, 10] ++ SET ++ ByteArray.mk #[111, 114, 10]).size + (SET).size := by
        have z0 : (ByteArray.mk #[114, 105, 103, 104, 116, 32]).size = 6 := rfl
        have z1 : (ByteArray.mk (List.toArray (10 :: 99 :: 111 :: 110 :: 102 :: 108 :: 105 :: 99 :: 116 :: 10 :: 100 :: 105 :: 115 :: 116 :: 97 :: 110 :: 99 :: 101 :: 10 :: 115 :: 112 :: 101 :: 99 :: 105 :: 97 :: 108 :: 105 :: 122 :: 101 :: 100 :: 10 :: 108 :: 101 :: 115 :: 115 :: 10 :: 106 :: 111 :: 105 :: 110 :: 10 :: []))).size = 41 := rfl
        have z2 : (ByteArray.mk #[97, 110, 100, 10]).size = 4 := rfl
        have z3 : (ByteArray.mk #[111, 114, 10]).size = 3 := rfl
        simp only [ByteArray.size_append, bs_size, List.length_append, List.length_singleton, z0, z1, z2, z3]; omega
      have kzt8 : ¬ 9223372036854775807 < (SET ++ ByteArray.mk #[114, 105, 103, 104, 116, 32] ++ bs TK ++ ByteArray.mk (List.toArray (10 :: 99 :: 111 :: 110 :: 102 :: 108 :: 105 :: 99 :: 116 :: 10 :: 100 :: 105 :: 115 :: 116 :: 97 :: 110 :: 99 :: 101 :: 10 :: 115 :: 112 :: 101 :: 99 :: 105 :: 97 :: 108 :: 105 :: 122 :: 101 :: 100 :: 10 :: 108 :: 101 :: 115 :: 115 :: 10 :: 106 :: 111 :: 105 :: 110 :: 10 :: [])) ++ SET ++ ByteArray.mk #[97, 110, 100, 10] ++ SET ++ ByteArray.mk #[111, 114, 10] ++ SET).size + (ByteArray.mk #[120, 111, 114, 10]).size := by
        have z0 : (ByteArray.mk #[114, 105, 103, 104, 116, 32]).size = 6 := rfl
        have z1 : (ByteArray.mk (List.toArray (10 :: 99 :: 111 :: 110 :: 102 :: 108 :: 105 :: 99 :: 116 :: 10 :: 100 :: 105 :: 115 :: 116 :: 97 :: 110 :: 99 :: 101 :: 10 :: 115 :: 112 :: 101 :: 99 :: 105 :: 97 :: 108 :: 105 :: 122 :: 101 :: 100 :: 10 :: 108 :: 101 :: 115 :: 115 :: 10 :: 106 :: 111 :: 105 :: 110 :: 10 :: []))).size = 41 := rfl
        have z2 : (ByteArray.mk #[97, 110, 100, 10]).size = 4 := rfl
        have z3 : (ByteArray.mk #[111, 114, 10]).size = 3 := rfl
        have z4 : (ByteArray.mk #[120, 111, 114, 10]).size = 4 := rfl
        simp only [ByteArray.size_append, bs_size, List.length_append, List.length_singleton, z0, z1, z2, z3, z4]; omega
      have kzo0 : ¬ 9223372036854775807 < (ByteArray.mk #[111, 107, 10, 111, 107, 10]).size + (bs (LF ++ [10])).size := by
        have z0 : (ByteArray.mk #[111, 107, 10, 111, 107, 10]).size = 6 := rfl
        simp only [ByteArray.size_append, bs_size, List.length_append, List.length_singleton, z0]; omega
      have kzo1 : ¬ 9223372036854775807 < (ByteArray.mk #[111, 107, 10, 111, 107, 10] ++ bs (LF ++ [10])).size + (bs (LD ++ [10])).size := by
        have z0 : (ByteArray.mk #[111, 107, 10, 111, 107, 10]).size = 6 := rfl
        simp only [ByteArray.size_append, bs_size, List.length_append, List.length_singleton, z0]; omega
      have kzo2 : ¬ 9223372036854775807 < (ByteArray.mk #[111, 107, 10, 111, 107, 10] ++ bs (LF ++ [10]) ++ bs (LD ++ [10])).size + (bs (L1 ++ [10])).size := by
        have z0 : (ByteArray.mk #[111, 107, 10, 111, 107, 10]).size = 6 := rfl
        simp only [ByteArray.size_append, bs_size, List.length_append, List.length_singleton, z0]; omega
      have kzo3 : ¬ 9223372036854775807 < (ByteArray.mk #[111, 107, 10, 111, 107, 10] ++ bs (LF ++ [10]) ++ bs (LD ++ [10]) ++ bs (L1 ++ [10])).size + (bs (L2 ++ [10])).size := by
        have z0 : (ByteArray.mk #[111, 107, 10, 111, 107, 10]).size = 6 := rfl
        simp only [ByteArray.size_append, bs_size, List.length_append, List.length_singleton, z0]; omega
      have kzo4 : ¬ 9223372036854775807 < (ByteArray.mk #[111, 107, 10, 111, 107, 10] ++ bs (LF ++ [10]) ++ bs (LD ++ [10]) ++ bs (L1 ++ [10]) ++ bs (L2 ++ [10])).size + (bs (LN ++ [10])).size := by
        have z0 : (ByteArray.mk #[111, 107, 10, 111, 107, 10]).size = 6 := rfl
        simp only [ByteArray.size_append, bs_size, List.length_append, List.length_singleton, z0]; omega
      have kzo5 : ¬ 9223372036854775807 < (ByteArray.mk #[111, 107, 10, 111, 107, 10] ++ bs (LF ++ [10]) ++ bs (LD ++ [10]) ++ bs (L1 ++ [10]) ++ bs (L2 ++ [10]) ++ bs (LN ++ [10])).size + (ByteArray.mk #[111, 107, 10]).size := by
        have z0 : (ByteArray.mk #[111, 107, 10, 111, 107, 10]).size = 6 := rfl
        have z1 : (ByteArray.mk #[111, 107, 10]).size = 3 := rfl
        simp only [ByteArray.size_append, bs_size, List.length_append, List.length_singleton, z0, z1]; omega
      have kzo6 : ¬ 9223372036854775807 < (ByteArray.mk #[111, 107, 10, 111, 107, 10] ++ bs (LF ++ [10]) ++ bs (LD ++ [10]) ++ bs (L1 ++ [10]) ++ bs (L2 ++ [10]) ++ bs (LN ++ [10]) ++ ByteArray.mk #[111, 107, 10]).size + (bs (LA ++ [10])).size := by
        have z0 : (ByteArray.mk #[111, 107, 10, 111, 107, 10]).size = 6 := rfl
        have z1 : (ByteArray.mk #[111, 107, 10]).size = 3 := rfl
        simp only [ByteArray.size_append, bs_size, List.length_append, List.length_singleton, z0, z1]; omega
      have kzo7 : ¬ 9223372036854775807 < (ByteArray.mk #[111, 107, 10, 111, 107, 10] ++ bs (LF ++ [10]) ++ bs (LD ++ [10]) ++ bs (L1 ++ [10]) ++ bs (L2 ++ [10]) ++ bs (LN ++ [10]) ++ ByteArray.mk #[111, 107, 10] ++ bs (LA ++ [10])).size + (ByteArray.mk #[111, 107, 10]).size := by
        have z0 : (ByteArray.mk #[111, 107, 10, 111, 107, 10]).size = 6 := rfl
        have z1 : (ByteArray.mk #[111, 107, 10]).size = 3 := rfl
        simp only [ByteArray.size_append, bs_size, List.length_append, List.length_singleton, z0, z1]; omega
      have kzo8 : ¬ 9223372036854775807 < (ByteArray.mk #[111, 107, 10, 111, 107, 10] ++ bs (LF ++ [10]) ++ bs (LD ++ [10]) ++ bs (L1 ++ [10]) ++ bs (L2 ++ [10]) ++ bs (LN ++ [10]) ++ ByteArray.mk #[111, 107, 10] ++ bs (LA ++ [10]) ++ ByteArray.mk #[111, 107, 10]).size + (bs (LB ++ [10])).size := by
        have z0 : (ByteArray.mk #[111, 107, 10, 111, 107, 10]).size = 6 := rfl
        have z1 : (ByteArray.mk #[111, 107, 10]).size = 3 := rfl
        simp only [ByteArray.size_append, bs_size, List.length_append, List.length_singleton, z0, z1]; omega
      have kzo9 : ¬ 9223372036854775807 < (ByteArray.mk #[111, 107, 10, 111, 107, 10] ++ bs (LF ++ [10]) ++ bs (LD ++ [10]) ++ bs (L1 ++ [10]) ++ bs (L2 ++ [10]) ++ bs (LN ++ [10]) ++ ByteArray.mk #[111, 107, 10] ++ bs (LA ++ [10]) ++ ByteArray.mk #[111, 107, 10] ++ bs (LB ++ [10])).size + (ByteArray.mk #[111, 107, 10]).size := by
        have z0 : (ByteArray.mk #[111, 107, 10, 111, 107, 10]).size = 6 := rfl
        have z1 : (ByteArray.mk #[111, 107, 10]).size = 3 := rfl
        simp only [ByteArray.size_append, bs_size, List.length_append, List.length_singleton, z0, z1]; omega
      have kzo10 : ¬ 9223372036854775807 < (ByteArray.mk #[111, 107, 10, 111, 107, 10] ++ bs (LF ++ [10]) ++ bs (LD ++ [10]) ++ bs (L1 ++ [10]) ++ bs (L2 ++ [10]) ++ bs (LN ++ [10]) ++ ByteArray.mk #[111, 107, 10] ++ bs (LA ++ [10]) ++ ByteArray.mk #[111, 107, 10] ++ bs (LB ++ [10]) ++ ByteArray.mk #[111, 107, 10]).size + (bs (LC ++ [10])).size := by
        have z0 : (ByteArray.mk #[111, 107, 10, 111, 107, 10]).size = 6 := rfl
        have z1 : (ByteArray.mk #[111, 107, 10]).size = 3 := rfl
        simp only [ByteArray.size_append, bs_size, List.length_append, List.length_singleton, z0, z1]; omega
      obtain ⟨ST, hST⟩ : ∃ S : List (List UInt8 × List UInt8), [([108, 101, 102, 116] ++ 32 :: TM, [111, 107]), ([114, 105, 103, 104, 116] ++ 32 :: TK, [111, 107]), ([99, 111, 110, 102, 108, 105, 99, 116], LF), ([100, 105, 115, 116, 97, 110, 99, 101], LD), ([115, 112, 101, 99, 105, 97, 108, 105, 122, 101, 100], L1), ([108, 101, 115, 115], L2), ([106, 111, 105, 110], LN), ([108, 101, 102, 116] ++ 32 :: TM, [111, 107]), ([97, 110, 100], LA), ([108, 101, 102, 116] ++ 32 :: TM, [111, 107]), ([111, 114], LB), ([108, 101, 102, 116] ++ 32 :: TM, [111, 107]), ([120, 111, 114], LC)] = S := ⟨_, rfl⟩
      have HTX : Hid (SET ++ ByteArray.mk #[114, 105, 103, 104, 116, 32] ++ bs TK ++ ByteArray.mk (List.toArray (10 :: 99 :: 111 :: 110 :: 102 :: 108 :: 105 :: 99 :: 116 :: 10 :: 100 :: 105 :: 115 :: 116 :: 97 :: 110 :: 99 :: 101 :: 10 :: 115 :: 112 :: 101 :: 99 :: 105 :: 97 :: 108 :: 105 :: 122 :: 101 :: 100 :: 10 :: 108 :: 101 :: 115 :: 115 :: 10 :: 106 :: 111 :: 105 :: 110 :: 10 :: [])) ++ SET ++ ByteArray.mk #[97, 110, 100, 10] ++ SET ++ ByteArray.mk #[111, 114, 10] ++ SET ++ ByteArray.mk #[120, 111, 114, 10] = bs (lineT (ST.map Prod.fst))) := by rw [Hid, ← HST.out, ← hST]; simp only [mkbs, bs_append]; congr 1; simp [lineT]
      have HOX : Hid (ByteArray.mk #[111, 107, 10, 111, 107, 10] ++ bs (LF ++ [10]) ++ bs (LD ++ [10]) ++ bs (L1 ++ [10]) ++ bs (L2 ++ [10]) ++ bs (LN ++ [10]) ++ ByteArray.mk #[111, 107, 10] ++ bs (LA ++ [10]) ++ ByteArray.mk #[111, 107, 10] ++ bs (LB ++ [10]) ++ ByteArray.mk #[111, 107, 10] ++ bs (LC ++ [10]) = bs (lineT (ST.map Prod.snd))) := by rw [Hid, ← hST]; simp only [mkbs, bs_append]; congr 1; simp [lineT]
      have HCH : Hid (∃ d', Chain startD ST d') := by
        rw [Hid, ← hST, ← HLF.out, ← HLD.out, ← HL1.out, ← HL2.out, ← HLN.out, ← HLA.out, ← HLB.out, ← HLC.out, ← HTK.out, ← HTM.out, ← HB2.out, ← HW.out, ← HA.out, ← HB.out, ← HC.out, ← HF.out, ← HD.out]
        exact ⟨_, (Chain.cons (run_left _ HM1.out) (Chain.cons (run_right _ HM2.out) (Chain.cons (run_plain (by decide) (by decide) (pl_conflict _)) (Chain.cons (run_plain (by decide) (by decide) (pl_distance _)) (Chain.cons (run_plain (by decide) (by decide) (pl_specialized _ b1 HB1.out)) (Chain.cons (run_plain (by decide) (by decide) (pl_less _)) (Chain.cons (run_plain (by decide) (by decide) (pl_join _)) (Chain.cons (run_left _ HM1.out) (Chain.cons (run_plain (by decide) (by decide) (pl_andE _ rfl rfl (leftM_t _ _) (leftM_ys _ _))) (Chain.cons (run_left _ HM1.out) (Chain.cons (run_plain (by decide) (by decide) (pl_orE _ rfl rfl ((leftM_t _ _).trans (leftM_t _ _)) ((leftM_ys _ _).trans (leftM_ys _ _)))) (Chain.cons (run_left _ HM1.out) (Chain.cons (run_plain (by decide) (by decide) (pl_xorE _ rfl rfl ((leftM_t _ _).trans ((leftM_t _ _).trans (leftM_t _ _))) ((leftM_ys _ _).trans ((leftM_ys _ _).trans (leftM_ys _ _))))) (Chain.nil _))))))))))))))⟩
      have HNL : Hid ((10 : UInt8) ∉ TK ∧ (10 : UInt8) ∉ TM) := by rw [Hid, ← HTK.out, ← HTM.out]; exact ⟨massT_line, massT_line⟩
      have HRUN : Hid (∀ w', LibV w' → Calls Tryz.prog 21 #[.string (bs (lineT (ST.map Prod.fst)))] w' fun e w'' => e = .returned (.string (bs (lineT (ST.map Prod.snd)))) ∧ Below w'.heap.size w' w'') := fun w' h => by
        obtain ⟨d', hch⟩ := HCH.out
        obtain ⟨k1, k2⟩ := HNL.out
        refine RunScript_any ST d' w' h hch ?_ ?_ ?_ ?_
        · rw [← hST]; show 13 ≤ 99; omega
        · rw [← hST]; intro q hq; simp only [List.mem_cons, List.not_mem_nil, or_false] at hq; rcases hq with rfl | rfl | rfl | rfl | rfl | rfl | rfl | rfl | rfl | rfl | rfl | rfl | rfl <;> simp [k1, k2]
        · rw [← hST]; simp [lineT]; omega
        · rw [← hST]; simp [lineT]; omega
      clear hST HCH HNL
      go_wp2_with fail
      rw [HSET.out]
      go_wp2_with fail
      refine (FormatMass_any u _ _ _ ks _ hik (HV.out.below hB)).mono ?_; rw [HTK.out]; rintro e w13 ⟨rfl, hb⟩
      have hd := hb
      replace mm0 := keep hd mm0
      replace mm1 := keep hd mm1
      replace kk0 := keep hd kk0
      replace kk1 := keep hd kk1
      replace mN0 := keep hd mN0
      replace mN1 := keep hd mN1
      replace mW0 := keep hd mW0
      replace mW1 := keep hd mW1
      replace mA0 := keep hd mA0
      replace mA1 := keep hd mA1
      replace mB0 := keep hd mB0
      replace mB1 := keep hd mB1
      replace mC0 := keep hd mC0
      replace mC1 := keep hd mC1
      replace fF0 := keep hd fF0
      replace fF1 := keep hd fF1
      replace fD0 := keep hd fD0
      replace fD1 := keep hd fD1
      replace him := him.below hd
      replace hik := hik.below hd
      replace hiN := hiN.below hd
      replace hiW := hiW.below hd
      replace hiA := hiA.below hd
      replace hiB := hiB.below hd
      replace hiC := hiC.below hd
      replace hB := chain hB hd
      have hs13 := hd.size
      clear hb hd
      have HFN : Hid (∀ w', IntsAt w' aN nN rW.parts → LibV w' → Calls Tryz.prog 15 #[.agg #[.int .i64 rW.size, .slice aN nN cN]] w' fun e w'' => e = .returned (.string (bs TN)) ∧ Below w'.heap.size w' w'') := fun w' h1 h2 => by rw [← HTN.out]; exact FormatMass_any rW.size _ _ _ rW.parts w' h1 h2
      have HFA : Hid (∀ w', IntsAt w' aA nA rA.parts → LibV w' → Calls Tryz.prog 15 #[.agg #[.int .i64 rA.size, .slice aA nA cA]] w' fun e w'' => e = .returned (.string (bs TA)) ∧ Below w'.heap.size w' w'') := fun w' h1 h2 => by rw [← HTA.out]; exact FormatMass_any rA.size _ _ _ rA.parts w' h1 h2
      have HFB : Hid (∀ w', IntsAt w' aB nB rB.parts → LibV w' → Calls Tryz.prog 15 #[.agg #[.int .i64 rB.size, .slice aB nB cB]] w' fun e w'' => e = .returned (.string (bs TB)) ∧ Below w'.heap.size w' w'') := fun w' h1 h2 => by rw [← HTB.out]; exact FormatMass_any rB.size _ _ _ rB.parts w' h1 h2
      have HFC : Hid (∀ w', IntsAt w' aC nC rC.parts → LibV w' → Calls Tryz.prog 15 #[.agg #[.int .i64 rC.size, .slice aC nC cC]] w' fun e w'' => e = .returned (.string (bs TC)) ∧ Below w'.heap.size w' w'') := fun w' h1 h2 => by rw [← HTC.out]; exact FormatMass_any rC.size _ _ _ rC.parts w' h1 h2
      go_wp2
      rw [HTX.out]
      go_wp2
      have hlv := HV.out.below hB
      refine wp_region_ov (by kernel_rfl) (by kernel_rfl) ?_
      repeat (first | go_big_quiet_step ((first | (go_at_call 15; first | (with_reducible exact ov_call (HFN.out _ (hiN.below (ov_below _ _)) (hlv.below (ov_below _ _)))) | (with_reducible exact ov_call (HFA.out _ (hiA.below (ov_below _ _)) (hlv.below (ov_below _ _)))) | (with_reducible exact ov_call (HFB.out _ (hiB.below (ov_below _ _)) (hlv.below (ov_below _ _)))) | (with_reducible exact ov_call (HFC.out _ (hiC.below (ov_below _ _)) (hlv.below (ov_below _ _))))) | (go_at_call 20; first | (with_reducible exact ov_call (HWLN.out _)) | (with_reducible exact ov_call (HWLA.out _)) | (with_reducible exact ov_call (HWLB.out _)) | (with_reducible exact ov_call (HWLC.out _))) | (go_at_call 16; first | (with_reducible exact ov_call (HWPF.out _ (hlv.below (ov_below _ _)))) | (with_reducible exact ov_call (HWPD.out _ (hlv.below (ov_below _ _))))) | (go_at_call 17; first | (with_reducible exact ov_call (HWW1.out _)) | (with_reducible exact ov_call (HWW2.out _))) | (go_at_call 18; (with_reducible exact ov_call (HSP.out _ (him.below (ov_below _ _)) (hik.below (ov_below _ _))))) | (go_at_call 19; (with_reducible exact ov_call (HMP.out _ (him.below (ov_below _ _)) (hik.below (ov_below _ _))))))) | quiet_step ((first | (go_at_call 15; first | (with_reducible exact ov_call (HFN.out _ (hiN.below (ov_below _ _)) (hlv.below (ov_below _ _)))) | (with_reducible exact ov_call (HFA.out _ (hiA.below (ov_below _ _)) (hlv.below (ov_below _ _)))) | (with_reducible exact ov_call (HFB.out _ (hiB.below (ov_below _ _)) (hlv.below (ov_below _ _)))) | (with_reducible exact ov_call (HFC.out _ (hiC.below (ov_below _ _)) (hlv.below (ov_below _ _))))) | (go_at_call 20; first | (with_reducible exact ov_call (HWLN.out _)) | (with_reducible exact ov_call (HWLA.out _)) | (with_reducible exact ov_call (HWLB.out _)) | (with_reducible exact ov_call (HWLC.out _))) | (go_at_call 16; first | (with_reducible exact ov_call (HWPF.out _ (hlv.below (ov_below _ _)))) | (with_reducible exact ov_call (HWPD.out _ (hlv.below (ov_below _ _))))) | (go_at_call 17; first | (with_reducible exact ov_call (HWW1.out _)) | (with_reducible exact ov_call (HWW2.out _))) | (go_at_call 18; (with_reducible exact ov_call (HSP.out _ (him.below (ov_below _ _)) (hik.below (ov_below _ _))))) | (go_at_call 19; (with_reducible exact ov_call (HMP.out _ (him.below (ov_below _ _)) (hik.below (ov_below _ _))))))))
      refine wpQuiet_nil ?_
      intro _ hw_ov
      obtain ⟨x_ov, hw_ov2⟩ := hw_ov
      subst hw_ov2
      obtain ⟨wz, hw_ov3, hbz⟩ := ov_gen _ x_ov
      rw [hw_ov3]
      clear hw_ov3 x_ov
      rw [HOX.out]
      obtain ⟨w14, rfl⟩ : ∃ q : World, q = wz := ⟨_, rfl⟩
      clear hlv
      have hd := hbz
      replace mm0 := keep hd mm0
      replace mm1 := keep hd mm1
      replace kk0 := keep hd kk0
      replace kk1 := keep hd kk1
      replace mN0 := keep hd mN0
      replace mN1 := keep hd mN1
      replace mW0 := keep hd mW0
      replace mW1 := keep hd mW1
      replace mA0 := keep hd mA0
      replace mA1 := keep hd mA1
      replace mB0 := keep hd mB0
      replace mB1 := keep hd mB1
      replace mC0 := keep hd mC0
      replace mC1 := keep hd mC1
      replace fF0 := keep hd fF0
      replace fF1 := keep hd fF1
      replace fD0 := keep hd fD0
      replace fD1 := keep hd fD1
      replace him := him.below hd
      replace hik := hik.below hd
      replace hiN := hiN.below hd
      replace hiW := hiW.below hd
      replace hiA := hiA.below hd
      replace hiB := hiB.below hd
      replace hiC := hiC.below hd
      replace hB := chain hB hd
      have hs14 := hd.size
      clear hbz hd
      have hse : ((bs (lineT (ST.map Prod.snd))).toList == (bs (lineT (ST.map Prod.snd))).toList) = true := beq_self_eq_true _
      go_wp2_with fail
      refine (HRUN.out _ (HV.out.below hB)).mono ?_; rintro e w15 ⟨rfl, hb⟩
      have hd := hb
      replace mm0 := keep hd mm0
      replace mm1 := keep hd mm1
      replace kk0 := keep hd kk0
      replace kk1 := keep hd kk1
      replace mN0 := keep hd mN0
      replace mN1 := keep hd mN1
      replace mW0 := keep hd mW0
      replace mW1 := keep hd mW1
      replace mA0 := keep hd mA0
      replace mA1 := keep hd mA1
      replace mB0 := keep hd mB0
      replace mB1 := keep hd mB1
      replace mC0 := keep hd mC0
      replace mC1 := keep hd mC1
      replace fF0 := keep hd fF0
      replace fF1 := keep hd fF1
      replace fD0 := keep hd fD0
      replace fD1 := keep hd fD1
      replace him := him.below hd
      replace hik := hik.below hd
      replace hiN := hiN.below hd
      replace hiW := hiW.below hd
      replace hiA := hiA.below hd
      replace hiB := hiB.below hd
      replace hiC := hiC.below hd
      replace hB := chain hB hd
      have hs15 := hd.size
      clear hb hd
      go_wp2
      go_ret
      exact ⟨rfl, hB⟩
end Go.Proofs.YtefmlbahmakboaaGreatDoor
