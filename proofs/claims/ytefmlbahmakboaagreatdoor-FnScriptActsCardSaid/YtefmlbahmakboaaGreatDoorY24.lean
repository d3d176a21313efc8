/- The law FnScriptActs: its walk (printed by scriptgen.py). -/
import Derived.Test.YtefmlbahmakboaaGreatDoorA2
import Derived.Test.YtefmlbahmakboaaGreatDoorD16
import Derived.Test.YtefmlbahmakboaaGreatDoorE3
import Derived.Test.YtefmlbahmakboaaGreatDoorF4
set_option linter.unusedSimpArgs false
set_option linter.unusedVariables false
namespace Go.Proofs.YtefmlbahmakboaaGreatDoor
open Go.RowKit
theorem mkbs (l : Array UInt8) : ByteArray.mk l = bs l.toList := rfl
theorem tellM_len (r : MR) : (tellM r).length ≤ 220 := by
  unfold tellM; split
  · exact massT_len _ _
  · simp
theorem iMassValid_any (s : Int) (ao : Option Addr) (n c : Nat) (xs : List Int) (w : World) (hx : IntsAt w ao n xs) :
    Calls Tryz.prog 9 #[.agg #[.int .i64 s, .slice ao n c]] w fun e w' => e = .returned (.bool (massOk s xs)) ∧ Below w.heap.size w w' := by
  go_enter Tryz.func9, Tryz.ntmps9
  go_wp2_with fail
  refine (isMass_any _ _ _ _ xs _ (hx.below (by (repeat (first | exact Below.refl _ _ | assumption | refine Below.alloc ?_ (by first | omega | (simp <;> omega)) _ | refine Below.setCell ?_ (by first | omega | (simp <;> omega)) _ | refine Below.drew ?_ | refine below_drewN ?_))))).mono ?_; rintro e w1 ⟨rfl, hb1⟩
  go_wp2
  go_ret
  exact ⟨rfl, Below.trans (by (repeat (first | exact Below.refl _ _ | assumption | refine Below.alloc ?_ (by first | omega | (simp <;> omega)) _ | refine Below.setCell ?_ (by first | omega | (simp <;> omega)) _ | refine Below.drew ?_ | refine below_drewN ?_))) (hb1.mono (by simp <;> omega))⟩
/-- a line, or no -/
theorem weLine_any (l : List UInt8) (ok : Bool) (w : World) (hl : l.length ≤ 100000) :
    Calls Tryz.prog 20 #[.string (bs l), .bool ok] w fun e w' => e = .returned (.string (bs ((if ok then l else [110, 111]) ++ [10]))) ∧ w = w' := by
  have kz : ¬ 9223372036854775807 < (bs l).size + (ByteArray.mk #[10]).size := by simp only [bs_size]; simp [ByteArray.size]; omega
  cases ok
  · go_enter Tryz.func20, Tryz.ntmps20
    go_wp2
    go_ret
    exact ⟨rfl, rfl⟩
  · have HE : Hid (bs l ++ ByteArray.mk #[10] = bs (l ++ [10])) := by rw [Hid, mkbs, bs_append]
    go_enter Tryz.func20, Tryz.ntmps20
    go_wp2
    go_ret
    exact ⟨by rw [HE.out]; rfl, rfl⟩
theorem weLine_of (r : MR) (w : World) :
    Calls Tryz.prog 20 #[.string (bs (massT r.size r.parts)), .bool r.ok] w fun e w' => e = .returned (.string (bs (tellM r ++ [10]))) ∧ Below w.heap.size w w' :=
  (weLine_any _ r.ok w (by have := massT_len r.size r.parts; omega)).mono fun e w' ⟨he, hw⟩ => ⟨by rw [he]; rfl, by subst hw; exact Below.refl _ _⟩
/-- the line of a fraction -/
theorem wePart_any (f : FR) (w : World) (hp : Pow w) :
    Calls Tryz.prog 16 #[.agg #[.int .i64 f.num, .int .i64 f.den], .bool f.ok] w fun e w' => e = .returned (.string (bs (tellF f ++ [10]))) ∧ Below w.heap.size w w' := by
  have HE : Hid ((if f.ok then fracT f.num f.den else [110, 111]) ++ [10] = tellF f ++ [10]) := rfl
  have HL := hid (fracT_len f.num f.den)
  go_enter Tryz.func16, Tryz.ntmps16
  go_wp2_with fail
  refine (FormatFraction_any _ _ _ (hp.below (by (repeat (first | exact Below.refl _ _ | assumption | refine Below.alloc ?_ (by first | omega | (simp <;> omega)) _ | refine Below.setCell ?_ (by first | omega | (simp <;> omega)) _ | refine Below.drew ?_ | refine below_drewN ?_))))).mono ?_; rintro e w1 ⟨rfl, hb1⟩
  go_wp2_with fail
  refine (weLine_any _ f.ok _ (by have := HL.out; omega)).mono ?_; rintro e w' ⟨rfl, rfl⟩
  rw [HE.out]
  go_wp2
  go_ret
  exact ⟨rfl, Below.trans (by (repeat (first | exact Below.refl _ _ | assumption | refine Below.alloc ?_ (by first | omega | (simp <;> omega)) _ | refine Below.setCell ?_ (by first | omega | (simp <;> omega)) _ | refine Below.drew ?_ | refine below_drewN ?_))) (hb1.mono (by simp <;> omega))⟩
theorem keepS3 {w w' : World} {a b c : Addr} {u v x : Value} (ha : w.cell? a = some u) (hb : w.cell? b = some v) (hc : w.cell? c = some x) (h : Below w.heap.size w w') : w'.cell? a = some u ∧ w'.cell? b = some v ∧ w'.cell? c = some x ∧ Below w.heap.size w w' := ⟨keep h ha, keep h hb, keep h hc, h⟩
/-- the line of an act -/
def actL (g : List Int) : List UInt8 := [97, 99, 116] ++ 32 :: numT g
theorem chain_acts (d : DS) (hs : okSize d.s = true) (hx : 0 < d.xs.length) (hy : 0 < d.ys.length) : ∀ (rest gg : List (List Int)), (∀ g ∈ rest, gainsOk d.s g = true) → gg.length + rest.length ≤ 8 →
    ChainA d gg (rest.map fun g => (actL g, [111, 107])) d (gg ++ rest) := by
  intro rest
  induction rest with
  | nil => intro gg _ _; rw [List.append_nil]; exact .nil _ _
  | cons g r ih =>
    intro gg hg hl
    rw [List.length_cons] at hl
    have h := ih (gg ++ [g]) (fun x hx => hg x (List.mem_cons_of_mem _ hx)) (by rw [List.length_append, List.length_singleton]; omega)
    rw [List.append_assoc] at h
    exact .cons (run_act d gg (hg g List.mem_cons_self) hs (by omega) hx hy) h
theorem actL_len {s : Int} {g : List Int} (hg : gainsOk s g = true) (hs : okSize s = true) : (numT g).length ≤ 89 ∧ (actL g).length ≤ 93 := by
  have h1 := numT_len2 g (gains_I64 hg)
  have h2 := (gains_small hg hs).2.1
  unfold actL
  simp only [List.length_append, List.length_cons, List.length_nil]
  omega
theorem acts_len {s : Int} (hs : okSize s = true) : ∀ l : List (List Int), (∀ g ∈ l, gainsOk s g = true) → (lineT (l.map actL)).length ≤ 94 * l.length := by
  intro l
  induction l with
  | nil => intro _; simp [lineT]
  | cons g r ih =>
    intro hg
    have h1 := (actL_len (hg g List.mem_cons_self) hs).2
    have h2 := ih (fun x hx => hg x (List.mem_cons_of_mem _ hx))
    show (actL g ++ 10 :: lineT (r.map actL)).length ≤ _
    rw [List.length_append, List.length_cons, List.length_cons]; omega
theorem oks_len : ∀ l : List (List Int), (lineT (l.map fun _ => ([111, 107] : List UInt8))).length = 3 * l.length := by
  intro l
  induction l with
  | nil => rfl
  | cons g r ih =>
    show ([111, 107] ++ 10 :: lineT (r.map fun _ => ([111, 107] : List UInt8))).length = _
    simp only [List.length_append, List.length_cons, List.length_nil, ih]; omega
theorem itoa_no10 (v : Int) : (10 : UInt8) ∉ Lib.itoa v := by
  have key : ∀ m, (10 : UInt8) ∉ Lib.decDigits m := fun m h => by have := (dec_mem m _ h).1; simp at this
  by_cases hv : v < 0
  · rw [itoa_ng v hv]; intro h
    rcases List.mem_cons.1 h with h | h
    · cases h
    · exact key _ h
  · rw [itoa_nn v (by omega)]; exact key _
theorem numT_line (xs : List Int) : (10 : UInt8) ∉ numT xs := by
  by_cases h0 : xs = []
  · subst h0; decide
  · rw [numT_text2 h0]; intro h
    exact join_chars (P := fun c => c ≠ 10) (fun w hw c hc => by obtain ⟨v, _, rfl⟩ := List.mem_map.1 hw; exact fun e => itoa_no10 v (e ▸ hc)) (fun c hc => by simp at hc; rw [hc]; decide) _ h rfl
theorem numT_one (x : Int) : numT [x] = Lib.itoa x := by rw [numT_text2 (by simp)]; simp [Lib.join]
theorem take_map_succ {α : Type} {l : List (List Int)} (f : List Int → α) {k : Nat} (hk : k < l.length) : (l.take (k + 1)).map f = (l.take k).map f ++ [f (nthL l k)] := by
  rw [List.take_add_one, List.getElem?_eq_getElem hk, List.map_append]
  rw [show l[k] = nthL l k by unfold nthL; rw [List.getD_eq_getElem?_getD, List.getElem?_eq_getElem hk]; rfl]
  rfl
theorem I64_one {x : Int} (h0 : 0 ≤ x) (h1 : x ≤ 1000) : I64 [x] := fun k hk => by
  have hk0 : k = 0 := by simpa using hk
  subst hk0
  rw [nth_eq _ _ hk]
  show _ ≤ x ∧ x ≤ _
  omega
theorem best_nat {s : Int} {xs : List Int} {acts : List (List Int)} (h : actsOk s xs acts = true) (f : Nat → Int) : ∃ k : Nat, k < acts.length ∧ bestM (actsOk s xs acts) f acts.length = (k : Int) := by
  obtain ⟨_, _, h1, h2, _⟩ := actsOk_facts h
  exact ⟨argTo f acts.length, argTo_lt f acts.length (by omega), by unfold bestM; rw [h, if_pos rfl]⟩
set_option maxRecDepth 100000 in
set_option maxHeartbeats 32000000 in
theorem FnScriptActs_walk (ao : Option Addr) (n c : Nat) (w : World) (hx : n ≤ 1048576 → BytesIn w w.heap.size ao n) (hnc : n ≤ c) (hcap : n ≤ 9223372036854775807)
    (hP : Pow w) (hSE : ∃ tp p, w.var? Tryz.prog "strconv.ErrSyntax" = some #[.iface tp p]) (hRE : ∃ tp p, w.var? Tryz.prog "strconv.ErrRange" = some #[.iface tp p]) (hsh : w.ShapedOpen Tryz.prog) :
    Calls Tryz.prog 4 #[.slice ao n c] w fun e w' => e = .returned (.bool true) ∧ Below w.heap.size w w' := by
  have HV := hid (libV_of w hP hSE hRE hsh)
  clear hP hSE hRE hsh
  by_cases hn : 1048576 < n
  · go_enter Tryz.func4, Tryz.ntmps4
    go_wp2
    go_ret
    exact ⟨rfl, Below.refl _ _⟩
  have HX := hid (hx (by omega))
  clear hx
  go_enter Tryz.func4, Tryz.ntmps4
  have hB := Below.refl w.heap.size w
  go_wp2_with fail
  refine (DrawSafestAct_any ao n c _ HX.out hnc).mono ?_; rintro e w1 ⟨⟨s, p, xs, q, acts, rfl, hr, hlx, hr2, hl9, hsh⟩, hb⟩
  have hd := hb
  replace hB := chain hB hd
  have hs1 := hd.size
  clear hb hd
  obtain ⟨am, nm, cm, rfl, him⟩ := hr.ints
  clear hr
  obtain ⟨aq, nq, cq, rfl, hnq, hiq⟩ := hr2.form
  clear hr2
  subst hnq
  obtain ⟨M, hM⟩ : ∃ M, acts.length = M := ⟨_, rfl⟩
  rw [hM] at hiq hl9 ⊢
  have HM := hid hM
  clear hM hsh
  obtain ⟨r1, HA⟩ : ∃ r, Hid (bestM (actsOk s xs acts) (fun k => sumF 1000 xs (nthL acts k) xs.length) M = r) := ⟨_, rfl⟩
  go_wp2_with fail
  refine (SafestAct_any s _ _ _ _ _ _ xs acts _ (him.below (by (repeat (first | exact Below.refl _ _ | assumption | refine Below.alloc ?_ (by first | omega | (simp <;> omega)) _ | refine Below.setCell ?_ (by first | omega | (simp <;> omega)) _ | refine Below.drew ?_ | refine below_drewN ?_)))) (hiq.below (by (repeat (first | exact Below.refl _ _ | assumption | refine Below.alloc ?_ (by first | omega | (simp <;> omega)) _ | refine Below.setCell ?_ (by first | omega | (simp <;> omega)) _ | refine Below.drew ?_ | refine below_drewN ?_))))).mono ?_; rw [HA.out]; rintro e w2 ⟨rfl, hb⟩
  have mm0 := keep hb (a := ⟨w1.heap.size, 0, none⟩) (v := .int .i64 s) (by simp)
  have mm1 := keep hb (a := ⟨w1.heap.size, 1, none⟩) (v := .slice am nm cm) (by simp)
  have hN1 : w1.heap.size < w2.heap.size := by have := World.block_lt_of_cell? w2 _ mm0; simpa using this
  have hd : Below w1.heap.size w1 w2 := Below.trans (by (repeat (first | exact Below.refl _ _ | assumption | refine Below.alloc ?_ (by first | omega | (simp <;> omega)) _ | refine Below.setCell ?_ (by first | omega | (simp <;> omega)) _ | refine Below.drew ?_ | refine below_drewN ?_))) (hb.mono (by simp <;> omega))
  replace him := him.below hd
  replace hiq := hiq.below hd
  replace hB := chain hB hd
  have hs2 := hd.size
  clear hb hd
  go_wp2_with fail
  refine (specSafestAct_any s _ _ _ _ _ _ xs acts _ him hiq).mono ?_; rw [HA.out]; rintro e w3 ⟨rfl, hb⟩
  have hd := hb
  replace mm0 := keep hd mm0
  replace mm1 := keep hd mm1
  replace him := him.below hd
  replace hiq := hiq.below hd
  replace hB := chain hB hd
  have hs3 := hd.size
  clear hb hd
  cases hok : actsOk s xs acts
  · have hr1 : r1 = -1 := by rw [← HA.out, hok]; rfl
    subst hr1
    go_wp2_with fail
    refine (specSafestAct_any s _ _ _ _ _ _ xs acts _ him hiq).mono ?_; rw [HA.out]; rintro e w4 ⟨rfl, hb⟩
    have hd := hb
    replace mm0 := keep hd mm0
    replace mm1 := keep hd mm1
    replace him := him.below hd
    replace hiq := hiq.below hd
    replace hB := chain hB hd
    have hs4 := hd.size
    clear hb hd
    go_wp2
    go_ret
    exact ⟨rfl, hB⟩
  · obtain ⟨hmo, _, hM1, hM8, hgk⟩ := actsOk_facts hok
    obtain ⟨hsz, hlen, _, _, _, _, _⟩ := massOk_facts hmo
    have hx0 : 0 < xs.length := by have := nsets_le hsz; omega
    have HG : Hid (∀ g ∈ acts, gainsOk s g = true) := fun g hg => by
      obtain ⟨k, hk, e⟩ := List.getElem_of_mem hg
      have h := hgk k hk
      rw [show nthL acts k = g by unfold nthL; rw [List.getD_eq_getElem?_getD, List.getElem?_eq_getElem hk]; exact e] at h
      exact h
    have HGK : Hid (∀ k, k < M → gainsOk s (nthL acts k) = true) := fun k hk => hgk k (by rw [HM.out]; exact hk)
    obtain ⟨k1, hk1, hb1⟩ := best_nat hok (fun k => sumF 1000 xs (nthL acts k) xs.length)
    have HK1 := hid hb1
    rw [HM.out] at hk1 HK1
    clear hb1
    obtain ⟨k2, hk2, hb2⟩ := best_nat hok (fun k => -(sumF 1000 xs (negTo (nthL acts k) (nthL acts k).length) xs.length))
    have HK2 := hid hb2
    rw [HM.out] at hk2 HK2
    clear hb2
    obtain ⟨k3, hk3, hb3⟩ := best_nat hok (fun k => shTo xs (nthL acts k) (nthL acts k).length)
    have HK3 := hid hb3
    rw [HM.out] at hk3 HK3
    clear hb3
    rw [HM.out] at hM1 hM8
    have hr1 : r1 = (k1 : Int) := by rw [← HA.out]; exact HK1.out
    subst hr1
    have hkn : ¬ (k1 : Int) < 0 := by omega
    have HOK := hid hok
    have HMO := hid hmo
    have HSZ := hid hsz
    have HX0 := hid hx0
    clear hok hmo hsz hlen hx0 hgk HA
    obtain ⟨TM, HTM⟩ : ∃ T, Hid (massT s xs = T) := ⟨_, rfl⟩
    have hlM : TM.length ≤ 220 := by rw [← HTM.out]; exact massT_len _ _
    obtain ⟨L0, hL0⟩ : ∃ L : List UInt8, [108, 101, 102, 116] ++ 32 :: TM = L := ⟨_, rfl⟩
    have hl0 : L0.length ≤ 225 := by rw [← hL0]; simp; omega
    have kzs0 : ¬ 9223372036854775807 < (ByteArray.mk #[108, 101, 102, 116, 32]).size + (bs TM).size := by
      have z0 : (ByteArray.mk #[108, 101, 102, 116, 32]).size = 5 := rfl
      simp only [ByteArray.size_append, bs_size, List.length_append, List.length_singleton, z0]; omega
    have kzs1 : ¬ 9223372036854775807 < (ByteArray.mk #[108, 101, 102, 116, 32] ++ bs TM).size + (ByteArray.mk #[10]).size := by
      have z0 : (ByteArray.mk #[108, 101, 102, 116, 32]).size = 5 := rfl
      have z1 : (ByteArray.mk #[10]).size = 1 := rfl
      simp only [ByteArray.size_append, bs_size, List.length_append, List.length_singleton, z0, z1]; omega
    have HSET : Hid (ByteArray.mk #[108, 101, 102, 116, 32] ++ bs TM ++ ByteArray.mk #[10] = bs (lineT (L0 :: (acts.take 0).map actL))) := by rw [Hid, ← hL0]; simp only [mkbs, bs_append]; congr 1 <;> simp [lineT]
    obtain ⟨T0, hT0⟩ : ∃ T, bs (lineT (L0 :: (acts.take 0).map actL)) = T := ⟨_, rfl⟩
    rw [hT0] at HSET
    have HT0 := hid hT0
    have HL0 := hid hL0
    clear hL0 hT0
    have HTL : Hid (∀ k, k ≤ 8 → (lineT (L0 :: (acts.take k).map actL)).length ≤ 226 + 94 * 8) := fun k hk => by
      have h1 := acts_len HSZ.out (acts.take k) (fun g hg => HG.out g (List.mem_of_mem_take hg))
      have h2 : (acts.take k).length ≤ 8 := by rw [List.length_take]; omega
      show (L0 ++ 10 :: lineT ((acts.take k).map actL)).length ≤ _
      rw [List.length_append, List.length_cons]; omega
    have HOL : Hid (∀ k, k ≤ 8 → (lineT ([111, 107] :: (acts.take k).map fun _ => ([111, 107] : List UInt8))).length ≤ 3 + 3 * 8) := fun k hk => by
      have h1 := oks_len (acts.take k)
      have h2 : (acts.take k).length ≤ 8 := by rw [List.length_take]; omega
      show ([111, 107] ++ 10 :: lineT ((acts.take k).map fun _ => ([111, 107] : List UInt8))).length ≤ _
      simp only [List.length_append, List.length_cons, List.length_nil, h1]; omega
    go_wp2_with fail
    refine (FormatMass_any s _ _ _ xs _ him (HV.out.below hB)).mono ?_; rw [HTM.out]; rintro e w4 ⟨rfl, hb⟩
    have hd := hb
    replace mm0 := keep hd mm0
    replace mm1 := keep hd mm1
    replace him := him.below hd
    replace hiq := hiq.below hd
    replace hB := chain hB hd
    have hs4 := hd.size
    clear hb hd
    go_wp2
    rw [HSET.out]
    go_wp2
    have HO0 : Hid (ByteArray.mk #[111, 107, 10] = bs (lineT ([111, 107] :: (acts.take 0).map fun _ => ([111, 107] : List UInt8)))) := rfl
    have HVk := hid (HV.out.below hB)
    go_loopw [6, 7, 8] (fun r1 r2 i wr => ∃ k : Nat, k ≤ M ∧ i = .int .i64 k ∧ r1 = .string (bs (lineT (L0 :: (acts.take k).map actL))) ∧ r2 = .string (bs (lineT ([111, 107] :: (acts.take k).map fun _ => ([111, 107] : List UInt8)))) ∧ Below w4.heap.size w4 wr) (fun _ _ i _ => M - (intOf i).toNat)
    case atStart => exact ⟨0, by omega, rfl, congrArg Value.string HT0.out.symm, congrArg Value.string HO0.out, Below.refl _ _⟩
    case round =>
      obtain ⟨k, hk, rfl, rfl, rfl, hBr⟩ := hrel
      obtain ⟨w5, rfl⟩ : ∃ q : World, q = wr := ⟨_, rfl⟩
      replace mm0 := keep hBr mm0
      replace mm1 := keep hBr mm1
      replace him := him.below hBr
      replace hiq := hiq.below hBr
      have hB0k := hB
      have hswk := hB.size
      have hsr := hBr.size
      clear hB
      have hB := hBr
      clear hBr
      by_cases hlt : k < M
      · have hk0 : (0 : Int) ≤ (k : Int) := by omega
        have hkk : (k : Int) < (M : Int) := by omega
        obtain ⟨b1, o1, a1, n1, c1, e1, _, _, hc1, hi1⟩ := hiq.at (Below.refl _ _) hlt
        subst e1
        have hkl : k < acts.length := by rw [HM.out]; exact hlt
        have HT : Hid (lineT (L0 :: (acts.take (k + 1)).map actL) = lineT (L0 :: (acts.take k).map actL) ++ (actL (nthL acts k) ++ [10])) := by
          rw [Hid, take_map_succ actL hkl, ← List.cons_append, lineT_app]; rfl
        have HO : Hid (lineT ([111, 107] :: (acts.take (k + 1)).map fun _ => ([111, 107] : List UInt8)) = lineT ([111, 107] :: (acts.take k).map fun _ => ([111, 107] : List UInt8)) ++ [111, 107, 10]) := by
          rw [Hid, take_map_succ (fun _ => ([111, 107] : List UInt8)) hkl, ← List.cons_append, lineT_app]; rfl
        have hg1 := HGK.out k hlt
        have hnl := (actL_len hg1 HSZ.out).1
        have HI : Hid (I64 (nthL acts k)) := gains_I64 hg1
        have hgl := (gains_small hg1 HSZ.out).2.1
        have hle := HTL.out k (by omega)
        have hlo := HOL.out k (by omega)
        obtain ⟨g, hg⟩ : ∃ g, nthL acts k = g := ⟨_, rfl⟩
        rw [hg] at hi1 HT hnl HI hgl
        clear hg1
        obtain ⟨TX, hTX⟩ : ∃ O, lineT (L0 :: (acts.take k).map actL) = O := ⟨_, rfl⟩
        rw [hTX] at HT hle ⊢
        obtain ⟨OX, hOX⟩ : ∃ O, lineT ([111, 107] :: (acts.take k).map fun _ => ([111, 107] : List UInt8)) = O := ⟨_, rfl⟩
        rw [hOX] at HO hlo ⊢
        obtain ⟨NG, HNG⟩ : ∃ T, Hid (numT g = T) := ⟨_, rfl⟩
        rw [HNG.out] at hnl
        have HT2 : Hid (bs (lineT (L0 :: (acts.take (k + 1)).map actL)) = bs TX ++ ByteArray.mk #[97, 99, 116, 32] ++ bs NG ++ ByteArray.mk #[10]) := by rw [Hid, HT.out, ← HNG.out]; simp only [mkbs, bs_append]; congr 1; unfold actL; simp
        have HO2 : Hid (bs (lineT ([111, 107] :: (acts.take (k + 1)).map fun _ => ([111, 107] : List UInt8))) = bs OX ++ ByteArray.mk #[111, 107, 10]) := by rw [Hid, HO.out]; simp only [mkbs, bs_append]
        have kzl0 : ¬ 9223372036854775807 < (bs TX).size + (ByteArray.mk #[97, 99, 116, 32]).size := by
          have z0 : (ByteArray.mk #[97, 99, 116, 32]).size = 4 := rfl
          simp only [ByteArray.size_append, bs_size, List.length_append, List.length_singleton, z0]; omega
        have kzl1 : ¬ 9223372036854775807 < (bs TX ++ ByteArray.mk #[97, 99, 116, 32]).size + (bs NG).size := by
          have z0 : (ByteArray.mk #[97, 99, 116, 32]).size = 4 := rfl
          simp only [ByteArray.size_append, bs_size, List.length_append, List.length_singleton, z0]; omega
        have kzl2 : ¬ 9223372036854775807 < (bs TX ++ ByteArray.mk #[97, 99, 116, 32] ++ bs NG).size + (ByteArray.mk #[10]).size := by
          have z0 : (ByteArray.mk #[97, 99, 116, 32]).size = 4 := rfl
          have z1 : (ByteArray.mk #[10]).size = 1 := rfl
          simp only [ByteArray.size_append, bs_size, List.length_append, List.length_singleton, z0, z1]; omega
        have kzm0 : ¬ 9223372036854775807 < (bs OX).size + (ByteArray.mk #[111, 107, 10]).size := by
          have z0 : (ByteArray.mk #[111, 107, 10]).size = 3 := rfl
          simp only [ByteArray.size_append, bs_size, List.length_append, List.length_singleton, z0]; omega
        clear hkl hg hTX hOX HT HO
        go_wp2_with fail
        refine (implFormat_any _ _ _ g _ hi1 HI.out (by have := hi1.len; omega) (HVk.out.below hB).pow).mono ?_; rw [HNG.out]; rintro e w6 ⟨rfl, hb⟩
        have hd := hb
        replace mm0 := keep hd mm0
        replace mm1 := keep hd mm1
        replace hc1 := keep hd hc1
        replace him := him.below hd
        replace hiq := hiq.below hd
        replace hi1 := hi1.below hd
        replace hB := chain hB hd
        have hs6 := hd.size
        clear hb hd
        go_wp2
        go_roundw
        case rel => first | exact ⟨k + 1, by omega, by go_num, by rw [HT2.out], by rw [HO2.out], hB⟩ | exact ⟨_, ⟨k + 1, by omega, by go_num, by rw [HT2.out], by rw [HO2.out], hB⟩, rfl⟩ | exact ⟨_, _, ⟨k + 1, by omega, by go_num, by rw [HT2.out], by rw [HO2.out], hB⟩, rfl, rfl⟩ | exact ⟨_, _, _, ⟨k + 1, by omega, by go_num, by rw [HT2.out], by rw [HO2.out], hB⟩, rfl, rfl, rfl⟩ | exact ⟨_, _, _, _, ⟨k + 1, by omega, by go_num, by rw [HT2.out], by rw [HO2.out], hB⟩, rfl, rfl, rfl, rfl⟩ | exact ⟨_, _, _, _, _, ⟨k + 1, by omega, by go_num, by rw [HT2.out], by rw [HO2.out], hB⟩, rfl, rfl, rfl, rfl, rfl⟩
        case measure => simp [intOf]; omega
      · obtain rfl : k = M := by omega
        replace hB := hB0k.trans (hB.mono hswk)
        have hall : acts.take k = acts := by rw [← HM.out]; exact List.take_length
        have hle := HTL.out k (by omega)
        have hlo := HOL.out k (by omega)
        rw [hall] at hle hlo ⊢
        clear hall
        obtain ⟨TX, HTXa⟩ : ∃ O, Hid (lineT (L0 :: acts.map actL) = O) := ⟨_, rfl⟩
        rw [HTXa.out] at hle ⊢
        obtain ⟨OX, HOXa⟩ : ∃ O, Hid (lineT ([111, 107] :: acts.map fun _ => ([111, 107] : List UInt8)) = O) := ⟨_, rfl⟩
        rw [HOXa.out] at hlo ⊢
        have hM0 : 0 < k := by omega
        have hMi : (0 : Int) < (k : Int) := by omega
        obtain ⟨b1, o1, a1, n1, c1, e1, _, _, hc1, hi1⟩ := hiq.at (Below.refl _ _) hM0
        subst e1
        simp only [Nat.add_zero] at hc1
        have hg1 := HGK.out 0 hM0
        have hnl := (actL_len hg1 HSZ.out).1
        have HI : Hid (I64 (nthL acts 0)) := gains_I64 hg1
        have hgl := (gains_small hg1 HSZ.out).2.1
        obtain ⟨g, Hg⟩ : ∃ g, Hid (nthL acts 0 = g) := ⟨_, rfl⟩
        rw [Hg.out] at hi1 hnl HI hgl hg1
        have HG1 := hid hg1
        clear hg1
        obtain ⟨NG, HNG⟩ : ∃ T, Hid (numT g = T) := ⟨_, rfl⟩
        rw [HNG.out] at hnl
        obtain ⟨fR, HR⟩ : ∃ r, Hid (regretM s xs acts 0 = r) := ⟨_, rfl⟩
        go_wp2_with fail
        refine (RegretOf_any s 0 _ _ _ _ _ _ xs acts _ him hiq).mono ?_; rw [HR.out]; rintro e w6 ⟨rfl, hb⟩
        have hd := hb
        replace mm0 := keep hd mm0
        replace mm1 := keep hd mm1
        replace hc1 := keep hd hc1
        replace him := him.below hd
        replace hiq := hiq.below hd
        replace hi1 := hi1.below hd
        replace hB := chain hB hd
        have hs6 := hd.size
        clear hb hd
        go_wp2
        obtain ⟨w7, hww7⟩ : ∃ W, (w6.alloc (.cells #[.int .i64 fR.num, .int .i64 fR.den] 33)) = W := ⟨_, rfl⟩
        rw [hww7]
        have hd : Below w6.heap.size w6 w7 := by rw [← hww7]; (repeat (first | exact Below.refl _ _ | assumption | refine Below.alloc ?_ (by first | omega | (simp <;> omega)) _ | refine Below.setCell ?_ (by first | omega | (simp <;> omega)) _ | refine Below.drew ?_ | refine below_drewN ?_))
        have fR0 : w7.cell? ⟨w6.heap.size, 0, none⟩ = some (.int .i64 fR.num) := by rw [← hww7]; simp
        have fR1 : w7.cell? ⟨w6.heap.size, 1, none⟩ = some (.int .i64 fR.den) := by rw [← hww7]; simp
        have hN2 : w6.heap.size < w7.heap.size := by rw [← hww7]; simp
        replace mm0 := keep hd mm0
        replace mm1 := keep hd mm1
        replace hc1 := keep hd hc1
        replace him := him.below hd
        replace hiq := hiq.below hd
        replace hi1 := hi1.below hd
        replace hB := chain hB hd
        have hs7 := hd.size
        clear hd hww7
        obtain ⟨fL, HL⟩ : ∃ r, Hid (meanM s xs g = r) := ⟨_, rfl⟩
        go_wp2
        refine wp_region_joinF (ι := Nat) (fun act bk => (Act.put (Act.put (Act.put (Act.put (Act.put (Act.put (Act.put (Act.put (Act.put (Act.put act (some 68) (.agg #[.int .i64 s, .slice am nm cm])) (some 69) (.slice (some ⟨b1, o1, none⟩) k cq)) (some 70) (.pointer (some ⟨b1, o1, none⟩))) (some 71) (.slice a1 n1 c1)) (some 72) (.tuple #[.agg #[.int .i64 fL.num, .int .i64 fL.den], .bool fL.ok])) (some 67) (.tuple #[.agg #[.int .i64 fL.num, .int .i64 fL.den], .bool fL.ok])) (some 73) (.agg #[.int .i64 fL.num, .int .i64 fL.den])) (some 74) (.bool fL.ok)) (some 11) (.pointer (some ⟨bk, 0, none⟩))) (some 12) (.bool fL.ok))) (fun b W => Bx W b (.int .i64 fL.num) (.int .i64 fL.den) ∧ Below w7.heap.size w7 W) ?_ ?_
        · go_region_held3 (fun w' => w'.cell? ⟨w1.heap.size, 0, none⟩ = some (.int .i64 s) ∧ w'.cell? ⟨w1.heap.size, 1, none⟩ = some (.slice am nm cm) ∧ w'.cell? ⟨b1, o1, none⟩ = some (.slice a1 n1 c1) ∧ Below w7.heap.size w7 w') (first | (refine keepS3 mm0 mm1 hc1 ?_; (repeat (first | exact Below.refl _ _ | assumption | refine Below.alloc ?_ (by first | omega | (simp <;> omega)) _ | refine Below.setCell ?_ (by first | omega | (simp <;> omega)) _ | refine Below.drew ?_ | refine below_drewN ?_)); done)) (first | (go_at_call 27; refine (LowestMean_any s _ _ _ _ _ _ xs g w7.drew (him.below (by (repeat (first | exact Below.refl _ _ | assumption | refine Below.alloc ?_ (by first | omega | (simp <;> omega)) _ | refine Below.setCell ?_ (by first | omega | (simp <;> omega)) _ | refine Below.drew ?_ | refine below_drewN ?_)))) (hi1.below (by (repeat (first | exact Below.refl _ _ | assumption | refine Below.alloc ?_ (by first | omega | (simp <;> omega)) _ | refine Below.setCell ?_ (by first | omega | (simp <;> omega)) _ | refine Below.drew ?_ | refine below_drewN ?_))))).mono ?_; rw [HL.out]; rintro e wz ⟨rfl, hbz⟩; have hdz : Below w7.heap.size w7 wz := Below.trans (by (repeat (first | exact Below.refl _ _ | assumption | refine Below.alloc ?_ (by first | omega | (simp <;> omega)) _ | refine Below.setCell ?_ (by first | omega | (simp <;> omega)) _ | refine Below.drew ?_ | refine below_drewN ?_))) (hbz.mono (by simp <;> omega)); have z0 := keep hdz mm0; have z1 := keep hdz mm1; have zc := keep hdz hc1; have hsz := hdz.size) | (go_at_call 27; refine (LowestMean_any s _ _ _ _ _ _ xs g (w7.alloc (.cells #[.int .i64 0, .int .i64 0] 33)).drew (him.below (by (repeat (first | exact Below.refl _ _ | assumption | refine Below.alloc ?_ (by first | omega | (simp <;> omega)) _ | refine Below.setCell ?_ (by first | omega | (simp <;> omega)) _ | refine Below.drew ?_ | refine below_drewN ?_)))) (hi1.below (by (repeat (first | exact Below.refl _ _ | assumption | refine Below.alloc ?_ (by first | omega | (simp <;> omega)) _ | refine Below.setCell ?_ (by first | omega | (simp <;> omega)) _ | refine Below.drew ?_ | refine below_drewN ?_))))).mono ?_; rw [HL.out]; rintro e wz ⟨rfl, hbz⟩; have hdz : Below w7.heap.size w7 wz := Below.trans (by (repeat (first | exact Below.refl _ _ | assumption | refine Below.alloc ?_ (by first | omega | (simp <;> omega)) _ | refine Below.setCell ?_ (by first | omega | (simp <;> omega)) _ | refine Below.drew ?_ | refine below_drewN ?_))) (hbz.mono (by simp <;> omega)); have z0 := keep hdz mm0; have z1 := keep hdz mm1; have zc := keep hdz hc1; have hsz := hdz.size; have kb0 := keep hbz (a := ⟨w7.heap.size, 0, none⟩) (v := .int .i64 0) (by simp); have kb1 := keep hbz (a := ⟨w7.heap.size, 1, none⟩) (v := .int .i64 0) (by simp); have kf0 := keepF hbz (a := ⟨w7.heap.size, 0, none⟩) (v := .int .i64 0) (by simp) (by simp); have kf1 := keepF hbz (a := ⟨w7.heap.size, 1, none⟩) (v := .int .i64 0) (by simp) (by simp); have hlz : w7.heap.size < wz.heap.size := (by have h_z := hbz.size; simp at h_z; omega)))
          · exact ⟨wz.heap.size, by simp [Act.put], Bx.mk2 rfl, by (repeat (first | exact Below.refl _ _ | assumption | refine Below.alloc ?_ (by first | omega | (simp <;> omega)) _ | refine Below.setCell ?_ (by first | omega | (simp <;> omega)) _ | refine Below.drew ?_ | refine below_drewN ?_))⟩
          · exact ⟨w7.heap.size, by simp [Act.put], (show Bx wz w7.heap.size _ _ from ⟨kb0, kb1, kf0, kf1, hlz⟩).put2 _ _, by (repeat (first | exact Below.refl _ _ | assumption | refine Below.alloc ?_ (by first | omega | (simp <;> omega)) _ | refine Below.setCell ?_ (by first | omega | (simp <;> omega)) _ | refine Below.drew ?_ | refine below_drewN ?_))⟩
        rintro bLx w8 ⟨hbx, hb⟩
        have hd := hb
        replace mm0 := keep hd mm0
        replace mm1 := keep hd mm1
        replace hc1 := keep hd hc1
        replace fR0 := keep hd fR0
        replace fR1 := keep hd fR1
        replace him := him.below hd
        replace hiq := hiq.below hd
        replace hi1 := hi1.below hd
        replace hB := chain hB hd
        have hs8 := hd.size
        clear hb hd
        have fL0 := hbx.c0
        have fL1 := hbx.c1
        clear hbx
        obtain ⟨fH, HH⟩ : ∃ r, Hid (meanH s xs g = r) := ⟨_, rfl⟩
        go_wp2
        refine wp_region_joinF (ι := Nat) (fun act bk => (Act.put (Act.put (Act.put (Act.put (Act.put (Act.put (Act.put (Act.put (Act.put (Act.put act (some 76) (.agg #[.int .i64 s, .slice am nm cm])) (some 77) (.slice (some ⟨b1, o1, none⟩) k cq)) (some 78) (.pointer (some ⟨b1, o1, none⟩))) (some 79) (.slice a1 n1 c1)) (some 80) (.tuple #[.agg #[.int .i64 fH.num, .int .i64 fH.den], .bool fH.ok])) (some 75) (.tuple #[.agg #[.int .i64 fH.num, .int .i64 fH.den], .bool fH.ok])) (some 81) (.agg #[.int .i64 fH.num, .int .i64 fH.den])) (some 82) (.bool fH.ok)) (some 13) (.pointer (some ⟨bk, 0, none⟩))) (some 14) (.bool fH.ok))) (fun b W => Bx W b (.int .i64 fH.num) (.int .i64 fH.den) ∧ Below w8.heap.size w8 W) ?_ ?_
        · go_region_held3 (fun w' => w'.cell? ⟨w1.heap.size, 0, none⟩ = some (.int .i64 s) ∧ w'.cell? ⟨w1.heap.size, 1, none⟩ = some (.slice am nm cm) ∧ w'.cell? ⟨b1, o1, none⟩ = some (.slice a1 n1 c1) ∧ Below w8.heap.size w8 w') (first | (refine keepS3 mm0 mm1 hc1 ?_; (repeat (first | exact Below.refl _ _ | assumption | refine Below.alloc ?_ (by first | omega | (simp <;> omega)) _ | refine Below.setCell ?_ (by first | omega | (simp <;> omega)) _ | refine Below.drew ?_ | refine below_drewN ?_)); done)) (first | (go_at_call 28; refine (HighestMean_any s _ _ _ _ _ _ xs g w8.drew (him.below (by (repeat (first | exact Below.refl _ _ | assumption | refine Below.alloc ?_ (by first | omega | (simp <;> omega)) _ | refine Below.setCell ?_ (by first | omega | (simp <;> omega)) _ | refine Below.drew ?_ | refine below_drewN ?_)))) (hi1.below (by (repeat (first | exact Below.refl _ _ | assumption | refine Below.alloc ?_ (by first | omega | (simp <;> omega)) _ | refine Below.setCell ?_ (by first | omega | (simp <;> omega)) _ | refine Below.drew ?_ | refine below_drewN ?_))))).mono ?_; rw [HH.out]; rintro e wz ⟨rfl, hbz⟩; have hdz : Below w8.heap.size w8 wz := Below.trans (by (repeat (first | exact Below.refl _ _ | assumption | refine Below.alloc ?_ (by first | omega | (simp <;> omega)) _ | refine Below.setCell ?_ (by first | omega | (simp <;> omega)) _ | refine Below.drew ?_ | refine below_drewN ?_))) (hbz.mono (by simp <;> omega)); have z0 := keep hdz mm0; have z1 := keep hdz mm1; have zc := keep hdz hc1; have hsz := hdz.size) | (go_at_call 28; refine (HighestMean_any s _ _ _ _ _ _ xs g (w8.alloc (.cells #[.int .i64 0, .int .i64 0] 33)).drew (him.below (by (repeat (first | exact Below.refl _ _ | assumption | refine Below.alloc ?_ (by first | omega | (simp <;> omega)) _ | refine Below.setCell ?_ (by first | omega | (simp <;> omega)) _ | refine Below.drew ?_ | refine below_drewN ?_)))) (hi1.below (by (repeat (first | exact Below.refl _ _ | assumption | refine Below.alloc ?_ (by first | omega | (simp <;> omega)) _ | refine Below.setCell ?_ (by first | omega | (simp <;> omega)) _ | refine Below.drew ?_ | refine below_drewN ?_))))).mono ?_; rw [HH.out]; rintro e wz ⟨rfl, hbz⟩; have hdz : Below w8.heap.size w8 wz := Below.trans (by (repeat (first | exact Below.refl _ _ | assumption | refine Below.alloc ?_ (by first | omega | (simp <;> omega)) _ | refine Below.setCell ?_ (by first | omega | (simp <;> omega)) _ | refine Below.drew ?_ | refine below_drewN ?_))) (hbz.mono (by simp <;> omega)); have z0 := keep hdz mm0; have z1 := keep hdz mm1; have zc := keep hdz hc1; have hsz := hdz.size; have kb0 := keep hbz (a := ⟨w8.heap.size, 0, none⟩) (v := .int .i64 0) (by simp); have kb1 := keep hbz (a := ⟨w8.heap.size, 1, none⟩) (v := .int .i64 0) (by simp); have kf0 := keepF hbz (a := ⟨w8.heap.size, 0, none⟩) (v := .int .i64 0) (by simp) (by simp); have kf1 := keepF hbz (a := ⟨w8.heap.size, 1, none⟩) (v := .int .i64 0) (by simp) (by simp); have hlz : w8.heap.size < wz.heap.size := (by have h_z := hbz.size; simp at h_z; omega)))
          · exact ⟨wz.heap.size, by simp [Act.put], Bx.mk2 rfl, by (repeat (first | exact Below.refl _ _ | assumption | refine Below.alloc ?_ (by first | omega | (simp <;> omega)) _ | refine Below.setCell ?_ (by first | omega | (simp <;> omega)) _ | refine Below.drew ?_ | refine below_drewN ?_))⟩
          · exact ⟨w8.heap.size, by simp [Act.put], (show Bx wz w8.heap.size _ _ from ⟨kb0, kb1, kf0, kf1, hlz⟩).put2 _ _, by (repeat (first | exact Below.refl _ _ | assumption | refine Below.alloc ?_ (by first | omega | (simp <;> omega)) _ | refine Below.setCell ?_ (by first | omega | (simp <;> omega)) _ | refine Below.drew ?_ | refine below_drewN ?_))⟩
        rintro bHx w9 ⟨hbx, hb⟩
        have hd := hb
        replace mm0 := keep hd mm0
        replace mm1 := keep hd mm1
        replace hc1 := keep hd hc1
        replace fR0 := keep hd fR0
        replace fR1 := keep hd fR1
        replace fL0 := keep hd fL0
        replace fL1 := keep hd fL1
        replace him := him.below hd
        replace hiq := hiq.below hd
        replace hi1 := hi1.below hd
        replace hB := chain hB hd
        have hs9 := hd.size
        clear hb hd
        have fH0 := hbx.c0
        have fH1 := hbx.c1
        clear hbx
        obtain ⟨LR, HLR⟩ : ∃ T, Hid (tellF fR = T) := ⟨_, rfl⟩
        have hmR : LR.length ≤ 70 := by rw [← HLR.out]; exact tellF_len _
        have HWPR : Hid (∀ w', LibV w' → Calls Tryz.prog 16 #[.agg #[.int .i64 fR.num, .int .i64 fR.den], .bool fR.ok] w' fun e w'' => e = .returned (.string (bs (LR ++ [10]))) ∧ Below w'.heap.size w' w'') := hid fun w' h => by rw [← HLR.out]; exact wePart_any fR w' h.pow
        obtain ⟨LL, HLL⟩ : ∃ T, Hid (tellF fL = T) := ⟨_, rfl⟩
        have hmL : LL.length ≤ 70 := by rw [← HLL.out]; exact tellF_len _
        have HWPL : Hid (∀ w', LibV w' → Calls Tryz.prog 16 #[.agg #[.int .i64 fL.num, .int .i64 fL.den], .bool fL.ok] w' fun e w'' => e = .returned (.string (bs (LL ++ [10]))) ∧ Below w'.heap.size w' w'') := hid fun w' h => by rw [← HLL.out]; exact wePart_any fL w' h.pow
        obtain ⟨LH, HLH⟩ : ∃ T, Hid (tellF fH = T) := ⟨_, rfl⟩
        have hmH : LH.length ≤ 70 := by rw [← HLH.out]; exact tellF_len _
        have HWPH : Hid (∀ w', LibV w' → Calls Tryz.prog 16 #[.agg #[.int .i64 fH.num, .int .i64 fH.den], .bool fH.ok] w' fun e w'' => e = .returned (.string (bs (LH ++ [10]))) ∧ Below w'.heap.size w' w'') := hid fun w' h => by rw [← HLH.out]; exact wePart_any fH w' h.pow
        obtain ⟨N1, HN1⟩ : ∃ T, Hid (Lib.itoa (k1 : Int) = T) := ⟨_, rfl⟩
        have HI1 : Hid (I64 [(k1 : Int)]) := I64_one (by omega) (by omega)
        have hn1 : N1.length ≤ 23 := by rw [← HN1.out, ← numT_one]; have := numT_len2 [(k1 : Int)] HI1.out; simpa using this
        have HF1 : Hid (∀ (a : Option Addr) (n c : Nat) (w' : World), IntsAt w' a n [(k1 : Int)] → LibV w' → Calls Tryz.prog 25 #[.slice a n c] w' fun e w'' => e = .returned (.string (bs N1)) ∧ Below w'.heap.size w' w'') := by
          refine hid fun a n c w' h1 h2 => ?_
          rw [← HN1.out, ← numT_one]; exact implFormat_any a n c _ w' h1 HI1.out (by have := h1.len; simp at this; omega) h2.pow
        obtain ⟨N2, HN2⟩ : ∃ T, Hid (Lib.itoa (k2 : Int) = T) := ⟨_, rfl⟩
        have HI2 : Hid (I64 [(k2 : Int)]) := I64_one (by omega) (by omega)
        have hn2 : N2.length ≤ 23 := by rw [← HN2.out, ← numT_one]; have := numT_len2 [(k2 : Int)] HI2.out; simpa using this
        have HF2 : Hid (∀ (a : Option Addr) (n c : Nat) (w' : World), IntsAt w' a n [(k2 : Int)] → LibV w' → Calls Tryz.prog 25 #[.slice a n c] w' fun e w'' => e = .returned (.string (bs N2)) ∧ Below w'.heap.size w' w'') := by
          refine hid fun a n c w' h1 h2 => ?_
          rw [← HN2.out, ← numT_one]; exact implFormat_any a n c _ w' h1 HI2.out (by have := h1.len; simp at this; omega) h2.pow
        obtain ⟨N3, HN3⟩ : ∃ T, Hid (Lib.itoa (k3 : Int) = T) := ⟨_, rfl⟩
        have HI3 : Hid (I64 [(k3 : Int)]) := I64_one (by omega) (by omega)
        have hn3 : N3.length ≤ 23 := by rw [← HN3.out, ← numT_one]; have := numT_len2 [(k3 : Int)] HI3.out; simpa using this
        have HF3 : Hid (∀ (a : Option Addr) (n c : Nat) (w' : World), IntsAt w' a n [(k3 : Int)] → LibV w' → Calls Tryz.prog 25 #[.slice a n c] w' fun e w'' => e = .returned (.string (bs N3)) ∧ Below w'.heap.size w' w'') := by
          refine hid fun a n c w' h1 h2 => ?_
          rw [← HN3.out, ← numT_one]; exact implFormat_any a n c _ w' h1 HI3.out (by have := h1.len; simp at this; omega) h2.pow
        obtain ⟨X4, HX4⟩ : ∃ X, Hid (unbeaten s xs acts = X) := ⟨_, rfl⟩
        obtain ⟨X5, HX5⟩ : ∃ X, Hid (possL s xs acts = X) := ⟨_, rfl⟩
        have hf4 := unb_facts HOK.out
        rw [HX4.out] at hf4
        have HI4 := hid hf4.1
        have hz4 := hf4.2
        clear hf4
        obtain ⟨N4, HN4⟩ : ∃ T, Hid (numT X4 = T) := ⟨_, rfl⟩
        have hn4 : N4.length ≤ 177 := by rw [← HN4.out]; have := numT_len2 X4 HI4.out; omega
        have HF4 : Hid (∀ (a : Option Addr) (n c : Nat) (w' : World), IntsAt w' a n X4 → LibV w' → Calls Tryz.prog 25 #[.slice a n c] w' fun e w'' => e = .returned (.string (bs N4)) ∧ Below w'.heap.size w' w'') := by
          refine hid fun a n c w' h1 h2 => ?_
          rw [← HN4.out]; exact implFormat_any a n c _ w' h1 HI4.out (by have := h1.len; omega) h2.pow
        have hf5 := possL_facts HOK.out
        rw [HX5.out] at hf5
        have HI5 := hid hf5.1
        have hz5 := hf5.2
        clear hf5
        obtain ⟨N5, HN5⟩ : ∃ T, Hid (numT X5 = T) := ⟨_, rfl⟩
        have hn5 : N5.length ≤ 177 := by rw [← HN5.out]; have := numT_len2 X5 HI5.out; omega
        have HF5 : Hid (∀ (a : Option Addr) (n c : Nat) (w' : World), IntsAt w' a n X5 → LibV w' → Calls Tryz.prog 25 #[.slice a n c] w' fun e w'' => e = .returned (.string (bs N5)) ∧ Below w'.heap.size w' w'') := by
          refine hid fun a n c w' h1 h2 => ?_
          rw [← HN5.out]; exact implFormat_any a n c _ w' h1 HI5.out (by have := h1.len; omega) h2.pow
        obtain ⟨aqq, haqq⟩ : ∃ a : Option Addr, some ⟨b1, o1, none⟩ = a := ⟨_, rfl⟩
        have HBO : Hid (∀ w', IntsAt w' am nm xs → RowsAt w' (some ⟨b1, o1, none⟩) k acts → Calls Tryz.prog 29 #[.agg #[.int .i64 s, .slice am nm cm], .slice (some ⟨b1, o1, none⟩) k cq] w' fun e w'' => e = .returned (.int .i64 (k2 : Int)) ∧ Below w'.heap.size w' w'') := hid fun w' h1 h2 => by rw [← HK2.out]; exact BoldestAct_any s _ _ _ _ _ _ xs acts w' h1 h2
        have HSH : Hid (∀ w', IntsAt w' am nm xs → RowsAt w' (some ⟨b1, o1, none⟩) k acts → Calls Tryz.prog 30 #[.agg #[.int .i64 s, .slice am nm cm], .slice (some ⟨b1, o1, none⟩) k cq] w' fun e w'' => e = .returned (.int .i64 (k3 : Int)) ∧ Below w'.heap.size w' w'') := hid fun w' h1 h2 => by rw [← HK3.out]; exact SharedAct_any s _ _ _ _ _ _ xs acts w' h1 h2
        have HUN : Hid (∀ w', IntsAt w' am nm xs → RowsAt w' (some ⟨b1, o1, none⟩) k acts → Calls Tryz.prog 31 #[.agg #[.int .i64 s, .slice am nm cm], .slice (some ⟨b1, o1, none⟩) k cq] w' fun e w'' => (∃ v, e = .returned v ∧ Row w'' w'.heap.size v X4) ∧ Below w'.heap.size w' w'') := hid fun w' h1 h2 => by rw [← HX4.out]; exact UnbeatenActs_any s _ _ _ _ _ _ xs acts w' h1 h2
        have HPO : Hid (∀ w', IntsAt w' am nm xs → RowsAt w' (some ⟨b1, o1, none⟩) k acts → Calls Tryz.prog 32 #[.agg #[.int .i64 s, .slice am nm cm], .slice (some ⟨b1, o1, none⟩) k cq] w' fun e w'' => (∃ v, e = .returned v ∧ Row w'' w'.heap.size v X5) ∧ Below w'.heap.size w' w'') := hid fun w' h1 h2 => by rw [← HX5.out]; exact PossiblyBest_any s _ _ _ _ _ _ xs acts w' h1 h2
        clear haqq aqq
        have kzt0 : ¬ 9223372036854775807 < (bs TX).size + (ByteArray.mk (List.toArray (115 :: 97 :: 102 :: 101 :: 115 :: 116 :: 10 :: 98 :: 111 :: 108 :: 100 :: 101 :: 115 :: 116 :: 10 :: 101 :: 118 :: 101 :: 110 :: 10 :: 117 :: 110 :: 98 :: 101 :: 97 :: 116 :: 101 :: 110 :: 10 :: 98 :: 101 :: 115 :: 116 :: 10 :: 114 :: 101 :: 103 :: 114 :: 101 :: 116 :: 32 :: 48 :: 10 :: 108 :: 111 :: 119 :: 101 :: 115 :: 116 :: 32 :: []))).size := by
          have z0 : (ByteArray.mk (List.toArray (115 :: 97 :: 102 :: 101 :: 115 :: 116 :: 10 :: 98 :: 111 :: 108 :: 100 :: 101 :: 115 :: 116 :: 10 :: 101 :: 118 :: 101 :: 110 :: 10 :: 117 :: 110 :: 98 :: 101 :: 97 :: 116 :: 101 :: 110 :: 10 :: 98 :: 101 :: 115 :: 116 :: 10 :: 114 :: 101 :: 103 :: 114 :: 101 :: 116 :: 32 :: 48 :: 10 :: 108 :: 111 :: 119 :: 101 :: 115 :: 116 :: 32 :: []))).size = 50 := rfl
          simp only [ByteArray.size_append, bs_size, List.length_append, List.length_singleton, z0]; omega
        have kzt1 : ¬ 9223372036854775807 < (bs TX ++ ByteArray.mk (List.toArray (115 :: 97 :: 102 :: 101 :: 115 :: 116 :: 10 :: 98 :: 111 :: 108 :: 100 :: 101 :: 115 :: 116 :: 10 :: 101 :: 118 :: 101 :: 110 :: 10 :: 117 :: 110 :: 98 :: 101 :: 97 :: 116 :: 101 :: 110 :: 10 :: 98 :: 101 :: 115 :: 116 :: 10 :: 114 :: 101 :: 103 :: 114 :: 101 :: 116 :: 32 :: 48 :: 10 :: 108 :: 111 :: 119 :: 101 :: 115 :: 116 :: 32 :: []))).size + (bs NG).size := by
          have z0 : (ByteArray.mk (List.toArray (115 :: 97 :: 102 :: 101 :: 115 :: 116 :: 10 :: 98 :: 111 :: 108 :: 100 :: 101 :: 115 :: 116 :: 10 :: 101 :: 118 :: 101 :: 110 :: 10 :: 117 :: 110 :: 98 :: 101 :: 97 :: 116 :: 101 :: 110 :: 10 :: 98 :: 101 :: 115 :: 116 :: 10 :: 114 :: 101 :: 103 :: 114 :: 101 :: 116 :: 32 :: 48 :: 10 :: 108 :: 111 :: 119 :: 101 :: 115 :: 116 :: 32 :: []))).size = 50 := rfl
          simp only [ByteArray.size_append, bs_size, List.length_append, List.length_singleton, z0]; omega
        have kzt2 : ¬ 9223372036854775807 < (bs TX ++ ByteArray.mk (List.toArray (115 :: 97 :: 102 :: 101 :: 115 :: 116 :: 10 :: 98 :: 111 :: 108 :: 100 :: 101 :: 115 :: 116 :: 10 :: 101 :: 118 :: 101 :: 110 :: 10 :: 117 :: 110 :: 98 :: 101 :: 97 :: 116 :: 101 :: 110 :: 10 :: 98 :: 101 :: 115 :: 116 :: 10 :: 114 :: 101 :: 103 :: 114 :: 101 :: 116 :: 32 :: 48 :: 10 :: 108 :: 111 :: 119 :: 101 :: 115 :: 116 :: 32 :: [])) ++ bs NG).size + (ByteArray.mk #[10, 104, 105, 103, 104, 101, 115, 116, 32]).size := by
          have z0 : (ByteArray.mk (List.toArray (115 :: 97 :: 102 :: 101 :: 115 :: 116 :: 10 :: 98 :: 111 :: 108 :: 100 :: 101 :: 115 :: 116 :: 10 :: 101 :: 118 :: 101 :: 110 :: 10 :: 117 :: 110 :: 98 :: 101 :: 97 :: 116 :: 101 :: 110 :: 10 :: 98 :: 101 :: 115 :: 116 :: 10 :: 114 :: 101 :: 103 :: 114 :: 101 :: 116 :: 32 :: 48 :: 10 :: 108 :: 111 :: 119 :: 101 :: 115 :: 116 :: 32 :: []))).size = 50 := rfl
          have z1 : (ByteArray.mk #[10, 104, 105, 103, 104, 101, 115, 116, 32]).size = 9 := rfl
          simp only [ByteArray.size_append, bs_size, List.length_append, List.length_singleton, z0, z1]; omega
        have kzt3 : ¬ 9223372036854775807 < (bs TX ++ ByteArray.mk (List.toArray (115 :: 97 :: 102 :: 101 :: 115 :: 116 :: 10 :: 98 :: 111 :: 108 :: 100 :: 101 :: 115 :: 116 :: 10 :: 101 :: 118 :: 101 :: 110 :: 10 :: 117 :: 110 :: 98 :: 101 :: 97 :: 116 :: 101 :: 110 :: 10 :: 98 :: 101 :: 115 :: 116 :: 10 :: 114 :: 101 :: 103 :: 114 :: 101 :: 116 :: 32 :: 48 :: 10 :: 108 :: 111 :: 119 :: 101 :: 115 :: 116 :: 32 :: [])) ++ bs NG ++ ByteArray.mk #[10, 104, 105, 103, 104, 101, 115, 116, 32]).size + (bs NG).size := by
          have z0 : (ByteArray.mk (List.toArray (115 :: 97 :: 102 :: 101 :: 115 :: 116 :: 10 :: 98 :: 111 :: 108 :: 100 :: 101 :: 115 :: 116 :: 10 :: 101 :: 118 :: 101 :: 110 :: 10 :: 117 :: 110 :: 98 :: 101 :: 97 :: 116 :: 101 :: 110 :: 10 :: 98 :: 101 :: 115 :: 116 :: 10 :: 114 :: 101 :: 103 :: 114 :: 101 :: 116 :: 32 :: 48 :: 10 :: 108 :: 111 :: 119 :: 101 :: 115 :: 116 :: 32 :: []))).size = 50 := rfl
          have z1 : (ByteArray.mk #[10, 104, 105, 103, 104, 101, 115, 116, 32]).size = 9 := rfl
          simp only [ByteArray.size_append, bs_size, List.length_append, List.length_singleton, z0, z1]; omega
        have kzt4 : ¬ 9223372036854775807 < (bs TX ++ ByteArray.mk (List.toArray (115 :: 97 :: 102 :: 101 :: 115 :: 116 :: 10 :: 98 :: 111 :: 108 :: 100 :: 101 :: 115 :: 116 :: 10 :: 101 :: 118 :: 101 :: 110 :: 10 :: 117 :: 110 :: 98 :: 101 :: 97 :: 116 :: 101 :: 110 :: 10 :: 98 :: 101 :: 115 :: 116 :: 10 :: 114 :: 101 :: 103 :: 114 :: 101 :: 116 :: 32 :: 48 :: 10 :: 108 :: 111 :: 119 :: 101 :: 115 :: 116 :: 32 :: [])) ++ bs NG ++ ByteArray.mk #[10, 104, 105, 103, 104, 101, 115, 116, 32] ++ bs NG).size + (ByteArray.mk #[10]).size := by
          have z0 : (ByteArray.mk (List.toArray (115 :: 97 :: 102 :: 101 :: 115 :: 116 :: 10 :: 98 :: 111 :: 108 :: 100 :: 101 :: 115 :: 116 :: 10 :: 101 :: 118 :: 101 :: 110 :: 10 :: 117 :: 110 :: 98 :: 101 :: 97 :: 116 :: 101 :: 110 :: 10 :: 98 :: 101 :: 115 :: 116 :: 10 :: 114 :: 101 :: 103 :: 114 :: 101 :: 116 :: 32 :: 48 :: 10 :: 108 :: 111 :: 119 :: 101 :: 115 :: 116 :: 32 :: []))).size = 50 := rfl
          have z1 : (ByteArray.mk #[10, 104, 105, 103, 104, 101, 115, 116, 32]).size = 9 := rfl
          have z2 : (ByteArray.mk #[10]).size = 1 := rfl
          simp only [ByteArray.size_append, bs_size, List.length_append, List.length_singleton, z0, z1, z2]; omega
        have kzo0 : ¬ 9223372036854775807 < (bs OX).size + (bs N1).size := by
          simp only [ByteArray.size_append, bs_size, List.length_append, List.length_singleton]; omega
        have kzo1 : ¬ 9223372036854775807 < (bs OX ++ bs N1).size + (ByteArray.mk #[10]).size := by
          have z0 : (ByteArray.mk #[10]).size = 1 := rfl
          simp only [ByteArray.size_append, bs_size, List.length_append, List.length_singleton, z0]; omega
        have kzo2 : ¬ 9223372036854775807 < (bs OX ++ bs N1 ++ ByteArray.mk #[10]).size + (bs N2).size := by
          have z0 : (ByteArray.mk #[10]).size = 1 := rfl
          simp only [ByteArray.size_append, bs_size, List.length_append, List.length_singleton, z0]; omega
        have kzo3 : ¬ 9223372036854775807 < (bs OX ++ bs N1 ++ ByteArray.mk #[10] ++ bs N2).size + (ByteArray.mk #[10]).size := by
          have z0 : (ByteArray.mk #[10]).size = 1 := rfl
          simp only [ByteArray.size_append, bs_size, List.length_append, List.length_singleton, z0]; omega
        have kzo4 : ¬ 9223372036854775807 < (bs OX ++ bs N1 ++ ByteArray.mk #[10] ++ bs N2 ++ ByteArray.mk #[10]).size + (bs N3).size := by
          have z0 : (ByteArray.mk #[10]).size = 1 := rfl
          simp only [ByteArray.size_append, bs_size, List.length_append, List.length_singleton, z0]; omega
        have kzo5 : ¬ 9223372036854775807 < (bs OX ++ bs N1 ++ ByteArray.mk #[10] ++ bs N2 ++ ByteArray.mk #[10] ++ bs N3).size + (ByteArray.mk #[10]).size := by
          have z0 : (ByteArray.mk #[10]).size = 1 := rfl
          simp only [ByteArray.size_append, bs_size, List.length_append, List.length_singleton, z0]; omega
        have kzo6 : ¬ 9223372036854775807 < (bs OX ++ bs N1 ++ ByteArray.mk #[10] ++ bs N2 ++ ByteArray.mk #[10] ++ bs N3 ++ ByteArray.mk #[10]).size + (bs N4).size := by
          have z0 : (ByteArray.mk #[10]).size = 1 := rfl
          simp only [ByteArray.size_append, bs_size, List.length_append, List.length_singleton, z0]; omega
        have kzo7 : ¬ 9223372036854775807 < (bs OX ++ bs N1 ++ ByteArray.mk #[10] ++ bs N2 ++ ByteArray.mk #[10] ++ bs N3 ++ ByteArray.mk #[10] ++ bs N4).size + (ByteArray.mk #[10]).size := by
          have z0 : (ByteArray.mk #[10]).size = 1 := rfl
          simp only [ByteArray.size_append, bs_size, List.length_append, List.length_singleton, z0]; omega
        have kzo8 : ¬ 9223372036854775807 < (bs OX ++ bs N1 ++ ByteArray.mk #[10] ++ bs N2 ++ ByteArray.mk #[10] ++ bs N3 ++ ByteArray.mk #[10] ++ bs N4 ++ ByteArray.mk #[10]).size + (bs N5).size := by
          have z0 : (ByteArray.mk #[10]).size = 1 := rfl
          simp only [ByteArray.size_append, bs_size, List.length_append, List.length_singleton, z0]; omega
        have kzo9 : ¬ 9223372036854775807 < (bs OX ++ bs N1 ++ ByteArray.mk #[10] ++ bs N2 ++ ByteArray.mk #[10] ++ bs N3 ++ ByteArray.mk #[10] ++ bs N4 ++ ByteArray.mk #[10] ++ bs N5).size + (ByteArray.mk #[10]).size := by
          have z0 : (ByteArray.mk #[10]).size = 1 := rfl
          simp only [ByteArray.size_append, bs_size, List.length_append, List.length_singleton, z0]; omega
        have kzo10 : ¬ 9223372036854775807 < (bs OX ++ bs N1 ++ ByteArray.mk #[10] ++ bs N2 ++ ByteArray.mk #[10] ++ bs N3 ++ ByteArray.mk #[10] ++ bs N4 ++ ByteArray.mk #[10] ++ bs N5 ++ ByteArray.mk #[10]).size + (bs (LR ++ [10])).size := by
          have z0 : (ByteArray.mk #[10]).size = 1 := rfl
          simp only [ByteArray.size_append, bs_size, List.length_append, List.length_singleton, z0]; omega
        have kzo11 : ¬ 9223372036854775807 < (bs OX ++ bs N1 ++ ByteArray.mk #[10] ++ bs N2 ++ ByteArray.mk #[10] ++ bs N3 ++ ByteArray.mk #[10] ++ bs N4 ++ ByteArray.mk #[10] ++ bs N5 ++ ByteArray.mk #[10] ++ bs (LR ++ [10])).size + (bs (LL ++ [10])).size := by
          have z0 : (ByteArray.mk #[10]).size = 1 := rfl
          simp only [ByteArray.size_append, bs_size, List.length_append, List.length_singleton, z0]; omega
        have kzo12 : ¬ 9223372036854775807 < (bs OX ++ bs N1 ++ ByteArray.mk #[10] ++ bs N2 ++ ByteArray.mk #[10] ++ bs N3 ++ ByteArray.mk #[10] ++ bs N4 ++ ByteArray.mk #[10] ++ bs N5 ++ ByteArray.mk #[10] ++ bs (LR ++ [10]) ++ bs (LL ++ [10])).size + (bs (LH ++ [10])).size := by
          have z0 : (ByteArray.mk #[10]).size = 1 := rfl
          simp only [ByteArray.size_append, bs_size, List.length_append, List.length_singleton, z0]; omega
        obtain ⟨TL, hTL⟩ : ∃ S : List (List UInt8 × List UInt8), [([115, 97, 102, 101, 115, 116], N1), ([98, 111, 108, 100, 101, 115, 116], N2), ([101, 118, 101, 110], N3), ([117, 110, 98, 101, 97, 116, 101, 110], N4), ([98, 101, 115, 116], N5), ([114, 101, 103, 114, 101, 116] ++ 32 :: [48], LR), ([108, 111, 119, 101, 115, 116] ++ 32 :: NG, LL), ([104, 105, 103, 104, 101, 115, 116] ++ 32 :: NG, LH)] = S := ⟨_, rfl⟩
        obtain ⟨ST, hST⟩ : ∃ S : List (List UInt8 × List UInt8), ((L0, [111, 107]) :: acts.map fun g => (actL g, [111, 107])) ++ TL = S := ⟨_, rfl⟩
        have HST1 : Hid (ST.map Prod.fst = (L0 :: acts.map actL) ++ TL.map Prod.fst) := by rw [Hid, ← hST, List.map_append, List.map_cons, List.map_map]; rfl
        have HST2 : Hid (ST.map Prod.snd = ([111, 107] :: acts.map fun _ => ([111, 107] : List UInt8)) ++ TL.map Prod.snd) := by rw [Hid, ← hST, List.map_append, List.map_cons, List.map_map]; rfl
        have HTX : Hid (bs TX ++ ByteArray.mk (List.toArray (115 :: 97 :: 102 :: 101 :: 115 :: 116 :: 10 :: 98 :: 111 :: 108 :: 100 :: 101 :: 115 :: 116 :: 10 :: 101 :: 118 :: 101 :: 110 :: 10 :: 117 :: 110 :: 98 :: 101 :: 97 :: 116 :: 101 :: 110 :: 10 :: 98 :: 101 :: 115 :: 116 :: 10 :: 114 :: 101 :: 103 :: 114 :: 101 :: 116 :: 32 :: 48 :: 10 :: 108 :: 111 :: 119 :: 101 :: 115 :: 116 :: 32 :: [])) ++ bs NG ++ ByteArray.mk #[10, 104, 105, 103, 104, 101, 115, 116, 32] ++ bs NG ++ ByteArray.mk #[10] = bs (lineT (ST.map Prod.fst))) := by rw [Hid, HST1.out, lineT_app, HTXa.out, ← hTL]; simp only [mkbs, bs_append]; congr 1; simp [lineT]
        have HOX : Hid (bs OX ++ bs N1 ++ ByteArray.mk #[10] ++ bs N2 ++ ByteArray.mk #[10] ++ bs N3 ++ ByteArray.mk #[10] ++ bs N4 ++ ByteArray.mk #[10] ++ bs N5 ++ ByteArray.mk #[10] ++ bs (LR ++ [10]) ++ bs (LL ++ [10]) ++ bs (LH ++ [10]) = bs (lineT (ST.map Prod.snd))) := by rw [Hid, HST2.out, lineT_app, HOXa.out, ← hTL]; simp only [mkbs, bs_append]; congr 1; simp [lineT]
        have HCH : Hid (∃ d' gg', ChainA startD [] ST d' gg') := by
          have hlA : ([] : List (List Int)).length + acts.length ≤ 8 := by rw [HM.out]; simp; omega
          have c1 := chain_acts ⟨s, xs, startD.t, startD.ys, startD.a⟩ HSZ.out HX0.out (show 0 < (sureP 2 3).length by decide) acts [] HG.out hlA
          rw [List.nil_append] at c1
          have e1 := HK1.out; have e2 := HK2.out; have e3 := HK3.out
          rw [← HM.out] at e1 e2 e3
          rw [Hid, ← hST, ← hTL, ← HL0.out, ← HN1.out, ← HN2.out, ← HN3.out, ← HN4.out, ← HN5.out, ← HLR.out, ← HLL.out, ← HLH.out, ← HNG.out, ← HTM.out, ← HX4.out, ← HX5.out, ← HR.out, ← HL.out, ← HH.out, ← e1, ← e2, ← e3]
          exact ⟨_, _, ChainA.app (ChainA.cons (run_leftA startD [] HMO.out) c1) (ChainA.cons (run_plainA (by decide) (by decide) (tell_safest ⟨s, xs, startD.t, startD.ys, startD.a⟩ acts HOK.out)) (ChainA.cons (run_plainA (by decide) (by decide) (tell_boldest ⟨s, xs, startD.t, startD.ys, startD.a⟩ acts HOK.out)) (ChainA.cons (run_plainA (by decide) (by decide) (tell_even ⟨s, xs, startD.t, startD.ys, startD.a⟩ acts HOK.out)) (ChainA.cons (run_plainA (by decide) (by decide) (tell_unbeaten ⟨s, xs, startD.t, startD.ys, startD.a⟩ acts HOK.out)) (ChainA.cons (run_plainA (by decide) (by decide) (tell_best ⟨s, xs, startD.t, startD.ys, startD.a⟩ acts HOK.out)) (ChainA.cons (run_regret ⟨s, xs, startD.t, startD.ys, startD.a⟩ acts) (ChainA.cons (run_lowest ⟨s, xs, startD.t, startD.ys, startD.a⟩ acts HG1.out HSZ.out) (ChainA.cons (run_highest ⟨s, xs, startD.t, startD.ys, startD.a⟩ acts HG1.out HSZ.out) (ChainA.nil _ _)))))))))⟩
        have HNL : Hid ((10 : UInt8) ∉ L0 ∧ (10 : UInt8) ∉ NG) := by rw [Hid, ← HNG.out, ← HL0.out, ← HTM.out]; exact ⟨by simp [massT_line], numT_line _⟩
        have HRUN : Hid (∀ w', LibV w' → Calls Tryz.prog 21 #[.string (bs (lineT (ST.map Prod.fst)))] w' fun e w'' => e = .returned (.string (bs (lineT (ST.map Prod.snd)))) ∧ Below w'.heap.size w' w'') := hid fun w' h => by
          obtain ⟨d', gg', hch⟩ := HCH.out
          obtain ⟨q1, q2⟩ := HNL.out
          have hL0 := HL0.out
          refine RunScript_acts ST d' gg' w' h hch ?_ ?_ ?_ ?_
          · rw [← hST, ← hTL]; simp; rw [HM.out]; omega
          · rw [← hST, ← hTL]; intro q hq
            rw [List.mem_append, List.mem_cons, List.mem_map] at hq
            rcases hq with (rfl | ⟨g, _, rfl⟩) | hq
            · exact ⟨by rw [← hL0]; simp, q1⟩
            · exact ⟨by unfold actL; simp, by unfold actL; simp [numT_line]⟩
            · simp only [List.mem_cons, List.not_mem_nil, or_false] at hq; rcases hq with rfl | rfl | rfl | rfl | rfl | rfl | rfl | rfl <;> simp [q2]
          · rw [HST1.out, lineT_app, HTXa.out, ← hTL]; simp [lineT]; omega
          · rw [HST2.out, lineT_app, HOXa.out, ← hTL]; simp [lineT]; omega
        clear hST hTL HCH HNL HST1 HST2
        have hlv := HV.out.below hB
        have HFN : Hid (∀ w', IntsAt w' a1 n1 g → LibV w' → Calls Tryz.prog 25 #[.slice a1 n1 c1] w' fun e w'' => e = .returned (.string (bs NG)) ∧ Below w'.heap.size w' w'') := hid fun w' h1 h2 => by rw [← HNG.out]; exact implFormat_any _ _ _ g w' h1 HI.out (by have := h1.len; omega) h2.pow
        go_wp2
        refine wp_region_ov (by kernel_rfl) (by kernel_rfl) ?_
        repeat (first | go_big_quiet_step ((go_at_call 25; (with_reducible exact ov_call (HFN.out _ (hi1.below (ov_below _ _)) (hlv.below (ov_below _ _)))))) | quiet_step ((go_at_call 25; (with_reducible exact ov_call (HFN.out _ (hi1.below (ov_below _ _)) (hlv.below (ov_below _ _)))))))
        refine wpQuiet_nil ?_
        intro _ hw_ov
        obtain ⟨x_ov, hw_ov2⟩ := hw_ov
        subst hw_ov2
        obtain ⟨wz, hw_ov3, hbz⟩ := ov_gen _ x_ov
        rw [hw_ov3]
        clear hw_ov3 x_ov
        rw [HTX.out]
        obtain ⟨w10, rfl⟩ : ∃ q : World, q = wz := ⟨_, rfl⟩
        clear hlv
        have hd := hbz
        replace mm0 := keep hd mm0
        replace mm1 := keep hd mm1
        replace hc1 := keep hd hc1
        replace fR0 := keep hd fR0
        replace fR1 := keep hd fR1
        replace fL0 := keep hd fL0
        replace fL1 := keep hd fL1
        replace fH0 := keep hd fH0
        replace fH1 := keep hd fH1
        replace him := him.below hd
        replace hiq := hiq.below hd
        replace hi1 := hi1.below hd
        replace hB := chain hB hd
        have hs10 := hd.size
        clear hbz hd
        have hlv := HV.out.below hB
        go_wp2_with fail
        refine wp_region_P (fun w' => Below w10.heap.size w10 w') (fun _ => True) 44 (by kernel_rfl) ?_
        change wpAnyP _ _ _ _ _ _ _ _ _ _ (World.drew _)
        have hS : Below w10.heap.size w10 (World.drew w10) := drew_below w10
        refine wpAnyP_takeS (i := 0) (v := ?_) rfl (by kernel_rfl) (by kernel_rfl) (by kernel_rfl) (fun _ _ _ h => h) (by decide) (Or.inl ⟨by rfl, fun w' hS' => ?_⟩) hS (fun _ => trivial) ?_
        rotate_left
        · go_simp; first | done | rfl
        simp only [Act.put]
        refine wpAnyP_takeS (i := 1) (v := ?_) rfl (by kernel_rfl) (by kernel_rfl) (by kernel_rfl) (fun _ _ _ h => h) (by decide) (Or.inl ⟨by rfl, fun w' hS' => ?_⟩) hS (fun _ => trivial) ?_
        rotate_left
        · go_simp; first | done | rfl
        simp only [Act.put]
        refine wpAnyP_takeS (i := 6) (v := ?_) rfl (by kernel_rfl) (by kernel_rfl) (by kernel_rfl) (fun _ _ _ h => h) (by decide) (Or.inl ⟨by rfl, fun w' hS' => ?_⟩) hS (fun _ => trivial) ?_
        rotate_left
        · have q0 := keep hS' mm0; have q1 := keep hS' mm1; go_simp; first | done | rfl
        simp only [Act.put]
        refine wpAnyP_takeS (i := 7) (v := ?_) rfl (by kernel_rfl) (by kernel_rfl) (by kernel_rfl) (fun _ _ _ h => h) (by decide) (Or.inl ⟨by rfl, fun w' hS' => ?_⟩) hS (fun _ => trivial) ?_
        rotate_left
        · go_simp; first | done | rfl
        simp only [Act.put]
        refine wpAnyP_takeS (i := 13) (v := ?_) rfl (by kernel_rfl) (by kernel_rfl) (by kernel_rfl) (fun _ _ _ h => h) (by decide) (Or.inl ⟨by rfl, fun w' hS' => ?_⟩) hS (fun _ => trivial) ?_
        rotate_left
        · have q0 := keep hS' mm0; have q1 := keep hS' mm1; go_simp; first | done | rfl
        simp only [Act.put]
        refine wpAnyP_takeS (i := 14) (v := ?_) rfl (by kernel_rfl) (by kernel_rfl) (by kernel_rfl) (fun _ _ _ h => h) (by decide) (Or.inl ⟨by rfl, fun w' hS' => ?_⟩) hS (fun _ => trivial) ?_
        rotate_left
        · go_simp; first | done | rfl
        simp only [Act.put]
        refine wpAnyP_takeS (i := 20) (v := ?_) rfl (by kernel_rfl) (by kernel_rfl) (by kernel_rfl) (fun _ _ _ h => h) (by decide) (Or.inl ⟨by rfl, fun w' hS' => ?_⟩) hS (fun _ => trivial) ?_
        rotate_left
        · have q0 := keep hS' mm0; have q1 := keep hS' mm1; go_simp; first | done | rfl
        simp only [Act.put]
        refine wpAnyP_takeS (i := 21) (v := ?_) rfl (by kernel_rfl) (by kernel_rfl) (by kernel_rfl) (fun _ _ _ h => h) (by decide) (Or.inl ⟨by rfl, fun w' hS' => ?_⟩) hS (fun _ => trivial) ?_
        rotate_left
        · go_simp; first | done | rfl
        simp only [Act.put]
        refine wpAnyP_takeS (i := 26) (v := ?_) rfl (by kernel_rfl) (by kernel_rfl) (by kernel_rfl) (fun _ _ _ h => h) (by decide) (Or.inl ⟨by rfl, fun w' hS' => ?_⟩) hS (fun _ => trivial) ?_
        rotate_left
        · have q0 := keep hS' mm0; have q1 := keep hS' mm1; go_simp; first | done | rfl
        simp only [Act.put]
        refine wpAnyP_takeS (i := 27) (v := ?_) rfl (by kernel_rfl) (by kernel_rfl) (by kernel_rfl) (fun _ _ _ h => h) (by decide) (Or.inl ⟨by rfl, fun w' hS' => ?_⟩) hS (fun _ => trivial) ?_
        rotate_left
        · go_simp; first | done | rfl
        simp only [Act.put]
        refine wpAnyP_takeS (i := 32) (v := ?_) rfl (by kernel_rfl) (by kernel_rfl) (by kernel_rfl) (fun _ _ _ h => h) (by decide) (Or.inl ⟨by rfl, fun w' hS' => ?_⟩) hS (fun _ => trivial) ?_
        rotate_left
        · have q0 := keep hS' fR0; have q1 := keep hS' fR1; go_simp; first | done | rfl
        simp only [Act.put]
        refine wpAnyP_takeS (i := 33) (v := ?_) rfl (by kernel_rfl) (by kernel_rfl) (by kernel_rfl) (fun _ _ _ h => h) (by decide) (Or.inl ⟨by rfl, fun w' hS' => ?_⟩) hS (fun _ => trivial) ?_
        rotate_left
        · go_simp; first | done | rfl
        simp only [Act.put]
        refine wpAnyP_takeS (i := 36) (v := ?_) rfl (by kernel_rfl) (by kernel_rfl) (by kernel_rfl) (fun _ _ _ h => h) (by decide) (Or.inl ⟨by rfl, fun w' hS' => ?_⟩) hS (fun _ => trivial) ?_
        rotate_left
        · have q0 := keep hS' fL0; have q1 := keep hS' fL1; go_simp; first | done | rfl
        simp only [Act.put]
        refine wpAnyP_takeS (i := 37) (v := ?_) rfl (by kernel_rfl) (by kernel_rfl) (by kernel_rfl) (fun _ _ _ h => h) (by decide) (Or.inl ⟨by rfl, fun w' hS' => ?_⟩) hS (fun _ => trivial) ?_
        rotate_left
        · go_simp; first | done | rfl
        simp only [Act.put]
        refine wpAnyP_takeS (i := 40) (v := ?_) rfl (by kernel_rfl) (by kernel_rfl) (by kernel_rfl) (fun _ _ _ h => h) (by decide) (Or.inl ⟨by rfl, fun w' hS' => ?_⟩) hS (fun _ => trivial) ?_
        rotate_left
        · have q0 := keep hS' fH0; have q1 := keep hS' fH1; go_simp; first | done | rfl
        simp only [Act.put]
        refine wpAnyP_takeS (i := 41) (v := ?_) rfl (by kernel_rfl) (by kernel_rfl) (by kernel_rfl) (fun _ _ _ h => h) (by decide) (Or.inl ⟨by rfl, fun w' hS' => ?_⟩) hS (fun _ => trivial) ?_
        rotate_left
        · go_simp; first | done | rfl
        simp only [Act.put]
        refine wpAnyP_step 2 rfl (by kernel_rfl) (by rfl) (fun K hK => ?_)
        go_simp
        obtain ⟨v1, hv1⟩ : ∃ W, (w10.alloc (.cells #[.int .i64 (k1 : Int)] 3)).drew = W := ⟨_, rfl⟩
        have hS1 : Below w10.heap.size w10 v1 := by rw [← hv1]; (repeat (first | exact Below.refl _ _ | assumption | refine Below.alloc ?_ (by first | omega | (simp <;> omega)) _ | refine Below.setCell ?_ (by first | omega | (simp <;> omega)) _ | refine Below.drew ?_ | refine below_drewN ?_))
        have hiq1 : IntsAt v1 (some ⟨w10.heap.size, 0, none⟩) 1 [(k1 : Int)] := by rw [← hv1]; exact (ints_lit _ _ _ [(k1 : Int)] _ 1 rfl rfl rfl (by omega)).below (drew_below _)
        rw [hv1]
        refine hK _ _ hS1 (fun _ => trivial) ?_
        clear hK K hS hv1
        have hS := hS1
        clear hS1
        refine wpAnyP_step 3 rfl (by kernel_rfl) (by rfl) (fun K hK => ?_)
        go_simp
        refine (HF1.out _ _ _ _ hiq1 (hlv.below hS)).mono ?_; rintro e v2 ⟨rfl, hb2⟩
        go_simp
        have hS2 := chain hS hb2
        refine hK _ _ hS2 (fun _ => trivial) ?_
        clear hK K hS hb2
        have hS := hS2
        clear hS2
        refine wpAnyP_takeS (i := 4) (v := .string (bs OX ++ bs N1)) rfl (by kernel_rfl) (by kernel_rfl) (by kernel_rfl) (fun _ _ _ h => h) (by decide) (Or.inl ⟨by rfl, fun w' hS' => ?_⟩) hS (fun _ => trivial) ?_
        · go_simp; first | done | rfl | exact Nat.not_lt.1 kzo0 | (have hz := Nat.not_lt.1 kzo0; simpa using hz) | (simp only [ByteArray.size_append, bs_size, List.length_append, List.length_singleton]; omega)
        simp only [Act.put]
        refine wpAnyP_takeS (i := 5) (v := .string (bs OX ++ bs N1 ++ ByteArray.mk #[10])) rfl (by kernel_rfl) (by kernel_rfl) (by kernel_rfl) (fun _ _ _ h => h) (by decide) (Or.inl ⟨by rfl, fun w' hS' => ?_⟩) hS (fun _ => trivial) ?_
        · go_simp; first | done | rfl | exact Nat.not_lt.1 kzo1 | (have hz := Nat.not_lt.1 kzo1; simpa using hz) | (simp only [ByteArray.size_append, bs_size, List.length_append, List.length_singleton]; omega)
        simp only [Act.put]
        refine wpAnyP_step 8 rfl (by kernel_rfl) (by rfl) (fun K hK => ?_)
        go_simp
        refine (HBO.out _ (him.below hS) (hiq.below hS)).mono ?_; rintro e v3 ⟨rfl, hb3⟩
        go_simp
        have hS3 := chain hS hb3
        refine hK _ _ hS3 (fun _ => trivial) ?_
        clear hK K hS hb3
        have hS := hS3
        clear hS3
        refine wpAnyP_step 9 rfl (by kernel_rfl) (by rfl) (fun K hK => ?_)
        go_simp
        obtain ⟨v4, hv4⟩ : ∃ W, v3.alloc (.cells #[.int .i64 (k2 : Int)] 3) = W := ⟨_, rfl⟩
        have hS4 : Below w10.heap.size w10 v4 := by rw [← hv4]; exact chain hS (below_alloc _ _)
        have hiq4 : IntsAt v4 (some ⟨v3.heap.size, 0, none⟩) 1 [(k2 : Int)] := by rw [← hv4]; exact ints_lit _ _ _ [(k2 : Int)] _ 1 rfl rfl rfl (by omega)
        rw [hv4]
        refine hK _ _ hS4 (fun _ => trivial) ?_
        clear hK K hS hv4
        have hS := hS4
        clear hS4
        refine wpAnyP_step 10 rfl (by kernel_rfl) (by rfl) (fun K hK => ?_)
        go_simp
        refine (HF2.out _ _ _ _ hiq4 (hlv.below hS)).mono ?_; rintro e v5 ⟨rfl, hb5⟩
        go_simp
        have hS5 := chain hS hb5
        refine hK _ _ hS5 (fun _ => trivial) ?_
        clear hK K hS hb5
        have hS := hS5
        clear hS5
        refine wpAnyP_takeS (i := 11) (v := .string (bs OX ++ bs N1 ++ ByteArray.mk #[10] ++ bs N2)) rfl (by kernel_rfl) (by kernel_rfl) (by kernel_rfl) (fun _ _ _ h => h) (by decide) (Or.inl ⟨by rfl, fun w' hS' => ?_⟩) hS (fun _ => trivial) ?_
        · go_simp; first | done | rfl | exact Nat.not_lt.1 kzo2 | (have hz := Nat.not_lt.1 kzo2; simpa using hz) | (simp only [ByteArray.size_append, bs_size, List.length_append, List.length_singleton]; omega)
        simp only [Act.put]
        refine wpAnyP_takeS (i := 12) (v := .string (bs OX ++ bs N1 ++ ByteArray.mk #[10] ++ bs N2 ++ ByteArray.mk #[10])) rfl (by kernel_rfl) (by kernel_rfl) (by kernel_rfl) (fun _ _ _ h => h) (by decide) (Or.inl ⟨by rfl, fun w' hS' => ?_⟩) hS (fun _ => trivial) ?_
        · go_simp; first | done | rfl | exact Nat.not_lt.1 kzo3 | (have hz := Nat.not_lt.1 kzo3; simpa using hz) | (simp only [ByteArray.size_append, bs_size, List.length_append, List.length_singleton]; omega)
        simp only [Act.put]
        refine wpAnyP_step 15 rfl (by kernel_rfl) (by rfl) (fun K hK => ?_)
        go_simp
        refine (HSH.out _ (him.below hS) (hiq.below hS)).mono ?_; rintro e v6 ⟨rfl, hb6⟩
        go_simp
        have hS6 := chain hS hb6
        refine hK _ _ hS6 (fun _ => trivial) ?_
        clear hK K hS hb6
        have hS := hS6
        clear hS6
        refine wpAnyP_step 16 rfl (by kernel_rfl) (by rfl) (fun K hK => ?_)
        go_simp
        obtain ⟨v7, hv7⟩ : ∃ W, v6.alloc (.cells #[.int .i64 (k3 : Int)] 3) = W := ⟨_, rfl⟩
        have hS7 : Below w10.heap.size w10 v7 := by rw [← hv7]; exact chain hS (below_alloc _ _)
        have hiq7 : IntsAt v7 (some ⟨v6.heap.size, 0, none⟩) 1 [(k3 : Int)] := by rw [← hv7]; exact ints_lit _ _ _ [(k3 : Int)] _ 1 rfl rfl rfl (by omega)
        rw [hv7]
        refine hK _ _ hS7 (fun _ => trivial) ?_
        clear hK K hS hv7
        have hS := hS7
        clear hS7
        refine wpAnyP_step 17 rfl (by kernel_rfl) (by rfl) (fun K hK => ?_)
        go_simp
        refine (HF3.out _ _ _ _ hiq7 (hlv.below hS)).mono ?_; rintro e v8 ⟨rfl, hb8⟩
        go_simp
        have hS8 := chain hS hb8
        refine hK _ _ hS8 (fun _ => trivial) ?_
        clear hK K hS hb8
        have hS := hS8
        clear hS8
        refine wpAnyP_takeS (i := 18) (v := .string (bs OX ++ bs N1 ++ ByteArray.mk #[10] ++ bs N2 ++ ByteArray.mk #[10] ++ bs N3)) rfl (by kernel_rfl) (by kernel_rfl) (by kernel_rfl) (fun _ _ _ h => h) (by decide) (Or.inl ⟨by rfl, fun w' hS' => ?_⟩) hS (fun _ => trivial) ?_
        · go_simp; first | done | rfl | exact Nat.not_lt.1 kzo4 | (have hz := Nat.not_lt.1 kzo4; simpa using hz) | (simp only [ByteArray.size_append, bs_size, List.length_append, List.length_singleton]; omega)
        simp only [Act.put]
        refine wpAnyP_takeS (i := 19) (v := .string (bs OX ++ bs N1 ++ ByteArray.mk #[10] ++ bs N2 ++ ByteArray.mk #[10] ++ bs N3 ++ ByteArray.mk #[10])) rfl (by kernel_rfl) (by kernel_rfl) (by kernel_rfl) (fun _ _ _ h => h) (by decide) (Or.inl ⟨by rfl, fun w' hS' => ?_⟩) hS (fun _ => trivial) ?_
        · go_simp; first | done | rfl | exact Nat.not_lt.1 kzo5 | (have hz := Nat.not_lt.1 kzo5; simpa using hz) | (simp only [ByteArray.size_append, bs_size, List.length_append, List.length_singleton]; omega)
        simp only [Act.put]
        refine wpAnyP_step 22 rfl (by kernel_rfl) (by rfl) (fun K hK => ?_)
        go_simp
        refine (HUN.out _ (him.below hS) (hiq.below hS)).mono ?_; rintro e v9 ⟨⟨u9, rfl, hr9⟩, hb9⟩
        obtain ⟨aq9, nq9, cq9, rfl, hiq9⟩ := hr9.ints
        go_simp
        have hS9 := chain hS hb9
        refine hK _ _ hS9 (fun _ => trivial) ?_
        clear hK K hS hb9
        have hS := hS9
        clear hS9
        refine wpAnyP_step 23 rfl (by kernel_rfl) (by rfl) (fun K hK => ?_)
        go_simp
        refine (HF4.out _ _ _ _ hiq9 (hlv.below hS)).mono ?_; rintro e v10 ⟨rfl, hb10⟩
        go_simp
        have hS10 := chain hS hb10
        refine hK _ _ hS10 (fun _ => trivial) ?_
        clear hK K hS hb10
        have hS := hS10
        clear hS10
        refine wpAnyP_takeS (i := 24) (v := .string (bs OX ++ bs N1 ++ ByteArray.mk #[10] ++ bs N2 ++ ByteArray.mk #[10] ++ bs N3 ++ ByteArray.mk #[10] ++ bs N4)) rfl (by kernel_rfl) (by kernel_rfl) (by kernel_rfl) (fun _ _ _ h => h) (by decide) (Or.inl ⟨by rfl, fun w' hS' => ?_⟩) hS (fun _ => trivial) ?_
        · go_simp; first | done | rfl | exact Nat.not_lt.1 kzo6 | (have hz := Nat.not_lt.1 kzo6; simpa using hz) | (simp only [ByteArray.size_append, bs_size, List.length_append, List.length_singleton]; omega)
        simp only [Act.put]
        refine wpAnyP_takeS (i := 25) (v := .string (bs OX ++ bs N1 ++ ByteArray.mk #[10] ++ bs N2 ++ ByteArray.mk #[10] ++ bs N3 ++ ByteArray.mk #[10] ++ bs N4 ++ ByteArray.mk #[10])) rfl (by kernel_rfl) (by kernel_rfl) (by kernel_rfl) (fun _ _ _ h => h) (by decide) (Or.inl ⟨by rfl, fun w' hS' => ?_⟩) hS (fun _ => trivial) ?_
        · go_simp; first | done | rfl | exact Nat.not_lt.1 kzo7 | (have hz := Nat.not_lt.1 kzo7; simpa using hz) | (simp only [ByteArray.size_append, bs_size, List.length_append, List.length_singleton]; omega)
        simp only [Act.put]
        refine wpAnyP_step 28 rfl (by kernel_rfl) (by rfl) (fun K hK => ?_)
        go_simp
        refine (HPO.out _ (him.below hS) (hiq.below hS)).mono ?_; rintro e v11 ⟨⟨u11, rfl, hr11⟩, hb11⟩
        obtain ⟨aq11, nq11, cq11, rfl, hiq11⟩ := hr11.ints
        go_simp
        have hS11 := chain hS hb11
        refine hK _ _ hS11 (fun _ => trivial) ?_
        clear hK K hS hb11
        have hS := hS11
        clear hS11
        refine wpAnyP_step 29 rfl (by kernel_rfl) (by rfl) (fun K hK => ?_)
        go_simp
        refine (HF5.out _ _ _ _ hiq11 (hlv.below hS)).mono ?_; rintro e v12 ⟨rfl, hb12⟩
        go_simp
        have hS12 := chain hS hb12
        refine hK _ _ hS12 (fun _ => trivial) ?_
        clear hK K hS hb12
        have hS := hS12
        clear hS12
        refine wpAnyP_takeS (i := 30) (v := .string (bs OX ++ bs N1 ++ ByteArray.mk #[10] ++ bs N2 ++ ByteArray.mk #[10] ++ bs N3 ++ ByteArray.mk #[10] ++ bs N4 ++ ByteArray.mk #[10] ++ bs N5)) rfl (by kernel_rfl) (by kernel_rfl) (by kernel_rfl) (fun _ _ _ h => h) (by decide) (Or.inl ⟨by rfl, fun w' hS' => ?_⟩) hS (fun _ => trivial) ?_
        · go_simp; first | done | rfl | exact Nat.not_lt.1 kzo8 | (have hz := Nat.not_lt.1 kzo8; simpa using hz) | (simp only [ByteArray.size_append, bs_size, List.length_append, List.length_singleton]; omega)
        simp only [Act.put]
        refine wpAnyP_takeS (i := 31) (v := .string (bs OX ++ bs N1 ++ ByteArray.mk #[10] ++ bs N2 ++ ByteArray.mk #[10] ++ bs N3 ++ ByteArray.mk #[10] ++ bs N4 ++ ByteArray.mk #[10] ++ bs N5 ++ ByteArray.mk #[10])) rfl (by kernel_rfl) (by kernel_rfl) (by kernel_rfl) (fun _ _ _ h => h) (by decide) (Or.inl ⟨by rfl, fun w' hS' => ?_⟩) hS (fun _ => trivial) ?_
        · go_simp; first | done | rfl | exact Nat.not_lt.1 kzo9 | (have hz := Nat.not_lt.1 kzo9; simpa using hz) | (simp only [ByteArray.size_append, bs_size, List.length_append, List.length_singleton]; omega)
        simp only [Act.put]
        refine wpAnyP_step 34 rfl (by kernel_rfl) (by rfl) (fun K hK => ?_)
        go_simp
        refine (HWPR.out _ (hlv.below hS)).mono ?_; rintro e v13 ⟨rfl, hb13⟩
        go_simp
        have hS13 := chain hS hb13
        refine hK _ _ hS13 (fun _ => trivial) ?_
        clear hK K hS hb13
        have hS := hS13
        clear hS13
        refine wpAnyP_takeS (i := 35) (v := .string (bs OX ++ bs N1 ++ ByteArray.mk #[10] ++ bs N2 ++ ByteArray.mk #[10] ++ bs N3 ++ ByteArray.mk #[10] ++ bs N4 ++ ByteArray.mk #[10] ++ bs N5 ++ ByteArray.mk #[10] ++ bs (LR ++ [10]))) rfl (by kernel_rfl) (by kernel_rfl) (by kernel_rfl) (fun _ _ _ h => h) (by decide) (Or.inl ⟨by rfl, fun w' hS' => ?_⟩) hS (fun _ => trivial) ?_
        · go_simp; first | done | rfl | exact Nat.not_lt.1 kzo10 | (have hz := Nat.not_lt.1 kzo10; simpa using hz) | (simp only [ByteArray.size_append, bs_size, List.length_append, List.length_singleton]; omega)
        simp only [Act.put]
        refine wpAnyP_step 38 rfl (by kernel_rfl) (by rfl) (fun K hK => ?_)
        go_simp
        refine (HWPL.out _ (hlv.below hS)).mono ?_; rintro e v14 ⟨rfl, hb14⟩
        go_simp
        have hS14 := chain hS hb14
        refine hK _ _ hS14 (fun _ => trivial) ?_
        clear hK K hS hb14
        have hS := hS14
        clear hS14
        refine wpAnyP_takeS (i := 39) (v := .string (bs OX ++ bs N1 ++ ByteArray.mk #[10] ++ bs N2 ++ ByteArray.mk #[10] ++ bs N3 ++ ByteArray.mk #[10] ++ bs N4 ++ ByteArray.mk #[10] ++ bs N5 ++ ByteArray.mk #[10] ++ bs (LR ++ [10]) ++ bs (LL ++ [10]))) rfl (by kernel_rfl) (by kernel_rfl) (by kernel_rfl) (fun _ _ _ h => h) (by decide) (Or.inl ⟨by rfl, fun w' hS' => ?_⟩) hS (fun _ => trivial) ?_
        · go_simp; first | done | rfl | exact Nat.not_lt.1 kzo11 | (have hz := Nat.not_lt.1 kzo11; simpa using hz) | (simp only [ByteArray.size_append, bs_size, List.length_append, List.length_singleton]; omega)
        simp only [Act.put]
        refine wpAnyP_step 42 rfl (by kernel_rfl) (by rfl) (fun K hK => ?_)
        go_simp
        refine (HWPH.out _ (hlv.below hS)).mono ?_; rintro e v15 ⟨rfl, hb15⟩
        go_simp
        have hS15 := chain hS hb15
        refine hK _ _ hS15 (fun _ => trivial) ?_
        clear hK K hS hb15
        have hS := hS15
        clear hS15
        refine wpAnyP_takeS (i := 43) (v := .string (bs OX ++ bs N1 ++ ByteArray.mk #[10] ++ bs N2 ++ ByteArray.mk #[10] ++ bs N3 ++ ByteArray.mk #[10] ++ bs N4 ++ ByteArray.mk #[10] ++ bs N5 ++ ByteArray.mk #[10] ++ bs (LR ++ [10]) ++ bs (LL ++ [10]) ++ bs (LH ++ [10]))) rfl (by kernel_rfl) (by kernel_rfl) (by kernel_rfl) (fun _ _ _ h => h) (by decide) (Or.inl ⟨by rfl, fun w' hS' => ?_⟩) hS (fun _ => trivial) ?_
        · go_simp; first | done | rfl | exact Nat.not_lt.1 kzo12 | (have hz := Nat.not_lt.1 kzo12; simpa using hz) | (simp only [ByteArray.size_append, bs_size, List.length_append, List.length_singleton]; omega)
        simp only [Act.put]
        refine wpAnyP_step 44 rfl (by kernel_rfl) (by rfl) (fun K hK => ?_)
        go_simp
        refine hK _ _ hS (fun _ => trivial) ?_
        clear hK K
        refine wpAnyP_done (by kernel_rfl) ?_ _
        rw [HOX.out]
        obtain ⟨w11, rfl⟩ : ∃ q : World, q = v15 := ⟨_, rfl⟩
        clear hlv
        have hd := hS
        replace mm0 := keep hd mm0
        replace mm1 := keep hd mm1
        replace hc1 := keep hd hc1
        replace fR0 := keep hd fR0
        replace fR1 := keep hd fR1
        replace fL0 := keep hd fL0
        replace fL1 := keep hd fL1
        replace fH0 := keep hd fH0
        replace fH1 := keep hd fH1
        replace him := him.below hd
        replace hiq := hiq.below hd
        replace hi1 := hi1.below hd
        replace hB := chain hB hd
        have hs11 := hd.size
        clear hS hd
        have hse : ((bs (lineT (ST.map Prod.snd))).toList == (bs (lineT (ST.map Prod.snd))).toList) = true := beq_self_eq_true _
        go_wp2_with fail
        refine (HRUN.out _ (HV.out.below hB)).mono ?_; rintro e w12 ⟨rfl, hb⟩
        have hd := hb
        replace mm0 := keep hd mm0
        replace mm1 := keep hd mm1
        replace hc1 := keep hd hc1
        replace fR0 := keep hd fR0
        replace fR1 := keep hd fR1
        replace fL0 := keep hd fL0
        replace fL1 := keep hd fL1
        replace fH0 := keep hd fH0
        replace fH1 := keep hd fH1
        replace him := him.below hd
        replace hiq := hiq.below hd
        replace hi1 := hi1.below hd
        replace hB := chain hB hd
        have hs12 := hd.size
        clear hb hd
        go_wp2
        go_ret
        exact ⟨rfl, hB⟩
end Go.Proofs.YtefmlbahmakboaaGreatDoor
