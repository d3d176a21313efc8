/- How two masses contradict and differ, and which is more possible: ConflictOf, DistanceOf, MorePossible (printed by mkj3.py). -/
import Derived.Test.YtefmlbahmakboaaGreatDoorS9
import Derived.Test.YtefmlbahmakboaaGreatDoorE11
import Derived.Test.YtefmlbahmakboaaGreatDoorF4
set_option linter.unusedSimpArgs false
set_option linter.unusedVariables false
namespace Go.Proofs.YtefmlbahmakboaaGreatDoor
open Go.RowKit
section
variable {P : Program} {md : Region.Mode} {ops : Array Oper} {Q : Exit → Act → World → Prop} {S T : World → Prop} {p : Nat}
/-- what is kept may be told more of, from some operation on -/
theorem wpAnyP_strong {S' T' : World → Prop} (hS : ∀ w, S' w → S w) (hT : ∀ w, T' w → T w) : ∀ (fuel : Nat) (listed : Array Bool) (a : Act) (w : World), wpAnyP P md ops Q S' T' p fuel listed a w → wpAnyP P md ops Q S T p fuel listed a w
  | 0, _, _, _, h => h
  | fuel + 1, _, _, _, h => ⟨h.1, fun i hi => wpOp_mono (fun a' w' h' => ⟨⟨hS _ h'.1.1, fun e => hT _ (h'.1.2 e)⟩, wpAnyP_strong hS hT fuel _ a' w' h'.2⟩) (h.2 i hi)⟩
end
theorem prodM_bd {x y : Int} (x1 : 1 ≤ x) (x2 : x ≤ 1000000) (y1 : 1 ≤ y) (y2 : y ≤ 1000000) : 1 ≤ x * y ∧ x * y ≤ 1000000000000 := by
  have h1 := Int.mul_le_mul x1 y1 (by omega) (by omega)
  have h2 := Int.mul_le_mul x2 y2 (by omega) (by omega)
  omega
theorem mulM_bd {x y : Int} (x1 : 0 ≤ x) (x2 : x ≤ 1000000) (y1 : 0 ≤ y) (y2 : y ≤ 1000000) : 0 ≤ x * y ∧ x * y ≤ 1000000000000 := by
  have h1 := Int.mul_nonneg x1 y1
  have h2 := Int.mul_le_mul x2 y2 (by omega) (by omega)
  omega
/-- how much two masses contradict each other -/
def confF (s : Int) (xs : List Int) (u : Int) (ys : List Int) : FR := if oneQ s xs u ys then redF (nth (togTo (fun a b => a &&& b) xs ys xs.length ys.length xs.length) 0) (isum xs * isum ys) else FR.no
theorem confF_bad {s : Int} {xs : List Int} {u : Int} {ys : List Int} (h : oneQ s xs u ys = false) : confF s xs u ys = FR.no := by simp [confF, h]
def distTo (xs ys : List Int) (X Y : Int) (k : Nat) : Int := iter (fun a t => t + max 0 (nth xs a * Y - nth ys a * X)) 0 k
theorem distTo_bd {xs ys : List Int} {X Y : Int} {n : Nat} (x1 : 0 ≤ X) (x2 : X ≤ 1000000) (y1 : 0 ≤ Y) (y2 : Y ≤ 1000000) (hx : ∀ k, k < n → 0 ≤ nth xs k ∧ nth xs k ≤ 1000000) (hy : ∀ k, k < n → 0 ≤ nth ys k ∧ nth ys k ≤ 1000000) : ∀ k, k ≤ n → 0 ≤ distTo xs ys X Y k ∧ distTo xs ys X Y k ≤ 1000000000000 * (k : Int) := by
  intro k
  induction k with
  | zero => intro _; exact ⟨Int.le_refl _, by simp [distTo, iter]⟩
  | succ k ih =>
    intro hk
    have h1 := ih (by omega)
    have h2 := mulM_bd (hx k (by omega)).1 (hx k (by omega)).2 y1 y2
    have h3 := mulM_bd (hy k (by omega)).1 (hy k (by omega)).2 x1 x2
    have e : distTo xs ys X Y (k + 1) = distTo xs ys X Y k + max 0 (nth xs k * Y - nth ys k * X) := rfl
    rw [e]; push_cast; omega
/-- how differently two masses have the whole -/
def distF (s : Int) (xs : List Int) (u : Int) (ys : List Int) : FR := if oneQ s xs u ys then redF (distTo xs ys (isum xs) (isum ys) xs.length) (isum xs * isum ys) else FR.no
theorem distF_bad {s : Int} {xs : List Int} {u : Int} {ys : List Int} (h : oneQ s xs u ys = false) : distF s xs u ys = FR.no := by simp [distF, h]
/-- is set a at least as possible by the second mass? -/
def moreAt (xs ys : List Int) (X Y : Int) (N a : Nat) : Bool := !decide (dot (predI (meetB a)) ys N * X < dot (predI (meetB a)) xs N * Y)
def moreB (s : Int) (xs : List Int) (u : Int) (ys : List Int) : Bool := oneQ s xs u ys && allN (moreAt xs ys (isum xs) (isum ys) xs.length) xs.length
set_option maxRecDepth 100000 in
set_option maxHeartbeats 4000000 in
theorem ConflictOf_any (s u : Int) (ao bo : Option Addr) (n c m d : Nat) (xs ys : List Int) (w : World) (hx : IntsAt w ao n xs) (hy : IntsAt w bo m ys) :
    Calls Tryz.prog 13 #[.agg #[.int .i64 s, .slice ao n c], .agg #[.int .i64 u, .slice bo m d]] w fun e w' => e = .returned (.tuple #[.agg #[.int .i64 (confF s xs u ys).num, .int .i64 (confF s xs u ys).den], .bool (confF s xs u ys).ok]) ∧ Below w.heap.size w w' := by
  have hB0 : Below w.heap.size w (((w.alloc (.cells #[.int .i64 s, .slice ao n c] 25)).alloc (.cells #[.int .i64 u, .slice bo m d] 25)).alloc (.cells #[.int .i64 0, .int .i64 0] 33)) := by (repeat (first | exact Below.refl _ _ | assumption | refine Below.alloc ?_ (by first | omega | (simp <;> omega)) _ | refine Below.setCell ?_ (by first | omega | (simp <;> omega)) _ | refine Below.drew ?_ | refine below_drewN ?_))
  cases hq : oneQ s xs u ys
  · have HR := hid (confF_bad hq)
    rw [HR.out]
    go_enter Tryz.func13, Tryz.ntmps13
    go_wp2_with fail
    refine (ofOneQuestion_any _ _ _ _ _ _ _ _ _ _ _ (hx.below hB0) (hy.below hB0)).mono ?_; rw [hq]; rintro e w1 ⟨rfl, hb1⟩
    obtain ⟨h10, h11, f20, f21⟩ := boxG (w.heap.size + 1 + 1) hb1 (by simp)
    have hB1 : Below w.heap.size w w1 := Below.trans (by (repeat (first | exact Below.refl _ _ | assumption | refine Below.alloc ?_ (by simp <;> omega) _ | refine Below.setCell ?_ (by simp <;> omega) _ | refine Below.drew ?_ | refine below_drewN ?_))) (hb1.mono (by simp <;> omega))
    clear hb1
    go_wp2
    refine bodyPost_ret (v := .tuple #[.agg #[.int .i64 0, .int .i64 0], .bool false]) (by simp [results, Tryz.results13, go_sem, h10, h11]) rfl ⟨?_, ?_⟩
    · rfl
    · (repeat (first | exact Below.refl _ _ | assumption | refine Below.alloc ?_ (by simp <;> omega) _ | refine Below.setCell ?_ (by simp <;> omega) _ | refine Below.drew ?_ | refine below_drewN ?_))
  · obtain ⟨hm1, hm2, hus, hll⟩ := oneQ_facts hq
    have HUS := hid hus; clear hus
    have hxl := hid hx.len
    have hyl := hid hy.len
    have hmn : m = n := by rw [← hxl.out, ← hyl.out]; exact hll
    subst hmn
    obtain ⟨_, _, h16, hxb, x1, x2, _⟩ := massOk_facts' hm1
    obtain ⟨_, _, _, hyb, y1, y2, _⟩ := massOk_facts' hm2
    have hsz := nsets_le (massOk_facts' hm1).1
    have hn1 : 1 ≤ m := by have := (massOk_facts' hm1).2.1; have := hxl.out; omega
    have hn16 : m ≤ 16 := by have := hxl.out; omega
    have HXB : Hid (∀ k, k < m → 0 ≤ nth xs k ∧ nth xs k ≤ 1000000) := fun k hk => hxb k (by rw [hxl.out]; exact hk)
    have HYB : Hid (∀ k, k < m → 0 ≤ nth ys k ∧ nth ys k ≤ 1000000) := fun k hk => hyb k (by rw [hyl.out]; exact hk)
    obtain ⟨X, HX⟩ : ∃ X, Hid (isum xs = X) := ⟨_, rfl⟩
    obtain ⟨Y, HY⟩ : ∃ Y, Hid (isum ys = Y) := ⟨_, rfl⟩
    rw [HX.out] at x1 x2
    rw [HY.out] at y1 y2
    have hxy := prodM_bd x1 x2 y1 y2
    have HTL : Hid ((togTo (fun a b => a &&& b) xs ys m m m).length = m) := togTo_len _ _ _ _ _ _
    have ht := togTo_bd (fun a b => a &&& b) xs ys m m m hn16 HXB.out HYB.out m (Nat.le_refl _) 0
    have HCJ : Hid (∀ w', IntsAt w' ao m xs → IntsAt w' bo m ys → Calls Tryz.prog 37 #[.agg #[.int .i64 s, .slice ao m c], .agg #[.int .i64 u, .slice bo m d]] w' fun e w'' => (∃ v, e = .returned v ∧ Row w'' w'.heap.size v (togTo (fun a b => a &&& b) xs ys m m m)) ∧ Below w'.heap.size w' w'') := fun w' h1 h2 => conjoined_any s u _ _ _ _ _ _ xs ys w' h1 h2 hn16 (Nat.le_refl _) HXB.out HYB.out
    obtain ⟨TG, hTG⟩ : ∃ t, togTo (fun a b => a &&& b) xs ys m m m = t := ⟨_, rfl⟩
    have HR : Hid (confF s xs u ys = redF (nth TG 0) (X * Y)) := by rw [Hid]; unfold confF; rw [hq, hxl.out, hyl.out, HX.out, HY.out, hTG]; rfl
    rw [HR.out]
    rw [hTG] at HTL ht HCJ
    obtain ⟨f, hf⟩ : ∃ r, redF (nth TG 0) (X * Y) = r := ⟨_, rfl⟩
    rw [hf]
    obtain ⟨z, hz⟩ : ∃ z, nth TG 0 = z := ⟨_, rfl⟩
    have HZ := hid hz
    rw [hz] at ht hf
    have hm16 : (m : Int) ≤ 16 := by omega
    have hwr : IntKind.i64.wrap (X * Y) = X * Y := by rw [IntWalk.i64_in]; omega
    have hmi0 : (0 : Int) < (m : Int) := by omega
    have hm0 : 0 < m := by omega
    have HC2 : Hid (∀ w', IntsAt w' ao m xs → Calls Tryz.prog 48 #[.agg #[.int .i64 s, .slice ao m c]] w' fun e w'' => e = .returned (.int .i64 X) ∧ Below w'.heap.size w' w'') := fun w' h1 => by rw [← HX.out]; exact wholeOf_any _ _ _ _ xs w' h1 (fun k hk => by have := HXB.out k hk; omega) hn16
    have HC3 : Hid (∀ w', IntsAt w' bo m ys → Calls Tryz.prog 48 #[.agg #[.int .i64 u, .slice bo m d]] w' fun e w'' => e = .returned (.int .i64 Y) ∧ Below w'.heap.size w' w'') := fun w' h1 => by rw [← HY.out]; exact wholeOf_any _ _ _ _ ys w' h1 (fun k hk => by have := HYB.out k hk; omega) hn16
    have HC4 : Hid (∀ w', Calls Tryz.prog 47 #[.int .i64 z, .int .i64 (X * Y)] w' fun e w'' => e = .returned (.tuple #[.agg #[.int .i64 f.num, .int .i64 f.den], .bool f.ok]) ∧ Below w'.heap.size w' w'') := fun w' => by rw [← hf]; exact lowest_any _ _ w' (by omega) (by omega) (by omega) (by omega) (by omega)
    clear hll hxb hyb h16 hm1 hm2 hTG hz hf
    go_enter Tryz.func13, Tryz.ntmps13
    go_wp2_with fail
    refine (ofOneQuestion_any _ _ _ _ _ _ _ _ _ _ _ (hx.below hB0) (hy.below hB0)).mono ?_; rw [hq]; rintro e w1 ⟨rfl, hb1⟩
    obtain ⟨h10, h11, f20, f21⟩ := boxG (w.heap.size + 1 + 1) hb1 (by simp)
    have hp0 := keep hb1 (a := ⟨w.heap.size, 0, none⟩) (v := .int .i64 s) (by simp)
    have hp1 := keep hb1 (a := ⟨w.heap.size, 1, none⟩) (v := .slice ao m c) (by simp)
    have hq0 := keep hb1 (a := ⟨w.heap.size + 1, 0, none⟩) (v := .int .i64 u) (by simp)
    have hq1 := keep hb1 (a := ⟨w.heap.size + 1, 1, none⟩) (v := .slice bo m d) (by simp)
    have hB1 : Below w.heap.size w w1 := Below.trans (by (repeat (first | exact Below.refl _ _ | assumption | refine Below.alloc ?_ (by simp <;> omega) _ | refine Below.setCell ?_ (by simp <;> omega) _ | refine Below.drew ?_ | refine below_drewN ?_))) (hb1.mono (by simp <;> omega))
    have hx1 := (hx.below hB0).below hb1
    have hy1 := (hy.below hB0).below hb1
    have hz1 : w.heap.size + 1 + 1 < w1.heap.size := by have := World.block_lt_of_cell? w1 _ h10; simpa using this
    clear hb1 hB0
    have hne1 : ¬ w.heap.size + 1 + 1 = w.heap.size := by omega
    have hne2 : ¬ w.heap.size = w.heap.size + 1 + 1 := by omega
    go_wp2_with fail
    refine wp_region_P (S := fun _ => True) (T := fun w' => Below w1.heap.size w1 w') (p := 13) (by kernel_rfl) ?_
    change wpAnyP _ _ _ _ _ _ _ _ _ _ (World.drew _)
    have hT : Below w1.heap.size w1 (World.drew w1) := drew_below w1
    refine wpAnyP_takeT (i := 0) (v := ?_) rfl (by kernel_rfl) (by kernel_rfl) (by kernel_rfl) (fun _ _ _ h => h) (by decide) (by kernel_rfl) (by kernel_rfl) (Or.inl ⟨by rfl, fun w' hS' => ?_⟩) ⟨trivial, hT⟩ ?_
    rotate_left
    · have q0 := keep hS'.2 hp0; have q1 := keep hS'.2 hp1; go_simp; first | done | rfl
    simp only [Act.put]
    refine wpAnyP_takeT (i := 1) (v := ?_) rfl (by kernel_rfl) (by kernel_rfl) (by kernel_rfl) (fun _ _ _ h => h) (by decide) (by kernel_rfl) (by kernel_rfl) (Or.inl ⟨by rfl, fun w' hS' => ?_⟩) ⟨trivial, hT⟩ ?_
    rotate_left
    · have q0 := keep hS'.2 hq0; have q1 := keep hS'.2 hq1; go_simp; first | done | rfl
    simp only [Act.put]
    refine wpAnyP_takeT (i := 5) (v := ?_) rfl (by kernel_rfl) (by kernel_rfl) (by kernel_rfl) (fun _ _ _ h => h) (by decide) (by kernel_rfl) (by kernel_rfl) (Or.inl ⟨by rfl, fun w' hS' => ?_⟩) ⟨trivial, hT⟩ ?_
    rotate_left
    · have q0 := keep hS'.2 hp0; have q1 := keep hS'.2 hp1; go_simp; first | done | rfl
    simp only [Act.put]
    refine wpAnyP_takeT (i := 7) (v := ?_) rfl (by kernel_rfl) (by kernel_rfl) (by kernel_rfl) (fun _ _ _ h => h) (by decide) (by kernel_rfl) (by kernel_rfl) (Or.inl ⟨by rfl, fun w' hS' => ?_⟩) ⟨trivial, hT⟩ ?_
    rotate_left
    · have q0 := keep hS'.2 hq0; have q1 := keep hS'.2 hq1; go_simp; first | done | rfl
    simp only [Act.put]
    refine wpAnyP_step 2 rfl (by kernel_rfl) (by rfl) (fun K hK => ?_)
    go_simp
    refine (HCJ.out _ (hx1.below hT) (hy1.below hT)).mono ?_; rintro e v2 ⟨⟨v, rfl, hr2⟩, hb2⟩
    obtain ⟨av, cv, hev, hv1, hv2, hv⟩ := hr2.form (by rw [HTL.out]; omega)
    rw [HTL.out] at hev hv
    subst hev
    obtain ⟨hck, _, _⟩ := hr2.cellAt (show 0 < m by omega)
    rw [HZ.out] at hck
    go_simp
    have hT2 := chain hT hb2
    refine hK _ _ trivial (fun _ => hT2) ?_
    clear hK K
    have hT0 := hT2
    clear hT
    have hT := hT2
    clear hT2
    refine wpAnyP_strong (S' := fun _ => True) (T' := fun w' => Below v2.heap.size v2 w') (fun _ h => h) (fun w' h => chain hT0 h) _ _ _ _ ?_
    clear hT
    have hT := Below.refl v2.heap.size v2
    have hx2 := hx1.below hT0
    have hy2 := hy1.below hT0
    refine wpAnyP_takeT (i := 3) (v := ?_) rfl (by kernel_rfl) (by kernel_rfl) (by kernel_rfl) (fun _ _ _ h => h) (by decide) (by kernel_rfl) (by kernel_rfl) (Or.inl ⟨by rfl, fun w' hS' => ?_⟩) ⟨trivial, hT⟩ ?_
    rotate_left
    · go_simp; first | done | rfl
    simp only [Act.put]
    refine wpAnyP_takeT (i := 4) (v := ?_) rfl (by kernel_rfl) (by kernel_rfl) (by kernel_rfl) (fun _ _ _ h => h) (by decide) (by kernel_rfl) (by kernel_rfl) (Or.inl ⟨by rfl, fun w' hS' => ?_⟩) ⟨trivial, hT⟩ ?_
    rotate_left
    · have q0 := keep hS'.2 hck; go_simp; first | done | rfl
    simp only [Act.put]
    refine wpAnyP_step 6 rfl (by kernel_rfl) (by rfl) (fun K hK => ?_)
    go_simp
    refine (HC2.out _ (hx2.below hT)).mono ?_; rintro e v3 ⟨rfl, hb3⟩
    go_simp
    have hT3 := chain hT hb3
    refine hK _ _ trivial (fun _ => hT3) ?_
    clear hK K hT
    have hT := hT3
    clear hT3
    refine wpAnyP_step 8 rfl (by kernel_rfl) (by rfl) (fun K hK => ?_)
    go_simp
    refine (HC3.out _ (hy2.below hT)).mono ?_; rintro e v4 ⟨rfl, hb4⟩
    go_simp
    have hT4 := chain hT hb4
    refine hK _ _ trivial (fun _ => hT4) ?_
    clear hK K hT
    have hT := hT4
    clear hT4
    refine wpAnyP_takeT (i := 9) (v := .int .i64 (X * Y)) rfl (by kernel_rfl) (by kernel_rfl) (by kernel_rfl) (fun _ _ _ h => h) (by decide) (by kernel_rfl) (by kernel_rfl) (Or.inl ⟨by rfl, fun w' hS' => ?_⟩) ⟨trivial, hT⟩ ?_
    · go_simp; first | done | rfl
    simp only [Act.put]
    refine wpAnyP_step 10 rfl (by kernel_rfl) (by rfl) (fun K hK => ?_)
    go_simp
    refine (HC4.out _).mono ?_; rintro e v5 ⟨rfl, hb5⟩
    go_simp
    have hT5 := chain hT hb5
    refine hK _ _ trivial (fun _ => hT5) ?_
    clear hK K hT
    have hT := hT5
    clear hT5
    refine wpAnyP_takeT (i := 11) (v := ?_) rfl (by kernel_rfl) (by kernel_rfl) (by kernel_rfl) (fun _ _ _ h => h) (by decide) (by kernel_rfl) (by kernel_rfl) (Or.inl ⟨by rfl, fun w' hS' => ?_⟩) ⟨trivial, hT⟩ ?_
    rotate_left
    · go_simp; first | done | rfl
    simp only [Act.put]
    refine wpAnyP_takeT (i := 12) (v := ?_) rfl (by kernel_rfl) (by kernel_rfl) (by kernel_rfl) (fun _ _ _ h => h) (by decide) (by kernel_rfl) (by kernel_rfl) (Or.inl ⟨by rfl, fun w' hS' => ?_⟩) ⟨trivial, hT⟩ ?_
    rotate_left
    · go_simp; first | done | rfl
    simp only [Act.put]
    have hB5 := chain hT0 hT
    have g20 := keepF hB5 h10 f20
    have g21 := keepF hB5 h11 f21
    have g10 := keep hB5 h10
    have g11 := keep hB5 h11
    have hB7 := chain hB1 hB5
    refine wpAnyP_step 13 rfl (by kernel_rfl) (by rfl) (fun K hK => ?_)
    go_simp
    refine hK _ _ trivial (fun h => absurd h (by decide)) ?_
    clear hK K
    refine wpAnyP_step 14 rfl (by kernel_rfl) (by rfl) (fun K hK => ?_)
    go_simp
    refine hK _ _ trivial (fun h => absurd h (by decide)) ?_
    clear hK K
    refine wpAnyP_done (by kernel_rfl) ?_ _
    go_wp2
    refine bodyPost_ret (by simp [results, Tryz.results13, go_sem, g10, g11]; first | done | rfl) rfl ⟨rfl, ?_⟩
    (repeat (first | exact Below.refl _ _ | assumption | refine Below.alloc ?_ (by simp <;> omega) _ | refine Below.setCell ?_ (by simp <;> omega) _ | refine Below.drew ?_ | refine below_drewN ?_))
set_option maxRecDepth 100000 in
set_option maxHeartbeats 4000000 in
theorem DistanceOf_any (s u : Int) (ao bo : Option Addr) (n c m d : Nat) (xs ys : List Int) (w : World) (hx : IntsAt w ao n xs) (hy : IntsAt w bo m ys) :
    Calls Tryz.prog 14 #[.agg #[.int .i64 s, .slice ao n c], .agg #[.int .i64 u, .slice bo m d]] w fun e w' => e = .returned (.tuple #[.agg #[.int .i64 (distF s xs u ys).num, .int .i64 (distF s xs u ys).den], .bool (distF s xs u ys).ok]) ∧ Below w.heap.size w w' := by
  have hB0 : Below w.heap.size w (((w.alloc (.cells #[.int .i64 s, .slice ao n c] 25)).alloc (.cells #[.int .i64 u, .slice bo m d] 25)).alloc (.cells #[.int .i64 0, .int .i64 0] 33)) := by (repeat (first | exact Below.refl _ _ | assumption | refine Below.alloc ?_ (by first | omega | (simp <;> omega)) _ | refine Below.setCell ?_ (by first | omega | (simp <;> omega)) _ | refine Below.drew ?_ | refine below_drewN ?_))
  cases hq : oneQ s xs u ys
  · have HR := hid (distF_bad hq)
    rw [HR.out]
    go_enter Tryz.func14, Tryz.ntmps14
    go_wp2_with fail
    refine (ofOneQuestion_any _ _ _ _ _ _ _ _ _ _ _ (hx.below hB0) (hy.below hB0)).mono ?_; rw [hq]; rintro e w1 ⟨rfl, hb1⟩
    obtain ⟨h10, h11, f20, f21⟩ := boxG (w.heap.size + 1 + 1) hb1 (by simp)
    have hB1 : Below w.heap.size w w1 := Below.trans (by (repeat (first | exact Below.refl _ _ | assumption | refine Below.alloc ?_ (by simp <;> omega) _ | refine Below.setCell ?_ (by simp <;> omega) _ | refine Below.drew ?_ | refine below_drewN ?_))) (hb1.mono (by simp <;> omega))
    clear hb1
    go_wp2
    refine bodyPost_ret (v := .tuple #[.agg #[.int .i64 0, .int .i64 0], .bool false]) (by simp [results, Tryz.results14, go_sem, h10, h11]) rfl ⟨?_, ?_⟩
    · rfl
    · (repeat (first | exact Below.refl _ _ | assumption | refine Below.alloc ?_ (by simp <;> omega) _ | refine Below.setCell ?_ (by simp <;> omega) _ | refine Below.drew ?_ | refine below_drewN ?_))
  · obtain ⟨hm1, hm2, hus, hll⟩ := oneQ_facts hq
    have HUS := hid hus; clear hus
    have hxl := hid hx.len
    have hyl := hid hy.len
    have hmn : m = n := by rw [← hxl.out, ← hyl.out]; exact hll
    subst hmn
    obtain ⟨_, _, h16, hxb, x1, x2, _⟩ := massOk_facts' hm1
    obtain ⟨_, _, _, hyb, y1, y2, _⟩ := massOk_facts' hm2
    have hsz := nsets_le (massOk_facts' hm1).1
    have hn1 : 1 ≤ m := by have := (massOk_facts' hm1).2.1; have := hxl.out; omega
    have hn16 : m ≤ 16 := by have := hxl.out; omega
    have HXB : Hid (∀ k, k < m → 0 ≤ nth xs k ∧ nth xs k ≤ 1000000) := fun k hk => hxb k (by rw [hxl.out]; exact hk)
    have HYB : Hid (∀ k, k < m → 0 ≤ nth ys k ∧ nth ys k ≤ 1000000) := fun k hk => hyb k (by rw [hyl.out]; exact hk)
    obtain ⟨X, HX⟩ : ∃ X, Hid (isum xs = X) := ⟨_, rfl⟩
    obtain ⟨Y, HY⟩ : ∃ Y, Hid (isum ys = Y) := ⟨_, rfl⟩
    rw [HX.out] at x1 x2
    rw [HY.out] at y1 y2
    have hxy := prodM_bd x1 x2 y1 y2
    have HSB := hid (distTo_bd (X := X) (Y := Y) (n := m) (by omega) x2 (by omega) y2 HXB.out HYB.out)
    have hev := HSB.out m (Nat.le_refl _)
    have HR : Hid (distF s xs u ys = redF (distTo xs ys X Y m) (X * Y)) := by rw [Hid]; unfold distF; rw [hq, hxl.out, HX.out, HY.out]; rfl
    rw [HR.out]
    obtain ⟨f, hf⟩ : ∃ r, redF (distTo xs ys X Y m) (X * Y) = r := ⟨_, rfl⟩
    rw [hf]
    have hm16 : (m : Int) ≤ 16 := by omega
    have HC2 : Hid (∀ w', IntsAt w' ao m xs → Calls Tryz.prog 48 #[.agg #[.int .i64 s, .slice ao m c]] w' fun e w'' => e = .returned (.int .i64 X) ∧ Below w'.heap.size w' w'') := fun w' h1 => by rw [← HX.out]; exact wholeOf_any _ _ _ _ xs w' h1 (fun k hk => by have := HXB.out k hk; omega) hn16
    have HC3 : Hid (∀ w', IntsAt w' bo m ys → Calls Tryz.prog 48 #[.agg #[.int .i64 u, .slice bo m d]] w' fun e w'' => e = .returned (.int .i64 Y) ∧ Below w'.heap.size w' w'') := fun w' h1 => by rw [← HY.out]; exact wholeOf_any _ _ _ _ ys w' h1 (fun k hk => by have := HYB.out k hk; omega) hn16
    have HC4 : Hid (∀ w', Calls Tryz.prog 47 #[.int .i64 (distTo xs ys X Y m), .int .i64 (X * Y)] w' fun e w'' => e = .returned (.tuple #[.agg #[.int .i64 f.num, .int .i64 f.den], .bool f.ok]) ∧ Below w'.heap.size w' w'') := fun w' => by rw [← hf]; exact lowest_any _ _ w' (by omega) (by omega) (by omega) (by omega) (by omega)
    clear hll hxb hyb h16 hm1 hm2 hf hev
    go_enter Tryz.func14, Tryz.ntmps14
    go_wp2_with fail
    refine (ofOneQuestion_any _ _ _ _ _ _ _ _ _ _ _ (hx.below hB0) (hy.below hB0)).mono ?_; rw [hq]; rintro e w1 ⟨rfl, hb1⟩
    obtain ⟨h10, h11, f20, f21⟩ := boxG (w.heap.size + 1 + 1) hb1 (by simp)
    have hp0 := keep hb1 (a := ⟨w.heap.size, 0, none⟩) (v := .int .i64 s) (by simp)
    have hp1 := keep hb1 (a := ⟨w.heap.size, 1, none⟩) (v := .slice ao m c) (by simp)
    have hq0 := keep hb1 (a := ⟨w.heap.size + 1, 0, none⟩) (v := .int .i64 u) (by simp)
    have hq1 := keep hb1 (a := ⟨w.heap.size + 1, 1, none⟩) (v := .slice bo m d) (by simp)
    have hB1 : Below w.heap.size w w1 := Below.trans (by (repeat (first | exact Below.refl _ _ | assumption | refine Below.alloc ?_ (by simp <;> omega) _ | refine Below.setCell ?_ (by simp <;> omega) _ | refine Below.drew ?_ | refine below_drewN ?_))) (hb1.mono (by simp <;> omega))
    have hx1 := (hx.below hB0).below hb1
    have hy1 := (hy.below hB0).below hb1
    have hz1 : w.heap.size + 1 + 1 < w1.heap.size := by have := World.block_lt_of_cell? w1 _ h10; simpa using this
    clear hb1 hB0
    go_wp2
    go_loopw [6, 7, 16] (fun t _ i wr => ∃ k : Nat, k ≤ m ∧ i = .int .i64 k ∧ t = .int .i64 (distTo xs ys X Y k) ∧ Below w1.heap.size w1 wr) (fun _ _ i _ => m - (intOf i).toNat)
    case atStart => exact ⟨0, by omega, rfl, rfl, Below.refl _ _⟩
    case round =>
      obtain ⟨k, hk, rfl, rfl, hBr⟩ := hrel
      obtain ⟨w2, rfl⟩ : ∃ q : World, q = wr := ⟨_, rfl⟩
      replace hp0 := keep hBr hp0
      replace hp1 := keep hBr hp1
      replace hq0 := keep hBr hq0
      replace hq1 := keep hBr hq1
      replace f20 := keepF hBr h10 f20
      replace f21 := keepF hBr h11 f21
      replace h10 := keep hBr h10
      replace h11 := keep hBr h11
      have hx2 := hx1.below hBr
      have hy2 := hy1.below hBr
      by_cases hlt : k < m
      · obtain ⟨b, off, rfl, hbs, hbs', hck⟩ := hx2.at (Below.refl _ _) hlt
        obtain ⟨b2, off2, rfl, hbs2, hbs2', hck2⟩ := hy2.at (Below.refl _ _) hlt
        have hpx := HXB.out k hlt
        have hpy := HYB.out k hlt
        have he := HSB.out k hk
        have HN : Hid (distTo xs ys X Y (k + 1) = distTo xs ys X Y k + max 0 (nth xs k * Y - nth ys k * X)) := rfl
        have hk16 : (k : Int) ≤ 16 := by omega
        have hk0 : (0 : Int) ≤ (k : Int) := by omega
        have hk1 : (k : Int) < (m : Int) := by omega
        have m1 := mulM_bd hpx.1 hpx.2 (by omega) y2
        have m2 := mulM_bd hpy.1 hpy.2 (by omega) x2
        obtain ⟨p1, hp1e⟩ : ∃ p, nth xs k * Y = p := ⟨_, rfl⟩
        obtain ⟨p2, hp2e⟩ : ∃ p, nth ys k * X = p := ⟨_, rfl⟩
        have HP1 := hid hp1e
        have HP2 := hid hp2e
        rw [hp1e] at m1 HN
        rw [hp2e] at m2 HN
        have wr1 : IntKind.i64.wrap (nth xs k * Y) = p1 := by rw [hp1e, IntWalk.i64_in]; omega
        have wr2 : IntKind.i64.wrap (nth ys k * X) = p2 := by rw [hp2e, IntWalk.i64_in]; omega
        clear hp1e hp2e
        go_wp2
        refine wp_region_ov (by kernel_rfl) (by kernel_rfl) ?_
        repeat (first | go_big_quiet_step ((go_at_call 48; first | (with_reducible exact ov_call (HC2.out _ (hx2.below (ov_below _ _)))) | (with_reducible exact ov_call (HC3.out _ (hy2.below (ov_below _ _)))))) | quiet_step ((go_at_call 48; first | (with_reducible exact ov_call (HC2.out _ (hx2.below (ov_below _ _)))) | (with_reducible exact ov_call (HC3.out _ (hy2.below (ov_below _ _)))))))
        refine wpQuiet_nil ?_
        intro _ hw_ov
        obtain ⟨x_ov, hw_ov2⟩ := hw_ov
        subst hw_ov2
        obtain ⟨wz, hw_ov3, hbz⟩ := ov_gen _ x_ov
        rw [hw_ov3]
        clear hw_ov3 x_ov
        have hBz := chain hBr hbz
        go_wp2
        go_roundw
        case rel => first | exact ⟨k + 1, by omega, by go_num, by rw [HN.out]; go_num, hBz⟩ | exact ⟨_, ⟨k + 1, by omega, by go_num, by rw [HN.out]; go_num, hBz⟩, rfl⟩ | exact ⟨_, _, ⟨k + 1, by omega, by go_num, by rw [HN.out]; go_num, hBz⟩, rfl, rfl⟩ | exact ⟨_, _, _, ⟨k + 1, by omega, by go_num, by rw [HN.out]; go_num, hBz⟩, rfl, rfl, rfl⟩ | exact ⟨_, _, _, _, ⟨k + 1, by omega, by go_num, by rw [HN.out]; go_num, hBz⟩, rfl, rfl, rfl, rfl⟩ | exact ⟨_, _, _, _, _, ⟨k + 1, by omega, by go_num, by rw [HN.out]; go_num, hBz⟩, rfl, rfl, rfl, rfl, rfl⟩
        case measure => simp [intOf]; omega
      · obtain rfl : k = m := by omega
        have hB2 := hB1.trans (hBr.mono hB1.size)
        go_wp2
        refine wp_region_ov_tail 9 (by kernel_rfl) (by kernel_rfl) (fun _ _ _ _ _ h => h) ?_
        simp only [List.take_succ_cons, List.take_zero, List.drop_succ_cons, List.drop_zero]
        repeat (first | go_big_quiet_step ((first | (go_at_call 48; first | (with_reducible exact ov_call (HC2.out _ (hx2.below (ov_below _ _)))) | (with_reducible exact ov_call (HC3.out _ (hy2.below (ov_below _ _))))) | (go_at_call 47; (with_reducible exact ov_call (HC4.out _))))) | quiet_step ((first | (go_at_call 48; first | (with_reducible exact ov_call (HC2.out _ (hx2.below (ov_below _ _)))) | (with_reducible exact ov_call (HC3.out _ (hy2.below (ov_below _ _))))) | (go_at_call 47; (with_reducible exact ov_call (HC4.out _))))))
        refine wpQuiet_nil ?_
        intro _ hw_ov
        obtain ⟨x_ov, hw_ov2⟩ := hw_ov
        subst hw_ov2
        obtain ⟨w4, hw_ov3, hb4⟩ := ov_gen _ x_ov
        rw [hw_ov3]
        clear hw_ov3 x_ov
        replace f20 := keepF hb4 h10 f20
        replace f21 := keepF hb4 h11 f21
        replace h10 := keep hb4 h10
        replace h11 := keep hb4 h11
        have hB4 := chain hB2 hb4
        clear hb4
        go_wp2
        refine bodyPost_ret (v := .tuple #[.agg #[.int .i64 f.num, .int .i64 f.den], .bool f.ok]) (by simp [results, Tryz.results14, go_sem, h10, h11, f20, f21]) rfl ⟨?_, ?_⟩
        · rfl
        · (repeat (first | exact Below.refl _ _ | assumption | refine Below.alloc ?_ (by first | omega | (simp <;> omega)) _ | refine Below.setCell ?_ (by first | omega | (simp <;> omega)) _ | refine Below.drew ?_ | refine below_drewN ?_))
set_option maxRecDepth 100000 in
set_option maxHeartbeats 4000000 in
theorem morePossible_any (s u : Int) (ao bo : Option Addr) (m c d : Nat) (xs ys : List Int) (X Y : Int) (w : World) (hx : IntsAt w ao m xs) (hy : IntsAt w bo m ys) (hn16 : m ≤ 16) (hxb : ∀ k, k < m → 0 ≤ nth xs k ∧ nth xs k ≤ 1000000) (hyb : ∀ k, k < m → 0 ≤ nth ys k ∧ nth ys k ≤ 1000000)
    (eX : isum xs = X) (eY : isum ys = Y) (x1 : 1 ≤ X) (x2 : X ≤ 1000000) (y1 : 1 ≤ Y) (y2 : Y ≤ 1000000)
    (hpx : ∀ a, 0 ≤ dot (predI (meetB a)) xs m ∧ dot (predI (meetB a)) xs m ≤ 1000000) (hpy : ∀ a, 0 ≤ dot (predI (meetB a)) ys m ∧ dot (predI (meetB a)) ys m ≤ 1000000) :
    Calls Tryz.prog 55 #[.agg #[.int .i64 s, .slice ao m c], .agg #[.int .i64 u, .slice bo m d]] w fun e w' => e = .returned (.bool (allN (moreAt xs ys X Y m) m)) ∧ Below w.heap.size w w' := by
  have HXB := hid hxb
  have HYB := hid hyb
  have HX := hid eX
  have HY := hid eY
  have HPX := hid hpx
  have HPY := hid hpy
  clear hxb hyb eX eY hpx hpy
  have HC2 : Hid (∀ w', IntsAt w' ao m xs → Calls Tryz.prog 48 #[.agg #[.int .i64 s, .slice ao m c]] w' fun e w'' => e = .returned (.int .i64 X) ∧ Below w'.heap.size w' w'') := fun w' h1 => by rw [← HX.out]; exact wholeOf_any _ _ _ _ xs w' h1 (fun k hk => by have := HXB.out k hk; omega) hn16
  have HC3 : Hid (∀ w', IntsAt w' bo m ys → Calls Tryz.prog 48 #[.agg #[.int .i64 u, .slice bo m d]] w' fun e w'' => e = .returned (.int .i64 Y) ∧ Below w'.heap.size w' w'') := fun w' h1 => by rw [← HY.out]; exact wholeOf_any _ _ _ _ ys w' h1 (fun k hk => by have := HYB.out k hk; omega) hn16
  have hB0 : Below w.heap.size w ((w.alloc (.cells #[.int .i64 s, .slice ao m c] 25)).alloc (.cells #[.int .i64 u, .slice bo m d] 25)) := by (repeat (first | exact Below.refl _ _ | assumption | refine Below.alloc ?_ (by first | omega | (simp <;> omega)) _ | refine Below.setCell ?_ (by first | omega | (simp <;> omega)) _ | refine Below.drew ?_ | refine below_drewN ?_))
  obtain ⟨w1, hw1⟩ : ∃ W, ((w.alloc (.cells #[.int .i64 s, .slice ao m c] 25)).alloc (.cells #[.int .i64 u, .slice bo m d] 25)) = W := ⟨_, rfl⟩
  have hp0 : w1.cell? ⟨w.heap.size, 0, none⟩ = some (.int .i64 s) := by rw [← hw1]; simp
  have hp1 : w1.cell? ⟨w.heap.size, 1, none⟩ = some (.slice ao m c) := by rw [← hw1]; simp
  have hq0 : w1.cell? ⟨w.heap.size + 1, 0, none⟩ = some (.int .i64 u) := by rw [← hw1]; simp
  have hq1 : w1.cell? ⟨w.heap.size + 1, 1, none⟩ = some (.slice bo m d) := by rw [← hw1]; simp
  rw [hw1] at hB0
  have hx1 := hx.below hB0
  have hy1 := hy.below hB0
  go_enter Tryz.func55, Tryz.ntmps55
  go_wp2
  clear hw1
  go_loopw [5, 9] (fun _ i wr => ∃ k : Nat, k ≤ m ∧ i = .int .i64 k ∧ (∀ a, a < k → moreAt xs ys X Y m a = true) ∧ Below w1.heap.size w1 wr) (fun _ i _ => m - (intOf i).toNat)
  case atStart => exact ⟨0, by omega, rfl, fun a h => by omega, Below.refl _ _⟩
  case round =>
    obtain ⟨k, hk, rfl, hall, hBr⟩ := hrel
    obtain ⟨w2, rfl⟩ : ∃ q : World, q = wr := ⟨_, rfl⟩
    replace hp0 := keep hBr hp0
    replace hp1 := keep hBr hp1
    replace hq0 := keep hBr hq0
    replace hq1 := keep hBr hq1
    have hx2 := hx1.below hBr
    have hy2 := hy1.below hBr
    have HALL := hid hall
    clear hall
    by_cases hlt : k < m
    · have px := HPX.out k
      have py := HPY.out k
      obtain ⟨P, HP⟩ : ∃ P, Hid (dot (predI (meetB k)) xs m = P) := ⟨_, rfl⟩
      obtain ⟨Q, HQ⟩ : ∃ Q, Hid (dot (predI (meetB k)) ys m = Q) := ⟨_, rfl⟩
      rw [HP.out] at px
      rw [HQ.out] at py
      have HCA : Hid (∀ w', IntsAt w' ao m xs → Calls Tryz.prog 96 #[.agg #[.int .i64 s, .slice ao m c], .int .i64 k] w' fun e w'' => e = .returned (.int .i64 P) ∧ Below w'.heap.size w' w'') := fun w' h1 => by rw [← HP.out]; exact possiblePart_any _ k _ _ _ xs w' h1 (by omega) hn16 HXB.out
      have HCB : Hid (∀ w', IntsAt w' bo m ys → Calls Tryz.prog 96 #[.agg #[.int .i64 u, .slice bo m d], .int .i64 k] w' fun e w'' => e = .returned (.int .i64 Q) ∧ Below w'.heap.size w' w'') := fun w' h1 => by rw [← HQ.out]; exact possiblePart_any _ k _ _ _ ys w' h1 (by omega) hn16 HYB.out
      have m1 := mulM_bd py.1 py.2 (by omega) x2
      have m2 := mulM_bd px.1 px.2 (by omega) y2
      obtain ⟨p1, hp1e⟩ : ∃ p, Q * X = p := ⟨_, rfl⟩
      obtain ⟨p2, hp2e⟩ : ∃ p, P * Y = p := ⟨_, rfl⟩
      rw [hp1e] at m1
      rw [hp2e] at m2
      have wr1 : IntKind.i64.wrap (Q * X) = p1 := by rw [hp1e, IntWalk.i64_in]; omega
      have wr2 : IntKind.i64.wrap (P * Y) = p2 := by rw [hp2e, IntWalk.i64_in]; omega
      have HMA : Hid (moreAt xs ys X Y m k = !decide (p1 < p2)) := by rw [Hid]; unfold moreAt; rw [HP.out, HQ.out, hp1e, hp2e]
      have hk0 : (0 : Int) ≤ (k : Int) := by omega
      have hk1 : (k : Int) < (m : Int) := by omega
      clear hp1e hp2e
      by_cases hd : p1 < p2
      · have HE : Hid (allN (moreAt xs ys X Y m) m = false) := by
          cases h : allN (moreAt xs ys X Y m) m
          · rfl
          · have := (allN_iff _ _).1 h k hlt
            rw [HMA.out] at this; simp [hd] at this
        go_wp2
        refine wp_region_ov (by kernel_rfl) (by kernel_rfl) ?_
        repeat (first | go_big_quiet_step ((first | (go_at_call 96; first | (with_reducible exact ov_call (HCB.out _ (hy2.below (ov_below _ _)))) | (with_reducible exact ov_call (HCA.out _ (hx2.below (ov_below _ _))))) | (go_at_call 48; first | (with_reducible exact ov_call (HC2.out _ (hx2.below (ov_below _ _)))) | (with_reducible exact ov_call (HC3.out _ (hy2.below (ov_below _ _))))))) | quiet_step ((first | (go_at_call 96; first | (with_reducible exact ov_call (HCB.out _ (hy2.below (ov_below _ _)))) | (with_reducible exact ov_call (HCA.out _ (hx2.below (ov_below _ _))))) | (go_at_call 48; first | (with_reducible exact ov_call (HC2.out _ (hx2.below (ov_below _ _)))) | (with_reducible exact ov_call (HC3.out _ (hy2.below (ov_below _ _))))))))
        refine wpQuiet_nil ?_
        intro _ hw_ov
        obtain ⟨x_ov, hw_ov2⟩ := hw_ov
        subst hw_ov2
        obtain ⟨wz, hw_ov3, hbz⟩ := ov_gen _ x_ov
        rw [hw_ov3]
        clear hw_ov3 x_ov
        have hBz := hB0.trans ((chain hBr hbz).mono hB0.size)
        go_wp2
        go_ret
        exact ⟨by rw [HE.out]; rfl, hBz⟩
      · have HA2 : Hid (∀ a, a < k + 1 → moreAt xs ys X Y m a = true) := fun a ha => by
          by_cases e : a = k
          · subst e; rw [HMA.out]; simp [hd]
          · exact HALL.out a (by omega)
        go_wp2
        refine wp_region_ov (by kernel_rfl) (by kernel_rfl) ?_
        repeat (first | go_big_quiet_step ((first | (go_at_call 96; first | (with_reducible exact ov_call (HCB.out _ (hy2.below (ov_below _ _)))) | (with_reducible exact ov_call (HCA.out _ (hx2.below (ov_below _ _))))) | (go_at_call 48; first | (with_reducible exact ov_call (HC2.out _ (hx2.below (ov_below _ _)))) | (with_reducible exact ov_call (HC3.out _ (hy2.below (ov_below _ _))))))) | quiet_step ((first | (go_at_call 96; first | (with_reducible exact ov_call (HCB.out _ (hy2.below (ov_below _ _)))) | (with_reducible exact ov_call (HCA.out _ (hx2.below (ov_below _ _))))) | (go_at_call 48; first | (with_reducible exact ov_call (HC2.out _ (hx2.below (ov_below _ _)))) | (with_reducible exact ov_call (HC3.out _ (hy2.below (ov_below _ _))))))))
        refine wpQuiet_nil ?_
        intro _ hw_ov
        obtain ⟨x_ov, hw_ov2⟩ := hw_ov
        subst hw_ov2
        obtain ⟨wz, hw_ov3, hbz⟩ := ov_gen _ x_ov
        rw [hw_ov3]
        clear hw_ov3 x_ov
        have hBz := chain hBr hbz
        go_wp2
        go_roundw
        case rel => first | exact ⟨k + 1, by omega, by go_num, HA2.out, hBz⟩ | exact ⟨_, ⟨k + 1, by omega, by go_num, HA2.out, hBz⟩, rfl⟩ | exact ⟨_, _, ⟨k + 1, by omega, by go_num, HA2.out, hBz⟩, rfl, rfl⟩ | exact ⟨_, _, _, ⟨k + 1, by omega, by go_num, HA2.out, hBz⟩, rfl, rfl, rfl⟩ | exact ⟨_, _, _, _, ⟨k + 1, by omega, by go_num, HA2.out, hBz⟩, rfl, rfl, rfl, rfl⟩ | exact ⟨_, _, _, _, _, ⟨k + 1, by omega, by go_num, HA2.out, hBz⟩, rfl, rfl, rfl, rfl, rfl⟩
        case measure => simp [intOf]; omega
    · obtain rfl : k = m := by omega
      have HE : Hid (allN (moreAt xs ys X Y k) k = true) := (allN_iff _ _).2 HALL.out
      have hB2 := hB0.trans (hBr.mono hB0.size)
      go_wp2
      go_ret
      exact ⟨by rw [HE.out]; rfl, hB2⟩
set_option maxRecDepth 100000 in
set_option maxHeartbeats 2000000 in
theorem MorePossible_any (s u : Int) (ao bo : Option Addr) (n c m d : Nat) (xs ys : List Int) (w : World) (hx : IntsAt w ao n xs) (hy : IntsAt w bo m ys) :
    Calls Tryz.prog 19 #[.agg #[.int .i64 s, .slice ao n c], .agg #[.int .i64 u, .slice bo m d]] w fun e w' => e = .returned (.bool (moreB s xs u ys)) ∧ Below w.heap.size w w' := by
  have hB0 : Below w.heap.size w ((w.alloc (.cells #[.int .i64 s, .slice ao n c] 25)).alloc (.cells #[.int .i64 u, .slice bo m d] 25)) := by (repeat (first | exact Below.refl _ _ | assumption | refine Below.alloc ?_ (by first | omega | (simp <;> omega)) _ | refine Below.setCell ?_ (by first | omega | (simp <;> omega)) _ | refine Below.drew ?_ | refine below_drewN ?_))
  cases hq : oneQ s xs u ys
  · have HE : Hid (moreB s xs u ys = false) := by rw [Hid]; unfold moreB; rw [hq]; rfl
    rw [HE.out]
    go_enter Tryz.func19, Tryz.ntmps19
    go_wp2_with fail
    refine (ofOneQuestion_any _ _ _ _ _ _ _ _ _ _ _ (hx.below hB0) (hy.below hB0)).mono ?_; rw [hq]; rintro e w1 ⟨rfl, hb1⟩
    have hB1 : Below w.heap.size w w1 := Below.trans (by (repeat (first | exact Below.refl _ _ | assumption | refine Below.alloc ?_ (by simp <;> omega) _ | refine Below.setCell ?_ (by simp <;> omega) _ | refine Below.drew ?_ | refine below_drewN ?_))) (hb1.mono (by simp <;> omega))
    go_wp2
    go_ret
    exact ⟨rfl, hB1⟩
  · obtain ⟨hm1, hm2, hus, hll⟩ := oneQ_facts hq
    have HUS := hid hus; clear hus
    have hxl := hid hx.len
    have hyl := hid hy.len
    have hmn : m = n := by rw [← hxl.out, ← hyl.out]; exact hll
    subst hmn
    obtain ⟨_, _, h16, hxb, x1, x2, _⟩ := massOk_facts' hm1
    obtain ⟨_, _, _, hyb, y1, y2, _⟩ := massOk_facts' hm2
    have hsz := nsets_le (massOk_facts' hm1).1
    have hn1 : 1 ≤ m := by have := (massOk_facts' hm1).2.1; have := hxl.out; omega
    have hn16 : m ≤ 16 := by have := hxl.out; omega
    have HXB : Hid (∀ k, k < m → 0 ≤ nth xs k ∧ nth xs k ≤ 1000000) := fun k hk => hxb k (by rw [hxl.out]; exact hk)
    have HYB : Hid (∀ k, k < m → 0 ≤ nth ys k ∧ nth ys k ≤ 1000000) := fun k hk => hyb k (by rw [hyl.out]; exact hk)
    obtain ⟨X, HX⟩ : ∃ X, Hid (isum xs = X) := ⟨_, rfl⟩
    obtain ⟨Y, HY⟩ : ∃ Y, Hid (isum ys = Y) := ⟨_, rfl⟩
    rw [HX.out] at x1 x2
    rw [HY.out] at y1 y2
    have hpx : ∀ a, 0 ≤ dot (predI (meetB a)) xs m ∧ dot (predI (meetB a)) xs m ≤ 1000000 := fun a => by rw [← hxl.out]; exact sub_bdS (meetB a) hm1
    have hpy : ∀ a, 0 ≤ dot (predI (meetB a)) ys m ∧ dot (predI (meetB a)) ys m ≤ 1000000 := fun a => by rw [← hyl.out]; exact sub_bdS (meetB a) hm2
    have HE : Hid (moreB s xs u ys = allN (moreAt xs ys X Y m) m) := by rw [Hid]; unfold moreB; rw [hq, hxl.out, HX.out, HY.out]; rfl
    rw [HE.out]
    have HCM : Hid (∀ w', IntsAt w' ao m xs → IntsAt w' bo m ys → Calls Tryz.prog 55 #[.agg #[.int .i64 s, .slice ao m c], .agg #[.int .i64 u, .slice bo m d]] w' fun e w'' => e = .returned (.bool (allN (moreAt xs ys X Y m) m)) ∧ Below w'.heap.size w' w'') := fun w' h1 h2 => morePossible_any s u _ _ _ _ _ xs ys X Y w' h1 h2 hn16 HXB.out HYB.out HX.out HY.out x1 x2 y1 y2 hpx hpy
    obtain ⟨r, hr⟩ : ∃ r, allN (moreAt xs ys X Y m) m = r := ⟨_, rfl⟩
    rw [hr] at HCM ⊢
    clear hll hxb hyb h16 hm1 hm2 hpx hpy hr
    go_enter Tryz.func19, Tryz.ntmps19
    go_wp2_with fail
    refine (ofOneQuestion_any _ _ _ _ _ _ _ _ _ _ _ (hx.below hB0) (hy.below hB0)).mono ?_; rw [hq]; rintro e w1 ⟨rfl, hb1⟩
    have hp0 := keep hb1 (a := ⟨w.heap.size, 0, none⟩) (v := .int .i64 s) (by simp)
    have hp1 := keep hb1 (a := ⟨w.heap.size, 1, none⟩) (v := .slice ao m c) (by simp)
    have hq0 := keep hb1 (a := ⟨w.heap.size + 1, 0, none⟩) (v := .int .i64 u) (by simp)
    have hq1 := keep hb1 (a := ⟨w.heap.size + 1, 1, none⟩) (v := .slice bo m d) (by simp)
    have hB1 : Below w.heap.size w w1 := Below.trans (by (repeat (first | exact Below.refl _ _ | assumption | refine Below.alloc ?_ (by simp <;> omega) _ | refine Below.setCell ?_ (by simp <;> omega) _ | refine Below.drew ?_ | refine below_drewN ?_))) (hb1.mono (by simp <;> omega))
    have hx1 := (hx.below hB0).below hb1
    have hy1 := (hy.below hB0).below hb1
    clear hb1 hB0
    go_wp2_with fail
    refine (HCM.out _ hx1 hy1).mono ?_; rintro e w2 ⟨rfl, hb2⟩
    have hB2 := chain hB1 hb2
    go_wp2
    go_ret
    exact ⟨rfl, hB2⟩
end Go.Proofs.YtefmlbahmakboaaGreatDoor
