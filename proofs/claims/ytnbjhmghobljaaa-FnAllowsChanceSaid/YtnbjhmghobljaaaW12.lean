/- Fractions in lowest terms: lowest, l2Made. -/
import Derived.Test.YtnbjhmghobljaaaL1
set_option linter.unusedSimpArgs false
set_option linter.unusedVariables false
namespace Go.Proofs.Ytnbjhmghobljaaa
open Go.RowKit
/-- a fraction and whether there is one -/
structure FR where
  num : Int
  den : Int
  ok : Bool
def FR.no : FR := ⟨0, 0, false⟩
/-- the divisor by which a quotient is brought to lowest terms -/
def redD (num den : Int) : Int := if den < 0 then -(Int.gcd num den : Int) else (Int.gcd num den : Int)
/-- a quotient in lowest terms, if it is valid -/
def redF (num den : Int) : FR := if fracOk (num.tdiv (redD num den)) (den.tdiv (redD num den)) then ⟨num.tdiv (redD num den), den.tdiv (redD num den), true⟩ else FR.no
theorem tdiv_wrap (x d : Int) (h0 : -4000000000000000000 ≤ x) (h1 : x ≤ 4000000000000000000) : IntKind.i64.wrap (x.tdiv d) = x.tdiv d := by
  have h2 : (x.tdiv d).natAbs = x.natAbs / d.natAbs := Int.natAbs_tdiv x d
  have h3 : x.natAbs / d.natAbs ≤ x.natAbs := Nat.div_le_self _ _
  exact IntWalk.i64_in _ (by omega)
theorem gcd_pos_right (a b : Int) (h : b ≠ 0) : 1 ≤ Int.gcd a b := Nat.pos_of_ne_zero fun e => h (Int.gcd_eq_zero_iff.1 e).2
theorem redD_ne (num den : Int) (h : den ≠ 0) : redD num den ≠ 0 := by
  have := gcd_pos_right num den h
  unfold redD; split <;> omega
theorem gcd_bd (a b : Int) (h : b ≠ 0) (h1 : -4000000000000000000 ≤ b) (h2 : b ≤ 4000000000000000000) : (Int.gcd a b : Int) ≤ 4000000000000000000 := by
  have : Int.gcd a b ≤ b.natAbs := Nat.le_of_dvd (by omega) (Nat.gcd_dvd_right _ _)
  omega
end Go.Proofs.Ytnbjhmghobljaaa
