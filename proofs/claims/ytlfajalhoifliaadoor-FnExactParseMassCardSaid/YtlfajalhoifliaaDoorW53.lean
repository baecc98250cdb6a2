/- Contracts: equal lists and masses, the whole, normal masses, other sets, the order of fractions. -/
import Derived.Test.YtlfajalhoifliaaDoorW12
import Derived.Test.YtlfajalhoifliaaDoorW19
import Derived.Test.YtlfajalhoifliaaDoorW23
import Derived.Test.YtlfajalhoifliaaDoorMath
namespace Go.Proofs.YtlfajalhoifliaaDoor
open Go.RowKit

theorem prod_within {a b : Int} (ha : -1000000000 ≤ a ∧ a ≤ 1000000000) (hb : 1 ≤ b ∧ b ≤ 1000000000) : -1000000000000000000 ≤ a * b ∧ a * b ≤ 1000000000000000000 := by
  rcases Int.le_total 0 a with h | h
  · have h1 := mul_bound (a := a) (b := b) (A := 1000000000) (B := 1000000000) ⟨h, by omega⟩ ⟨by omega, by omega⟩
    omega
  · have h1 := mul_bound (a := -a) (b := b) (A := 1000000000) (B := 1000000000) ⟨by omega, by omega⟩ ⟨by omega, by omega⟩
    have h2 : -a * b = -(a * b) := Int.neg_mul _ _
    omega
