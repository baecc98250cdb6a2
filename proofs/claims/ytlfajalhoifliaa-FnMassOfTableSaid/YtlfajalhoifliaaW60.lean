/- Contracts: the arguments of the laws on tables are drawn. -/
import Derived.Test.YtlfajalhoifliaaW59
import Derived.Test.YtlfajalhoifliaaW52
namespace Go.Proofs.Ytlfajalhoifliaa
open Go.RowKit

/-- a drawn list -/
def ArgL (w : World) (e : Ending) (w' : World) : Prop := ∃ A l C xs, e = .returned (.slice A l C) ∧ l ≤ 17 ∧ Row w' A l xs ∧ Below w.heap.size w w'
