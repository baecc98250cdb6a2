/- Contracts of the helpers of the statements: copies, comparisons, marks. -/
import Derived.Test.YtffkpmmgfgcngaaW2
namespace Go.Proofs.Ytffkpmmgfgcngaa
open Go.RowKit

