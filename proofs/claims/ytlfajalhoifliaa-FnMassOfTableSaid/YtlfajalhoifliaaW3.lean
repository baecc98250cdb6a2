/- Contracts of the helpers of the statements: copies, comparisons, marks. -/
import Derived.Test.YtlfajalhoifliaaW2
namespace Go.Proofs.Ytlfajalhoifliaa
open Go.RowKit

