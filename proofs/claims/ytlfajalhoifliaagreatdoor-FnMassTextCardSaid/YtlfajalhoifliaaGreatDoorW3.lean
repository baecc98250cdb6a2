/- Contracts of the helpers of the statements: copies, comparisons, marks. -/
import Derived.Test.YtlfajalhoifliaaGreatDoorW2
namespace Go.Proofs.YtlfajalhoifliaaGreatDoor
open Go.RowKit

