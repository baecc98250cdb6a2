/- Contracts of the sums over sets. -/
import Derived.Test.YtlfajalhoifliaaGreatDoorW5
namespace Go.Proofs.YtlfajalhoifliaaGreatDoor
open Go.RowKit

