/- Contracts of the sums over sets. -/
import Derived.Test.YtlfajalhoifliaaDoorW5
namespace Go.Proofs.YtlfajalhoifliaaDoor
open Go.RowKit

