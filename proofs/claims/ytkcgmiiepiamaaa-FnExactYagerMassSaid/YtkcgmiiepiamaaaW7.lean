/- Contracts of the sums over sets. -/
import Derived.Test.YtkcgmiiepiamaaaW5
namespace Go.Proofs.Ytkcgmiiepiamaaa
open Go.RowKit

