/- Contracts of BeliefOf and PossibilityOf, of the program and of the reference. -/
import Derived.Test.YtapkppnjgbcklaaW23
import Derived.Test.YtapkppnjgbcklaaW21
import Derived.Test.YtapkppnjgbcklaaW14
import Derived.Deep.RegionHeld3
namespace Go.Proofs.Ytapkppnjgbcklaa
open Go.RowKit

