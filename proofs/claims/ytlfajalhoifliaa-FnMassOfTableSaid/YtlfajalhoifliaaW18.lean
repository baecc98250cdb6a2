/- Contracts of NormalMass and NegateMass. -/
import Derived.Test.YtlfajalhoifliaaW17
namespace Go.Proofs.Ytlfajalhoifliaa
open Go.RowKit

