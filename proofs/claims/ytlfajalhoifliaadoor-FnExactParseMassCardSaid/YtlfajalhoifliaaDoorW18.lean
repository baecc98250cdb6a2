/- Contracts of NormalMass and NegateMass. -/
import Derived.Test.YtlfajalhoifliaaDoorW17
namespace Go.Proofs.YtlfajalhoifliaaDoor
open Go.RowKit

