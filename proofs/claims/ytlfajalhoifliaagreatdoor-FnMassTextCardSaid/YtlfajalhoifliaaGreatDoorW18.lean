/- Contracts of NormalMass and NegateMass. -/
import Derived.Test.YtlfajalhoifliaaGreatDoorW17
namespace Go.Proofs.YtlfajalhoifliaaGreatDoor
open Go.RowKit

