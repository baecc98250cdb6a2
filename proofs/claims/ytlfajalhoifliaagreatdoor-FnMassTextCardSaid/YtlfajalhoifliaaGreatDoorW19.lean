/- Contracts of NormalMass and NegateMass, of the program and of the reference. -/
import Derived.Test.YtlfajalhoifliaaGreatDoorW18
namespace Go.Proofs.YtlfajalhoifliaaGreatDoor
open Go.RowKit

