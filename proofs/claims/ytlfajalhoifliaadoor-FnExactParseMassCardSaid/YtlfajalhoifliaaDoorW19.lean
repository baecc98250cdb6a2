/- Contracts of NormalMass and NegateMass, of the program and of the reference. -/
import Derived.Test.YtlfajalhoifliaaDoorW18
namespace Go.Proofs.YtlfajalhoifliaaDoor
open Go.RowKit

