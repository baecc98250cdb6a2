/- Contracts of the functions that make a mass in lowest terms. -/
import Derived.Test.YtlfajalhoifliaaDoorW12
import Derived.Test.YtlfajalhoifliaaDoorBase3
import Derived.Deep.RegionLaw
namespace Go.Proofs.YtlfajalhoifliaaDoor
open Go.RowKit

