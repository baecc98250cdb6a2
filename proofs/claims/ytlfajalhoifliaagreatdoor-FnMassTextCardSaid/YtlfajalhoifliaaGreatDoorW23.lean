/- Contracts of quotients in lowest terms, of the program and of the reference. -/
import Derived.Test.YtlfajalhoifliaaGreatDoorW22
import Derived.Test.YtlfajalhoifliaaGreatDoorMath
import Derived.Deep.RegionHeld3
namespace Go.Proofs.YtlfajalhoifliaaGreatDoor
open Go.RowKit

theorem RetF.none_ : RetF none (.returned (.tuple #[fracV 0 0, .bool false])) := rfl
theorem RetF.some_ (a b : Int) : RetF (some (a, b)) (.returned (.tuple #[fracV a b, .bool true])) := rfl
