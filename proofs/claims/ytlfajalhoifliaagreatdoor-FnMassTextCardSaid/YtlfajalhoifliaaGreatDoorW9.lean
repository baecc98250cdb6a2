/- Contracts of the sums over sets of the reference. -/
import Derived.Test.YtlfajalhoifliaaGreatDoorW5
import Derived.Test.YtlfajalhoifliaaGreatDoorW2
import Derived.Deep.QuietTactic
import Derived.BigQuiet
namespace Go.Proofs.YtlfajalhoifliaaGreatDoor
open Go.RowKit

theorem xor_lt16' {i j : Nat} (hi : i < 16) (hj : j < 16) : i ^^^ j < 16 := xor_lt (n := 16) (by omega) hi hj
