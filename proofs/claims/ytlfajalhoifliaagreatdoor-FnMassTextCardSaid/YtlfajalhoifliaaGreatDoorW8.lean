/- Contracts of SumsBelow, SumsAbove, PartsBelow, PartsAbove of the program. -/
import Derived.Test.YtlfajalhoifliaaGreatDoorW7
namespace Go.Proofs.YtlfajalhoifliaaGreatDoor
open Go.RowKit

theorem xor_lt16 {i j : Nat} (hi : i < 16) (hj : j < 16) : i ^^^ j < 16 := xor_lt (n := 16) (by omega) hi hj
