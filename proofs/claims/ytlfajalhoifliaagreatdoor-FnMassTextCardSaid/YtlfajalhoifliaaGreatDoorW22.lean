/- Contracts of fractions in lowest terms. -/
import Derived.Test.YtlfajalhoifliaaGreatDoorW2
import Derived.Test.YtlfajalhoifliaaGreatDoorW11
import Derived.Test.YtlfajalhoifliaaGreatDoorMath
import Derived.Test.YtlfajalhoifliaaGreatDoorBase3
namespace Go.Proofs.YtlfajalhoifliaaGreatDoor
open Go.RowKit

theorem Row.two (w : World) (x y : Int) (T : TypeId) {j : Nat} (hj : j = w.heap.size) : Row (w.alloc (.cells #[.int .i64 x, .int .i64 y] T)) (some ⟨j, 0, none⟩) 2 [x, y] := by
  subst hj
  obtain ⟨c1, c2, _, _⟩ := (Box.new w T (.int .i64 x) (.int .i64 y)).cells
  refine ⟨rfl, fun _ => ⟨w.heap.size, 0, rfl, by simp, fun k hk => ?_⟩⟩
  have h : k = 0 ∨ k = 1 := by omega
  rcases h with rfl | rfl
  · exact c1
  · exact c2
