/- Marks on masses; variables stay while rows are marked. No condition. -/
import Derived.Test.YtlfajalhoifliaaGreatDoorW3
import Derived.Test.YtlfajalhoifliaaGreatDoorBase3
namespace Go.Proofs.YtlfajalhoifliaaGreatDoor
open Go.RowKit

theorem Box.marked {B : Nat} {w w' : World} {k : Nat} {T : TypeId} {v0 v1 : Value} {a : Option Addr} {n c : Nat} {xs : List Int} (h : Box w k T v0 v1) (ho : Own B w a n c xs) (hg : w.grownBy w' (Value.slice a n c).ownBlock) (hT : T ≠ 3) : Box w' k T v0 v1 := by
  refine h.grown hg (fun e => ?_)
  rcases ho.2 with ⟨h1, _⟩ | ⟨g, cap, cur, h1, _, h3, _⟩
  · rw [h1] at e
    simp [Value.ownBlock] at e
  · rw [h1] at e
    simp [Value.ownBlock] at e
    subst e
    unfold Box at h
    rw [h] at h3
    injection h3 with h3
    injection h3 with _ h3
    exact hT h3
