/- More on memory: a row that is marked, rows that lie apart. No condition. -/
import Derived.Test.YtlfajalhoifliaaGreatDoorBase
namespace Go.Proofs.YtlfajalhoifliaaGreatDoor
open Go.RowKit

/-- behind a write to a row of the call's own -/
theorem below_marked {B B' : Nat} {W w w' : World} {a : Option Addr} {n c : Nat} {xs : List Int} (h : Below B' W w) (ho : Own B w a n c xs) (hg : w.grownBy w' (Value.slice a n c).ownBlock) (hB : B' ≤ B) (hs : B' ≤ w.heap.size) : Below B' W w' := by
  refine h.grown hg hs (fun g hgk => ?_)
  rcases ho.form with ⟨rfl, _, _⟩ | ⟨g', rfl, h1, _, _⟩
  · simp [Value.ownBlock] at hgk
  · simp [Value.ownBlock] at hgk
    omega
/-- a row that begins below H -/
def Under (H : Nat) (a : Option Addr) : Prop := ∀ g, a = some ⟨g, 0, none⟩ → g < H
theorem Own.under {B : Nat} {w : World} {a : Option Addr} {n c : Nat} {xs : List Int} (h : Own B w a n c xs) : Under w.heap.size a := fun g hg => by
  rcases h.form with ⟨rfl, _, _⟩ | ⟨g', rfl, _, h2, _⟩
  · cases hg
  · simp at hg
    omega
/-- a row stays while a later one is marked -/
theorem Own.stays {B B2 : Nat} {w w' : World} {a a2 : Option Addr} {n c n2 c2 : Nat} {xs ys : List Int} (h : Own B w a n c xs) (hu : Under B2 a) (h2 : Own B2 w a2 n2 c2 ys) (hg : w.grownBy w' (Value.slice a2 n2 c2).ownBlock) : Own B w' a n c xs := by
  refine h.kept hg (fun g hgk => ?_)
  have := hu g hgk
  rcases h2.form with ⟨rfl, _, _⟩ | ⟨g', rfl, h1, _, _⟩
  · simp [Value.ownBlock]
  · simp [Value.ownBlock]
    omega
/-- a row stays while an earlier one is marked -/
theorem Own.stays' {B B2 : Nat} {w w' : World} {a a2 : Option Addr} {n c n2 c2 : Nat} {xs ys : List Int} (h : Own B w a n c xs) (hu : Under B a2) (h2 : Own B2 w a2 n2 c2 ys) (hg : w.grownBy w' (Value.slice a2 n2 c2).ownBlock) : Own B w' a n c xs := by
  refine h.kept hg (fun g hgk => ?_)
  rcases h.form with ⟨rfl, _, _⟩ | ⟨g', rfl, h1, _, _⟩
  · cases hgk
  · simp at hgk
    rcases h2.form with ⟨rfl, _, _⟩ | ⟨g2, rfl, h3, _, _⟩
    · simp [Value.ownBlock]
    · have := hu g2 rfl
      simp [Value.ownBlock]
      omega
end Go.Proofs.YtlfajalhoifliaaGreatDoor
