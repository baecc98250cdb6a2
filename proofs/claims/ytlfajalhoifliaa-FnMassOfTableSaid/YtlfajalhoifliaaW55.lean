/- Contract: two masses are drawn, mostly of one question. -/
import Derived.Test.YtlfajalhoifliaaW52
import Derived.Deep.RegionHeld3
namespace Go.Proofs.Ytlfajalhoifliaa
open Go.RowKit

theorem World.cell_far {w : World} {b o k i j : Nat} {u v x : Value} (h1 : b ≠ k) (h2 : b ≠ k) (h : w.cell? ⟨b, o, none⟩ = some x) : ((w.setCell ⟨k, i, none⟩ u).setCell ⟨k, j, none⟩ v).cell? ⟨b, o, none⟩ = some x := by
  have e : ((w.setCell ⟨k, i, none⟩ u).setCell ⟨k, j, none⟩ v).heap[b]? = w.heap[b]? := (Below.heap_setCell _ ⟨k, j, none⟩ v b h1).trans (Below.heap_setCell w ⟨k, i, none⟩ u b h2)
  rw [← h]
  unfold World.cell?
  simp [e]
/-- two drawn masses -/
def DrawnMM (w0 : World) (k : Nat) (q d : Int) (w : World) (e : Ending) (w' : World) : Prop :=
  ∃ s A n C xs t B m D ys q', e = .returned (.tuple #[massV s A n C, massV t B m D]) ∧ (1 ≤ n ∧ n ≤ 17) ∧ (1 ≤ m ∧ m ≤ 17) ∧ Own w.heap.size w' A n C xs ∧ Own w.heap.size w' B m D ys ∧ Src w0 k q' w' ∧ (q ≤ q' ∧ q' ≤ q + d) ∧ w.grownBy w' (some k)
/-- the arguments of a law: two masses -/
def ArgMM (w : World) (e : Ending) (w' : World) : Prop :=
  ∃ s A n C xs t B m D ys, e = .returned (.tuple #[massV s A n C, massV t B m D]) ∧ (1 ≤ n ∧ n ≤ 17) ∧ (1 ≤ m ∧ m ≤ 17) ∧ Row w' A n xs ∧ Row w' B m ys ∧ Below w.heap.size w w'
