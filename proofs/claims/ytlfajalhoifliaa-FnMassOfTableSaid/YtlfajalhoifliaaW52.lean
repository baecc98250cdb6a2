/- Contracts: a mass and a set are drawn; the functions that draw the arguments of the laws. -/
import Derived.Test.YtlfajalhoifliaaW51
namespace Go.Proofs.Ytlfajalhoifliaa
open Go.RowKit

/-- a drawn mass and a number -/
def DrawnMI (w0 : World) (k : Nat) (q d : Int) (w : World) (e : Ending) (w' : World) : Prop :=
  ∃ s A n C xs x q', e = .returned (.tuple #[massV s A n C, .int .i64 x]) ∧ (1 ≤ n ∧ n ≤ 17) ∧ Own w.heap.size w' A n C xs ∧ Src w0 k q' w' ∧ (q ≤ q' ∧ q' ≤ q + d) ∧ w.grownBy w' (some k)
/-- the arguments of a law: a mass -/
def ArgM (w : World) (e : Ending) (w' : World) : Prop :=
  ∃ s A n C xs, e = .returned (massV s A n C) ∧ (1 ≤ n ∧ n ≤ 17) ∧ Row w' A n xs ∧ Below w.heap.size w w'
/-- the arguments of a law: a mass and a number -/
def ArgMI (w : World) (e : Ending) (w' : World) : Prop :=
  ∃ s A n C xs x, e = .returned (.tuple #[massV s A n C, .int .i64 x]) ∧ (1 ≤ n ∧ n ≤ 17) ∧ Row w' A n xs ∧ Below w.heap.size w w'
theorem Row.setBox {w : World} {a : Option Addr} {n : Nat} {xs : List Int} {B c : Nat} (h : Own B w a n c xs) {p : Nat} (hp : p < B) (u v : Value) : Row ((w.setCell ⟨p, 0, none⟩ u).setCell ⟨p, 1, none⟩ v) a n xs := (h.setBox hp u v).row
theorem BRow.below {w w' : World} {a : Option Addr} {n : Nat} {bs : List Int} (h : BRow w a n bs) (hb : Below w.heap.size w w') : BRow w' a n bs := by
  refine ⟨h.1, fun hn => ?_⟩
  obtain ⟨b, off, rfl, hlt, hc⟩ := h.2 hn
  exact ⟨b, off, rfl, Nat.lt_of_lt_of_le hlt hb.size, fun k hk => (hb.cell (p := ⟨b, off + k, none⟩) hlt).trans (hc k hk)⟩
