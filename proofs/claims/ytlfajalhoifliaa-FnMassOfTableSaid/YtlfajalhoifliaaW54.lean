/- Contracts: focal sets, chances, nested masses. -/
import Derived.Test.YtlfajalhoifliaaW53
namespace Go.Proofs.Ytlfajalhoifliaa
open Go.RowKit

theorem and_pred16 : ∀ a : Fin 16, a.val ≠ 0 → bits .and .i64 (a.val : Int) ((a.val : Int) - 1) = ((a.val &&& (a.val - 1) : Nat) : Int) := by decide +kernel
theorem sub_bits16 : ∀ a b : Fin 16, (a.val &&& (15 - b.val) == 0) = subB a.val b.val := by decide +kernel
theorem all_bad {p : Nat → Bool} {l : List Nat} {i : Nat} (hi : i < l.length) (h : p (l.getD i 0) = false) : l.all p = false := by
  have hm : l.getD i 0 ∈ l := by simp [List.getD, hi]
  cases hc : l.all p with
  | false => rfl
  | true => rw [List.all_eq_true] at hc; rw [hc _ hm] at h; cases h
theorem take_all_snoc {p : Nat → Bool} {l : List Nat} {i : Nat} (hi : i < l.length) (h : (l.take i).all p = true) (hp : p (l.getD i 0) = true) : (l.take (i + 1)).all p = true := by
  have e : l.take (i + 1) = l.take i ++ [l.getD i 0] := by
    rw [List.take_succ_eq_append_getElem hi]; simp [List.getD, hi]
  rw [e, List.all_append, h]
  simpa using hp
