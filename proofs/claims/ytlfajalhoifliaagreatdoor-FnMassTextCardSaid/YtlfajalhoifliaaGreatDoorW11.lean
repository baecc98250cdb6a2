/- Contracts of the helpers on masses. -/
import Derived.Test.YtlfajalhoifliaaGreatDoorW3
import Derived.Test.YtlfajalhoifliaaGreatDoorBase2
import Derived.Test.YtlfajalhoifliaaGreatDoorMath
import Derived.Deep.RegionHeld3
namespace Go.Proofs.YtlfajalhoifliaaGreatDoor
open Go.RowKit

theorem alloc_at {w : World} {o : Obj} {k : Nat} (h : k = w.heap.size) : (w.alloc o).heap[k]? = some o := by rw [h]; exact heap_alloc_new w o
theorem alloc_before {w : World} {o : Obj} {k : Nat} (h : k < w.heap.size) : (w.alloc o).heap[k]? = w.heap[k]? := Below.heap_alloc w o k h
/-- a box of two cells, in a later world -/
theorem box2 {W w1 : World} {k : Nat} {T : TypeId} {v0 v1 : Value} (hk : W.heap[k]? = some (.cells #[v0, v1] T)) (hb : Below W.heap.size W w1) :
    w1.cell? ⟨k, 0, none⟩ = some v0 ∧ w1.cell? ⟨k, 1, none⟩ = some v1 ∧ w1.frozen? ⟨k, 0, none⟩ = false ∧ w1.frozen? ⟨k, 1, none⟩ = false := by
  have hlt : k < W.heap.size := by
    rcases Nat.lt_or_ge k W.heap.size with h | h
    · exact h
    · rw [Array.getElem?_eq_none h] at hk; cases hk
  have h1 : w1.heap[k]? = some (.cells #[v0, v1] T (0, 0)) := (hb.block k hlt).trans hk
  refine ⟨?_, ?_, frozen_of_row _ _ _ _ _ h1, frozen_of_row _ _ _ _ _ h1⟩
  · rw [cell_of_row w1 k 0 _ T (0, 0) h1]; rfl
  · rw [cell_of_row w1 k 1 _ T (0, 0) h1]; rfl
theorem grown_setCell (w : World) (p : Addr) (u : Value) : w.grownBy (w.setCell p u) (some p.block) :=
  ⟨rfl, rfl, rfl, by simp [World.setCell], fun k _ hne => Below.heap_setCell _ _ _ _ (fun e => hne (by rw [e]))⟩
theorem Own.setFar {B : Nat} {w : World} {a : Option Addr} {n c : Nat} {xs : List Int} (h : Own B w a n c xs) {p : Addr} (hne : ∀ g, a = some ⟨g, 0, none⟩ → g ≠ p.block) (u : Value) : Own B (w.setCell p u) a n c xs :=
  h.kept (grown_setCell w p u) (fun g hg e => hne g hg (by injection e with e; exact e.symm))
/-- a mass as a value -/
abbrev massV (s : Int) (a : Option Addr) (n c : Nat) : Value := .agg #[.int .i64 s, .slice a n c]
theorem isSetOf_any (s x : Int) (w : World) (hs : sizeB s = true) : Calls Tryz.prog 31 #[.int .i64 s, .int .i64 x] w fun e w' => e = .returned (.bool (setB s x)) ∧ w = w' := by
  have h : s = 1 ∨ s = 2 ∨ s = 3 ∨ s = 4 := by simp [sizeB] at hs; omega
  by_cases h0 : 0 ≤ x
  · rcases h with rfl | rfl | rfl | rfl
    all_goals
      go_enter Tryz.func31, Tryz.ntmps31
      go_wp2
      go_ret
      exact ⟨ret_bool (by simp [setB]; omega), rfl⟩
  · rcases h with rfl | rfl | rfl | rfl
    all_goals
      go_enter Tryz.func31, Tryz.ntmps31
      go_wp2
      go_ret
      exact ⟨ret_bool (by simp [setB]; omega), rfl⟩
theorem SetValid_any (s x : Int) (w : World) : Calls Tryz.prog 39 #[.int .i64 s, .int .i64 x] w fun e w' => e = .returned (.bool (sizeB s && setB s x)) ∧ w = w' := by
  have HZ := Lib.hid (SizeValid_any s w)
  by_cases hs : sizeB s = true
  · have h : s = 1 ∨ s = 2 ∨ s = 3 ∨ s = 4 := by simp [sizeB] at hs; omega
    rw [hs] at HZ ⊢
    clear hs
    rcases h with rfl | rfl | rfl | rfl
    all_goals
      go_enter Tryz.func39, Tryz.ntmps39
      go_wp2_with (first | (go_at_call 22; refine HZ.out.mono ?_; rintro e w' ⟨rfl, rfl⟩) | (go_at_call 23; refine (l1In_any _ _ _ _).mono ?_; rintro e w' ⟨rfl, rfl⟩))
      go_ret
      exact ⟨ret_bool (by rw [Bool.eq_iff_iff]; simp [setB]; omega), rfl⟩
  · have hs' : sizeB s = false := by simpa using hs
    rw [hs'] at HZ ⊢
    clear hs hs'
    go_enter Tryz.func39, Tryz.ntmps39
    go_wp2_with (go_at_call 22; refine HZ.out.mono ?_; rintro e w' ⟨rfl, rfl⟩)
    go_ret
    exact ⟨rfl, rfl⟩
end Go.Proofs.YtlfajalhoifliaaGreatDoor
