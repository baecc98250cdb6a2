/- Marks on masses; variables stay while rows are marked. No condition. -/
import Derived.Test.YtlfajalhoifliaaDoorW3
import Derived.Test.YtlfajalhoifliaaDoorBase3
namespace Go.Proofs.YtlfajalhoifliaaDoor
open Go.RowKit

theorem Box.marked {B : Nat} {w w' : World} {k : Nat} {T : TypeId} {v0 v1 : Value} {a : Option Addr} {n c : Nat} {xs : List Int} (h : Box w k T v0 v1) (ho : Own B w a n c xs) (hg : w.grownBy w' (Value.slice a n c).ownBlock) (hT : T ≠ 3) : Box w' k T v0 v1 := by
  refine h.grown hg (fun e => ?_)
  rcases ho.2 with ⟨h1, _⟩ | ⟨g, cap, cur, h1, _, h3, _⟩
  · rw [h1] at e
    simp [Value.ownBlock] at e
  · rw [h1] at e
    simp [Value.ownBlock] at e
    subst e
    unfold Box at h
    rw [h] at h3
    injection h3 with h3
    injection h3 with _ h3
    exact hT h3
theorem markMass_any (B : Nat) (s : Int) (a : Option Addr) (n c : Nat) (xs : List Int) (z : Int) (w : World) (ho : Own B w a n c xs) (hn : n ≤ 1048576) (hz : 0 ≤ z ∧ z ≤ 1048576000) :
    Calls Tryd.prog 8 #[massV s a n c, .int .i64 z] w fun e w' => e = .returned (.int .i64 (z + n)) ∧ Own B w' a n c (marks n z) ∧ w.grownBy w' (Value.slice a n c).ownBlock := by
  have HM := Lib.hid (markIntS_any B a n c xs z (w.alloc (.cells #[.int .i64 s, .slice a n c] 24)) (ho.below ((Below.refl w.heap.size w).alloc (Nat.le_refl _) _)) hn hz)
  clear ho
  have HG := Lib.hid (World.grownBy_alloc w (.cells #[.int .i64 s, .slice a n c] 24) (Value.slice a n c).ownBlock)
  go_enter Tryd.func8, Tryd.ntmps8
  go_wp2_with fail
  refine HM.out.mono ?_
  rintro e w1 ⟨rfl, o1, g1⟩
  have HO := Lib.hid o1; clear o1
  have HG1 := Lib.hid (grown_trans HG.out g1); clear g1
  go_wp2_with fail
  go_ret
  exact ⟨rfl, HO.out, HG1.out⟩
theorem heldMass_any (s : Int) (a : Option Addr) (n c : Nat) (z : Int) (w : World) (hr : Row w a n (marks n z)) (hn : n ≤ 1048576) (hz : 0 ≤ z ∧ z ≤ 1048576000) :
    Calls Tryd.prog 9 #[massV s a n c, .int .i64 z] w fun e w' => e = .returned (.int .i64 (z + n)) ∧ Below w.heap.size w w' := by
  have hb : Below w.heap.size w (w.alloc (.cells #[.int .i64 s, .slice a n c] 24)) := (Below.refl _ _).alloc (Nat.le_refl _) _
  have HM := Lib.hid (heldIntS_any a n c z _ (hr.below hb) hn hz)
  have HB := Lib.hid hb
  clear hr hb
  go_enter Tryd.func9, Tryd.ntmps9
  go_wp2_with fail
  refine HM.out.mono ?_
  rintro e w1 ⟨rfl, b1⟩
  have HB1 := Lib.hid (HB.out.trans (b1.mono HB.out.size))
  clear b1
  go_wp2_with fail
  go_ret
  exact ⟨rfl, HB1.out⟩
end Go.Proofs.YtlfajalhoifliaaDoor
