/- Contracts of functions of one set: counts, signs, answers. -/
import Derived.Test.YtlfajalhoifliaaGreatDoorW2
import Derived.Test.YtlfajalhoifliaaGreatDoorMath
namespace Go.Proofs.YtlfajalhoifliaaGreatDoor
open Go.RowKit

theorem l1Has_any (a x : Nat) (w : World) (ha : a < 16) (hx : x < 4) : Calls Tryz.prog 48 #[.int .i64 a, .int .i64 x] w fun e w' => e = .returned (.bool (hasB a x)) ∧ w = w' := by
  have h : x = 0 ∨ x = 1 ∨ x = 2 ∨ x = 3 := by omega
  have key : ∀ q : Nat, q < 16 → (bits .and .i64 (q : Int) 1 == 1) = (q % 2 == 1) := fun q hq => by rw [bits_one q hq, Bool.eq_iff_iff]; simp; omega
  have HK := Lib.hid key; clear key
  rcases h with rfl | rfl | rfl | rfl
  · go_enter Tryz.func48, Tryz.ntmps48
    go_wp2
    go_ret
    exact ⟨ret_bool (by rw [hasB, show a / 2 ^ 0 = a from by omega]; exact HK.out a ha), rfl⟩
  · go_enter Tryz.func48, Tryz.ntmps48
    go_wp2
    go_ret
    exact ⟨ret_bool (by rw [hasB, show (a : Int) / 2 = ((a / 2 : Nat) : Int) from by omega]; exact HK.out (a / 2) (by omega)), rfl⟩
  · go_enter Tryz.func48, Tryz.ntmps48
    go_wp2
    go_ret
    exact ⟨ret_bool (by rw [hasB, show (a : Int) / 4 = ((a / 4 : Nat) : Int) from by omega]; exact HK.out (a / 4) (by omega)), rfl⟩
  · go_enter Tryz.func48, Tryz.ntmps48
    go_wp2
    go_ret
    exact ⟨ret_bool (by rw [hasB, show (a : Int) / 8 = ((a / 8 : Nat) : Int) from by omega]; exact HK.out (a / 8) (by omega)), rfl⟩
