/- Contracts of the tables of the reference, and of IsBeliefTable. -/
import Derived.Test.YtlfajalhoifliaaGreatDoorW8
import Derived.Test.YtlfajalhoifliaaGreatDoorW9
import Derived.Test.YtlfajalhoifliaaGreatDoorMath
namespace Go.Proofs.YtlfajalhoifliaaGreatDoor
open Go.RowKit

set_option maxHeartbeats 400000 in
theorem l3Sum_any (a : Option Addr) (n c : Nat) (xs : List Int) (most : Int) (w : World) (hr : Row w a n xs) (hn : n ≤ 1048576) (hm : 0 ≤ most ∧ most ≤ 16000000000) :
    Calls Tryz.prog 24 #[.slice a n c, .int .i64 most] w fun e w' => e = .returned (.int .i64 (sumMost xs most)) ∧ w = w' := by
  go_enter Tryz.func24, Tryz.ntmps24
  go_wp2_with fail
  go_loop [5, 6] (fun s i => ∃ (k : Nat) (z : Int), k ≤ n ∧ i = .int .i64 k ∧ s = .int .i64 z ∧ 0 ≤ z ∧ z ≤ 16000000000 * (k : Int) ∧ Hid ((xs.take k).all (inMost most) = true) ∧ Hid (z = sumTo (fun k => xs.getD k 0) k)) (fun _ i => n - (intOf i).toNat)
  case atStart => exact ⟨0, 0, Nat.zero_le _, rfl, rfl, by omega, by omega, rfl, rfl⟩
  case round =>
    obtain ⟨k, z, hk, rfl, rfl, hz1, hz2, HA, HZ⟩ := hrel
    by_cases hlt : k < n
    · obtain ⟨b, off, x, rfl, hx, hc⟩ := hr.at_ hlt
      have hI : ∀ W, Calls Tryz.prog 23 #[.int .i64 x, .int .i64 0, .int .i64 most] W fun e w' => e = .returned (.bool (inMost most x)) ∧ W = w' := fun W => l1In_any x 0 most W
      have HI := Lib.hid hI; clear hI
      by_cases hp : inMost most x = true
      · have hxb : 0 ≤ x ∧ x ≤ most := by simpa [inMost] using hp
        have HN : Hid ((xs.take (k+1)).all (inMost most) = true) := by
          show _ = _
          rw [all_take_snoc _ _ _ (by rw [hr.1]; exact hlt), HA.out, ← hx, hp]; rfl
        have HZ2 : Hid (z + x = sumTo (fun k => xs.getD k 0) (k+1)) := by
          show _ = _
          simp only [sumTo]; rw [← HZ.out, hx]
        clear hx
        go_wp2_with (go_at_call 23; refine (HI.out _).mono ?_; rintro e w' ⟨rfl, rfl⟩)
        go_round
        case rel => exact ⟨k + 1, z + x, by omega, by go_num, rfl, by omega, by omega, HN, HZ2⟩
        case measure => simp [intOf]; omega
      · have hp' : inMost most x = false := by simpa using hp
        have HN : Hid (sumMost xs most = -1) := sumMost_bad hr.1 hlt (by rw [← hx]; exact hp')
        clear hx hp
        go_wp2_with (go_at_call 23; refine (HI.out _).mono ?_; rintro e w' ⟨rfl, rfl⟩)
        go_ret
        exact ⟨ret_int HN.out.symm, rfl⟩
    · have hk' : k = n := by omega
      have HN : Hid (z = sumMost xs most) := by
        have h2 := HA.out
        rw [List.take_of_length_le (by rw [hr.1]; omega)] at h2
        show _ = _
        rw [sumMost_good h2, HZ.out, sumL, hr.1, hk']
      subst hk'
      go_wp2_with fail
      go_ret
      exact ⟨ret_int HN.out, rfl⟩
