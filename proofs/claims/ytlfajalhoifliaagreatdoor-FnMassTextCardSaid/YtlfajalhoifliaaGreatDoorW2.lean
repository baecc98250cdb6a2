/- Contracts of the functions that find greatest common divisors. -/
import Derived.Test.YtlfajalhoifliaaGreatDoorW1
import Derived.Deep.QuietTactic
import Derived.BigQuiet
namespace Go.Proofs.YtlfajalhoifliaaGreatDoor
open Go.RowKit

set_option maxHeartbeats 400000 in
theorem divisorOf_any (a : Option Addr) (n c : Nat) (xs : List Int) (w : World) (hr : Row w a n xs) (hn : n ≤ 1048576) (hb : ∀ k, k < n → -4000000000000000000 ≤ xs.getD k 0 ∧ xs.getD k 0 ≤ 4000000000000000000) :
    Calls Tryz.prog 42 #[.slice a n c] w fun e w' => e = .returned (.int .i64 (gcdL xs)) ∧ Below w.heap.size w w' := by
  go_enter Tryz.func42, Tryz.ntmps42
  go_wp2
  go_loopw [3, 8] (fun d i wr => ∃ (k : Nat) (z : Int), k ≤ n ∧ i = .int .i64 k ∧ d = .int .i64 z ∧ z.natAbs = gcdL (xs.take k) ∧ z.natAbs ≤ 4000000000000000000 ∧ Below w.heap.size w wr) (fun _ i _ => n - (intOf i).toNat)
  case atStart => exact ⟨0, 0, Nat.zero_le _, rfl, rfl, rfl, by omega, Below.refl _ _⟩
  case round =>
    obtain ⟨k, z, hk, rfl, rfl, hz, hzb, hbw⟩ := hrel
    have HZ := Lib.hid hz; clear hz
    by_cases hlt : k < n
    · obtain ⟨b, off, x, rfl, hx, hc⟩ := (hr.below hbw).at_ hlt
      have hxb := hb k hlt
      rw [← hx] at hxb
      have HX := Lib.hid hx; clear hx
      go_wp2
      obtain ⟨wo, rfl⟩ : ∃ wo : World, wo = wr := ⟨_, rfl⟩
      go_loopw [3, 5] (fun d e wi => ∃ (p q : Int), d = .int .i64 p ∧ e = .int .i64 q ∧ Nat.gcd p.natAbs q.natAbs = gcdL (xs.take (k + 1)) ∧ p.natAbs ≤ 4000000000000000000 ∧ q.natAbs ≤ 4000000000000000000 ∧ Below w.heap.size w wi) (fun _ e _ => (intOf e).natAbs)
      case atStart => exact ⟨z, x, rfl, rfl, by rw [gcdL_take xs k (by rw [hr.1]; exact hlt), ← HX.out, HZ.out], hzb, by omega, hbw⟩
      case round =>
        obtain ⟨p, q, rfl, rfl, hg, hp, hq, hbi⟩ := hrel
        have HG := Lib.hid hg; clear hg
        by_cases h0 : q = 0
        · subst h0
          go_wp2
          go_roundw
          case rel => exact ⟨k + 1, p, by omega, by go_num, rfl, by rw [← HG.out]; simp, hp, hbi⟩
          case measure => simp [intOf]; omega
        · have hne : (q != 0) = true := by simpa using h0
          have hmod : (p.tmod q).natAbs < q.natAbs := by rw [Int.natAbs_tmod]; exact Nat.mod_lt _ (by omega)
          have HM := Lib.hid hmod; clear hmod
          go_wp2
          go_quiet (fail)
          go_wp2
          go_roundw
          case rel => exact ⟨q, p.tmod q, rfl, rfl, by rw [gcd_step]; exact HG.out, hq, by have := HM.out; omega, below_drewN hbi _⟩
          case measure => have h := HM.out; rw [Int.natAbs_tmod] at h; simp [intOf]; omega
    · have hk' : k = n := by omega
      have HL : Hid (z.natAbs = gcdL xs) := by
        have h2 := HZ.out
        rw [List.take_of_length_le (by rw [hr.1]; omega)] at h2
        exact h2
      subst hk'
      by_cases hz0 : z ≤ -1
      · go_wp2
        go_ret
        exact ⟨ret_int (by have := HL.out; omega), hbw⟩
      · have hz1 : 0 ≤ z := by omega
        by_cases hz2 : z = 0
        · subst hz2
          go_wp2
          go_ret
          exact ⟨ret_int (by have := HL.out; omega), hbw⟩
        · have hz3 : 1 ≤ z := by omega
          go_wp2
          go_ret
          exact ⟨ret_int (by have := HL.out; omega), hbw⟩
theorem l2Divisor_any (x y : Int) (w : World) (hx : -4000000000000000000 ≤ x ∧ x ≤ 4000000000000000000) (hy : -4000000000000000000 ≤ y ∧ y ≤ 4000000000000000000) :
    Calls Tryz.prog 49 #[.int .i64 x, .int .i64 y] w fun e w' => e = .returned (.int .i64 (Nat.gcd x.natAbs y.natAbs)) ∧ w = w' := by
  by_cases hx0 : 0 ≤ x <;> by_cases hy0 : 0 ≤ y
  all_goals
    go_enter Tryz.func49, Tryz.ntmps49
    go_wp2
    go_loop [0, 1, 5] (fun a b _ => ∃ (p q : Int), a = .int .i64 p ∧ b = .int .i64 q ∧ Nat.gcd p.natAbs q.natAbs = Nat.gcd x.natAbs y.natAbs ∧ 0 ≤ p ∧ 0 ≤ q ∧ p ≤ 4000000000000000000 ∧ q ≤ 4000000000000000000) (fun _ b _ => (intOf b).toNat)
    case atStart => exact ⟨_, _, rfl, rfl, by simp, by omega, by omega, by omega, by omega⟩
    case round =>
      obtain ⟨p, q, rfl, rfl, hg, hp0, hq0, hp, hq⟩ := hrel
      have HG := Lib.hid hg; clear hg
      by_cases h0 : q = 0
      · subst h0
        go_wp2
        go_ret
        exact ⟨ret_int (by have := HG.out; simp at this; omega), rfl⟩
      · have hq1 : 0 < q := by omega
        have hmod : 0 ≤ p % q ∧ p % q < q := ⟨Int.emod_nonneg _ (by omega), Int.emod_lt_of_pos _ hq1⟩
        have HM := Lib.hid hmod; clear hmod
        go_wp2
        go_round
        case rel => exact ⟨q, p % q, rfl, rfl, by rw [Int.natAbs_emod_of_nonneg hp0, gcd_stepN]; exact HG.out, hq0, HM.out.1, hq, by have := HM.out; omega⟩
        case measure => have := HM.out; simp [intOf]; omega
end Go.Proofs.YtlfajalhoifliaaGreatDoor
