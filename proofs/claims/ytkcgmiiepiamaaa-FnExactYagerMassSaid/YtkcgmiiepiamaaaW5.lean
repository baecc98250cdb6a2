/- Contracts of functions of one set: counts, signs, answers. -/
import Derived.Test.YtkcgmiiepiamaaaW2
import Derived.Test.YtkcgmiiepiamaaaMath2
namespace Go.Proofs.Ytkcgmiiepiamaaa
open Go.RowKit

theorem l1Count_any (a : Nat) (w : World) (ha : a < 16) : Calls Try.prog 79 #[.int .i64 a] w fun e w' => e = .returned (.int .i64 (cnt a)) ∧ w = w' := by
  go_enter Try.func79, Try.ntmps79
  go_wp2
  go_loop [0, 3] (fun s t => ∃ b c : Nat, s = .int .i64 b ∧ t = .int .i64 c ∧ b < 16 ∧ c ≤ 16 ∧ Hid (c + cnt b = cnt a)) (fun s _ => (intOf s).toNat)
  case atStart => exact ⟨a, 0, rfl, rfl, ha, by omega, by show _ = _; simp⟩
  case round =>
    obtain ⟨b, c, rfl, rfl, hb, hc, H⟩ := hrel
    by_cases h0 : b = 0
    · subst h0
      go_wp2
      go_ret
      exact ⟨ret_int (by have h := H.out; rw [show cnt 0 = 0 from rfl] at h; omega), rfl⟩
    · have hp : 0 < b := by omega
      have e1 := bits_one b hb
      obtain ⟨r, hr⟩ : ∃ r : Nat, r = b % 2 := ⟨_, rfl⟩
      rw [← hr] at e1
      have hr1 : r ≤ 1 := by omega
      have HR := Lib.hid hr; clear hr
      have hc15 : c ≤ 15 := by
        have := H.out
        have := HR.out
        have := cnt_le a
        have := cnt_pos b h0 hb
        omega
      go_wp2
      go_round
      case rel => exact ⟨b / 2, c + r, by go_num, by go_num, by omega, by omega, by have h := H.out; rw [cnt_step b hb, ← HR.out] at h; show _ = _; omega⟩
      case measure => simp [intOf]; omega
theorem oc64_any (a : Nat) (w : World) (ha : a < 16) : Calls Try.prog 98 #[.int .u64 a] w fun e w' => e = .returned (.int .i64 (cnt a)) ∧ w = w' := by
  have h : a = 0 ∨ a = 1 ∨ a = 2 ∨ a = 3 ∨ a = 4 ∨ a = 5 ∨ a = 6 ∨ a = 7 ∨ a = 8 ∨ a = 9 ∨ a = 10 ∨ a = 11 ∨ a = 12 ∨ a = 13 ∨ a = 14 ∨ a = 15 := by omega
  rcases h with rfl | rfl | rfl | rfl | rfl | rfl | rfl | rfl | rfl | rfl | rfl | rfl | rfl | rfl | rfl | rfl
  all_goals
    go_enter Try.func98, Try.ntmps98
    go_wp2
    go_ret
    exact ⟨by kernel_rfl, rfl⟩
theorem oc_any (a : Nat) (w : World) (ha : a < 16) : Calls Try.prog 80 #[.int .u64 a] w fun e w' => e = .returned (.int .i64 (cnt a)) ∧ w = w' := by
  go_enter Try.func80, Try.ntmps80
  go_wp2_with (go_at_call 98; refine (oc64_any a _ ha).mono ?_; rintro e w' ⟨rfl, rfl⟩)
  go_ret
  exact ⟨rfl, rfl⟩
