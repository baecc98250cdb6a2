/- Contracts of functions of one set: counts, signs, answers. -/
import Derived.Test.YtlfajalhoifliaaW2
import Derived.Test.YtlfajalhoifliaaMath
namespace Go.Proofs.Ytlfajalhoifliaa
open Go.RowKit

theorem l1Count_any (a : Nat) (w : World) (ha : a < 16) : Calls Try.prog 74 #[.int .i64 a] w fun e w' => e = .returned (.int .i64 (cnt a)) ∧ w = w' := by
  go_enter Try.func74, Try.ntmps74
  go_wp2
  go_loop [0, 3] (fun s t => ∃ b c : Nat, s = .int .i64 b ∧ t = .int .i64 c ∧ b < 16 ∧ c ≤ 16 ∧ Hid (c + cnt b = cnt a)) (fun s _ => (intOf s).toNat)
  case atStart => exact ⟨a, 0, rfl, rfl, ha, by omega, by show _ = _; simp⟩
  case round =>
    obtain ⟨b, c, rfl, rfl, hb, hc, H⟩ := hrel
    by_cases h0 : b = 0
    · subst h0
      go_wp2
      go_ret
      exact ⟨ret_int (by have h := H.out; rw [show cnt 0 = 0 from rfl] at h; omega), rfl⟩
    · have hp : 0 < b := by omega
      have e1 := bits_one b hb
      obtain ⟨r, hr⟩ : ∃ r : Nat, r = b % 2 := ⟨_, rfl⟩
      rw [← hr] at e1
      have hr1 : r ≤ 1 := by omega
      have HR := Lib.hid hr; clear hr
      have hc15 : c ≤ 15 := by
        have := H.out
        have := HR.out
        have := cnt_le a
        have := cnt_pos b h0 hb
        omega
      go_wp2
      go_round
      case rel => exact ⟨b / 2, c + r, by go_num, by go_num, by omega, by omega, by have h := H.out; rw [cnt_step b hb, ← HR.out] at h; show _ = _; omega⟩
      case measure => simp [intOf]; omega
theorem l1Sign_any (a : Nat) (w : World) (ha : a < 16) : Calls Try.prog 68 #[.int .i64 a] w fun e w' => e = .returned (.int .i64 (sgn a)) ∧ w = w' := by
  obtain ⟨c, hc⟩ : ∃ c, c = cnt a := ⟨_, rfl⟩
  have hl := cnt_le a
  rw [← hc] at hl
  have hC : Calls Try.prog 74 #[.int .i64 a] w fun e w' => e = .returned (.int .i64 c) ∧ w = w' := by rw [hc]; exact l1Count_any a w ha
  have HC := Lib.hid hC; clear hC
  have HS := Lib.hid hc; clear hc
  go_enter Try.func68, Try.ntmps68
  go_wp2_with (go_at_call 74; refine HC.out.mono ?_; rintro e w' ⟨rfl, rfl⟩)
  go_ret
  exact ⟨ret_int (by rw [sgn, ← HS.out]), rfl⟩
theorem oc64_any (a : Nat) (w : World) (ha : a < 16) : Calls Try.prog 76 #[.int .u64 a] w fun e w' => e = .returned (.int .i64 (cnt a)) ∧ w = w' := by
  have h : a = 0 ∨ a = 1 ∨ a = 2 ∨ a = 3 ∨ a = 4 ∨ a = 5 ∨ a = 6 ∨ a = 7 ∨ a = 8 ∨ a = 9 ∨ a = 10 ∨ a = 11 ∨ a = 12 ∨ a = 13 ∨ a = 14 ∨ a = 15 := by omega
  rcases h with rfl | rfl | rfl | rfl | rfl | rfl | rfl | rfl | rfl | rfl | rfl | rfl | rfl | rfl | rfl | rfl
  all_goals
    go_enter Try.func76, Try.ntmps76
    go_wp2
    go_ret
    exact ⟨by kernel_rfl, rfl⟩
theorem oc_any (a : Nat) (w : World) (ha : a < 16) : Calls Try.prog 72 #[.int .u64 a] w fun e w' => e = .returned (.int .i64 (cnt a)) ∧ w = w' := by
  go_enter Try.func72, Try.ntmps72
  go_wp2_with (go_at_call 76; refine (oc64_any a _ ha).mono ?_; rintro e w' ⟨rfl, rfl⟩)
  go_ret
  exact ⟨rfl, rfl⟩
theorem signOf_any (a : Nat) (w : World) (ha : a < 16) : Calls Try.prog 63 #[.int .i64 a] w fun e w' => e = .returned (.int .i64 (sgn a)) ∧ w = w' := by
  obtain ⟨c, hc⟩ : ∃ c, c = cnt a := ⟨_, rfl⟩
  have hl := cnt_le a
  rw [← hc] at hl
  have hC : Calls Try.prog 72 #[.int .u64 a] w fun e w' => e = .returned (.int .i64 c) ∧ w = w' := by rw [hc]; exact oc_any a w ha
  have HC := Lib.hid hC; clear hC
  have HS := Lib.hid hc; clear hc
  go_enter Try.func63, Try.ntmps63
  go_wp2_with (go_at_call 72; refine HC.out.mono ?_; rintro e w' ⟨rfl, rfl⟩)
  go_ret
  exact ⟨ret_int (by rw [sgn, ← HS.out]), rfl⟩
end Go.Proofs.Ytlfajalhoifliaa
