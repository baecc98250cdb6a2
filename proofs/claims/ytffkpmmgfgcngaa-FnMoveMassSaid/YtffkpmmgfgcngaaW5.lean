/- Contracts of functions of one set: counts, signs, answers. -/
import Derived.Test.YtffkpmmgfgcngaaW2
import Derived.Test.YtffkpmmgfgcngaaMath
namespace Go.Proofs.Ytffkpmmgfgcngaa
open Go.RowKit

theorem l1Count_any (a : Nat) (w : World) (ha : a < 16) : Calls Try.prog 171 #[.int .i64 a] w fun e w' => e = .returned (.int .i64 (cnt a)) ∧ w = w' := by
  go_enter Try.func171, Try.ntmps171
  go_wp2
  go_loop [0, 3] (fun s t => ∃ b c : Nat, s = .int .i64 b ∧ t = .int .i64 c ∧ b < 16 ∧ c ≤ 16 ∧ Hid (c + cnt b = cnt a)) (fun s _ => (intOf s).toNat)
  case atStart => exact ⟨a, 0, rfl, rfl, ha, by omega, by show _ = _; simp⟩
  case round =>
    obtain ⟨b, c, rfl, rfl, hb, hc, H⟩ := hrel
    by_cases h0 : b = 0
    · subst h0
      go_wp2
      go_ret
      exact ⟨ret_int (by have h := H.out; rw [show cnt 0 = 0 from rfl] at h; omega), rfl⟩
    · have hp : 0 < b := by omega
      have e1 := bits_one b hb
      obtain ⟨r, hr⟩ : ∃ r : Nat, r = b % 2 := ⟨_, rfl⟩
      rw [← hr] at e1
      have hr1 : r ≤ 1 := by omega
      have HR := Lib.hid hr; clear hr
      have hc15 : c ≤ 15 := by
        have := H.out
        have := HR.out
        have := cnt_le a
        have := cnt_pos b h0 hb
        omega
      go_wp2
      go_round
      case rel => exact ⟨b / 2, c + r, by go_num, by go_num, by omega, by omega, by have h := H.out; rw [cnt_step b hb, ← HR.out] at h; show _ = _; omega⟩
      case measure => simp [intOf]; omega
theorem l1Sign_any (a : Nat) (w : World) (ha : a < 16) : Calls Try.prog 177 #[.int .i64 a] w fun e w' => e = .returned (.int .i64 (sgn a)) ∧ w = w' := by
  obtain ⟨c, hc⟩ : ∃ c, c = cnt a := ⟨_, rfl⟩
  have hl := cnt_le a
  rw [← hc] at hl
  have hC : Calls Try.prog 171 #[.int .i64 a] w fun e w' => e = .returned (.int .i64 c) ∧ w = w' := by rw [hc]; exact l1Count_any a w ha
  have HC := Lib.hid hC; clear hC
  have HS := Lib.hid hc; clear hc
  go_enter Try.func177, Try.ntmps177
  go_wp2_with (go_at_call 171; refine HC.out.mono ?_; rintro e w' ⟨rfl, rfl⟩)
  go_ret
  exact ⟨ret_int (by rw [sgn, ← HS.out]), rfl⟩
theorem l1Has_any (a x : Nat) (w : World) (ha : a < 16) (hx : x < 4) : Calls Try.prog 152 #[.int .i64 a, .int .i64 x] w fun e w' => e = .returned (.bool (hasB a x)) ∧ w = w' := by
  have h : x = 0 ∨ x = 1 ∨ x = 2 ∨ x = 3 := by omega
  have key : ∀ q : Nat, q < 16 → (bits .and .i64 (q : Int) 1 == 1) = (q % 2 == 1) := fun q hq => by rw [bits_one q hq, Bool.eq_iff_iff]; simp; omega
  have HK := Lib.hid key; clear key
  rcases h with rfl | rfl | rfl | rfl
  · go_enter Try.func152, Try.ntmps152
    go_wp2
    go_ret
    exact ⟨ret_bool (by rw [hasB, show a / 2 ^ 0 = a from by omega]; exact HK.out a ha), rfl⟩
  · go_enter Try.func152, Try.ntmps152
    go_wp2
    go_ret
    exact ⟨ret_bool (by rw [hasB, show (a : Int) / 2 = ((a / 2 : Nat) : Int) from by omega]; exact HK.out (a / 2) (by omega)), rfl⟩
  · go_enter Try.func152, Try.ntmps152
    go_wp2
    go_ret
    exact ⟨ret_bool (by rw [hasB, show (a : Int) / 4 = ((a / 4 : Nat) : Int) from by omega]; exact HK.out (a / 4) (by omega)), rfl⟩
  · go_enter Try.func152, Try.ntmps152
    go_wp2
    go_ret
    exact ⟨ret_bool (by rw [hasB, show (a : Int) / 8 = ((a / 8 : Nat) : Int) from by omega]; exact HK.out (a / 8) (by omega)), rfl⟩
theorem oc64_any (a : Nat) (w : World) (ha : a < 16) : Calls Try.prog 179 #[.int .u64 a] w fun e w' => e = .returned (.int .i64 (cnt a)) ∧ w = w' := by
  have h : a = 0 ∨ a = 1 ∨ a = 2 ∨ a = 3 ∨ a = 4 ∨ a = 5 ∨ a = 6 ∨ a = 7 ∨ a = 8 ∨ a = 9 ∨ a = 10 ∨ a = 11 ∨ a = 12 ∨ a = 13 ∨ a = 14 ∨ a = 15 := by omega
  rcases h with rfl | rfl | rfl | rfl | rfl | rfl | rfl | rfl | rfl | rfl | rfl | rfl | rfl | rfl | rfl | rfl
  all_goals
    go_enter Try.func179, Try.ntmps179
    go_wp2
    go_ret
    exact ⟨by kernel_rfl, rfl⟩
theorem oc_any (a : Nat) (w : World) (ha : a < 16) : Calls Try.prog 153 #[.int .u64 a] w fun e w' => e = .returned (.int .i64 (cnt a)) ∧ w = w' := by
  go_enter Try.func153, Try.ntmps153
  go_wp2_with (go_at_call 179; refine (oc64_any a _ ha).mono ?_; rintro e w' ⟨rfl, rfl⟩)
  go_ret
  exact ⟨rfl, rfl⟩
theorem signOf_any (a : Nat) (w : World) (ha : a < 16) : Calls Try.prog 132 #[.int .i64 a] w fun e w' => e = .returned (.int .i64 (sgn a)) ∧ w = w' := by
  obtain ⟨c, hc⟩ : ∃ c, c = cnt a := ⟨_, rfl⟩
  have hl := cnt_le a
  rw [← hc] at hl
  have hC : Calls Try.prog 153 #[.int .u64 a] w fun e w' => e = .returned (.int .i64 c) ∧ w = w' := by rw [hc]; exact oc_any a w ha
  have HC := Lib.hid hC; clear hC
  have HS := Lib.hid hc; clear hc
  go_enter Try.func132, Try.ntmps132
  go_wp2_with (go_at_call 153; refine HC.out.mono ?_; rintro e w' ⟨rfl, rfl⟩)
  go_ret
  exact ⟨ret_int (by rw [sgn, ← HS.out]), rfl⟩
end Go.Proofs.Ytffkpmmgfgcngaa
