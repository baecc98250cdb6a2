/- Contracts of small functions. -/
import Derived.Test.YtffkpmmgfgcngaaBase
namespace Go.Proofs.Ytffkpmmgfgcngaa
open Go.RowKit

theorem isPart_any (x : Int) (w : World) : Calls Try.prog 140 #[.int .i64 x] w fun e w' => e = .returned (.bool (isPartB x)) ∧ w = w' := by
  by_cases h1 : -1000000000 ≤ x
  · by_cases h2 : x ≤ 1000000000
    · go_enter Try.func140, Try.ntmps140
      go_wp2
      go_ret
      exact ⟨ret_bool (by simp [isPartB, h1, h2]), rfl⟩
    · go_enter Try.func140, Try.ntmps140
      go_wp2
      go_ret
      exact ⟨ret_bool (by simp [isPartB, h2]), rfl⟩
  · go_enter Try.func140, Try.ntmps140
    go_wp2
    go_ret
    exact ⟨ret_bool (by simp [isPartB]; omega), rfl⟩
theorem isTable_any (a : Option Addr) (n c : Nat) (xs : List Int) (w : World) (hr : Row w a n xs) (hn : n ≤ 1048576) :
    Calls Try.prog 142 #[.slice a n c] w fun e w' => e = .returned (.bool (tableB xs)) ∧ w = w' := by
  go_enter Try.func142, Try.ntmps142
  go_wp2
  go_loop [8] (fun i => ∃ k : Nat, k ≤ n ∧ i = .int .i64 k ∧ (xs.take k).all isPartB = true) (fun i => n - (intOf i).toNat)
  case atStart => exact ⟨0, Nat.zero_le _, rfl, rfl⟩
  case round =>
    obtain ⟨k, hk, rfl, hall⟩ := hrel
    have HA := Lib.hid hall; clear hall
    by_cases hlt : k < n
    · obtain ⟨b, off, x, rfl, hx, hc⟩ := hr.at_ hlt
      have HX := Lib.hid hx; clear hx
      by_cases hp : isPartB x = true
      · go_wp2_with (go_at_call 140; refine (isPart_any _ _).mono ?_; rintro e w' ⟨rfl, rfl⟩)
        go_round
        case rel => exact ⟨k + 1, by omega, by go_num, by rw [all_take_snoc _ _ _ (by rw [hr.1]; exact hlt), HA.out, ← HX.out, hp]; rfl⟩
        case measure => simp [intOf]; omega
      · go_wp2_with (go_at_call 140; refine (isPart_any _ _).mono ?_; rintro e w' ⟨rfl, rfl⟩)
        go_ret
        exact ⟨ret_bool (by rw [tableB, all_false_of _ xs k (by rw [hr.1]; exact hlt) (by rw [← HX.out]; simpa using hp)]; rfl), rfl⟩
    · have hk' : k = n := by omega
      have HL : Hid (tableB xs = (n == 2 || n == 4 || n == 8 || n == 16)) := by
        have h1 := hr.1
        have h2 := HA.out
        rw [List.take_of_length_le (by omega)] at h2
        show _ = _
        rw [tableB, h2, h1]; rfl
      clear HA hr
      subst hk'
      by_cases h2 : k = 2
      · subst h2
        go_wp2
        go_ret
        exact ⟨ret_bool (by rw [HL.out]; rfl), rfl⟩
      · by_cases h4 : k = 4
        · subst h4
          go_wp2
          go_ret
          exact ⟨ret_bool (by rw [HL.out]; rfl), rfl⟩
        · by_cases h8 : k = 8
          · subst h8
            go_wp2
            go_ret
            exact ⟨ret_bool (by rw [HL.out]; rfl), rfl⟩
          · by_cases h16 : k = 16
            · subst h16
              go_wp2
              go_ret
              exact ⟨ret_bool (by rw [HL.out]; rfl), rfl⟩
            · have HF : Hid (((k : Int) == 2 || (k : Int) == 4 || (k : Int) == 8 || (k : Int) == 16) = tableB xs) := by
                show _ = _; rw [HL.out, Bool.eq_iff_iff]; simp; omega
              go_wp2
              go_ret
              exact ⟨ret_bool HF.out, rfl⟩
theorem l1In_any (x lo hi : Int) (w : World) : Calls Try.prog 167 #[.int .i64 x, .int .i64 lo, .int .i64 hi] w fun e w' => e = .returned (.bool (decide (lo ≤ x) && decide (x ≤ hi))) ∧ w = w' := by
  by_cases h1 : lo ≤ x
  · by_cases h2 : x ≤ hi
    · go_enter Try.func167, Try.ntmps167
      go_wp2
      go_ret
      exact ⟨ret_bool (by simp; omega), rfl⟩
    · go_enter Try.func167, Try.ntmps167
      go_wp2
      go_ret
      exact ⟨ret_bool (by simp; omega), rfl⟩
  · go_enter Try.func167, Try.ntmps167
    go_wp2
    go_ret
    exact ⟨ret_bool (by simp; omega), rfl⟩
theorem l2Part_any (x : Int) (w : World) : Calls Try.prog 176 #[.int .i64 x] w fun e w' => e = .returned (.bool (isPartB x)) ∧ w = w' := by
  go_enter Try.func176, Try.ntmps176
  go_wp2_with (go_at_call 167; refine (l1In_any _ _ _ _).mono ?_; rintro e w' ⟨rfl, rfl⟩)
  go_ret
  exact ⟨ret_bool (by simp [isPartB]), rfl⟩
theorem SizeValid_any (x : Int) (w : World) : Calls Try.prog 166 #[.int .i64 x] w fun e w' => e = .returned (.bool (sizeB x)) ∧ w = w' := by
  go_enter Try.func166, Try.ntmps166
  go_wp2_with (go_at_call 167; refine (l1In_any _ _ _ _).mono ?_; rintro e w' ⟨rfl, rfl⟩)
  go_ret
  exact ⟨ret_bool (by simp [sizeB]), rfl⟩
theorem isSize_any (x : Int) (w : World) : Calls Try.prog 100 #[.int .i64 x] w fun e w' => e = .returned (.bool (sizeB x)) ∧ w = w' := by
  by_cases h1 : 1 ≤ x
  · by_cases h2 : x ≤ 4
    · go_enter Try.func100, Try.ntmps100
      go_wp2
      go_ret
      exact ⟨ret_bool (by simp [sizeB]; omega), rfl⟩
    · go_enter Try.func100, Try.ntmps100
      go_wp2
      go_ret
      exact ⟨ret_bool (by simp [sizeB]; omega), rfl⟩
  · go_enter Try.func100, Try.ntmps100
    go_wp2
    go_ret
    exact ⟨ret_bool (by simp [sizeB]; omega), rfl⟩
theorem l5Table_any (a : Option Addr) (n c : Nat) (xs : List Int) (w : World) (hr : Row w a n xs) (hn : n ≤ 1048576) :
    Calls Try.prog 149 #[.slice a n c] w fun e w' => e = .returned (.bool (tableB xs)) ∧ w = w' := by
  go_enter Try.func149, Try.ntmps149
  go_wp2
  go_loop [3] (fun i => ∃ k : Nat, k ≤ n ∧ i = .int .i64 k ∧ (xs.take k).all isPartB = true) (fun i => n - (intOf i).toNat)
  case atStart => exact ⟨0, Nat.zero_le _, rfl, rfl⟩
  case round =>
    obtain ⟨k, hk, rfl, hall⟩ := hrel
    have HA := Lib.hid hall; clear hall
    by_cases hlt : k < n
    · obtain ⟨b, off, x, rfl, hx, hc⟩ := hr.at_ hlt
      have HX := Lib.hid hx; clear hx
      by_cases hp : isPartB x = true
      · go_wp2_with (go_at_call 176; refine (l2Part_any _ _).mono ?_; rintro e w' ⟨rfl, rfl⟩)
        go_round
        case rel => exact ⟨k + 1, by omega, by go_num, by rw [all_take_snoc _ _ _ (by rw [hr.1]; exact hlt), HA.out, ← HX.out, hp]; rfl⟩
        case measure => simp [intOf]; omega
      · go_wp2_with (go_at_call 176; refine (l2Part_any _ _).mono ?_; rintro e w' ⟨rfl, rfl⟩)
        go_ret
        exact ⟨ret_bool (by rw [tableB, all_false_of _ xs k (by rw [hr.1]; exact hlt) (by rw [← HX.out]; simpa using hp)]; rfl), rfl⟩
    · have hk' : k = n := by omega
      have HL : Hid (tableB xs = (n == 2 || n == 4 || n == 8 || n == 16)) := by
        have h1 := hr.1
        have h2 := HA.out
        rw [List.take_of_length_le (by omega)] at h2
        show _ = _
        rw [tableB, h2, h1]; rfl
      clear HA hr
      subst hk'
      by_cases h2 : k = 2
      · subst h2
        go_wp2
        go_ret
        exact ⟨ret_bool (by rw [HL.out]; rfl), rfl⟩
      · by_cases h4 : k = 4
        · subst h4
          go_wp2
          go_ret
          exact ⟨ret_bool (by rw [HL.out]; rfl), rfl⟩
        · by_cases h8 : k = 8
          · subst h8
            go_wp2
            go_ret
            exact ⟨ret_bool (by rw [HL.out]; rfl), rfl⟩
          · by_cases h16 : k = 16
            · subst h16
              go_wp2
              go_ret
              exact ⟨ret_bool (by rw [HL.out]; rfl), rfl⟩
            · have HF : Hid (((k : Int) == 2 || (k : Int) == 4 || (k : Int) == 8 || (k : Int) == 16) = tableB xs) := by
                show _ = _; rw [HL.out, Bool.eq_iff_iff]; simp; omega
              go_wp2
              go_ret
              exact ⟨ret_bool HF.out, rfl⟩
end Go.Proofs.Ytffkpmmgfgcngaa
