/- Contracts: texts of sets and of numbers. -/
import Derived.Test.YtlfajalhoifliaaGreatDoorW5
import Derived.Test.YtlfajalhoifliaaGreatDoorW3
import Derived.Lib.ItoaMem
import Derived.Laws.IdiomStrings
namespace Go.Proofs.YtlfajalhoifliaaGreatDoor
open Go.RowKit

/-- a text as the string that the walk shows -/
def bs (l : List UInt8) : ByteArray := ⟨l.toArray⟩
theorem bs_append (a b : List UInt8) : bs a ++ bs b = bs (a ++ b) := by
  apply ByteArray.ext
  simp [bs]
theorem bs_size (l : List UInt8) : (bs l).size = l.length := by simp [bs, ByteArray.size]
theorem bs_inj {a b : List UInt8} (h : bs a = bs b) : a = b := by
  have h1 := congrArg ByteArray.data h
  simpa [bs] using h1
theorem bs_toList (l : List UInt8) : (bs l).toList = l := by
  rw [ByteArray.toList_eq]
  simp [bs]
theorem bs_list (s : ByteArray) : ∃ l, s = bs l := ⟨s.data.toList, by simp [bs]⟩
/-- the letters of the first answers of a set -/
def ansL (a : Nat) : Nat → List UInt8
  | 0 => []
  | x + 1 => if hasB a x = true then ansL a x ++ [UInt8.ofNat (97 + x)] else ansL a x
theorem ansL_le (a : Nat) : ∀ x, (ansL a x).length ≤ x
  | 0 => by simp [ansL]
  | x + 1 => by
    have := ansL_le a x
    unfold ansL
    split <;> simp <;> omega
/-- the text of a set -/
def setL (a : Nat) : List UInt8 := if ansL a 4 = [] then [45] else ansL a 4
theorem shr_at2 : ∀ a : Fin 16, (bits .and .i64 (a.val : Int) 1 == 1) = hasB a.val 0 ∧ (bits .and .i64 ((a.val : Int) / 2) 1 == 1) = hasB a.val 1 ∧ (bits .and .i64 ((a.val : Int) / 4) 1 == 1) = hasB a.val 2 ∧ (bits .and .i64 ((a.val : Int) / 8) 1 == 1) = hasB a.val 3 := by decide +kernel
set_option maxHeartbeats 1600000 in
set_option maxRecDepth 100000 in
theorem setText_any (a : Nat) (w : World) (ha : a < 16) :
    Calls Tryz.prog 17 #[.int .i64 a] w fun e w' => e = .returned (.string (bs (setL a))) ∧ w = w' := by
  have hsr := shr_at2 ⟨a, ha⟩
  simp only at hsr
  have HSR := Lib.hid hsr
  clear hsr
  go_enter Tryz.func17, Tryz.ntmps17
  go_wp2_with fail
  go_loop [3, 5] (fun v i => ∃ k : Nat, k ≤ 4 ∧ i = .int .i64 k ∧ v = .string (bs (ansL a k))) (fun _ i => 4 - (intOf i).toNat)
  case atStart => exact ⟨0, by omega, rfl, rfl⟩
  case round =>
    obtain ⟨k, hk, rfl, rfl⟩ := hrel
    obtain ⟨S, hS⟩ : ∃ S, S = bs (ansL a k) := ⟨_, rfl⟩
    have hsz : S.size ≤ 4 := by have := ansL_le a k; rw [hS, bs_size]; omega
    by_cases hlt : k < 4
    · have HQ : Hid (bs (ansL a (k + 1)) = if hasB a k = true then S ++ bs [UInt8.ofNat (97 + k)] else S) := by
        show _ = _
        rw [hS]
        simp only [ansL]
        split
        · rw [bs_append]
        · rfl
      rw [← hS]
      have h4 : k = 0 ∨ k = 1 ∨ k = 2 ∨ k = 3 := by omega
      clear hS
      rcases h4 with rfl | rfl | rfl | rfl
      · have hbit := HSR.out.1
        by_cases hh : hasB a 0 = true
        · rw [hh] at hbit
          rw [if_pos hh] at HQ
          clear hh
          go_wp2_with fail
          go_round
          case rel => exact ⟨1, by omega, by go_num, by rw [HQ.out]; rfl⟩
          case measure => simp [intOf]
        · have hh' : hasB a 0 = false := by simpa using hh
          rw [hh'] at hbit
          rw [if_neg hh] at HQ
          clear hh hh'
          go_wp2_with fail
          go_round
          case rel => exact ⟨1, by omega, by go_num, by rw [HQ.out]⟩
          case measure => simp [intOf]
      · have hbit := HSR.out.2.1
        by_cases hh : hasB a 1 = true
        · rw [hh] at hbit
          rw [if_pos hh] at HQ
          clear hh
          go_wp2_with fail
          go_round
          case rel => exact ⟨2, by omega, by go_num, by rw [HQ.out]; rfl⟩
          case measure => simp [intOf]
        · have hh' : hasB a 1 = false := by simpa using hh
          rw [hh'] at hbit
          rw [if_neg hh] at HQ
          clear hh hh'
          go_wp2_with fail
          go_round
          case rel => exact ⟨2, by omega, by go_num, by rw [HQ.out]⟩
          case measure => simp [intOf]
      · have hbit := HSR.out.2.2.1
        by_cases hh : hasB a 2 = true
        · rw [hh] at hbit
          rw [if_pos hh] at HQ
          clear hh
          go_wp2_with fail
          go_round
          case rel => exact ⟨3, by omega, by go_num, by rw [HQ.out]; rfl⟩
          case measure => simp [intOf]
        · have hh' : hasB a 2 = false := by simpa using hh
          rw [hh'] at hbit
          rw [if_neg hh] at HQ
          clear hh hh'
          go_wp2_with fail
          go_round
          case rel => exact ⟨3, by omega, by go_num, by rw [HQ.out]⟩
          case measure => simp [intOf]
      · have hbit := HSR.out.2.2.2
        by_cases hh : hasB a 3 = true
        · rw [hh] at hbit
          rw [if_pos hh] at HQ
          clear hh
          go_wp2_with fail
          go_round
          case rel => exact ⟨4, by omega, by go_num, by rw [HQ.out]; rfl⟩
          case measure => simp [intOf]
        · have hh' : hasB a 3 = false := by simpa using hh
          rw [hh'] at hbit
          rw [if_neg hh] at HQ
          clear hh hh'
          go_wp2_with fail
          go_round
          case rel => exact ⟨4, by omega, by go_num, by rw [HQ.out]⟩
          case measure => simp [intOf]
    · obtain rfl : k = 4 := by omega
      by_cases he : ansL a 4 = []
      · have HO : Hid (bs (setL a) = { data := #[45] }) := by show _ = _; rw [setL, if_pos he]; rfl
        have hS2 : S.toList = [] := by rw [hS, he]; decide +kernel
        rw [← hS]
        clear hS he
        go_wp2_with fail
        go_ret
        exact ⟨by rw [HO.out] <;> rfl, rfl⟩
      · have HO : Hid (bs (setL a) = S) := by show _ = _; rw [setL, if_neg he, hS]
        have hS2 : (S.toList == []) = false := by
          cases h : S.toList with
          | nil => exact absurd (by have h2 := bs_toList (ansL a 4); rw [← hS, h] at h2; exact h2.symm) he
          | cons x r => rfl
        rw [← hS]
        clear hS he
        go_wp2_with fail
        go_ret
        exact ⟨by rw [HO.out] <;> rfl, rfl⟩
theorem anyText_any (x : Int) (w : World) : Calls Tryz.prog 47 #[.int .i64 x] w fun e w' => e = .returned (.bool (decide (0 ≤ x) && decide (x ≤ 15))) ∧ w = w' := by
  have H := Lib.hid (fun W => l1In_any x 0 15 W)
  go_enter Tryz.func47, Tryz.ntmps47
  go_wp2_with fail
  refine (H.out _).mono ?_
  rintro e w1 ⟨rfl, rfl⟩
  go_wp2_with fail
  go_ret
  exact ⟨rfl, rfl⟩
set_option maxHeartbeats 1600000 in
set_option maxRecDepth 100000 in
theorem FormatSet_any (a : Nat) (w : World) (ha : a < 16) :
    Calls Tryz.prog 21 #[.int .i64 a] w fun e w' => e = .returned (.string (bs (setL a))) ∧ w = w' := by
  have HA := Lib.hid (fun W => anyText_any (a : Int) W)
  rw [show (decide (0 ≤ (a : Int)) && decide ((a : Int) ≤ 15)) = true by simp; omega] at HA
  go_enter Tryz.func21, Tryz.ntmps21
  go_wp2_with fail
  refine (HA.out _).mono ?_
  rintro e w' ⟨rfl, rfl⟩
  go_wp2_with fail
  go_loop [3, 4] (fun v i => ∃ k : Nat, k ≤ 4 ∧ i = .int .i64 k ∧ v = .string (bs (ansL a k))) (fun _ i => 4 - (intOf i).toNat)
  case atStart => exact ⟨0, by omega, rfl, rfl⟩
  case round =>
    obtain ⟨k, hk, rfl, rfl⟩ := hrel
    obtain ⟨S, hS⟩ : ∃ S, S = bs (ansL a k) := ⟨_, rfl⟩
    have hsz : S.size ≤ 4 := by have := ansL_le a k; rw [hS, bs_size]; omega
    by_cases hlt : k < 4
    · have HQ : Hid (bs (ansL a (k + 1)) = if hasB a k = true then S ++ bs [UInt8.ofNat (97 + k)] else S) := by
        show _ = _
        rw [hS]
        simp only [ansL]
        split
        · rw [bs_append]
        · rfl
      rw [← hS]
      have HH := Lib.hid (fun W => l1Has_any a k W ha hlt)
      have h4 : k = 0 ∨ k = 1 ∨ k = 2 ∨ k = 3 := by omega
      clear hS
      by_cases hh : hasB a k = true
      · rw [hh] at HH
        rw [if_pos hh] at HQ
        clear hh
        rcases h4 with rfl | rfl | rfl | rfl
        all_goals
          go_wp2_with (go_at_call 48; refine (HH.out _).mono ?_; rintro e w' ⟨rfl, rfl⟩)
          go_round
          case rel => first | exact ⟨1, by omega, by go_num, by rw [HQ.out]; rfl⟩ | exact ⟨2, by omega, by go_num, by rw [HQ.out]; rfl⟩ | exact ⟨3, by omega, by go_num, by rw [HQ.out]; rfl⟩ | exact ⟨4, by omega, by go_num, by rw [HQ.out]; rfl⟩
          case measure => simp [intOf]
      · have hh' : hasB a k = false := by simpa using hh
        rw [hh'] at HH
        rw [if_neg hh] at HQ
        clear hh hh'
        rcases h4 with rfl | rfl | rfl | rfl
        all_goals
          go_wp2_with (go_at_call 48; refine (HH.out _).mono ?_; rintro e w' ⟨rfl, rfl⟩)
          go_round
          case rel => first | exact ⟨1, by omega, by go_num, by rw [HQ.out]⟩ | exact ⟨2, by omega, by go_num, by rw [HQ.out]⟩ | exact ⟨3, by omega, by go_num, by rw [HQ.out]⟩ | exact ⟨4, by omega, by go_num, by rw [HQ.out]⟩
          case measure => simp [intOf]
    · obtain rfl : k = 4 := by omega
      by_cases he : ansL a 4 = []
      · have HO : Hid (bs (setL a) = { data := #[45] }) := by show _ = _; rw [setL, if_pos he]; rfl
        have hS2 : S.toList = [] := by rw [hS, he]; decide +kernel
        rw [← hS]
        clear hS he
        go_wp2_with fail
        go_ret
        exact ⟨by rw [HO.out] <;> rfl, rfl⟩
      · have HO : Hid (bs (setL a) = S) := by show _ = _; rw [setL, if_neg he, hS]
        have hS2 : (S.toList == []) = false := by
          cases h : S.toList with
          | nil => exact absurd (by have h2 := bs_toList (ansL a 4); rw [← hS, h] at h2; exact h2.symm) he
          | cons x r => rfl
        rw [← hS]
        clear hS he
        go_wp2_with fail
        go_ret
        exact ⟨by rw [HO.out] <;> rfl, rfl⟩
/-- a string of one digit -/
theorem conv_one (w : World) (z : Int) (d : Nat) (hd : d ≤ 9) (hz : z = 48 + d) :
    Sem.run Tryz.prog (convert 22 9 (.slice (some ⟨w.heap.size, 0, none⟩) 1 1)) (w.alloc (.cells #[.int .u8 z] 5)) = .ok (.string (bs [UInt8.ofNat (48 + d)])) (w.alloc (.cells #[.int .u8 z] 5)) := by
  subst hz
  refine run_convert_bytes_back (P := Tryz.prog) _ 22 9 5 ⟨w.heap.size, 0, none⟩ 1 [UInt8.ofNat (48 + d)] Tryz.underlying22 Tryz.underlying5 Tryz.underlying9 ?_
  intro j hj
  obtain rfl : j = 0 := by simp at hj; omega
  have h1 : (w.alloc (.cells #[.int .u8 (48 + (d : Int))] 5)).cell? ⟨w.heap.size, 0, none⟩ = some (.int .u8 (48 + (d : Int))) := by
    rw [cell_of_row _ _ _ _ _ _ (heap_alloc_new w _)]; rfl
  rw [Addr.add_lit, Nat.add_zero, h1]
  simp
  omega
theorem dec_step {m : Nat} (h : 9 < m) : Go.Lib.decDigits m = Go.Lib.decDigits (m / 10) ++ [UInt8.ofNat (48 + m % 10)] := by
  rw [Go.Lib.decDigits, dif_neg (by omega)]
theorem dec_short {len : Nat} (h : 10 ^ len ≤ 1000000000) : len ≤ 9 := by
  rcases Nat.lt_or_ge 9 len with h1 | h1
  · have h2 : 10 ^ 10 ≤ 10 ^ len := Nat.pow_le_pow_right (by decide) h1
    omega
  · exact h1
set_option maxHeartbeats 1600000 in
set_option maxRecDepth 100000 in
theorem l14Dec_any (n : Nat) (w : World) (hn : n ≤ 1000000000) :
    Calls Tryz.prog 20 #[.int .i64 n] w fun e w' => e = .returned (.string (bs (Go.Lib.decDigits n))) ∧ Below w.heap.size w w' := by
  go_enter Tryz.func20, Tryz.ntmps20
  go_wp2_with fail
  go_loopw [0, 3] (fun i v wr => ∃ (m : Nat) (t : List UInt8), m ≤ n ∧ i = .int .i64 m ∧ v = .string (bs t) ∧ t.length ≤ 20 ∧ Hid (m * 10 ^ t.length ≤ n) ∧ Hid (Go.Lib.decDigits n = Go.Lib.decDigits m ++ t) ∧ Hid (Below w.heap.size w wr)) (fun i _ _ => (intOf i).toNat)
  case atStart => exact ⟨n, [], Nat.le_refl _, rfl, rfl, by simp, by show _ ≤ _; simp, (List.append_nil _).symm, Below.refl _ _⟩
  case round =>
    obtain ⟨m, t, hm, rfl, rfl, ht, HP, HD, HB⟩ := hrel
    obtain ⟨T, hT⟩ : ∃ T, T = bs t := ⟨_, rfl⟩
    have hTs : T.size ≤ 20 := by rw [hT, bs_size]; exact ht
    have HT := Lib.hid hT
    rw [← hT]
    clear hT
    by_cases h9 : 9 < m
    · have hcv := conv_one wr (48 + (m : Int) % 10) (m % 10) (by omega) (by omega)
      obtain ⟨D, hD⟩ : ∃ D, D = bs [UInt8.ofNat (48 + m % 10)] := ⟨_, rfl⟩
      have hDs : D.size ≤ 1 := by rw [hD, bs_size]; simp
      rw [← hD] at hcv
      have HDD := Lib.hid hD
      clear hD
      go_wp2_with fail
      go_roundw
      case rel =>
        have hp := HP.out
        have hp2 : m / 10 * 10 ^ (t.length + 1) ≤ n := by
          have h1 : m / 10 * 10 ≤ m := Nat.div_mul_le_self m 10
          have h2 := Nat.mul_le_mul_right (10 ^ t.length) h1
          rw [Nat.pow_succ, Nat.mul_comm (10 ^ t.length) 10, ← Nat.mul_assoc]
          omega
        have hs : t.length + 1 ≤ 9 := dec_short (by
          have h1 : 1 * 10 ^ (t.length + 1) ≤ m / 10 * 10 ^ (t.length + 1) := Nat.mul_le_mul_right _ (by omega)
          omega)
        exact ⟨m / 10, [UInt8.ofNat (48 + m % 10)] ++ t, by omega, by go_num, by rw [HDD.out, HT.out, bs_append], by simp; omega, by show _ ≤ _; simpa using hp2, by show _ = _; rw [HD.out, dec_step h9, List.append_assoc], HB.out.trans ((Below.refl _ _).alloc HB.out.size _)⟩
      case measure => simp [intOf]; omega
    · have hcv := conv_one wr (48 + (m : Int)) m (by omega) rfl
      obtain ⟨D, hD⟩ : ∃ D, D = bs [UInt8.ofNat (48 + m)] := ⟨_, rfl⟩
      have hDs : D.size ≤ 1 := by rw [hD, bs_size]; simp
      rw [← hD] at hcv
      have HO : Hid (bs (Go.Lib.decDigits n) = D ++ T) := by
        show _ = _
        rw [HD.out, hD, HT.out, bs_append, Go.Lib.decDigits_one (by omega)]
      clear hD
      go_wp2_with fail
      go_ret
      exact ⟨by rw [HO.out] <;> rfl, HB.out.trans ((Below.refl _ _).alloc HB.out.size _)⟩
end Go.Proofs.YtlfajalhoifliaaGreatDoor
