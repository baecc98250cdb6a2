/- Contracts of SumsBelow, SumsAbove, PartsBelow, PartsAbove of the program. -/
import Derived.Test.YtapkppnjgbcklaaW7
namespace Go.Proofs.Ytapkppnjgbcklaa
open Go.RowKit

theorem xor_lt16 {i j : Nat} (hi : i < 16) (hj : j < 16) : i ^^^ j < 16 := xor_lt (n := 16) (by omega) hi hj
theorem clopartsAbove (i j : Nat) (w : World) (hi : i < 16) (hj : j < 16) : Calls Try.prog 127 #[.int .i64 i, .int .i64 j] w fun e w' => e = .returned (.int .i64 (facS true true i j)) ∧ w = w' := by
  have e1 := bits_andNot i j hi hj
  have e2 := bits_xor i j hi hj
  have hS : Calls Try.prog 126 #[.int .i64 ((i ^^^ j : Nat) : Int)] w fun e w' => e = .returned (.int .i64 (sgn (i ^^^ j))) ∧ w = w' := signOf_any (i ^^^ j) w (xor_lt16 hi hj)
  obtain ⟨q, hq⟩ : ∃ q : Nat, q = i &&& (15 - j) := ⟨_, rfl⟩
  rw [← hq] at e1
  obtain ⟨s, hs⟩ : ∃ s : Int, s = sgn (i ^^^ j) := ⟨_, rfl⟩
  rw [← hs] at hS
  by_cases h0 : q = 0
  · have HN : Hid (facS true true i j = s) := by
      show _ = _
      rw [facS]; simp [subB, ← hq, h0, hs]
    clear hq hs
    obtain ⟨u, hu⟩ : ∃ u : Nat, u = i ^^^ j := ⟨_, rfl⟩
    rw [← hu] at e2 hS
    clear hu
    have HS := Lib.hid hS; clear hS
    subst h0
    go_enter Try.func127, Try.ntmps127
    go_wp2_with (go_at_call 126; refine HS.out.mono ?_; rintro e w' ⟨rfl, rfl⟩)
    go_ret
    exact ⟨ret_int HN.out.symm, rfl⟩
  · have HN : Hid (facS true true i j = 0) := by
      show _ = _
      rw [facS]; simp [subB, ← hq, h0]
    have hne : ((q : Int) != 0) = true := by simp; omega
    clear hq hs hS e2
    go_enter Try.func127, Try.ntmps127
    go_wp2
    go_ret
    exact ⟨ret_int HN.out.symm, rfl⟩
theorem partsAbove_any (a : Option Addr) (n c : Nat) (xs : List Int) (w : World) (hr : Row w a n xs) (hn : n ≤ 16) (hb : ∀ k, k < n → -4000000000 ≤ xs.getD k 0 ∧ xs.getD k 0 ≤ 4000000000) :
    Calls Try.prog 92 #[.slice a n c] w fun e w' => ∃ A C, e = .returned (.slice A n C) ∧ Own w.heap.size w' A n C (sums true true xs) ∧ Below w.heap.size w w' := by
  have hO := overSets_any 127 (fun _ _ => by kernel_rfl) (facS true true) (fun i j w hi hj => clopartsAbove i j w hi hj) (facS_bound _ _) a n c xs w hr hn hb
  have HO := Lib.hid hO; clear hO
  have HE : Hid (tab n (over (facS true true) xs n) = sums true true xs) := by show _ = _; rw [sums, hr.1]
  clear hr hb
  go_enter Try.func92, Try.ntmps92
  go_wp2_with fail
  refine HO.out.mono ?_
  rintro e w' ⟨A, C, rfl, ho, hb⟩
  have HOW := Lib.hid ho; clear ho
  go_wp2_with fail
  go_ret
  exact ⟨A, C, rfl, by rw [← HE.out]; exact HOW.out, hb⟩
theorem clopartsBelow (i j : Nat) (w : World) (hi : i < 16) (hj : j < 16) : Calls Try.prog 125 #[.int .i64 i, .int .i64 j] w fun e w' => e = .returned (.int .i64 (facS false true i j)) ∧ w = w' := by
  have e1 := bits_andNot j i hj hi
  have e2 := bits_xor i j hi hj
  have hS : Calls Try.prog 126 #[.int .i64 ((i ^^^ j : Nat) : Int)] w fun e w' => e = .returned (.int .i64 (sgn (i ^^^ j))) ∧ w = w' := signOf_any (i ^^^ j) w (xor_lt16 hi hj)
  obtain ⟨q, hq⟩ : ∃ q : Nat, q = j &&& (15 - i) := ⟨_, rfl⟩
  rw [← hq] at e1
  obtain ⟨s, hs⟩ : ∃ s : Int, s = sgn (i ^^^ j) := ⟨_, rfl⟩
  rw [← hs] at hS
  by_cases h0 : q = 0
  · have HN : Hid (facS false true i j = s) := by
      show _ = _
      rw [facS]; simp [subB, ← hq, h0, hs]
    clear hq hs
    obtain ⟨u, hu⟩ : ∃ u : Nat, u = i ^^^ j := ⟨_, rfl⟩
    rw [← hu] at e2 hS
    clear hu
    have HS := Lib.hid hS; clear hS
    subst h0
    go_enter Try.func125, Try.ntmps125
    go_wp2_with (go_at_call 126; refine HS.out.mono ?_; rintro e w' ⟨rfl, rfl⟩)
    go_ret
    exact ⟨ret_int HN.out.symm, rfl⟩
  · have HN : Hid (facS false true i j = 0) := by
      show _ = _
      rw [facS]; simp [subB, ← hq, h0]
    have hne : ((q : Int) != 0) = true := by simp; omega
    clear hq hs hS e2
    go_enter Try.func125, Try.ntmps125
    go_wp2
    go_ret
    exact ⟨ret_int HN.out.symm, rfl⟩
theorem partsBelow_any (a : Option Addr) (n c : Nat) (xs : List Int) (w : World) (hr : Row w a n xs) (hn : n ≤ 16) (hb : ∀ k, k < n → -4000000000 ≤ xs.getD k 0 ∧ xs.getD k 0 ≤ 4000000000) :
    Calls Try.prog 91 #[.slice a n c] w fun e w' => ∃ A C, e = .returned (.slice A n C) ∧ Own w.heap.size w' A n C (sums false true xs) ∧ Below w.heap.size w w' := by
  have hO := overSets_any 125 (fun _ _ => by kernel_rfl) (facS false true) (fun i j w hi hj => clopartsBelow i j w hi hj) (facS_bound _ _) a n c xs w hr hn hb
  have HO := Lib.hid hO; clear hO
  have HE : Hid (tab n (over (facS false true) xs n) = sums false true xs) := by show _ = _; rw [sums, hr.1]
  clear hr hb
  go_enter Try.func91, Try.ntmps91
  go_wp2_with fail
  refine HO.out.mono ?_
  rintro e w' ⟨A, C, rfl, ho, hb⟩
  have HOW := Lib.hid ho; clear ho
  go_wp2_with fail
  go_ret
  exact ⟨A, C, rfl, by rw [← HE.out]; exact HOW.out, hb⟩
