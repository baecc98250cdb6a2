/- Contracts of SumsBelow, SumsAbove, PartsBelow, PartsAbove of the program. -/
import Derived.Test.YtffkpmmgfgcngaaW7
namespace Go.Proofs.Ytffkpmmgfgcngaa
open Go.RowKit

theorem xor_lt16 {i j : Nat} (hi : i < 16) (hj : j < 16) : i ^^^ j < 16 := xor_lt (n := 16) (by omega) hi hj
theorem cloSumsAbove (i j : Nat) (w : World) (hi : i < 16) (hj : j < 16) : Calls Try.prog 148 #[.int .i64 i, .int .i64 j] w fun e w' => e = .returned (.int .i64 (facS true false i j)) ∧ w = w' := by
  have e1 := bits_andNot i j hi hj
  obtain ⟨q, hq⟩ : ∃ q : Nat, q = i &&& (15 - j) := ⟨_, rfl⟩
  rw [← hq] at e1
  by_cases h0 : q = 0
  · have HN : Hid (facS true false i j = 1) := by
      show _ = _
      rw [facS]; simp [subB, ← hq, h0]
    clear hq
    subst h0
    go_enter Try.func148, Try.ntmps148
    go_wp2
    go_ret
    exact ⟨ret_int HN.out.symm, rfl⟩
  · have HN : Hid (facS true false i j = 0) := by
      show _ = _
      rw [facS]; simp [subB, ← hq, h0]
    have hp : 0 < q := by omega
    clear hq
    go_enter Try.func148, Try.ntmps148
    go_wp2
    go_ret
    exact ⟨ret_int HN.out.symm, rfl⟩
theorem iSumsAbove_any (a : Option Addr) (n c : Nat) (xs : List Int) (w : World) (hr : Row w a n xs) (hn : n ≤ 1048576) :
    Calls Try.prog 77 #[.slice a n c] w fun e w' => ∃ A C, e = .returned (.slice A (toldN xs n) C) ∧ Own w.heap.size w' A (toldN xs n) C (told true false xs) ∧ Below w.heap.size w w' := by
  have hT : Calls Try.prog 142 #[.slice a n c] w fun e w' => e = .returned (.bool (tableB xs)) ∧ w = w' := isTable_any a n c xs w hr hn
  by_cases ht : tableB xs = true
  · obtain ⟨hsz, hpt⟩ := table_part hr.1 ht
    have hO := overSets_any 148 (fun _ _ => by kernel_rfl) (facS true false) (fun i j w hi hj => cloSumsAbove i j w hi hj) (facS_bound _ _) a n c xs w hr (by omega) (fun k hk => by have := hpt k hk; omega)
    rw [ht] at hT
    rw [told_yes ht, toldN_yes ht]
    have HT := Lib.hid hT; clear hT
    have HO := Lib.hid hO; clear hO
    have HE : Hid (tab n (over (facS true false) xs n) = sums true false xs) := by show _ = _; rw [sums, hr.1]
    clear ht hsz hpt hr
    go_enter Try.func77, Try.ntmps77
    go_wp2_with (go_at_call 142; refine HT.out.mono ?_; rintro e w' ⟨rfl, rfl⟩)
    refine HO.out.mono ?_
    rintro e w' ⟨A, C, rfl, ho, hb⟩
    have HOW := Lib.hid ho; clear ho
    go_wp2_with fail
    go_ret
    exact ⟨A, C, rfl, by rw [← HE.out]; exact HOW.out, hb⟩
  · have hf : tableB xs = false := by simpa using ht
    rw [hf] at hT
    rw [told_no hf, toldN_no hf]
    have HT := Lib.hid hT; clear hT
    clear ht hf
    go_enter Try.func77, Try.ntmps77
    go_wp2_with (go_at_call 142; refine HT.out.mono ?_; rintro e w' ⟨rfl, rfl⟩)
    go_ret
    exact ⟨none, 0, rfl, Own.nil _ _, Below.refl _ _⟩
theorem cloSumsBelow (i j : Nat) (w : World) (hi : i < 16) (hj : j < 16) : Calls Try.prog 147 #[.int .i64 i, .int .i64 j] w fun e w' => e = .returned (.int .i64 (facS false false i j)) ∧ w = w' := by
  have e1 := bits_andNot j i hj hi
  obtain ⟨q, hq⟩ : ∃ q : Nat, q = j &&& (15 - i) := ⟨_, rfl⟩
  rw [← hq] at e1
  by_cases h0 : q = 0
  · have HN : Hid (facS false false i j = 1) := by
      show _ = _
      rw [facS]; simp [subB, ← hq, h0]
    clear hq
    subst h0
    go_enter Try.func147, Try.ntmps147
    go_wp2
    go_ret
    exact ⟨ret_int HN.out.symm, rfl⟩
  · have HN : Hid (facS false false i j = 0) := by
      show _ = _
      rw [facS]; simp [subB, ← hq, h0]
    have hp : 0 < q := by omega
    clear hq
    go_enter Try.func147, Try.ntmps147
    go_wp2
    go_ret
    exact ⟨ret_int HN.out.symm, rfl⟩
theorem iSumsBelow_any (a : Option Addr) (n c : Nat) (xs : List Int) (w : World) (hr : Row w a n xs) (hn : n ≤ 1048576) :
    Calls Try.prog 76 #[.slice a n c] w fun e w' => ∃ A C, e = .returned (.slice A (toldN xs n) C) ∧ Own w.heap.size w' A (toldN xs n) C (told false false xs) ∧ Below w.heap.size w w' := by
  have hT : Calls Try.prog 142 #[.slice a n c] w fun e w' => e = .returned (.bool (tableB xs)) ∧ w = w' := isTable_any a n c xs w hr hn
  by_cases ht : tableB xs = true
  · obtain ⟨hsz, hpt⟩ := table_part hr.1 ht
    have hO := overSets_any 147 (fun _ _ => by kernel_rfl) (facS false false) (fun i j w hi hj => cloSumsBelow i j w hi hj) (facS_bound _ _) a n c xs w hr (by omega) (fun k hk => by have := hpt k hk; omega)
    rw [ht] at hT
    rw [told_yes ht, toldN_yes ht]
    have HT := Lib.hid hT; clear hT
    have HO := Lib.hid hO; clear hO
    have HE : Hid (tab n (over (facS false false) xs n) = sums false false xs) := by show _ = _; rw [sums, hr.1]
    clear ht hsz hpt hr
    go_enter Try.func76, Try.ntmps76
    go_wp2_with (go_at_call 142; refine HT.out.mono ?_; rintro e w' ⟨rfl, rfl⟩)
    refine HO.out.mono ?_
    rintro e w' ⟨A, C, rfl, ho, hb⟩
    have HOW := Lib.hid ho; clear ho
    go_wp2_with fail
    go_ret
    exact ⟨A, C, rfl, by rw [← HE.out]; exact HOW.out, hb⟩
  · have hf : tableB xs = false := by simpa using ht
    rw [hf] at hT
    rw [told_no hf, toldN_no hf]
    have HT := Lib.hid hT; clear hT
    clear ht hf
    go_enter Try.func76, Try.ntmps76
    go_wp2_with (go_at_call 142; refine HT.out.mono ?_; rintro e w' ⟨rfl, rfl⟩)
    go_ret
    exact ⟨none, 0, rfl, Own.nil _ _, Below.refl _ _⟩
theorem clopartsAbove (i j : Nat) (w : World) (hi : i < 16) (hj : j < 16) : Calls Try.prog 175 #[.int .i64 i, .int .i64 j] w fun e w' => e = .returned (.int .i64 (facS true true i j)) ∧ w = w' := by
  have e1 := bits_andNot i j hi hj
  have e2 := bits_xor i j hi hj
  have hS : Calls Try.prog 132 #[.int .i64 ((i ^^^ j : Nat) : Int)] w fun e w' => e = .returned (.int .i64 (sgn (i ^^^ j))) ∧ w = w' := signOf_any (i ^^^ j) w (xor_lt16 hi hj)
  obtain ⟨q, hq⟩ : ∃ q : Nat, q = i &&& (15 - j) := ⟨_, rfl⟩
  rw [← hq] at e1
  obtain ⟨s, hs⟩ : ∃ s : Int, s = sgn (i ^^^ j) := ⟨_, rfl⟩
  rw [← hs] at hS
  by_cases h0 : q = 0
  · have HN : Hid (facS true true i j = s) := by
      show _ = _
      rw [facS]; simp [subB, ← hq, h0, hs]
    clear hq hs
    obtain ⟨u, hu⟩ : ∃ u : Nat, u = i ^^^ j := ⟨_, rfl⟩
    rw [← hu] at e2 hS
    clear hu
    have HS := Lib.hid hS; clear hS
    subst h0
    go_enter Try.func175, Try.ntmps175
    go_wp2_with (go_at_call 132; refine HS.out.mono ?_; rintro e w' ⟨rfl, rfl⟩)
    go_ret
    exact ⟨ret_int HN.out.symm, rfl⟩
  · have HN : Hid (facS true true i j = 0) := by
      show _ = _
      rw [facS]; simp [subB, ← hq, h0]
    have hne : ((q : Int) != 0) = true := by simp; omega
    clear hq hs hS e2
    go_enter Try.func175, Try.ntmps175
    go_wp2
    go_ret
    exact ⟨ret_int HN.out.symm, rfl⟩
theorem partsAbove_any (a : Option Addr) (n c : Nat) (xs : List Int) (w : World) (hr : Row w a n xs) (hn : n ≤ 16) (hb : ∀ k, k < n → -4000000000 ≤ xs.getD k 0 ∧ xs.getD k 0 ≤ 4000000000) :
    Calls Try.prog 144 #[.slice a n c] w fun e w' => ∃ A C, e = .returned (.slice A n C) ∧ Own w.heap.size w' A n C (sums true true xs) ∧ Below w.heap.size w w' := by
  have hO := overSets_any 175 (fun _ _ => by kernel_rfl) (facS true true) (fun i j w hi hj => clopartsAbove i j w hi hj) (facS_bound _ _) a n c xs w hr hn hb
  have HO := Lib.hid hO; clear hO
  have HE : Hid (tab n (over (facS true true) xs n) = sums true true xs) := by show _ = _; rw [sums, hr.1]
  clear hr hb
  go_enter Try.func144, Try.ntmps144
  go_wp2_with fail
  refine HO.out.mono ?_
  rintro e w' ⟨A, C, rfl, ho, hb⟩
  have HOW := Lib.hid ho; clear ho
  go_wp2_with fail
  go_ret
  exact ⟨A, C, rfl, by rw [← HE.out]; exact HOW.out, hb⟩
theorem iPartsAbove_any (a : Option Addr) (n c : Nat) (xs : List Int) (w : World) (hr : Row w a n xs) (hn : n ≤ 1048576) :
    Calls Try.prog 73 #[.slice a n c] w fun e w' => ∃ A C, e = .returned (.slice A (toldN xs n) C) ∧ Own w.heap.size w' A (toldN xs n) C (told true true xs) ∧ Below w.heap.size w w' := by
  have hT : Calls Try.prog 142 #[.slice a n c] w fun e w' => e = .returned (.bool (tableB xs)) ∧ w = w' := isTable_any a n c xs w hr hn
  by_cases ht : tableB xs = true
  · obtain ⟨hsz, hpt⟩ := table_part hr.1 ht
    have hO := partsAbove_any a n c xs w hr (by omega) (fun k hk => by have := hpt k hk; omega)
    rw [ht] at hT
    rw [told_yes ht, toldN_yes ht]
    have HT := Lib.hid hT; clear hT
    have HO := Lib.hid hO; clear hO
    clear ht hsz hpt hr
    go_enter Try.func73, Try.ntmps73
    go_wp2_with (go_at_call 142; refine HT.out.mono ?_; rintro e w' ⟨rfl, rfl⟩)
    refine HO.out.mono ?_
    rintro e w' ⟨A, C, rfl, ho, hb⟩
    have HOW := Lib.hid ho; clear ho
    go_wp2_with fail
    go_ret
    exact ⟨A, C, rfl, HOW.out, hb⟩
  · have hf : tableB xs = false := by simpa using ht
    rw [hf] at hT
    rw [told_no hf, toldN_no hf]
    have HT := Lib.hid hT; clear hT
    clear ht hf
    go_enter Try.func73, Try.ntmps73
    go_wp2_with (go_at_call 142; refine HT.out.mono ?_; rintro e w' ⟨rfl, rfl⟩)
    go_ret
    exact ⟨none, 0, rfl, Own.nil _ _, Below.refl _ _⟩
theorem clopartsBelow (i j : Nat) (w : World) (hi : i < 16) (hj : j < 16) : Calls Try.prog 174 #[.int .i64 i, .int .i64 j] w fun e w' => e = .returned (.int .i64 (facS false true i j)) ∧ w = w' := by
  have e1 := bits_andNot j i hj hi
  have e2 := bits_xor i j hi hj
  have hS : Calls Try.prog 132 #[.int .i64 ((i ^^^ j : Nat) : Int)] w fun e w' => e = .returned (.int .i64 (sgn (i ^^^ j))) ∧ w = w' := signOf_any (i ^^^ j) w (xor_lt16 hi hj)
  obtain ⟨q, hq⟩ : ∃ q : Nat, q = j &&& (15 - i) := ⟨_, rfl⟩
  rw [← hq] at e1
  obtain ⟨s, hs⟩ : ∃ s : Int, s = sgn (i ^^^ j) := ⟨_, rfl⟩
  rw [← hs] at hS
  by_cases h0 : q = 0
  · have HN : Hid (facS false true i j = s) := by
      show _ = _
      rw [facS]; simp [subB, ← hq, h0, hs]
    clear hq hs
    obtain ⟨u, hu⟩ : ∃ u : Nat, u = i ^^^ j := ⟨_, rfl⟩
    rw [← hu] at e2 hS
    clear hu
    have HS := Lib.hid hS; clear hS
    subst h0
    go_enter Try.func174, Try.ntmps174
    go_wp2_with (go_at_call 132; refine HS.out.mono ?_; rintro e w' ⟨rfl, rfl⟩)
    go_ret
    exact ⟨ret_int HN.out.symm, rfl⟩
  · have HN : Hid (facS false true i j = 0) := by
      show _ = _
      rw [facS]; simp [subB, ← hq, h0]
    have hne : ((q : Int) != 0) = true := by simp; omega
    clear hq hs hS e2
    go_enter Try.func174, Try.ntmps174
    go_wp2
    go_ret
    exact ⟨ret_int HN.out.symm, rfl⟩
theorem partsBelow_any (a : Option Addr) (n c : Nat) (xs : List Int) (w : World) (hr : Row w a n xs) (hn : n ≤ 16) (hb : ∀ k, k < n → -4000000000 ≤ xs.getD k 0 ∧ xs.getD k 0 ≤ 4000000000) :
    Calls Try.prog 143 #[.slice a n c] w fun e w' => ∃ A C, e = .returned (.slice A n C) ∧ Own w.heap.size w' A n C (sums false true xs) ∧ Below w.heap.size w w' := by
  have hO := overSets_any 174 (fun _ _ => by kernel_rfl) (facS false true) (fun i j w hi hj => clopartsBelow i j w hi hj) (facS_bound _ _) a n c xs w hr hn hb
  have HO := Lib.hid hO; clear hO
  have HE : Hid (tab n (over (facS false true) xs n) = sums false true xs) := by show _ = _; rw [sums, hr.1]
  clear hr hb
  go_enter Try.func143, Try.ntmps143
  go_wp2_with fail
  refine HO.out.mono ?_
  rintro e w' ⟨A, C, rfl, ho, hb⟩
  have HOW := Lib.hid ho; clear ho
  go_wp2_with fail
  go_ret
  exact ⟨A, C, rfl, by rw [← HE.out]; exact HOW.out, hb⟩
theorem iPartsBelow_any (a : Option Addr) (n c : Nat) (xs : List Int) (w : World) (hr : Row w a n xs) (hn : n ≤ 1048576) :
    Calls Try.prog 72 #[.slice a n c] w fun e w' => ∃ A C, e = .returned (.slice A (toldN xs n) C) ∧ Own w.heap.size w' A (toldN xs n) C (told false true xs) ∧ Below w.heap.size w w' := by
  have hT : Calls Try.prog 142 #[.slice a n c] w fun e w' => e = .returned (.bool (tableB xs)) ∧ w = w' := isTable_any a n c xs w hr hn
  by_cases ht : tableB xs = true
  · obtain ⟨hsz, hpt⟩ := table_part hr.1 ht
    have hO := partsBelow_any a n c xs w hr (by omega) (fun k hk => by have := hpt k hk; omega)
    rw [ht] at hT
    rw [told_yes ht, toldN_yes ht]
    have HT := Lib.hid hT; clear hT
    have HO := Lib.hid hO; clear hO
    clear ht hsz hpt hr
    go_enter Try.func72, Try.ntmps72
    go_wp2_with (go_at_call 142; refine HT.out.mono ?_; rintro e w' ⟨rfl, rfl⟩)
    refine HO.out.mono ?_
    rintro e w' ⟨A, C, rfl, ho, hb⟩
    have HOW := Lib.hid ho; clear ho
    go_wp2_with fail
    go_ret
    exact ⟨A, C, rfl, HOW.out, hb⟩
  · have hf : tableB xs = false := by simpa using ht
    rw [hf] at hT
    rw [told_no hf, toldN_no hf]
    have HT := Lib.hid hT; clear hT
    clear ht hf
    go_enter Try.func72, Try.ntmps72
    go_wp2_with (go_at_call 142; refine HT.out.mono ?_; rintro e w' ⟨rfl, rfl⟩)
    go_ret
    exact ⟨none, 0, rfl, Own.nil _ _, Below.refl _ _⟩
end Go.Proofs.Ytffkpmmgfgcngaa
