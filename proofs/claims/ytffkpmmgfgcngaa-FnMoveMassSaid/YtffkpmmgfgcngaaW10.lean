/- Contracts of the tables of the reference, and of IsBeliefTable. -/
import Derived.Test.YtffkpmmgfgcngaaW8
import Derived.Test.YtffkpmmgfgcngaaW9
import Derived.Test.YtffkpmmgfgcngaaMath
namespace Go.Proofs.Ytffkpmmgfgcngaa
open Go.RowKit

set_option maxHeartbeats 400000 in
theorem l3Sum_any (a : Option Addr) (n c : Nat) (xs : List Int) (most : Int) (w : World) (hr : Row w a n xs) (hn : n ≤ 1048576) (hm : 0 ≤ most ∧ most ≤ 16000000000) :
    Calls Try.prog 150 #[.slice a n c, .int .i64 most] w fun e w' => e = .returned (.int .i64 (sumMost xs most)) ∧ w = w' := by
  go_enter Try.func150, Try.ntmps150
  go_wp2_with fail
  go_loop [5, 6] (fun s i => ∃ (k : Nat) (z : Int), k ≤ n ∧ i = .int .i64 k ∧ s = .int .i64 z ∧ 0 ≤ z ∧ z ≤ 16000000000 * (k : Int) ∧ Hid ((xs.take k).all (inMost most) = true) ∧ Hid (z = sumTo (fun k => xs.getD k 0) k)) (fun _ i => n - (intOf i).toNat)
  case atStart => exact ⟨0, 0, Nat.zero_le _, rfl, rfl, by omega, by omega, rfl, rfl⟩
  case round =>
    obtain ⟨k, z, hk, rfl, rfl, hz1, hz2, HA, HZ⟩ := hrel
    by_cases hlt : k < n
    · obtain ⟨b, off, x, rfl, hx, hc⟩ := hr.at_ hlt
      have hI : ∀ W, Calls Try.prog 167 #[.int .i64 x, .int .i64 0, .int .i64 most] W fun e w' => e = .returned (.bool (inMost most x)) ∧ W = w' := fun W => l1In_any x 0 most W
      have HI := Lib.hid hI; clear hI
      by_cases hp : inMost most x = true
      · have hxb : 0 ≤ x ∧ x ≤ most := by simpa [inMost] using hp
        have HN : Hid ((xs.take (k+1)).all (inMost most) = true) := by
          show _ = _
          rw [all_take_snoc _ _ _ (by rw [hr.1]; exact hlt), HA.out, ← hx, hp]; rfl
        have HZ2 : Hid (z + x = sumTo (fun k => xs.getD k 0) (k+1)) := by
          show _ = _
          simp only [sumTo]; rw [← HZ.out, hx]
        clear hx
        go_wp2_with (go_at_call 167; refine (HI.out _).mono ?_; rintro e w' ⟨rfl, rfl⟩)
        go_round
        case rel => exact ⟨k + 1, z + x, by omega, by go_num, rfl, by omega, by omega, HN, HZ2⟩
        case measure => simp [intOf]; omega
      · have hp' : inMost most x = false := by simpa using hp
        have HN : Hid (sumMost xs most = -1) := sumMost_bad hr.1 hlt (by rw [← hx]; exact hp')
        clear hx hp
        go_wp2_with (go_at_call 167; refine (HI.out _).mono ?_; rintro e w' ⟨rfl, rfl⟩)
        go_ret
        exact ⟨ret_int HN.out.symm, rfl⟩
    · have hk' : k = n := by omega
      have HN : Hid (z = sumMost xs most) := by
        have h2 := HA.out
        rw [List.take_of_length_le (by rw [hr.1]; omega)] at h2
        show _ = _
        rw [sumMost_good h2, HZ.out, sumL, hr.1, hk']
      subst hk'
      go_wp2_with fail
      go_ret
      exact ⟨ret_int HN.out, rfl⟩
theorem l5Told_any (ab sg : Bool) (a : Option Addr) (n c : Nat) (xs : List Int) (w : World) (hr : Row w a n xs) (hn : n ≤ 1048576) :
    Calls Try.prog 145 #[.slice a n c, .bool ab, .bool sg] w fun e w' => ∃ A C, e = .returned (.slice A (toldN xs n) C) ∧ Own w.heap.size w' A (toldN xs n) C (told ab sg xs) ∧ Below w.heap.size w w' := by
  have hT : Calls Try.prog 149 #[.slice a n c] w fun e w' => e = .returned (.bool (tableB xs)) ∧ w = w' := l5Table_any a n c xs w hr hn
  by_cases ht : tableB xs = true
  · obtain ⟨hsz, hpt⟩ := table_part hr.1 ht
    have hO := l5Sums_any ab sg a n c xs w hr (by omega) (fun k hk => by have := hpt k hk; omega)
    rw [ht] at hT
    rw [told_yes ht, toldN_yes ht]
    have HT := Lib.hid hT; clear hT
    have HO := Lib.hid hO; clear hO
    clear ht hsz hpt hr
    go_enter Try.func145, Try.ntmps145
    go_wp2_with (go_at_call 149; refine HT.out.mono ?_; rintro e w' ⟨rfl, rfl⟩)
    refine HO.out.mono ?_
    rintro e w' ⟨A, C, rfl, ho, hb⟩
    have HOW := Lib.hid ho; clear ho
    go_wp2_with fail
    go_ret
    exact ⟨A, C, rfl, HOW.out, hb⟩
  · have hf : tableB xs = false := by simpa using ht
    rw [hf] at hT
    rw [told_no hf, toldN_no hf]
    have HT := Lib.hid hT; clear hT
    clear ht hf
    go_enter Try.func145, Try.ntmps145
    go_wp2_with (go_at_call 149; refine HT.out.mono ?_; rintro e w' ⟨rfl, rfl⟩)
    go_ret
    refine ⟨_, _, rfl, ?_, (Below.refl _ _).alloc (Nat.le_refl _) _⟩
    exact World.ownsRow_lit w #[] 0 (Nat.le_refl _) (by unfold maxLen; omega) rfl
theorem sSumsBelow_any (a : Option Addr) (n c : Nat) (xs : List Int) (w : World) (hr : Row w a n xs) (hn : n ≤ 1048576) :
    Calls Try.prog 79 #[.slice a n c] w fun e w' => ∃ A C, e = .returned (.slice A (toldN xs n) C) ∧ Own w.heap.size w' A (toldN xs n) C (told false false xs) ∧ Below w.heap.size w w' := by
  have HO := Lib.hid (l5Told_any false false a n c xs w hr hn)
  clear hr
  obtain ⟨q, hq⟩ : ∃ q, q = toldN xs n := ⟨_, rfl⟩
  rw [← hq] at HO ⊢
  clear hq
  go_enter Try.func79, Try.ntmps79
  go_wp2_with fail
  refine HO.out.mono ?_
  rintro e w' ⟨A, C, rfl, ho, hb⟩
  have HOW := Lib.hid ho; clear ho
  go_wp2_with fail
  go_ret
  exact ⟨A, C, rfl, HOW.out, hb⟩
theorem sSumsAbove_any (a : Option Addr) (n c : Nat) (xs : List Int) (w : World) (hr : Row w a n xs) (hn : n ≤ 1048576) :
    Calls Try.prog 80 #[.slice a n c] w fun e w' => ∃ A C, e = .returned (.slice A (toldN xs n) C) ∧ Own w.heap.size w' A (toldN xs n) C (told true false xs) ∧ Below w.heap.size w w' := by
  have HO := Lib.hid (l5Told_any true false a n c xs w hr hn)
  clear hr
  obtain ⟨q, hq⟩ : ∃ q, q = toldN xs n := ⟨_, rfl⟩
  rw [← hq] at HO ⊢
  clear hq
  go_enter Try.func80, Try.ntmps80
  go_wp2_with fail
  refine HO.out.mono ?_
  rintro e w' ⟨A, C, rfl, ho, hb⟩
  have HOW := Lib.hid ho; clear ho
  go_wp2_with fail
  go_ret
  exact ⟨A, C, rfl, HOW.out, hb⟩
theorem sPartsBelow_any (a : Option Addr) (n c : Nat) (xs : List Int) (w : World) (hr : Row w a n xs) (hn : n ≤ 1048576) :
    Calls Try.prog 74 #[.slice a n c] w fun e w' => ∃ A C, e = .returned (.slice A (toldN xs n) C) ∧ Own w.heap.size w' A (toldN xs n) C (told false true xs) ∧ Below w.heap.size w w' := by
  have HO := Lib.hid (l5Told_any false true a n c xs w hr hn)
  clear hr
  obtain ⟨q, hq⟩ : ∃ q, q = toldN xs n := ⟨_, rfl⟩
  rw [← hq] at HO ⊢
  clear hq
  go_enter Try.func74, Try.ntmps74
  go_wp2_with fail
  refine HO.out.mono ?_
  rintro e w' ⟨A, C, rfl, ho, hb⟩
  have HOW := Lib.hid ho; clear ho
  go_wp2_with fail
  go_ret
  exact ⟨A, C, rfl, HOW.out, hb⟩
theorem sPartsAbove_any (a : Option Addr) (n c : Nat) (xs : List Int) (w : World) (hr : Row w a n xs) (hn : n ≤ 1048576) :
    Calls Try.prog 75 #[.slice a n c] w fun e w' => ∃ A C, e = .returned (.slice A (toldN xs n) C) ∧ Own w.heap.size w' A (toldN xs n) C (told true true xs) ∧ Below w.heap.size w w' := by
  have HO := Lib.hid (l5Told_any true true a n c xs w hr hn)
  clear hr
  obtain ⟨q, hq⟩ : ∃ q, q = toldN xs n := ⟨_, rfl⟩
  rw [← hq] at HO ⊢
  clear hq
  go_enter Try.func75, Try.ntmps75
  go_wp2_with fail
  refine HO.out.mono ?_
  rintro e w' ⟨A, C, rfl, ho, hb⟩
  have HOW := Lib.hid ho; clear ho
  go_wp2_with fail
  go_ret
  exact ⟨A, C, rfl, HOW.out, hb⟩
theorem sIsBeliefTable_any (a : Option Addr) (n c : Nat) (xs : List Int) (w : World) (hr : Row w a n xs) (hn : n ≤ 1048576) :
    Calls Try.prog 85 #[.slice a n c] w fun e w' => e = .returned (.bool (tableB xs && partsB (sums false true xs))) ∧ Below w.heap.size w w' := by
  have hT : Calls Try.prog 149 #[.slice a n c] w fun e w' => e = .returned (.bool (tableB xs)) ∧ w = w' := l5Table_any a n c xs w hr hn
  by_cases ht : tableB xs = true
  · obtain ⟨hsz, hpt⟩ := table_part hr.1 ht
    have hO := l5Sums_any false true a n c xs w hr (by omega) (fun k hk => by have := hpt k hk; omega)
    have hbd : ∀ k, k < n → (sums false true xs).getD k 0 ≤ 16000000000 := fun k hk => by
      have := sums_bound false true hr.1 (by omega) (M := 1000000000) (by omega) (fun k hk => hpt k hk) k hk
      omega
    have HP : Hid (decide (0 < sumMost (sums false true xs) 16000000000) = partsB (sums false true xs)) := partsB_sum (by rw [sums_length]; exact hr.1) hbd
    rw [ht] at hT ⊢
    have HT := Lib.hid hT; clear hT
    have HO := Lib.hid hO; clear hO
    clear ht hsz hpt hr hbd
    go_enter Try.func85, Try.ntmps85
    go_wp2_with (go_at_call 149; refine HT.out.mono ?_; rintro e w' ⟨rfl, rfl⟩)
    refine HO.out.mono ?_
    rintro e w' ⟨A, C, rfl, ho, hb⟩
    have HS := Lib.hid (l3Sum_any A n C (sums false true xs) 16000000000 w' ho.row hn (by omega))
    clear ho
    obtain ⟨s, hs⟩ : ∃ s, s = sumMost (sums false true xs) 16000000000 := ⟨_, rfl⟩
    rw [← hs] at HP HS
    clear hs
    go_wp2_with fail
    refine HS.out.mono ?_
    rintro e w1 ⟨rfl, rfl⟩
    go_wp2_with fail
    go_ret
    exact ⟨ret_bool (by rw [← HP.out]; rfl), hb⟩
  · have hf : tableB xs = false := by simpa using ht
    rw [hf] at hT ⊢
    have HT := Lib.hid hT; clear hT
    clear ht hf
    go_enter Try.func85, Try.ntmps85
    go_wp2_with (go_at_call 149; refine HT.out.mono ?_; rintro e w' ⟨rfl, rfl⟩)
    go_ret
    exact ⟨rfl, Below.refl _ _⟩
set_option maxHeartbeats 800000 in
theorem iIsBeliefTable_any (a : Option Addr) (n c : Nat) (xs : List Int) (w : World) (hr : Row w a n xs) (hn : n ≤ 1048576) :
    Calls Try.prog 82 #[.slice a n c] w fun e w' => e = .returned (.bool (tableB xs && partsB (sums false true xs))) ∧ Below w.heap.size w w' := by
  have hT : Calls Try.prog 142 #[.slice a n c] w fun e w' => e = .returned (.bool (tableB xs)) ∧ w = w' := isTable_any a n c xs w hr hn
  by_cases ht : tableB xs = true
  · obtain ⟨hsz, hpt⟩ := table_part hr.1 ht
    have hO := partsBelow_any a n c xs w hr (by omega) (fun k hk => by have := hpt k hk; omega)
    have hl : (sums false true xs).length = n := by rw [sums_length]; exact hr.1
    rw [ht] at hT ⊢
    obtain ⟨ps, hps⟩ : ∃ ps, ps = sums false true xs := ⟨_, rfl⟩
    rw [← hps] at hO hl ⊢
    have HL := Lib.hid hl; clear hl
    have HT := Lib.hid hT; clear hT
    have HO := Lib.hid hO; clear hO
    clear ht hsz hpt hr hps
    go_enter Try.func82, Try.ntmps82
    go_wp2_with (go_at_call 142; refine HT.out.mono ?_; rintro e w' ⟨rfl, rfl⟩)
    refine HO.out.mono ?_
    rintro e w' ⟨A, C, rfl, ho, hb⟩
    have HOW := Lib.hid ho.row; clear ho
    go_wp2_with fail
    go_loop [3, 12] (fun s i => ∃ (k : Nat) (q : Bool), k ≤ n ∧ i = .int .i64 k ∧ s = .bool q ∧ Hid ((ps.take k).all nonnegB = true) ∧ Hid (q = (ps.take k).any posB)) (fun _ i => n - (intOf i).toNat)
    case atStart => exact ⟨0, false, Nat.zero_le _, rfl, rfl, rfl, rfl⟩
    case round =>
      obtain ⟨k, q, hk, rfl, rfl, HA, HQ⟩ := hrel
      by_cases hlt : k < n
      · obtain ⟨b, off, x, rfl, hx, hc⟩ := HOW.out.at_ hlt
        have hkl : k < ps.length := by rw [HL.out]; exact hlt
        by_cases h0 : x < 0
        · have HN : Hid (partsB ps = false) := by
            show _ = _
            rw [partsB, all_false_of _ ps k hkl (by rw [← hx]; simp [nonnegB]; omega)]; rfl
          clear hx
          go_wp2_with fail
          go_ret
          exact ⟨ret_bool (by rw [HN.out]), hb⟩
        · have HN : Hid ((ps.take (k+1)).all nonnegB = true) := by
            show _ = _
            rw [all_take_snoc _ _ _ hkl, HA.out, ← hx]; simp [nonnegB]; omega
          have HQ2 : Hid ((ps.take (k+1)).any posB = (q || posB x)) := by
            show _ = _
            rw [any_take_snoc _ _ _ hkl, ← HQ.out, ← hx]
          clear hx
          cases q
          · by_cases h1 : 0 < x
            · go_wp2_with fail
              go_round
              case rel => exact ⟨k + 1, true, by omega, by go_num, rfl, HN, by show _ = _; rw [HQ2.out]; simp [posB, h1]⟩
              case measure => simp [intOf]; omega
            · have h2 : x = 0 := by omega
              subst h2
              go_wp2_with fail
              go_round
              case rel => exact ⟨k + 1, false, by omega, by go_num, rfl, HN, by show _ = _; rw [HQ2.out]; simp [posB]⟩
              case measure => simp [intOf]; omega
          · go_wp2_with fail
            go_round
            case rel => exact ⟨k + 1, true, by omega, by go_num, rfl, HN, by show _ = _; rw [HQ2.out]; rfl⟩
            case measure => simp [intOf]; omega
      · have hk' : k = n := by omega
        have HN : Hid (q = (true && partsB ps)) := by
          have h1 := HA.out
          have h2 := HQ.out
          rw [List.take_of_length_le (by rw [HL.out]; omega)] at h1 h2
          show _ = _
          rw [partsB, h1, ← h2]; simp
        subst hk'
        go_wp2_with fail
        go_ret
        exact ⟨ret_bool HN.out, hb⟩
  · have hf : tableB xs = false := by simpa using ht
    rw [hf] at hT ⊢
    have HT := Lib.hid hT; clear hT
    clear ht hf
    go_enter Try.func82, Try.ntmps82
    go_wp2_with (go_at_call 142; refine HT.out.mono ?_; rintro e w' ⟨rfl, rfl⟩)
    go_ret
    exact ⟨rfl, Below.refl _ _⟩
end Go.Proofs.Ytffkpmmgfgcngaa
