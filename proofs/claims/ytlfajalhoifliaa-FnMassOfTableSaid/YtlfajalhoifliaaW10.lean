/- Contracts of the tables of the reference, and of IsBeliefTable. -/
import Derived.Test.YtlfajalhoifliaaW8
import Derived.Test.YtlfajalhoifliaaW9
import Derived.Test.YtlfajalhoifliaaMath
namespace Go.Proofs.Ytlfajalhoifliaa
open Go.RowKit

set_option maxHeartbeats 400000 in
theorem l3Sum_any (a : Option Addr) (n c : Nat) (xs : List Int) (most : Int) (w : World) (hr : Row w a n xs) (hn : n ≤ 1048576) (hm : 0 ≤ most ∧ most ≤ 16000000000) :
    Calls Try.prog 49 #[.slice a n c, .int .i64 most] w fun e w' => e = .returned (.int .i64 (sumMost xs most)) ∧ w = w' := by
  go_enter Try.func49, Try.ntmps49
  go_wp2_with fail
  go_loop [5, 6] (fun s i => ∃ (k : Nat) (z : Int), k ≤ n ∧ i = .int .i64 k ∧ s = .int .i64 z ∧ 0 ≤ z ∧ z ≤ 16000000000 * (k : Int) ∧ Hid ((xs.take k).all (inMost most) = true) ∧ Hid (z = sumTo (fun k => xs.getD k 0) k)) (fun _ i => n - (intOf i).toNat)
  case atStart => exact ⟨0, 0, Nat.zero_le _, rfl, rfl, by omega, by omega, rfl, rfl⟩
  case round =>
    obtain ⟨k, z, hk, rfl, rfl, hz1, hz2, HA, HZ⟩ := hrel
    by_cases hlt : k < n
    · obtain ⟨b, off, x, rfl, hx, hc⟩ := hr.at_ hlt
      have hI : ∀ W, Calls Try.prog 59 #[.int .i64 x, .int .i64 0, .int .i64 most] W fun e w' => e = .returned (.bool (inMost most x)) ∧ W = w' := fun W => l1In_any x 0 most W
      have HI := Lib.hid hI; clear hI
      by_cases hp : inMost most x = true
      · have hxb : 0 ≤ x ∧ x ≤ most := by simpa [inMost] using hp
        have HN : Hid ((xs.take (k+1)).all (inMost most) = true) := by
          show _ = _
          rw [all_take_snoc _ _ _ (by rw [hr.1]; exact hlt), HA.out, ← hx, hp]; rfl
        have HZ2 : Hid (z + x = sumTo (fun k => xs.getD k 0) (k+1)) := by
          show _ = _
          simp only [sumTo]; rw [← HZ.out, hx]
        clear hx
        go_wp2_with (go_at_call 59; refine (HI.out _).mono ?_; rintro e w' ⟨rfl, rfl⟩)
        go_round
        case rel => exact ⟨k + 1, z + x, by omega, by go_num, rfl, by omega, by omega, HN, HZ2⟩
        case measure => simp [intOf]; omega
      · have hp' : inMost most x = false := by simpa using hp
        have HN : Hid (sumMost xs most = -1) := sumMost_bad hr.1 hlt (by rw [← hx]; exact hp')
        clear hx hp
        go_wp2_with (go_at_call 59; refine (HI.out _).mono ?_; rintro e w' ⟨rfl, rfl⟩)
        go_ret
        exact ⟨ret_int HN.out.symm, rfl⟩
    · have hk' : k = n := by omega
      have HN : Hid (z = sumMost xs most) := by
        have h2 := HA.out
        rw [List.take_of_length_le (by rw [hr.1]; omega)] at h2
        show _ = _
        rw [sumMost_good h2, HZ.out, sumL, hr.1, hk']
      subst hk'
      go_wp2_with fail
      go_ret
      exact ⟨ret_int HN.out, rfl⟩
set_option maxHeartbeats 800000 in
theorem iIsBeliefTable_any (a : Option Addr) (n c : Nat) (xs : List Int) (w : World) (hr : Row w a n xs) (hn : n ≤ 1048576) :
    Calls Try.prog 13 #[.slice a n c] w fun e w' => e = .returned (.bool (tableB xs && partsB (sums false true xs))) ∧ Below w.heap.size w w' := by
  have hT : Calls Try.prog 32 #[.slice a n c] w fun e w' => e = .returned (.bool (tableB xs)) ∧ w = w' := isTable_any a n c xs w hr hn
  by_cases ht : tableB xs = true
  · obtain ⟨hsz, hpt⟩ := table_part hr.1 ht
    have hO := partsBelow_any a n c xs w hr (by omega) (fun k hk => by have := hpt k hk; omega)
    have hl : (sums false true xs).length = n := by rw [sums_length]; exact hr.1
    rw [ht] at hT ⊢
    obtain ⟨ps, hps⟩ : ∃ ps, ps = sums false true xs := ⟨_, rfl⟩
    rw [← hps] at hO hl ⊢
    have HL := Lib.hid hl; clear hl
    have HT := Lib.hid hT; clear hT
    have HO := Lib.hid hO; clear hO
    clear ht hsz hpt hr hps
    go_enter Try.func13, Try.ntmps13
    go_wp2_with (go_at_call 32; refine HT.out.mono ?_; rintro e w' ⟨rfl, rfl⟩)
    refine HO.out.mono ?_
    rintro e w' ⟨A, C, rfl, ho, hb⟩
    have HOW := Lib.hid ho.row; clear ho
    go_wp2_with fail
    go_loop [3, 12] (fun s i => ∃ (k : Nat) (q : Bool), k ≤ n ∧ i = .int .i64 k ∧ s = .bool q ∧ Hid ((ps.take k).all nonnegB = true) ∧ Hid (q = (ps.take k).any posB)) (fun _ i => n - (intOf i).toNat)
    case atStart => exact ⟨0, false, Nat.zero_le _, rfl, rfl, rfl, rfl⟩
    case round =>
      obtain ⟨k, q, hk, rfl, rfl, HA, HQ⟩ := hrel
      by_cases hlt : k < n
      · obtain ⟨b, off, x, rfl, hx, hc⟩ := HOW.out.at_ hlt
        have hkl : k < ps.length := by rw [HL.out]; exact hlt
        by_cases h0 : x < 0
        · have HN : Hid (partsB ps = false) := by
            show _ = _
            rw [partsB, all_false_of _ ps k hkl (by rw [← hx]; simp [nonnegB]; omega)]; rfl
          clear hx
          go_wp2_with fail
          go_ret
          exact ⟨ret_bool (by rw [HN.out]), hb⟩
        · have HN : Hid ((ps.take (k+1)).all nonnegB = true) := by
            show _ = _
            rw [all_take_snoc _ _ _ hkl, HA.out, ← hx]; simp [nonnegB]; omega
          have HQ2 : Hid ((ps.take (k+1)).any posB = (q || posB x)) := by
            show _ = _
            rw [any_take_snoc _ _ _ hkl, ← HQ.out, ← hx]
          clear hx
          cases q
          · by_cases h1 : 0 < x
            · go_wp2_with fail
              go_round
              case rel => exact ⟨k + 1, true, by omega, by go_num, rfl, HN, by show _ = _; rw [HQ2.out]; simp [posB, h1]⟩
              case measure => simp [intOf]; omega
            · have h2 : x = 0 := by omega
              subst h2
              go_wp2_with fail
              go_round
              case rel => exact ⟨k + 1, false, by omega, by go_num, rfl, HN, by show _ = _; rw [HQ2.out]; simp [posB]⟩
              case measure => simp [intOf]; omega
          · go_wp2_with fail
            go_round
            case rel => exact ⟨k + 1, true, by omega, by go_num, rfl, HN, by show _ = _; rw [HQ2.out]; rfl⟩
            case measure => simp [intOf]; omega
      · have hk' : k = n := by omega
        have HN : Hid (q = (true && partsB ps)) := by
          have h1 := HA.out
          have h2 := HQ.out
          rw [List.take_of_length_le (by rw [HL.out]; omega)] at h1 h2
          show _ = _
          rw [partsB, h1, ← h2]; simp
        subst hk'
        go_wp2_with fail
        go_ret
        exact ⟨ret_bool HN.out, hb⟩
  · have hf : tableB xs = false := by simpa using ht
    rw [hf] at hT ⊢
    have HT := Lib.hid hT; clear hT
    clear ht hf
    go_enter Try.func13, Try.ntmps13
    go_wp2_with (go_at_call 32; refine HT.out.mono ?_; rintro e w' ⟨rfl, rfl⟩)
    go_ret
    exact ⟨rfl, Below.refl _ _⟩
end Go.Proofs.Ytlfajalhoifliaa
