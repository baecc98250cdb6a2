/- Contracts of the sums over sets. -/
import Derived.Test.YtffkpmmgfgcngaaW5
namespace Go.Proofs.Ytffkpmmgfgcngaa
open Go.RowKit

set_option maxHeartbeats 1600000 in
theorem overSets_any (K : Nat) (hcf : ∀ (args : Array Value) (w : World), (callFunc K args).run Try.prog w = .ok (.enter K args) w) (fac : Nat → Nat → Int) (hf : ∀ (i j : Nat) (w : World), i < 16 → j < 16 → Calls Try.prog K #[.int .i64 i, .int .i64 j] w fun e w' => e = .returned (.int .i64 (fac i j)) ∧ w = w')
    (hfb : ∀ i j, -1 ≤ fac i j ∧ fac i j ≤ 1) (a : Option Addr) (n c : Nat) (xs : List Int) (w : World) (hr : Row w a n xs) (hn : n ≤ 16) (hb : ∀ k, k < n → -4000000000 ≤ xs.getD k 0 ∧ xs.getD k 0 ≤ 4000000000) :
    Calls Try.prog 146 #[.slice a n c, .func (.func K) #[] #[]] w fun e w' => ∃ A C, e = .returned (.slice A n C) ∧ Own w.heap.size w' A n C (tab n (over fac xs n)) ∧ Below w.heap.size w w' := by
  have HF := Lib.hid hf; clear hf
  have HFB := Lib.hid hfb; clear hfb
  have HB := Lib.hid hb; clear hb
  go_enter Try.func146, Try.ntmps146
  go_wp2_with fail
  have hown0 : Own w.heap.size (w.alloc (.cells #[] 3)) (some ⟨w.heap.size, 0, none⟩) 0 0 (tab 0 (over fac xs n)) := World.ownsRow_lit w #[] 0 (Nat.le_refl _) (by unfold maxLen; omega) rfl
  have hb0 : Below w.heap.size w (w.alloc (.cells #[] 3)) := (Below.refl _ _).alloc (Nat.le_refl _) _
  go_loopw [5, 13] (fun v i wr => ∃ (k : Nat) (A : Option Addr) (C : Nat), k ≤ n ∧ i = .int .i64 k ∧ v = .slice A k C ∧ Own w.heap.size wr A k C (tab k (over fac xs n)) ∧ Below w.heap.size w wr) (fun _ i _ => n - (intOf i).toNat)
  case atStart => exact ⟨0, _, 0, Nat.zero_le _, rfl, rfl, hown0, hb0⟩
  case round =>
    obtain ⟨k, A, C, hk, rfl, rfl, ho, hbr⟩ := hrel
    clear hown0 hb0
    have HO := Lib.hid ho; clear ho
    by_cases hlt : k < n
    · go_wp2_with fail
      go_loop [7, 18] (fun s i => ∃ (j : Nat) (z : Int), j ≤ n ∧ i = .int .i64 j ∧ s = .int .i64 z ∧ -4000000000 * (j : Int) ≤ z ∧ z ≤ 4000000000 * (j : Int) ∧ Hid (z = sumTo (fun j => xs.getD j 0 * fac k j) j)) (fun _ i => n - (intOf i).toNat)
      case atStart => exact ⟨0, 0, Nat.zero_le _, rfl, rfl, by omega, by omega, rfl⟩
      case round =>
        obtain ⟨j, z, hj, rfl, rfl, hz1, hz2, HZ⟩ := hrel
        by_cases hlt2 : j < n
        · obtain ⟨b, off, x, rfl, hx, hc⟩ := (hr.below hbr).at_ hlt2
          have hxb := HB.out j hlt2
          rw [← hx] at hxb
          obtain ⟨f, hfe⟩ : ∃ f, f = fac k j := ⟨_, rfl⟩
          have hF := HF.out k j wr (by omega) (by omega)
          have hfb := HFB.out k j
          rw [← hfe] at hF hfb
          have HN : Hid (z + x * f = sumTo (fun j => xs.getD j 0 * fac k j) (j + 1)) := by
            show _ = _
            simp only [sumTo]
            rw [← HZ.out, hx, hfe]
          clear hx hfe HZ
          have HC := Lib.hid hF; clear hF
          have h3 : f = -1 ∨ f = 0 ∨ f = 1 := by omega
          clear hfb
          rcases h3 with rfl | rfl | rfl
          all_goals
            go_wp2_with fail
            refine HC.out.mono ?_
            rintro e w' ⟨rfl, rfl⟩
            go_wp2_with fail
            go_round
            case rel => exact ⟨j + 1, _, by omega, by go_num, rfl, by omega, by omega, by have h := HN.out; show _ = _; first | exact h | (simp only [Int.mul_zero, Int.mul_one, Int.mul_neg] at h; omega)⟩
            case measure => simp [intOf]; omega
        · have hj' : j = n := by omega
          subst hj'
          go_wp2_with (at_builtin; refine wpList_push _ rfl _ _ rfl A k C _ z _ w rfl rfl HO.out hbr hbr.size (by omega) ?_)
          intro A' C' w1 ho' hb'
          rw [show tab k (over fac xs j) ++ [z] = tab (k + 1) (over fac xs j) from by rw [tab_succ, over, ← HZ.out]] at ho'
          have HO' := Lib.hid ho'; clear ho'
          go_wp2
          go_roundw
          case rel => exact ⟨k + 1, A', C', by omega, by go_num, rfl, HO'.out, hb'⟩
          case measure => simp [intOf]; omega
    · have hk' : k = n := by omega
      subst hk'
      go_wp2
      go_ret
      exact ⟨A, C, rfl, HO.out, hbr⟩
theorem cf_SumsAbove1 (args : Array Value) (w : World) : (callFunc 148 args).run Try.prog w = .ok (.enter 148 args) w := by kernel_rfl
end Go.Proofs.Ytffkpmmgfgcngaa
