/- Contracts of the sums over sets of the reference. -/
import Derived.Test.YtffkpmmgfgcngaaW5
import Derived.Test.YtffkpmmgfgcngaaW2
import Derived.Deep.QuietTactic
import Derived.BigQuiet
namespace Go.Proofs.Ytffkpmmgfgcngaa
open Go.RowKit

theorem xor_lt16' {i j : Nat} (hi : i < 16) (hj : j < 16) : i ^^^ j < 16 := xor_lt (n := 16) (by omega) hi hj
set_option maxHeartbeats 1600000 in
theorem l5Sums_any (ab sg : Bool) (a : Option Addr) (n c : Nat) (xs : List Int) (w : World) (hr : Row w a n xs) (hn : n ≤ 16) (hb : ∀ k, k < n → -4000000000 ≤ xs.getD k 0 ∧ xs.getD k 0 ≤ 4000000000) :
    Calls Try.prog 151 #[.slice a n c, .bool ab, .bool sg] w fun e w' => ∃ A C, e = .returned (.slice A n C) ∧ Own w.heap.size w' A n C (sums ab sg xs) ∧ Below w.heap.size w w' := by
  have HB := Lib.hid hb; clear hb
  have HE : Hid (tab n (over (facS ab sg) xs n) = sums ab sg xs) := by show _ = _; rw [sums, hr.1]
  go_enter Try.func151, Try.ntmps151
  go_wp2_with fail
  have hown0 : Own w.heap.size (w.alloc (.cells #[] 3)) (some ⟨w.heap.size, 0, none⟩) 0 0 (tab 0 (over (facS ab sg) xs n)) := World.ownsRow_lit w #[] 0 (Nat.le_refl _) (by unfold maxLen; omega) rfl
  have hb0 : Below w.heap.size w (w.alloc (.cells #[] 3)) := (Below.refl _ _).alloc (Nat.le_refl _) _
  go_loopw [7, 8] (fun v i wr => ∃ (k : Nat) (A : Option Addr) (C : Nat), k ≤ n ∧ i = .int .i64 k ∧ v = .slice A k C ∧ Own w.heap.size wr A k C (tab k (over (facS ab sg) xs n)) ∧ Below w.heap.size w wr) (fun _ i _ => n - (intOf i).toNat)
  case atStart => exact ⟨0, _, 0, Nat.zero_le _, rfl, rfl, hown0, hb0⟩
  case round =>
    obtain ⟨k, A, C, hk, rfl, rfl, ho, hbr⟩ := hrel
    clear hown0 hb0
    have HO := Lib.hid ho; clear ho
    by_cases hlt : k < n
    · go_wp2_with fail
      obtain ⟨wo, hwo⟩ : ∃ wo : World, wo = wr := ⟨_, rfl⟩
      rw [← hwo] at HO hbr ⊢
      clear hwo wr
      go_loopw [9, 10] (fun s i wi => ∃ (j : Nat) (z : Int), j ≤ n ∧ i = .int .i64 j ∧ s = .int .i64 z ∧ -4000000000 * (j : Int) ≤ z ∧ z ≤ 4000000000 * (j : Int) ∧ Hid (z = sumTo (fun j => xs.getD j 0 * facS ab sg k j) j) ∧ Hid (Own w.heap.size wi A k C (tab k (over (facS ab sg) xs n))) ∧ Below w.heap.size w wi) (fun _ i _ => n - (intOf i).toNat)
      case atStart => exact ⟨0, 0, Nat.zero_le _, rfl, rfl, by omega, by omega, rfl, HO, hbr⟩
      case round =>
        obtain ⟨j, z, hj, rfl, rfl, hz1, hz2, HZ, HOI, hbi⟩ := hrel
        clear HO hbr
        by_cases hlt2 : j < n
        · obtain ⟨b, off, x, rfl, hx, hc⟩ := (hr.below hbi).at_ hlt2
          have hxb := HB.out j hlt2
          rw [← hx] at hxb
          have e1 := bits_andNot j k (by omega) (by omega)
          have e2 := bits_andNot k j (by omega) (by omega)
          have e3 := bits_xor k j (by omega) (by omega)
          have hS : ∀ W, Calls Try.prog 177 #[.int .i64 ((k ^^^ j : Nat) : Int)] W fun e w' => e = .returned (.int .i64 (sgn (k ^^^ j))) ∧ w' = W := fun W => (l1Sign_any (k ^^^ j) W (xor_lt16' (by omega) (by omega))).mono fun e w' ⟨h1, h2⟩ => ⟨h1, h2.symm⟩
          obtain ⟨s, hs⟩ : ∃ s : Int, s = sgn (k ^^^ j) := ⟨_, rfl⟩
          have hsb := sgn_bound (k ^^^ j)
          rw [← hs] at hS hsb
          obtain ⟨q1, hq1⟩ : ∃ q : Nat, q = j &&& (15 - k) := ⟨_, rfl⟩
          obtain ⟨q2, hq2⟩ : ∃ q : Nat, q = k &&& (15 - j) := ⟨_, rfl⟩
          rw [← hq1] at e1
          rw [← hq2] at e2
          have HF : Hid (facS ab sg k j = if (if ab then q2 == 0 else q1 == 0) = true then (if sg then s else 1) else 0) := by
            show _ = _
            rw [facS, subB, subB, ← hq1, ← hq2, ← hs]
          have HN : Hid (∀ f, facS ab sg k j = f → z + x * f = sumTo (fun j => xs.getD j 0 * facS ab sg k j) (j + 1)) := by
            show ∀ f, _
            intro f hf
            simp only [sumTo]
            rw [← HZ.out, hx, hf]
          obtain ⟨u, hu⟩ : ∃ u : Nat, u = k ^^^ j := ⟨_, rfl⟩
          rw [← hu] at e3 hS
          clear hu hx hq1 hq2 hs
          have HS := Lib.hid hS; clear hS
          have HSB := Lib.hid hsb; clear hsb
          cases ab
          · by_cases h0 : q1 = 0
            · subst h0
              cases sg
              · go_wp2_with fail
                go_roundw
                case rel => exact ⟨j + 1, z + x, by omega, by go_num, rfl, by omega, by omega, by have h := HN.out 1 HF.out; show _ = _; rw [← h]; omega, HOI, hbi⟩
                case measure => simp [intOf]; omega
              · rcases HSB.out with rfl | rfl
                · go_wp2_with fail
                  go_quiet ((go_at_call 177; exact Calls.quiet_of_same (HS.out _)))
                  go_wp2_with fail
                  go_roundw
                  case rel => exact ⟨j + 1, z + x, by omega, by go_num, by go_num, by omega, by omega, by have h := HN.out 1 HF.out; show _ = _; rw [← h]; omega, HOI.out.below (below_drewN (Below.refl _ _) _), below_drewN hbi _⟩
                  case measure => simp [intOf]; omega
                · go_wp2_with fail
                  go_quiet ((go_at_call 177; exact Calls.quiet_of_same (HS.out _)))
                  go_wp2_with fail
                  go_roundw
                  case rel => exact ⟨j + 1, z + -x, by omega, by go_num, by go_num, by omega, by omega, by have h := HN.out (-1) HF.out; show _ = _; rw [← h]; omega, HOI.out.below (below_drewN (Below.refl _ _) _), below_drewN hbi _⟩
                  case measure => simp [intOf]; omega
            · have HF0 : Hid (facS false sg k j = 0) := by
                show _ = _
                have := HF.out
                simp [h0] at this
                exact this
              have hp : ((q1 : Int) == 0) = false := by simp; omega
              go_wp2_with fail
              go_roundw
              case rel => exact ⟨j + 1, z, by omega, by go_num, rfl, by omega, by omega, by have h := HN.out 0 HF0.out; show _ = _; rw [← h]; omega, HOI, hbi⟩
              case measure => simp [intOf]; omega
          · by_cases h0 : q2 = 0
            · subst h0
              cases sg
              · go_wp2_with fail
                go_roundw
                case rel => exact ⟨j + 1, z + x, by omega, by go_num, rfl, by omega, by omega, by have h := HN.out 1 HF.out; show _ = _; rw [← h]; omega, HOI, hbi⟩
                case measure => simp [intOf]; omega
              · rcases HSB.out with rfl | rfl
                · go_wp2_with fail
                  go_quiet ((go_at_call 177; exact Calls.quiet_of_same (HS.out _)))
                  go_wp2_with fail
                  go_roundw
                  case rel => exact ⟨j + 1, z + x, by omega, by go_num, by go_num, by omega, by omega, by have h := HN.out 1 HF.out; show _ = _; rw [← h]; omega, HOI.out.below (below_drewN (Below.refl _ _) _), below_drewN hbi _⟩
                  case measure => simp [intOf]; omega
                · go_wp2_with fail
                  go_quiet ((go_at_call 177; exact Calls.quiet_of_same (HS.out _)))
                  go_wp2_with fail
                  go_roundw
                  case rel => exact ⟨j + 1, z + -x, by omega, by go_num, by go_num, by omega, by omega, by have h := HN.out (-1) HF.out; show _ = _; rw [← h]; omega, HOI.out.below (below_drewN (Below.refl _ _) _), below_drewN hbi _⟩
                  case measure => simp [intOf]; omega
            · have HF0 : Hid (facS true sg k j = 0) := by
                show _ = _
                have := HF.out
                simp [h0] at this
                exact this
              have hp : ((q2 : Int) == 0) = false := by simp; omega
              go_wp2_with fail
              go_roundw
              case rel => exact ⟨j + 1, z, by omega, by go_num, rfl, by omega, by omega, by have h := HN.out 0 HF0.out; show _ = _; rw [← h]; omega, HOI, hbi⟩
              case measure => simp [intOf]; omega
        · have hj' : j = n := by omega
          subst hj'
          go_wp2_with (at_builtin; refine wpList_push _ rfl _ _ rfl A k C _ z _ w rfl rfl HOI.out hbi hbi.size (by omega) ?_)
          intro A' C' w1 ho' hb'
          rw [show tab k (over (facS ab sg) xs j) ++ [z] = tab (k + 1) (over (facS ab sg) xs j) from by rw [tab_succ, over, ← HZ.out]] at ho'
          have HO' := Lib.hid ho'; clear ho'
          go_wp2
          go_roundw
          case rel => exact ⟨k + 1, A', C', by omega, by go_num, rfl, HO'.out, hb'⟩
          case measure => simp [intOf]; omega
    · have hk' : k = n := by omega
      subst hk'
      go_wp2
      go_ret
      exact ⟨A, C, rfl, by rw [← HE.out]; exact HO.out, hbr⟩
end Go.Proofs.Ytffkpmmgfgcngaa
