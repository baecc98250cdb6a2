/- Contracts of IsAdditive, of the program and of the reference. -/
import Derived.Test.YtffkpmmgfgcngaaW5
import Derived.Test.YtffkpmmgfgcngaaW4
namespace Go.Proofs.Ytffkpmmgfgcngaa
open Go.RowKit

theorem and_pow16 : ∀ a : Fin 16, ∀ t : Fin 4, (bits .and .i64 (a.val : Int) ((2 ^ t.val : Nat) : Int) != 0) = hasB a.val t.val := by decide +kernel
theorem and_pow (a t : Nat) (ha : a < 16) (ht : t < 4) : (bits .and .i64 (a : Int) ((2 ^ t : Nat) : Int) != 0) = hasB a t := and_pow16 ⟨a, ha⟩ ⟨t, ht⟩
set_option maxHeartbeats 1600000 in
theorem sIsAdditive_any (a : Option Addr) (n c : Nat) (xs : List Int) (w : World) (hr : Row w a n xs) (hn : n ≤ 1048576) :
    Calls Try.prog 87 #[.slice a n c] w fun e w' => e = .returned (.bool (tableB xs && addB xs)) ∧ w = w' := by
  have hT : Calls Try.prog 149 #[.slice a n c] w fun e w' => e = .returned (.bool (tableB xs)) ∧ w = w' := l5Table_any a n c xs w hr hn
  have HT := Lib.hid hT; clear hT
  by_cases ht : tableB xs = true
  · obtain ⟨hsz, hpt⟩ := table_part hr.1 ht
    have hn16 : n ≤ 16 := by omega
    have HS := Lib.hid hsz; clear hsz
    have HP := Lib.hid hpt; clear hpt
    go_enter Try.func87, Try.ntmps87
    go_wp2_with (go_at_call 149; refine HT.out.mono ?_; rintro e w' ⟨rfl, rfl⟩)
    have HTT := Lib.hid ht; clear ht
    go_loop [3] (fun i => ∃ k : Nat, k ≤ n ∧ i = .int .i64 k ∧ Hid (∀ i, i < k → addSum xs i = xs.getD i 0)) (fun i => n - (intOf i).toNat)
    case atStart => exact ⟨0, Nat.zero_le _, rfl, fun i hi => absurd hi (by omega)⟩
    case round =>
      obtain ⟨k, hk, rfl, HK⟩ := hrel
      by_cases hlt : k < n
      · have hk16 : k < 16 := by omega
        go_wp2_with fail
        go_loop [4, 5] (fun s i => ∃ (t : Nat) (z : Int), t ≤ 4 ∧ i = .int .i64 t ∧ s = .int .i64 z ∧ -1000000000 * (t : Int) ≤ z ∧ z ≤ 1000000000 * (t : Int) ∧ Hid (z = sumTo (addF xs k) t)) (fun _ i => 4 - (intOf i).toNat)
        case atStart => exact ⟨0, 0, by omega, rfl, rfl, by omega, by omega, rfl⟩
        case round =>
          obtain ⟨t, z, ht4, rfl, rfl, hz1, hz2, HZ⟩ := hrel
          by_cases htl : t < 4
          · have hH : Calls Try.prog 152 #[.int .i64 k, .int .i64 t] w fun e w' => e = .returned (.bool (hasB k t)) ∧ w = w' := l1Has_any k t w hk16 htl
            have HH := Lib.hid hH; clear hH
            by_cases hb : hasB k t = true
            · have hpl : 2 ^ t < n := Nat.lt_of_le_of_lt (has_le hb) hlt
              obtain ⟨b, off, x, rfl, hx, hc⟩ := hr.at_ hpl
              have hxb := HP.out _ hpl
              rw [← hx] at hxb
              have HN : Hid (z + x = sumTo (addF xs k) (t + 1)) := by
                show _ = _
                simp only [sumTo]
                rw [← HZ.out, addF_yes hb, hx]
              clear hx
              have h : t = 0 ∨ t = 1 ∨ t = 2 ∨ t = 3 := by omega
              rcases h with rfl | rfl | rfl | rfl
              all_goals
                go_wp2_with (go_at_call 152; refine HH.out.mono ?_; rintro e w' ⟨rfl, rfl⟩)
                go_round
                case rel => first | exact ⟨1, _, by omega, rfl, rfl, by omega, by omega, HN⟩ | exact ⟨2, _, by omega, rfl, rfl, by omega, by omega, HN⟩ | exact ⟨3, _, by omega, rfl, rfl, by omega, by omega, HN⟩ | exact ⟨4, _, by omega, rfl, rfl, by omega, by omega, HN⟩
                case measure => simp [intOf]
            · have hb' : hasB k t = false := by simpa using hb
              clear hb
              have HN : Hid (z = sumTo (addF xs k) (t + 1)) := by
                show _ = _
                simp only [sumTo]
                rw [← HZ.out, addF_no hb']
                omega
              go_wp2_with (go_at_call 152; refine HH.out.mono ?_; rintro e w' ⟨rfl, rfl⟩)
              go_round
              case rel => exact ⟨t + 1, z, by omega, by go_num, rfl, by omega, by omega, HN⟩
              case measure => simp [intOf]; omega
          · have ht' : t = 4 := by omega
            subst ht'
            obtain ⟨b, off, x, rfl, hx, hc⟩ := hr.at_ hlt
            have HX := Lib.hid hx; clear hx
            by_cases hzx : z = x
            · have HN : Hid (addSum xs k = xs.getD k 0) := by
                show _ = _
                rw [← HX.out, ← hzx]; exact HZ.out.symm
              clear HX HZ
              subst hzx
              go_wp2_with fail
              go_round
              case rel => exact ⟨k + 1, by omega, by go_num, fun i hi => if h : i = k then by rw [h]; exact HN.out else HK.out i (by omega)⟩
              case measure => simp [intOf]; omega
            · have HN : Hid (addB xs = false) := addB_false hr.1 hlt (fun e => hzx (HZ.out.trans (e.trans HX.out.symm)))
              have hne : (z != x) = true := by simpa using hzx
              clear hzx
              go_wp2_with fail
              go_ret
              exact ⟨ret_bool (by rw [HN.out]; simp), rfl⟩
      · have hk' : k = n := by omega
        subst hk'
        have HN : Hid ((tableB xs && addB xs) = true) := by
          show _ = _
          rw [HTT.out, addB_true hr.1 HK.out]; rfl
        go_wp2_with fail
        go_ret
        exact ⟨ret_bool HN.out.symm, rfl⟩
  · have hf : tableB xs = false := by simpa using ht
    clear ht
    go_enter Try.func87, Try.ntmps87
    go_wp2_with (go_at_call 149; refine HT.out.mono ?_; rintro e w' ⟨rfl, rfl⟩)
    go_ret
    exact ⟨ret_bool (by simp [hf]), rfl⟩
set_option maxHeartbeats 1600000 in
theorem iIsAdditive_any (a : Option Addr) (n c : Nat) (xs : List Int) (w : World) (hr : Row w a n xs) (hn : n ≤ 1048576) :
    Calls Try.prog 84 #[.slice a n c] w fun e w' => e = .returned (.bool (tableB xs && addB xs)) ∧ w = w' := by
  have hT : Calls Try.prog 142 #[.slice a n c] w fun e w' => e = .returned (.bool (tableB xs)) ∧ w = w' := isTable_any a n c xs w hr hn
  have HT := Lib.hid hT; clear hT
  by_cases ht : tableB xs = true
  · obtain ⟨hsz, hpt⟩ := table_part hr.1 ht
    have hn16 : n ≤ 16 := by omega
    have HS := Lib.hid hsz; clear hsz
    have HP := Lib.hid hpt; clear hpt
    go_enter Try.func84, Try.ntmps84
    go_wp2_with (go_at_call 142; refine HT.out.mono ?_; rintro e w' ⟨rfl, rfl⟩)
    have HTT := Lib.hid ht; clear ht
    go_loop [11] (fun i => ∃ k : Nat, k ≤ n ∧ i = .int .i64 k ∧ Hid (∀ i, i < k → addSum xs i = xs.getD i 0)) (fun i => n - (intOf i).toNat)
    case atStart => exact ⟨0, Nat.zero_le _, rfl, fun i hi => absurd hi (by omega)⟩
    case round =>
      obtain ⟨k, hk, rfl, HK⟩ := hrel
      by_cases hlt : k < n
      · have hk16 : k < 16 := by omega
        go_wp2_with fail
        go_loop [4, 5] (fun s i => ∃ (t : Nat) (z : Int), t ≤ 4 ∧ Hid (2 ^ t ≤ n) ∧ i = .int .i64 ((2 ^ t : Nat) : Int) ∧ s = .int .i64 z ∧ -1000000000 * (t : Int) ≤ z ∧ z ≤ 1000000000 * (t : Int) ∧ Hid (z = sumTo (addF xs k) t)) (fun _ i => n - (intOf i).toNat)
        case atStart => exact ⟨0, 0, by omega, by show _ ≤ _; omega, rfl, rfl, by omega, by omega, rfl⟩
        case round =>
          obtain ⟨t, z, ht4, HL, rfl, rfl, hz1, hz2, HZ⟩ := hrel
          by_cases hpl : 2 ^ t < n
          · have htl : t < 4 := by
              rcases Nat.lt_or_ge t 4 with h | h
              · exact h
              · have : t = 4 := by omega
                subst this
                omega
            have h2 : 2 ^ (t + 1) ≤ n := by
              have hs := HS.out
              have h : t = 0 ∨ t = 1 ∨ t = 2 ∨ t = 3 := by omega
              rcases h with rfl | rfl | rfl | rfl <;> omega
            have H2 := Lib.hid h2; clear h2
            have hA := and_pow k t hk16 htl
            obtain ⟨p, hp⟩ : ∃ p : Nat, p = 2 ^ t := ⟨_, rfl⟩
            rw [← hp] at hpl hA
            have hp1 : 1 ≤ p := by rw [hp]; exact Nat.one_le_two_pow
            have HP2 : Hid (2 ^ (t + 1) = p * 2) := by show _ = _; rw [hp, Nat.pow_succ]
            rw [← hp]
            by_cases hb : hasB k t = true
            · rw [hb] at hA
              obtain ⟨b, off, x, rfl, hx, hc⟩ := hr.at_ hpl
              have hxb := HP.out _ hpl
              rw [← hx] at hxb
              have HN : Hid (z + x = sumTo (addF xs k) (t + 1)) := by
                show _ = _
                simp only [sumTo]
                rw [← HZ.out, addF_yes hb, hx, hp]
              clear hx hp hb
              go_wp2
              go_round
              case rel => exact ⟨t + 1, z + x, by omega, H2, by rw [HP2.out]; go_num, rfl, by omega, by omega, HN⟩
              case measure => have := H2.out; have := HP2.out; simp [intOf]; omega
            · have hb' : hasB k t = false := by simpa using hb
              rw [hb'] at hA
              have HN : Hid (z = sumTo (addF xs k) (t + 1)) := by
                show _ = _
                simp only [sumTo]
                rw [← HZ.out, addF_no hb']
                omega
              clear hp hb hb'
              go_wp2
              go_round
              case rel => exact ⟨t + 1, z, by omega, H2, by rw [HP2.out]; go_num, rfl, by omega, by omega, HN⟩
              case measure => have := H2.out; have := HP2.out; simp [intOf]; omega
          · have HE : Hid (z = addSum xs k) := by
              show _ = _
              rw [HZ.out]
              exact addSum_cut t ht4 (by omega)
            obtain ⟨p, hp⟩ : ∃ p : Nat, p = 2 ^ t := ⟨_, rfl⟩
            rw [← hp] at hpl
            have hbz : -4000000000 ≤ z ∧ z ≤ 4000000000 := by omega
            clear HZ hz1 hz2
            rw [← hp]
            clear hp
            obtain ⟨b, off, x, rfl, hx, hc⟩ := hr.at_ hlt
            have HX := Lib.hid hx; clear hx
            by_cases hzx : x = z
            · have HN : Hid (addSum xs k = xs.getD k 0) := by
                show _ = _
                rw [← HX.out, hzx]; exact HE.out.symm
              clear HX HE
              subst hzx
              go_wp2_with fail
              go_round
              case rel => exact ⟨k + 1, by omega, by go_num, fun i hi => if h : i = k then by rw [h]; exact HN.out else HK.out i (by omega)⟩
              case measure => simp [intOf]; omega
            · have HN : Hid (addB xs = false) := addB_false hr.1 hlt (fun e => hzx (HX.out.trans (e.symm.trans HE.out.symm)))
              have hne : (x != z) = true := by simpa using hzx
              clear hzx
              go_wp2_with fail
              go_ret
              exact ⟨ret_bool (by rw [HN.out]; simp), rfl⟩
      · have hk' : k = n := by omega
        subst hk'
        have HN : Hid ((tableB xs && addB xs) = true) := by
          show _ = _
          rw [HTT.out, addB_true hr.1 HK.out]; rfl
        go_wp2_with fail
        go_ret
        exact ⟨ret_bool HN.out.symm, rfl⟩
  · have hf : tableB xs = false := by simpa using ht
    clear ht
    go_enter Try.func84, Try.ntmps84
    go_wp2_with (go_at_call 142; refine HT.out.mono ?_; rintro e w' ⟨rfl, rfl⟩)
    go_ret
    exact ⟨ret_bool (by simp [hf]), rfl⟩
end Go.Proofs.Ytffkpmmgfgcngaa
