/- Contracts of the validity of a mass, of the program and of the reference. -/
import Derived.Test.YtlfajalhoifliaaGreatDoorW11
import Derived.Test.YtlfajalhoifliaaGreatDoorW10
import Derived.Test.YtlfajalhoifliaaGreatDoorMath
namespace Go.Proofs.YtlfajalhoifliaaGreatDoor
open Go.RowKit

theorem heq_of {x y : Int} (h : x = y) : (x == y) = true := by simp [h]
theorem hneq_of {x y : Int} (h : ¬ x = y) : (x == y) = false := by simp [h]
theorem hne_of {x y : Int} (h : x = y) : (x != y) = false := by simp [h]
set_option maxHeartbeats 400000 in
theorem wholeOf_any (s : Int) (a : Option Addr) (n c : Nat) (xs : List Int) (w : World) (hr : Row w a n xs) (hn : n ≤ 16) (hp : ∀ k, k < n → 0 ≤ xs.getD k 0 ∧ xs.getD k 0 ≤ 1000000) :
    Calls Tryz.prog 41 #[massV s a n c] w fun e w' => e = .returned (.int .i64 (sumL xs)) ∧ Below w.heap.size w w' := by
  have HP := Lib.hid hp; clear hp
  go_enter Tryz.func41, Tryz.ntmps41
  go_wp2_with fail
  have hr2 := hr.below ((Below.refl w.heap.size w).alloc (Nat.le_refl _) (.cells #[.int .i64 s, .slice a n c] 25))
  go_loop [3, 9] (fun s i => ∃ (k : Nat) (z : Int), k ≤ n ∧ i = .int .i64 k ∧ s = .int .i64 z ∧ 0 ≤ z ∧ z ≤ 1000000 * (k : Int) ∧ Hid (z = sumTo (fun k => xs.getD k 0) k)) (fun _ i => n - (intOf i).toNat)
  case atStart => exact ⟨0, 0, Nat.zero_le _, rfl, rfl, by omega, by omega, rfl⟩
  case round =>
    obtain ⟨k, z, hk, rfl, rfl, hz1, hz2, HZ⟩ := hrel
    by_cases hlt : k < n
    · obtain ⟨b, off, x, rfl, hx, hc⟩ := hr2.at_ hlt
      have hxb := HP.out k hlt
      rw [← hx] at hxb
      have HZ2 : Hid (z + x = sumTo (fun k => xs.getD k 0) (k+1)) := by
        show _ = _
        simp only [sumTo]; rw [← HZ.out, hx]
      clear hx
      go_wp2_with fail
      go_round
      case rel => exact ⟨k + 1, z + x, by omega, by go_num, rfl, by omega, by omega, HZ2⟩
      case measure => simp [intOf]; omega
    · have hk' : k = n := by omega
      have HN : Hid (z = sumL xs) := by
        show _ = _
        rw [HZ.out, sumL, hr.1, hk']
      subst hk'
      go_wp2_with fail
      go_ret
      exact ⟨ret_int HN.out, (Below.refl _ _).alloc (Nat.le_refl _) _⟩
set_option maxHeartbeats 1600000 in
theorem isMass_any (s : Int) (a : Option Addr) (n c : Nat) (xs : List Int) (w : World) (hr : Row w a n xs) (hn : n ≤ 1048576) :
    Calls Tryz.prog 15 #[massV s a n c] w fun e w' => e = .returned (.bool (massB s xs)) ∧ Below w.heap.size w w' := by
  have HZ : Hid (∀ W, Calls Tryz.prog 28 #[.int .i64 s] W fun e w' => e = .returned (.bool (sizeB s)) ∧ w' = W) := fun W => (isSize_any s W).mono fun e w' ⟨h1, h2⟩ => ⟨h1, h2.symm⟩
  have hb1 : Below w.heap.size w (w.alloc (.cells #[.int .i64 s, .slice a n c] 25)) := (Below.refl w.heap.size w).alloc (Nat.le_refl _) _
  by_cases hs : sizeB s = true
  · have HSZ := Lib.hid hs
    rw [hs] at HZ
    by_cases hf : fitB s n = true
    · have hn16 := fit_le hs hf
      have HF := Lib.hid hf
      have hnl : n ≤ 16 := by omega
      have h := size_cases hs
      have hnn : (n : Int) = 2 ^ s.toNat := by simpa [fitB] using hf
      clear hs hf hn16
      have hp16 : 1 ≤ n := by rcases h with rfl | rfl | rfl | rfl <;> simp at hnn <;> omega
      have HALL : Hid (xs.all (inMost 1000000) = false → massB s xs = false) := fun h => massB_all h
      have HOF : Hid (xs.all (inMost 1000000) = true → massB s xs = (wholeB (sumL xs) && (gcdL xs == 1))) := fun h => massB_of hr.1 HSZ.out HF.out h
      obtain ⟨mb, hmb⟩ : ∃ mb, mb = massB s xs := ⟨_, rfl⟩
      rw [← hmb] at HALL HOF ⊢
      clear hmb
      rcases h with rfl | rfl | rfl | rfl
      all_goals
        simp at hnn
        have hne := hne_of hnn
        clear hnn
        go_enter Tryz.func15, Tryz.ntmps15
        go_wp2_with fail
        go_quiet ((go_at_call 28; exact Calls.quiet_of_same (HZ.out _)))
        have hr2 := hr.below (below_drewN hb1 nq)
        go_wp2_with fail
        go_loop [22] (fun i => ∃ k : Nat, k ≤ n ∧ i = .int .i64 k ∧ Hid ((xs.take k).all (inMost 1000000) = true)) (fun i => n - (intOf i).toNat)
        case atStart => exact ⟨0, Nat.zero_le _, rfl, rfl⟩
        case round =>
          obtain ⟨k, hk, rfl, HA⟩ := hrel
          by_cases hlt : k < n
          · obtain ⟨b, off, x, rfl, hx, hc⟩ := hr2.at_ hlt
            have hkl : k < xs.length := by rw [hr.1]; exact hlt
            by_cases h0 : x < 0
            · have HN : Hid (mb = false) := HALL.out (all_false_of _ xs k hkl (by rw [← hx]; simp [inMost]; omega))
              clear hx
              go_wp2_with fail
              go_ret
              exact ⟨ret_bool HN.out.symm, below_drewN hb1 _⟩
            · by_cases h1 : 1000000 < x
              · have HN : Hid (mb = false) := HALL.out (all_false_of _ xs k hkl (by rw [← hx]; simp [inMost]; omega))
                clear hx
                go_wp2_with fail
                go_ret
                exact ⟨ret_bool HN.out.symm, below_drewN hb1 _⟩
              · have HN : Hid ((xs.take (k+1)).all (inMost 1000000) = true) := by
                  show _ = _
                  rw [all_take_snoc _ _ _ hkl, HA.out, ← hx]; simp [inMost]; omega
                clear hx
                go_wp2_with fail
                go_round
                case rel => exact ⟨k + 1, by omega, by go_num, HN⟩
                case measure => simp [intOf]; omega
          · have hk' : k = n := by omega
            have hall : xs.all (inMost 1000000) = true := by
              have h2 := HA.out
              rw [List.take_of_length_le (by rw [hr.1]; omega)] at h2
              exact h2
            have HM : Hid (mb = (wholeB (sumL xs) && (gcdL xs == 1))) := HOF.out hall
            have hpt := inMost_bound hr.1 hall
            clear hall HA
            subst hk'
            have HW := Lib.hid (fun t W h => wholeOf_any t a k c xs W h hnl hpt)
            have HD := Lib.hid (fun W h => divisorOf_any a k c xs W h hn (fun k hk => by have := hpt k hk; omega))
            clear hpt
            obtain ⟨z, hz⟩ : ∃ z, z = sumL xs := ⟨_, rfl⟩
            obtain ⟨d, hd⟩ : ∃ d, d = gcdL xs := ⟨_, rfl⟩
            rw [← hz, ← hd] at HM
            rw [← hz] at HW
            rw [← hd] at HD
            clear hz hd
            go_wp2_with fail
            refine (HW.out _ _ hr2).mono ?_
            rintro e w2 ⟨rfl, b2⟩
            obtain ⟨c1, c2, _, _⟩ := box2 (k := w.heap.size) (alloc_at rfl) (Below.trans (below_drewN (Below.refl _ _) nq) (b2.mono (by simp)))
            have hb2 := (below_drewN hb1 nq).trans (b2.mono (by simp))
            have hr3 := hr.below hb2
            clear b2
            by_cases hz1 : 1 ≤ z
            · by_cases hz2 : z ≤ 1000000
              · have HM2 : Hid (mb = (d == 1)) := by show _ = _; rw [HM.out]; simp [wholeB, hz1, hz2]
                go_wp2_with fail
                refine (HD.out _ hr3).mono ?_
                rintro e w3 ⟨rfl, b3⟩
                have hb3 := hb2.trans (b3.mono hb2.size)
                go_wp2_with fail
                go_ret
                refine ⟨ret_bool ?_, hb3⟩
                rw [HM2.out, Bool.eq_iff_iff]
                simp
                try omega
              · have HM2 : Hid (mb = false) := by show _ = _; rw [HM.out]; simp [wholeB]; omega
                go_wp2_with fail
                go_ret
                exact ⟨ret_bool HM2.out.symm, hb2⟩
            · have HM2 : Hid (mb = false) := by show _ = _; rw [HM.out]; simp [wholeB]; omega
              go_wp2_with fail
              go_ret
              exact ⟨ret_bool HM2.out.symm, hb2⟩
    · have hf' : fitB s n = false := by simpa using hf
      have HN : Hid (massB s xs = false) := massB_fit hr.1 hf'
      have h := size_cases hs
      have hnn : ¬ (n : Int) = 2 ^ s.toNat := by simpa [fitB] using hf
      clear hs hf hf'
      rcases h with rfl | rfl | rfl | rfl
      all_goals
        simp at hnn
        go_enter Tryz.func15, Tryz.ntmps15
        go_wp2_with fail
        go_quiet ((go_at_call 28; exact Calls.quiet_of_same (HZ.out _)))
        go_wp2_with fail
        go_ret
        exact ⟨ret_bool HN.out.symm, below_drewN hb1 _⟩
  · have hs' : sizeB s = false := by simpa using hs
    have HN : Hid (massB s xs = false) := massB_size hs'
    rw [hs'] at HZ
    clear hs hs'
    go_enter Tryz.func15, Tryz.ntmps15
    go_wp2_with fail
    go_quiet ((go_at_call 28; exact Calls.quiet_of_same (HZ.out _)))
    go_wp2_with fail
    go_ret
    exact ⟨ret_bool HN.out.symm, below_drewN hb1 _⟩
set_option maxHeartbeats 400000 in
theorem l3Lowest_any (a : Option Addr) (n c : Nat) (xs : List Int) (w : World) (hr : Row w a n xs) (hn : n ≤ 1048576) (hb : ∀ k, k < n → -4000000000000000000 ≤ xs.getD k 0 ∧ xs.getD k 0 ≤ 4000000000000000000) :
    Calls Tryz.prog 25 #[.slice a n c] w fun e w' => e = .returned (.int .i64 (gcdL xs)) ∧ w = w' := by
  have HL := Lib.hid (fun k hk => gcdL_le (xs := xs) (M := 4000000000000000000) k hk)
  have HB := Lib.hid hb; clear hb
  go_enter Tryz.func25, Tryz.ntmps25
  go_wp2_with fail
  go_loop [3, 4] (fun d i => ∃ (k g : Nat), k ≤ n ∧ i = .int .i64 k ∧ d = .int .i64 g ∧ g ≤ 4000000000000000000 ∧ Hid (g = gcdL (xs.take k))) (fun _ i => n - (intOf i).toNat)
  case atStart => exact ⟨0, 0, Nat.zero_le _, rfl, rfl, by omega, rfl⟩
  case round =>
    obtain ⟨k, g, hk, rfl, rfl, hg, HG⟩ := hrel
    by_cases hlt : k < n
    · obtain ⟨b, off, x, rfl, hx, hc⟩ := hr.at_ hlt
      have hxb := HB.out k hlt
      rw [← hx] at hxb
      have hD : Calls Tryz.prog 49 #[.int .i64 g, .int .i64 x] w fun e w' => e = .returned (.int .i64 (Nat.gcd (g : Int).natAbs x.natAbs)) ∧ w = w' := l2Divisor_any g x w (by omega) hxb
      have hN : Nat.gcd (g : Int).natAbs x.natAbs = gcdL (xs.take (k + 1)) := by
        rw [gcdL_take xs k (by rw [hr.1]; exact hlt), ← HG.out, hx]; rfl
      have hM : gcdL (xs.take (k + 1)) ≤ 4000000000000000000 := HL.out (k + 1) (by rw [hr.1]; omega) (fun j hj => by have := HB.out j (by omega); omega)
      rw [hN] at hD
      obtain ⟨g2, hg2⟩ : ∃ g2, g2 = gcdL (xs.take (k + 1)) := ⟨_, rfl⟩
      rw [← hg2] at hD hM
      have HG2 := Lib.hid hg2
      have HD := Lib.hid hD
      clear hx hN hg2 hD
      go_wp2_with (go_at_call 49; refine HD.out.mono ?_; rintro e w' ⟨rfl, rfl⟩)
      go_round
      case rel => exact ⟨k + 1, g2, by omega, by go_num, rfl, hM, HG2⟩
      case measure => simp [intOf]; omega
    · have hk' : k = n := by omega
      have HN : Hid ((g : Int) = gcdL xs) := by
        have h2 := HG.out
        rw [List.take_of_length_le (by rw [hr.1]; omega)] at h2
        show _ = _
        rw [h2]
      subst hk'
      go_wp2_with fail
      go_ret
      exact ⟨ret_int HN.out, rfl⟩
set_option maxHeartbeats 1600000 in
theorem MassValid_any (s : Int) (a : Option Addr) (n c : Nat) (xs : List Int) (w : World) (hr : Row w a n xs) (hn : n ≤ 1048576) :
    Calls Tryz.prog 8 #[massV s a n c] w fun e w' => e = .returned (.bool (massB s xs)) ∧ Below w.heap.size w w' := by
  have HZ := Lib.hid (fun W => SizeValid_any s W)
  have hb1 : Below w.heap.size w (w.alloc (.cells #[.int .i64 s, .slice a n c] 25)) := (Below.refl w.heap.size w).alloc (Nat.le_refl _) _
  have hr1 := hr.below hb1
  by_cases hs : sizeB s = true
  · rw [hs] at HZ
    by_cases hf : fitB s n = true
    · have hn16 := fit_le hs hf
      have hnl : n ≤ 16 := by omega
      have h := size_cases hs
      have hnn : (n : Int) = 2 ^ s.toNat := by simpa [fitB] using hf
      have HS := Lib.hid (fun W h => l3Sum_any a n c xs 1000000 W h hn (by omega))
      by_cases ha : xs.all (inMost 1000000) = true
      · have HM : Hid (massB s xs = (wholeB (sumL xs) && (gcdL xs == 1))) := massB_of hr.1 hs hf ha
        have hpt := inMost_bound hr.1 ha
        have HD := Lib.hid (fun W h => l3Lowest_any a n c xs W h hn (fun k hk => by have := hpt k hk; omega))
        rw [sumMost_good ha] at HS
        obtain ⟨z, hz⟩ : ∃ z, z = sumL xs := ⟨_, rfl⟩
        obtain ⟨d, hd⟩ : ∃ d, d = gcdL xs := ⟨_, rfl⟩
        obtain ⟨mb, hmb⟩ : ∃ mb, mb = massB s xs := ⟨_, rfl⟩
        rw [← hz, ← hd, ← hmb] at HM
        rw [← hz] at HS
        rw [← hd] at HD
        rw [← hmb]
        clear hz hd hmb hpt ha hs hf hn16
        have HI : Hid (∀ W, Calls Tryz.prog 23 #[.int .i64 z, .int .i64 1, .int .i64 1000000] W fun e w' => e = .returned (.bool (wholeB z)) ∧ W = w') := fun W => l1In_any z 1 1000000 W
        by_cases hw : wholeB z = true
        · rw [hw] at HI HM
          clear hw
          have HM2 : Hid (mb = (d == 1)) := by show _ = _; rw [HM.out]; simp
          rcases h with rfl | rfl | rfl | rfl
          all_goals
            simp at hnn
            have hne := heq_of hnn
            clear hnn
            go_enter Tryz.func8, Tryz.ntmps8
            go_wp2_with (first | (go_at_call 22; refine (HZ.out _).mono ?_; rintro e w' ⟨rfl, rfl⟩) | (go_at_call 24; refine (HS.out _ hr1).mono ?_; rintro e w' ⟨rfl, rfl⟩) | (go_at_call 23; refine (HI.out _).mono ?_; rintro e w' ⟨rfl, rfl⟩) | (go_at_call 25; refine (HD.out _ hr1).mono ?_; rintro e w' ⟨rfl, rfl⟩))
            go_ret
            refine ⟨ret_bool ?_, hb1⟩
            rw [HM2.out, Bool.eq_iff_iff]
            simp
            try omega
        · have hw' : wholeB z = false := by simpa using hw
          rw [hw'] at HI HM
          clear hw hw'
          have HM2 : Hid (mb = false) := by show _ = _; rw [HM.out]; simp
          rcases h with rfl | rfl | rfl | rfl
          all_goals
            simp at hnn
            have hne := heq_of hnn
            clear hnn
            go_enter Tryz.func8, Tryz.ntmps8
            go_wp2_with (first | (go_at_call 22; refine (HZ.out _).mono ?_; rintro e w' ⟨rfl, rfl⟩) | (go_at_call 24; refine (HS.out _ hr1).mono ?_; rintro e w' ⟨rfl, rfl⟩) | (go_at_call 23; refine (HI.out _).mono ?_; rintro e w' ⟨rfl, rfl⟩))
            go_ret
            exact ⟨ret_bool HM2.out.symm, hb1⟩
      · have ha' : xs.all (inMost 1000000) = false := by simpa using ha
        have HM2 : Hid (massB s xs = false) := massB_all ha'
        have hsm : sumMost xs 1000000 = -1 := by rw [sumMost, if_neg ha]
        rw [hsm] at HS
        obtain ⟨mb, hmb⟩ : ∃ mb, mb = massB s xs := ⟨_, rfl⟩
        rw [← hmb] at HM2 ⊢
        clear hmb ha ha' hs hf hn16 hsm
        have HI : Hid (∀ W, Calls Tryz.prog 23 #[.int .i64 (-1), .int .i64 1, .int .i64 1000000] W fun e w' => e = .returned (.bool false) ∧ W = w') := fun W => l1In_any (-1) 1 1000000 W
        rcases h with rfl | rfl | rfl | rfl
        all_goals
          simp at hnn
          have hne := heq_of hnn
          clear hnn
          go_enter Tryz.func8, Tryz.ntmps8
          go_wp2_with (first | (go_at_call 22; refine (HZ.out _).mono ?_; rintro e w' ⟨rfl, rfl⟩) | (go_at_call 24; refine (HS.out _ hr1).mono ?_; rintro e w' ⟨rfl, rfl⟩) | (go_at_call 23; refine (HI.out _).mono ?_; rintro e w' ⟨rfl, rfl⟩))
          go_ret
          exact ⟨ret_bool HM2.out.symm, hb1⟩
    · have hf' : fitB s n = false := by simpa using hf
      have HN : Hid (massB s xs = false) := massB_fit hr.1 hf'
      obtain ⟨mb, hmb⟩ : ∃ mb, mb = massB s xs := ⟨_, rfl⟩
      rw [← hmb] at HN ⊢
      have h := size_cases hs
      have hnn : ¬ (n : Int) = 2 ^ s.toNat := by simpa [fitB] using hf
      clear hs hf hf' hmb
      rcases h with rfl | rfl | rfl | rfl
      all_goals
        simp at hnn
        have hne := hneq_of hnn
        clear hnn
        go_enter Tryz.func8, Tryz.ntmps8
        go_wp2_with (first | (go_at_call 22; refine (HZ.out _).mono ?_; rintro e w' ⟨rfl, rfl⟩))
        go_ret
        exact ⟨ret_bool HN.out.symm, hb1⟩
  · have hs' : sizeB s = false := by simpa using hs
    have HN : Hid (massB s xs = false) := massB_size hs'
    rw [hs'] at HZ
    clear hs hs'
    go_enter Tryz.func8, Tryz.ntmps8
    go_wp2_with (first | (go_at_call 22; refine (HZ.out _).mono ?_; rintro e w' ⟨rfl, rfl⟩))
    go_ret
    exact ⟨ret_bool HN.out.symm, hb1⟩
