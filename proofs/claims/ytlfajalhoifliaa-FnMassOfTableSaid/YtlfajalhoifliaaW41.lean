/- Contract of TableOf, of the program. -/
import Derived.Test.YtlfajalhoifliaaW15
import Derived.Test.YtlfajalhoifliaaMath
import Derived.Test.YtlfajalhoifliaaBase3
import Derived.Deep.RegionHeld3
namespace Go.Proofs.Ytlfajalhoifliaa
open Go.RowKit

theorem set_of {s : Int} {n k : Nat} {xs : List Int} (hm : IsMass s n xs) (h : k < n) : setB s k = true := by
  have h1 := hm.fit
  simp only [fitB, decide_eq_true_eq] at h1
  simp only [setB, Bool.and_eq_true, decide_eq_true_eq]
  omega
theorem cf_ImpliedPart (args : Array Value) (w : World) : (callFunc 23 args).run Try.prog w = .ok (.enter 23 args) w := by kernel_rfl
theorem cf_BelievedPart (args : Array Value) (w : World) : (callFunc 24 args).run Try.prog w = .ok (.enter 24 args) w := by kernel_rfl
theorem cf_PossiblePart (args : Array Value) (w : World) : (callFunc 25 args).run Try.prog w = .ok (.enter 25 args) w := by kernel_rfl
theorem cf_CommonPart (args : Array Value) (w : World) : (callFunc 26 args).run Try.prog w = .ok (.enter 26 args) w := by kernel_rfl
set_option maxHeartbeats 6400000 in
set_option maxRecDepth 100000 in
theorem iTableOf_any (s : Int) (kd : ByteArray) (a : Option Addr) (n c : Nat) (xs : List Int) (w : World) (hr : Row w a n xs) (hn : n ≤ 1048576) :
    Calls Try.prog 6 #[massV s a n c, .string kd] w fun e w' => ∃ A C, e = .returned (.slice A (tabN s xs kd) C) ∧ Own w.heap.size w' A (tabN s xs kd) C (tabT s xs kd) ∧ Below w.heap.size w w' := by
  obtain ⟨w0, hw0⟩ : ∃ w0, w0 = w.alloc (.cells #[.int .i64 s, .slice a n c] 25) := ⟨_, rfl⟩
  have HBM : Hid (Box w0 w.heap.size 25 (.int .i64 s) (.slice a n c)) := by rw [hw0]; exact Box.new _ _ _ _
  have HB0 : Hid (Below w.heap.size w w0) := by rw [hw0]; exact (Below.refl _ _).alloc (Nat.le_refl _) _
  have hr0 := hr.below HB0.out
  have HW0 := Lib.hid hw0; clear hw0
  have HM := Lib.hid (isMass_any s a n c xs w0 hr0 hn)
  by_cases hm : massB s xs = true
  · have hI := massB_is hr.1 hm
    rw [hm] at HM
    have hnl : n ≤ 16 := by have := hI.nums; omega
    rcases kind_cases kd with hkd | hkd | hkd | hkd | ⟨h0, h1, h2, h3⟩
    · obtain ⟨hN, hT⟩ := tab_yes hr.1 hm (kind0 hkd) (by omega)
      rw [hN, hT]
      have HP := Lib.hid (fun (k : Nat) (hk : k < n) W (h : Row W a n xs) => iImpliedPart_any s k a n c xs W h hn)
      have HMS : Hid (∀ (k : Nat) (v : Int), k < n → measure s xs k v = v) := fun k v hk => measure_yes hm (set_of hI hk)
      have hcf := cf_ImpliedPart
      clear hN hT hm hI hr
      go_enter Try.func6, Try.ntmps6
      go_wp2_with fail
      rw [← HW0.out]
      refine HM.out.mono ?_
      rintro e w1 ⟨rfl, b1⟩
      have HM1 := Lib.hid (HBM.out.below b1 HBM.out.lt)
      have HB1 := Lib.hid (HB0.out.trans (b1.mono HB0.out.size))
      have hr1 := hr0.below b1
      clear b1 HM HBM HB0 hr0
      obtain ⟨c1, c2, _, _⟩ := HM1.out.cells
      have how : Own w1.heap.size (w1.alloc (.cells #[] 3)) (some ⟨w1.heap.size, 0, none⟩) 0 0 (tab 0 (measK 0 xs)) := World.ownsRow_lit w1 #[] 0 (Nat.le_refl _) (by unfold maxLen; omega) rfl
      have hbw : Below w1.heap.size w1 (w1.alloc (.cells #[] 3)) := (Below.refl _ _).alloc (Nat.le_refl _) _
      have hlm := HM1.out.lt
      have c2' : (w1.alloc (.cells #[] 3)).cell? ⟨w.heap.size, 1, none⟩ = some (.slice a n c) := (HM1.out.alloc _).cells.2.1
      go_wp2_with fail
      clear c1 c2 c2'
      go_loopw [6, 24] (fun z i wr => ∃ (k : Nat) (A : Option Addr) (C : Nat), k ≤ n ∧ i = .int .i64 k ∧ z = .slice A k C ∧ Hid (Own w1.heap.size wr A k C (tab k (measK 0 xs))) ∧ Hid (Below w1.heap.size w1 wr)) (fun _ i _ => n - (intOf i).toNat)
      case atStart => exact ⟨0, _, 0, Nat.zero_le _, rfl, rfl, how, hbw⟩
      case round =>
        obtain ⟨k, A, C, hk, rfl, rfl, HO, HBR⟩ := hrel
        clear how hbw
        by_cases hlt : k < n
        · obtain ⟨c1, c2, _, _⟩ := (HM1.out.below HBR.out HM1.out.lt).cells
          have HPk := Lib.hid (HP.out k hlt)
          obtain ⟨z, hz⟩ : ∃ z, z = measK 0 xs k := ⟨_, rfl⟩
          have HZ : Hid (measure s xs k (measK 0 xs k) = z) := by show _ = _; rw [HMS.out k _ hlt, hz]
          have HT : Hid (tab k (measK 0 xs) ++ [z] = tab (k + 1) (measK 0 xs)) := by show _ = _; rw [tab_succ, hz]
          obtain ⟨ys, hys⟩ : ∃ ys, ys = tab k (measK 0 xs) := ⟨_, rfl⟩
          rw [← hys] at HO HT
          clear hz hys
          go_wp2_with fail
          clear c1 c2
          refine (HPk.out _ (hr1.below HBR.out)).mono ?_
          rintro e w2 ⟨he, b2⟩
          obtain rfl : e = .returned (.int .i64 z) := by rw [he, ← HZ.out]; rfl
          have B2 := HBR.out.trans (b2.mono HBR.out.size)
          have O2 := HO.out.below b2
          clear he b2
          go_wp2_with (at_builtin; refine wpList_push _ rfl _ _ rfl A k C ys z _ w1 rfl rfl O2 B2 B2.size (by omega) ?_)
          intro A' C' w3 ho' hb'
          rw [HT.out] at ho'
          have HO' := Lib.hid ho'
          have HB' := Lib.hid hb'
          clear ho' hb' O2 B2
          go_wp2_with fail
          go_roundw
          case rel => exact ⟨k + 1, A', C', by omega, by go_num, rfl, HO'.out, HB'.out⟩
          case measure => simp [intOf]; omega
        · have hk' : k = n := by omega
          subst hk'
          go_wp2_with fail
          go_ret
          exact ⟨A, C, rfl, HO.out.mono HB1.out.size, HB1.out.trans (HBR.out.mono HB1.out.size)⟩
    · obtain ⟨hN, hT⟩ := tab_yes hr.1 hm (kind1 hkd) (by omega)
      rw [hN, hT]
      have HP := Lib.hid (fun (k : Nat) (hk : k < n) W (h : Row W a n xs) => iBelievedPart_any s k a n c xs W h hn)
      have HMS : Hid (∀ (k : Nat) (v : Int), k < n → measure s xs k v = v) := fun k v hk => measure_yes hm (set_of hI hk)
      have hcf := cf_BelievedPart
      clear hN hT hm hI hr
      go_enter Try.func6, Try.ntmps6
      go_wp2_with fail
      rw [← HW0.out]
      refine HM.out.mono ?_
      rintro e w1 ⟨rfl, b1⟩
      have HM1 := Lib.hid (HBM.out.below b1 HBM.out.lt)
      have HB1 := Lib.hid (HB0.out.trans (b1.mono HB0.out.size))
      have hr1 := hr0.below b1
      clear b1 HM HBM HB0 hr0
      obtain ⟨c1, c2, _, _⟩ := HM1.out.cells
      have how : Own w1.heap.size (w1.alloc (.cells #[] 3)) (some ⟨w1.heap.size, 0, none⟩) 0 0 (tab 0 (measK 1 xs)) := World.ownsRow_lit w1 #[] 0 (Nat.le_refl _) (by unfold maxLen; omega) rfl
      have hbw : Below w1.heap.size w1 (w1.alloc (.cells #[] 3)) := (Below.refl _ _).alloc (Nat.le_refl _) _
      have hlm := HM1.out.lt
      have c2' : (w1.alloc (.cells #[] 3)).cell? ⟨w.heap.size, 1, none⟩ = some (.slice a n c) := (HM1.out.alloc _).cells.2.1
      go_wp2_with fail
      clear c1 c2 c2'
      go_loopw [6, 24] (fun z i wr => ∃ (k : Nat) (A : Option Addr) (C : Nat), k ≤ n ∧ i = .int .i64 k ∧ z = .slice A k C ∧ Hid (Own w1.heap.size wr A k C (tab k (measK 1 xs))) ∧ Hid (Below w1.heap.size w1 wr)) (fun _ i _ => n - (intOf i).toNat)
      case atStart => exact ⟨0, _, 0, Nat.zero_le _, rfl, rfl, how, hbw⟩
      case round =>
        obtain ⟨k, A, C, hk, rfl, rfl, HO, HBR⟩ := hrel
        clear how hbw
        by_cases hlt : k < n
        · obtain ⟨c1, c2, _, _⟩ := (HM1.out.below HBR.out HM1.out.lt).cells
          have HPk := Lib.hid (HP.out k hlt)
          obtain ⟨z, hz⟩ : ∃ z, z = measK 1 xs k := ⟨_, rfl⟩
          have HZ : Hid (measure s xs k (measK 1 xs k) = z) := by show _ = _; rw [HMS.out k _ hlt, hz]
          have HT : Hid (tab k (measK 1 xs) ++ [z] = tab (k + 1) (measK 1 xs)) := by show _ = _; rw [tab_succ, hz]
          obtain ⟨ys, hys⟩ : ∃ ys, ys = tab k (measK 1 xs) := ⟨_, rfl⟩
          rw [← hys] at HO HT
          clear hz hys
          go_wp2_with fail
          clear c1 c2
          refine (HPk.out _ (hr1.below HBR.out)).mono ?_
          rintro e w2 ⟨he, b2⟩
          obtain rfl : e = .returned (.int .i64 z) := by rw [he, ← HZ.out]; rfl
          have B2 := HBR.out.trans (b2.mono HBR.out.size)
          have O2 := HO.out.below b2
          clear he b2
          go_wp2_with (at_builtin; refine wpList_push _ rfl _ _ rfl A k C ys z _ w1 rfl rfl O2 B2 B2.size (by omega) ?_)
          intro A' C' w3 ho' hb'
          rw [HT.out] at ho'
          have HO' := Lib.hid ho'
          have HB' := Lib.hid hb'
          clear ho' hb' O2 B2
          go_wp2_with fail
          go_roundw
          case rel => exact ⟨k + 1, A', C', by omega, by go_num, rfl, HO'.out, HB'.out⟩
          case measure => simp [intOf]; omega
        · have hk' : k = n := by omega
          subst hk'
          go_wp2_with fail
          go_ret
          exact ⟨A, C, rfl, HO.out.mono HB1.out.size, HB1.out.trans (HBR.out.mono HB1.out.size)⟩
    · obtain ⟨hN, hT⟩ := tab_yes hr.1 hm (kind2 hkd) (by omega)
      rw [hN, hT]
      have HP := Lib.hid (fun (k : Nat) (hk : k < n) W (h : Row W a n xs) => iPossiblePart_any s k a n c xs W h hn)
      have HMS : Hid (∀ (k : Nat) (v : Int), k < n → measure s xs k v = v) := fun k v hk => measure_yes hm (set_of hI hk)
      have hcf := cf_PossiblePart
      clear hN hT hm hI hr
      go_enter Try.func6, Try.ntmps6
      go_wp2_with fail
      rw [← HW0.out]
      refine HM.out.mono ?_
      rintro e w1 ⟨rfl, b1⟩
      have HM1 := Lib.hid (HBM.out.below b1 HBM.out.lt)
      have HB1 := Lib.hid (HB0.out.trans (b1.mono HB0.out.size))
      have hr1 := hr0.below b1
      clear b1 HM HBM HB0 hr0
      obtain ⟨c1, c2, _, _⟩ := HM1.out.cells
      have how : Own w1.heap.size (w1.alloc (.cells #[] 3)) (some ⟨w1.heap.size, 0, none⟩) 0 0 (tab 0 (measK 2 xs)) := World.ownsRow_lit w1 #[] 0 (Nat.le_refl _) (by unfold maxLen; omega) rfl
      have hbw : Below w1.heap.size w1 (w1.alloc (.cells #[] 3)) := (Below.refl _ _).alloc (Nat.le_refl _) _
      have hlm := HM1.out.lt
      have c2' : (w1.alloc (.cells #[] 3)).cell? ⟨w.heap.size, 1, none⟩ = some (.slice a n c) := (HM1.out.alloc _).cells.2.1
      go_wp2_with fail
      clear c1 c2 c2'
      go_loopw [6, 24] (fun z i wr => ∃ (k : Nat) (A : Option Addr) (C : Nat), k ≤ n ∧ i = .int .i64 k ∧ z = .slice A k C ∧ Hid (Own w1.heap.size wr A k C (tab k (measK 2 xs))) ∧ Hid (Below w1.heap.size w1 wr)) (fun _ i _ => n - (intOf i).toNat)
      case atStart => exact ⟨0, _, 0, Nat.zero_le _, rfl, rfl, how, hbw⟩
      case round =>
        obtain ⟨k, A, C, hk, rfl, rfl, HO, HBR⟩ := hrel
        clear how hbw
        by_cases hlt : k < n
        · obtain ⟨c1, c2, _, _⟩ := (HM1.out.below HBR.out HM1.out.lt).cells
          have HPk := Lib.hid (HP.out k hlt)
          obtain ⟨z, hz⟩ : ∃ z, z = measK 2 xs k := ⟨_, rfl⟩
          have HZ : Hid (measure s xs k (measK 2 xs k) = z) := by show _ = _; rw [HMS.out k _ hlt, hz]
          have HT : Hid (tab k (measK 2 xs) ++ [z] = tab (k + 1) (measK 2 xs)) := by show _ = _; rw [tab_succ, hz]
          obtain ⟨ys, hys⟩ : ∃ ys, ys = tab k (measK 2 xs) := ⟨_, rfl⟩
          rw [← hys] at HO HT
          clear hz hys
          go_wp2_with fail
          clear c1 c2
          refine (HPk.out _ (hr1.below HBR.out)).mono ?_
          rintro e w2 ⟨he, b2⟩
          obtain rfl : e = .returned (.int .i64 z) := by rw [he, ← HZ.out]; rfl
          have B2 := HBR.out.trans (b2.mono HBR.out.size)
          have O2 := HO.out.below b2
          clear he b2
          go_wp2_with (at_builtin; refine wpList_push _ rfl _ _ rfl A k C ys z _ w1 rfl rfl O2 B2 B2.size (by omega) ?_)
          intro A' C' w3 ho' hb'
          rw [HT.out] at ho'
          have HO' := Lib.hid ho'
          have HB' := Lib.hid hb'
          clear ho' hb' O2 B2
          go_wp2_with fail
          go_roundw
          case rel => exact ⟨k + 1, A', C', by omega, by go_num, rfl, HO'.out, HB'.out⟩
          case measure => simp [intOf]; omega
        · have hk' : k = n := by omega
          subst hk'
          go_wp2_with fail
          go_ret
          exact ⟨A, C, rfl, HO.out.mono HB1.out.size, HB1.out.trans (HBR.out.mono HB1.out.size)⟩
    · obtain ⟨hN, hT⟩ := tab_yes hr.1 hm (kind3 hkd) (by omega)
      rw [hN, hT]
      have HP := Lib.hid (fun (k : Nat) (hk : k < n) W (h : Row W a n xs) => iCommonPart_any s k a n c xs W h hn)
      have HMS : Hid (∀ (k : Nat) (v : Int), k < n → measure s xs k v = v) := fun k v hk => measure_yes hm (set_of hI hk)
      have hcf := cf_CommonPart
      clear hN hT hm hI hr
      go_enter Try.func6, Try.ntmps6
      go_wp2_with fail
      rw [← HW0.out]
      refine HM.out.mono ?_
      rintro e w1 ⟨rfl, b1⟩
      have HM1 := Lib.hid (HBM.out.below b1 HBM.out.lt)
      have HB1 := Lib.hid (HB0.out.trans (b1.mono HB0.out.size))
      have hr1 := hr0.below b1
      clear b1 HM HBM HB0 hr0
      obtain ⟨c1, c2, _, _⟩ := HM1.out.cells
      have how : Own w1.heap.size (w1.alloc (.cells #[] 3)) (some ⟨w1.heap.size, 0, none⟩) 0 0 (tab 0 (measK 3 xs)) := World.ownsRow_lit w1 #[] 0 (Nat.le_refl _) (by unfold maxLen; omega) rfl
      have hbw : Below w1.heap.size w1 (w1.alloc (.cells #[] 3)) := (Below.refl _ _).alloc (Nat.le_refl _) _
      have hlm := HM1.out.lt
      have c2' : (w1.alloc (.cells #[] 3)).cell? ⟨w.heap.size, 1, none⟩ = some (.slice a n c) := (HM1.out.alloc _).cells.2.1
      go_wp2_with fail
      clear c1 c2 c2'
      go_loopw [6, 24] (fun z i wr => ∃ (k : Nat) (A : Option Addr) (C : Nat), k ≤ n ∧ i = .int .i64 k ∧ z = .slice A k C ∧ Hid (Own w1.heap.size wr A k C (tab k (measK 3 xs))) ∧ Hid (Below w1.heap.size w1 wr)) (fun _ i _ => n - (intOf i).toNat)
      case atStart => exact ⟨0, _, 0, Nat.zero_le _, rfl, rfl, how, hbw⟩
      case round =>
        obtain ⟨k, A, C, hk, rfl, rfl, HO, HBR⟩ := hrel
        clear how hbw
        by_cases hlt : k < n
        · obtain ⟨c1, c2, _, _⟩ := (HM1.out.below HBR.out HM1.out.lt).cells
          have HPk := Lib.hid (HP.out k hlt)
          obtain ⟨z, hz⟩ : ∃ z, z = measK 3 xs k := ⟨_, rfl⟩
          have HZ : Hid (measure s xs k (measK 3 xs k) = z) := by show _ = _; rw [HMS.out k _ hlt, hz]
          have HT : Hid (tab k (measK 3 xs) ++ [z] = tab (k + 1) (measK 3 xs)) := by show _ = _; rw [tab_succ, hz]
          obtain ⟨ys, hys⟩ : ∃ ys, ys = tab k (measK 3 xs) := ⟨_, rfl⟩
          rw [← hys] at HO HT
          clear hz hys
          go_wp2_with fail
          clear c1 c2
          refine (HPk.out _ (hr1.below HBR.out)).mono ?_
          rintro e w2 ⟨he, b2⟩
          obtain rfl : e = .returned (.int .i64 z) := by rw [he, ← HZ.out]; rfl
          have B2 := HBR.out.trans (b2.mono HBR.out.size)
          have O2 := HO.out.below b2
          clear he b2
          go_wp2_with (at_builtin; refine wpList_push _ rfl _ _ rfl A k C ys z _ w1 rfl rfl O2 B2 B2.size (by omega) ?_)
          intro A' C' w3 ho' hb'
          rw [HT.out] at ho'
          have HO' := Lib.hid ho'
          have HB' := Lib.hid hb'
          clear ho' hb' O2 B2
          go_wp2_with fail
          go_roundw
          case rel => exact ⟨k + 1, A', C', by omega, by go_num, rfl, HO'.out, HB'.out⟩
          case measure => simp [intOf]; omega
        · have hk' : k = n := by omega
          subst hk'
          go_wp2_with fail
          go_ret
          exact ⟨A, C, rfl, HO.out.mono HB1.out.size, HB1.out.trans (HBR.out.mono HB1.out.size)⟩
    · obtain ⟨hN, hT⟩ := tab_no (s := s) (xs := xs) (.inr (kind4 h0 h1 h2 h3))
      rw [hN, hT]
      have q0 : (kd.toList == [105, 109, 112, 108, 105, 101, 100]) = false := by simpa using h0
      have q1 : (kd.toList == [98, 101, 108, 105, 101, 118, 101, 100]) = false := by simpa using h1
      have q2 : (kd.toList == [112, 111, 115, 115, 105, 98, 108, 101]) = false := by simpa using h2
      have q3 : (kd.toList == [99, 111, 109, 109, 111, 110]) = false := by simpa using h3
      clear hN hT hm hI hr hr0
      go_enter Try.func6, Try.ntmps6
      go_wp2_with fail
      rw [← HW0.out]
      refine HM.out.mono ?_
      rintro e w1 ⟨rfl, b1⟩
      have HB1 := Lib.hid (HB0.out.trans (b1.mono HB0.out.size))
      clear b1
      go_wp2_with fail
      go_ret
      exact ⟨none, 0, rfl, Own.nil _ _, HB1.out⟩
  · have hm' : massB s xs = false := by simpa using hm
    rw [hm'] at HM
    obtain ⟨hN, hT⟩ := tab_no (kd := kd) (.inl hm')
    rw [hN, hT]
    clear hN hT hm hm' hr hr0
    go_enter Try.func6, Try.ntmps6
    go_wp2_with fail
    rw [← HW0.out]
    refine HM.out.mono ?_
    rintro e w1 ⟨rfl, b1⟩
    have HB1 := Lib.hid (HB0.out.trans (b1.mono HB0.out.size))
    clear b1
    go_wp2_with fail
    go_ret
    exact ⟨none, 0, rfl, Own.nil _ _, HB1.out⟩
end Go.Proofs.Ytlfajalhoifliaa
