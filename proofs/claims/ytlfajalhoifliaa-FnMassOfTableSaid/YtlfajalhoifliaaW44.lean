/- Contract of MassOfTable, of the reference. -/
import Derived.Test.YtlfajalhoifliaaW9
import Derived.Test.YtlfajalhoifliaaW10
import Derived.Test.YtlfajalhoifliaaW19
import Derived.Test.YtlfajalhoifliaaW17
import Derived.Test.YtlfajalhoifliaaMath
import Derived.Deep.RegionHeld3
namespace Go.Proofs.Ytlfajalhoifliaa
open Go.RowKit

theorem sum_nn {P : List Int} {n : Nat} (hn : P.length = n) (h : P.all (inMost 1000000) = true) : 0 ≤ sumL P := by
  unfold sumL
  rw [hn]
  exact sumTo_nonneg _ (fun k hk => (inMost_bound hn h k hk).1)
set_option maxHeartbeats 6400000 in
set_option maxRecDepth 100000 in
theorem smot0_any (s : Int) (kd : ByteArray) (a : Option Addr) (n c : Nat) (xs : List Int) (w : World) (hr : Row w a n xs) (hn : n ≤ 1048576) (ht : tableB xs = true) (hs : sizeB s = true) (hf : fitB s n = true) (hkd : kd.toList = [105, 109, 112, 108, 105, 101, 100]) :
    Calls Try.prog 17 #[.int .i64 s, .slice a n c, .string kd] w fun e w' => RetM w.heap.size (motR s xs kd) e w' ∧ Below w.heap.size w w' := by
          have HT := Lib.hid (fun W h => l5Table_any a n c xs W h hn)
          have HZ := Lib.hid (fun W => SizeValid_any s W)
          have hb0 : Below w.heap.size w (w.alloc (.cells #[.int .i64 0, .slice none 0 0] 25)) := (Below.refl w.heap.size w).alloc (Nat.le_refl _) _
          have hr0 := hr.below hb0
          rw [ht] at HT
          rw [hs] at HZ
          obtain ⟨p, hp⟩ : ∃ p : Int, p = 2 ^ s.toNat := ⟨_, rfl⟩
          have hsh : wrap64 (2 ^ min s.toNat 64) = p := by rw [hp]; rcases size_cases hs with rfl | rfl | rfl | rfl <;> decide +kernel
          have hsh2 : wrap64 (2 ^ min (IntKind.u64.wrap s).toNat 64) = p := by rw [hp]; rcases size_cases hs with rfl | rfl | rfl | rfl <;> decide +kernel
          have hs0 : ¬ s < 0 := by simp [sizeB] at hs; omega
          have hsp : shapeB s xs = true := by simp [shapeB, ht, hs, hr.1, hf]
          have hpn : p = (n : Int) := by rw [hp]; have h : (n : Int) = 2 ^ s.toNat := (by simpa [fitB] using hf); exact h.symm
          have hnn := (table_part hr.1 ht).1
          have hbd := (table_part hr.1 ht).2
          rw [hpn] at hsh hsh2
          have hnl : n ≤ 16 := by omega
          have hpos : 0 < n := by omega
          have hFS : ∀ W, Calls Try.prog 35 #[.int .i64 s] W fun e w' => e = .returned (.int .i64 ((n - 1 : Nat) : Int)) ∧ W = w' := fun W => fullSet_any s n W hs hf
          have HFS := Lib.hid hFS; clear hFS
          clear hp hpn ht hf
          have hs' := hs; clear hs
          obtain ⟨w0, hw0⟩ : ∃ w0, w0 = w.alloc (.cells #[.int .i64 0, .slice none 0 0] 25) := ⟨_, rfl⟩
          have HBX : Hid (Box w0 w.heap.size 25 (.int .i64 0) (.slice none 0 0)) := by rw [hw0]; exact Box.new _ _ _ _
          rw [← hw0] at hb0 hr0
          have HB0 := Lib.hid hb0; clear hb0
          have HW0 := Lib.hid hw0; clear hw0
          have hb1 : Below w0.heap.size w0 (w0.alloc (.cells #[] 3)) := (Below.refl _ _).alloc (Nat.le_refl _) _
          have HB1 := Lib.hid (HB0.out.trans (hb1.mono HB0.out.size))
          have HX1 := Lib.hid (HBX.out.below hb1 HBX.out.lt)
          have hr1 := hr0.below hb1
          clear hb1
          have hk := kind0 hkd
          obtain ⟨r, hre⟩ : ∃ r, r = motR s xs kd := ⟨_, rfl⟩
          obtain ⟨P, hPe⟩ : ∃ P, P = motP 0 xs := ⟨_, rfl⟩
          have HALL : Hid (P.all (inMost 1000000) = false → r = none) := fun h => by rw [hre]; exact mot_no4 hk (by rw [← hPe]; exact h)
          have HPL : Hid (P.length = n) := by show _ = _; rw [hPe, motP_length]; exact hr.1
          have HZN : Hid (zeroB 0 xs = false → r = none) := fun h => by rw [hre]; exact mot_no3 hk h
          have HK : Hid (zeroB 0 xs = true → P.all (inMost 1000000) = true → ∀ A C W, Row W A n P → Calls Try.prog 50 #[.int .i64 s, .slice A n C] W fun e w' => RetM W.heap.size r e w' ∧ Below W.heap.size W w') := fun hz h A C W hrow => by
            rw [hre, mot_yes hsp hk (by omega) hz (by rw [← hPe]; exact h), ← hPe]
            exact l3Made_any s A n C P W hrow hn (fun k hk => by have := inMost_bound HPL.out h k hk; omega)
          rw [← hre]
          have HP := Lib.hid (fun W (h : Row W a n xs) => l5Sums_any false true a n c xs W h hnl (fun k hk => by have := hbd k hk; omega))
          rw [show sums false true xs = P by rw [hPe]; rfl] at HP
          clear hre hPe hsp hk hbd hs' hr hnn
          replace HK := Lib.hid (HK.out rfl)
          clear HZN
          go_enter Try.func17, Try.ntmps17
          go_wp2_with (first | (go_at_call 47; rw [← HW0.out]; refine (HT.out _ hr0).mono ?_; rintro e w' ⟨rfl, rfl⟩) | (go_at_call 46; refine (HZ.out _).mono ?_; rintro e w' ⟨rfl, rfl⟩) | (go_at_call 35; refine (HFS.out _).mono ?_; rintro e w' ⟨rfl, rfl⟩))
          refine (HP.out _ hr1).mono ?_
          rintro e w2 ⟨A2, C2, rfl, o2, b2⟩
          have HB2 := Lib.hid (HB1.out.trans (b2.mono HB1.out.size))
          have HX2 := Lib.hid (HX1.out.below b2 HX1.out.lt)
          have HBB := Lib.hid (((show Below w0.heap.size w0 (w0.alloc (.cells #[] 3)) from (Below.refl _ _).alloc (Nat.le_refl _) _)).trans (b2.mono ((show Below w0.heap.size w0 (w0.alloc (.cells #[] 3)) from (Below.refl _ _).alloc (Nat.le_refl _) _)).size))
          clear b2
          have HO := Lib.hid o2
          clear o2
          obtain ⟨d1, d2, f1, f2⟩ := HX2.out.cells
          obtain ⟨b0, off0, v0, rfl, hv0, hc0⟩ := (hr0.below HBB.out).at_ hpos
          simp only [Nat.add_zero] at hc0
          have hn0 : (0 : Int) < (n : Int) := by omega
          have HS3 := Lib.hid (l3Sum_any A2 n C2 P 1000000 w2 HO.out.row hn (by omega))
          by_cases hall : P.all (inMost 1000000) = true
          · rw [show sumMost P 1000000 = sumL P from if_pos hall] at HS3
            have hsl := sum_nn HPL.out hall
            obtain ⟨z, hz⟩ : ∃ z, z = sumL P := ⟨_, rfl⟩
            rw [← hz] at HS3 hsl
            have hz0 : ¬ z < 0 := by omega
            have HKK := Lib.hid (HK.out hall)
            clear hall hz hsl
            go_wp2_with (go_at_call 49; refine HS3.out.mono ?_; rintro e w' ⟨rfl, rfl⟩)
            refine (HKK.out _ _ _ HO.out.row).mono ?_
            rintro e w9 ⟨⟨A9, C9, rfl, o9⟩, b9⟩
            obtain ⟨d1, d2, f1, f2⟩ := (HX2.out.below b9 HX2.out.lt).cells
            have HO9 := Lib.hid o9
            have hz9 := HX2.out.lt
            have HB9 := Lib.hid (HB2.out.trans (b9.mono HB2.out.size))
            clear b9 o9
            go_wp2_with fail
            refine bodyPost_ret (v := .tuple #[massV (rS r) A9 (rN r) C9, .bool (rB r)]) (by simp [results, Try.results17, go_sem, d1, d2]) rfl ?_
            exact ⟨⟨A9, C9, rfl, (HO9.out.setBox hz9 _ _).mono (by omega)⟩, (HB9.out.setCell (by simp) _).setCell (by simp) _⟩
          · have hall' : P.all (inMost 1000000) = false := by simpa using hall
            rw [show sumMost P 1000000 = -1 from if_neg hall] at HS3
            have HN := Lib.hid (HALL.out hall')
            clear hall hall'
            go_wp2_with (go_at_call 49; refine HS3.out.mono ?_; rintro e w' ⟨rfl, rfl⟩)
            refine bodyPost_ret (v := .tuple #[massV 0 none 0 0, .bool false]) (by simp [results, Try.results17, go_sem, d1, d2]) rfl ?_
            exact ⟨by rw [HN.out]; exact RetM.none_ _ _, (HB2.out.setCell (by simp) _).setCell (by simp) _⟩
set_option maxHeartbeats 6400000 in
set_option maxRecDepth 100000 in
theorem smot1_any (s : Int) (kd : ByteArray) (a : Option Addr) (n c : Nat) (xs : List Int) (w : World) (hr : Row w a n xs) (hn : n ≤ 1048576) (ht : tableB xs = true) (hs : sizeB s = true) (hf : fitB s n = true) (hkd : kd.toList = [98, 101, 108, 105, 101, 118, 101, 100]) :
    Calls Try.prog 17 #[.int .i64 s, .slice a n c, .string kd] w fun e w' => RetM w.heap.size (motR s xs kd) e w' ∧ Below w.heap.size w w' := by
          have HT := Lib.hid (fun W h => l5Table_any a n c xs W h hn)
          have HZ := Lib.hid (fun W => SizeValid_any s W)
          have hb0 : Below w.heap.size w (w.alloc (.cells #[.int .i64 0, .slice none 0 0] 25)) := (Below.refl w.heap.size w).alloc (Nat.le_refl _) _
          have hr0 := hr.below hb0
          rw [ht] at HT
          rw [hs] at HZ
          obtain ⟨p, hp⟩ : ∃ p : Int, p = 2 ^ s.toNat := ⟨_, rfl⟩
          have hsh : wrap64 (2 ^ min s.toNat 64) = p := by rw [hp]; rcases size_cases hs with rfl | rfl | rfl | rfl <;> decide +kernel
          have hsh2 : wrap64 (2 ^ min (IntKind.u64.wrap s).toNat 64) = p := by rw [hp]; rcases size_cases hs with rfl | rfl | rfl | rfl <;> decide +kernel
          have hs0 : ¬ s < 0 := by simp [sizeB] at hs; omega
          have hsp : shapeB s xs = true := by simp [shapeB, ht, hs, hr.1, hf]
          have hpn : p = (n : Int) := by rw [hp]; have h : (n : Int) = 2 ^ s.toNat := (by simpa [fitB] using hf); exact h.symm
          have hnn := (table_part hr.1 ht).1
          have hbd := (table_part hr.1 ht).2
          rw [hpn] at hsh hsh2
          have hnl : n ≤ 16 := by omega
          have hpos : 0 < n := by omega
          have hFS : ∀ W, Calls Try.prog 35 #[.int .i64 s] W fun e w' => e = .returned (.int .i64 ((n - 1 : Nat) : Int)) ∧ W = w' := fun W => fullSet_any s n W hs hf
          have HFS := Lib.hid hFS; clear hFS
          clear hp hpn ht hf
          have hs' := hs; clear hs
          obtain ⟨w0, hw0⟩ : ∃ w0, w0 = w.alloc (.cells #[.int .i64 0, .slice none 0 0] 25) := ⟨_, rfl⟩
          have HBX : Hid (Box w0 w.heap.size 25 (.int .i64 0) (.slice none 0 0)) := by rw [hw0]; exact Box.new _ _ _ _
          rw [← hw0] at hb0 hr0
          have HB0 := Lib.hid hb0; clear hb0
          have HW0 := Lib.hid hw0; clear hw0
          have hb1 : Below w0.heap.size w0 (w0.alloc (.cells #[] 3)) := (Below.refl _ _).alloc (Nat.le_refl _) _
          have HB1 := Lib.hid (HB0.out.trans (hb1.mono HB0.out.size))
          have HX1 := Lib.hid (HBX.out.below hb1 HBX.out.lt)
          have hr1 := hr0.below hb1
          clear hb1
          have hk := kind1 hkd
          obtain ⟨r, hre⟩ : ∃ r, r = motR s xs kd := ⟨_, rfl⟩
          obtain ⟨P, hPe⟩ : ∃ P, P = motP 1 xs := ⟨_, rfl⟩
          have HALL : Hid (P.all (inMost 1000000) = false → r = none) := fun h => by rw [hre]; exact mot_no4 hk (by rw [← hPe]; exact h)
          have HPL : Hid (P.length = n) := by show _ = _; rw [hPe, motP_length]; exact hr.1
          have HZN : Hid (zeroB 1 xs = false → r = none) := fun h => by rw [hre]; exact mot_no3 hk h
          have HK : Hid (zeroB 1 xs = true → P.all (inMost 1000000) = true → ∀ A C W, Row W A n P → Calls Try.prog 50 #[.int .i64 s, .slice A n C] W fun e w' => RetM W.heap.size r e w' ∧ Below W.heap.size W w') := fun hz h A C W hrow => by
            rw [hre, mot_yes hsp hk (by omega) hz (by rw [← hPe]; exact h), ← hPe]
            exact l3Made_any s A n C P W hrow hn (fun k hk => by have := inMost_bound HPL.out h k hk; omega)
          rw [← hre]
          have HP := Lib.hid (fun W (h : Row W a n xs) => l5Sums_any false true a n c xs W h hnl (fun k hk => by have := hbd k hk; omega))
          rw [show sums false true xs = P by rw [hPe]; rfl] at HP
          clear hre hPe hsp hk hbd hs' hr hnn
          have hv := hr0.at_ hpos
          by_cases hz : xs.getD 0 0 = 0
          · have HK := Lib.hid (HK.out (by rw [zeroB, hz]; rfl))
            have HV0 := Lib.hid hz
            clear HZN hv hz
            go_enter Try.func17, Try.ntmps17
            go_wp2_with (first | (go_at_call 47; rw [← HW0.out]; refine (HT.out _ hr0).mono ?_; rintro e w' ⟨rfl, rfl⟩) | (go_at_call 46; refine (HZ.out _).mono ?_; rintro e w' ⟨rfl, rfl⟩) | (go_at_call 35; refine (HFS.out _).mono ?_; rintro e w' ⟨rfl, rfl⟩))
            refine (HP.out _ hr1).mono ?_
            rintro e w2 ⟨A2, C2, rfl, o2, b2⟩
            have HB2 := Lib.hid (HB1.out.trans (b2.mono HB1.out.size))
            have HX2 := Lib.hid (HX1.out.below b2 HX1.out.lt)
            have HBB := Lib.hid (((show Below w0.heap.size w0 (w0.alloc (.cells #[] 3)) from (Below.refl _ _).alloc (Nat.le_refl _) _)).trans (b2.mono ((show Below w0.heap.size w0 (w0.alloc (.cells #[] 3)) from (Below.refl _ _).alloc (Nat.le_refl _) _)).size))
            clear b2
            have HO := Lib.hid o2
            clear o2
            obtain ⟨d1, d2, f1, f2⟩ := HX2.out.cells
            obtain ⟨b0, off0, v0, rfl, hv0, hc0⟩ := (hr0.below HBB.out).at_ hpos
            simp only [Nat.add_zero] at hc0
            have hn0 : (0 : Int) < (n : Int) := by omega
            have HS3 := Lib.hid (l3Sum_any A2 n C2 P 1000000 w2 HO.out.row hn (by omega))
            by_cases hall : P.all (inMost 1000000) = true
            · rw [show sumMost P 1000000 = sumL P from if_pos hall] at HS3
              have hsl := sum_nn HPL.out hall
              obtain ⟨z, hz⟩ : ∃ z, z = sumL P := ⟨_, rfl⟩
              rw [← hz] at HS3 hsl
              have hz0 : ¬ z < 0 := by omega
              have HKK := Lib.hid (HK.out hall)
              clear hall hz hsl
              have hvz : v0 = 0 := by rw [hv0]; exact HV0.out
              subst hvz
              clear hv0
              go_wp2_with (go_at_call 49; refine HS3.out.mono ?_; rintro e w' ⟨rfl, rfl⟩)
              refine (HKK.out _ _ _ HO.out.row).mono ?_
              rintro e w9 ⟨⟨A9, C9, rfl, o9⟩, b9⟩
              obtain ⟨d1, d2, f1, f2⟩ := (HX2.out.below b9 HX2.out.lt).cells
              have HO9 := Lib.hid o9
              have hz9 := HX2.out.lt
              have HB9 := Lib.hid (HB2.out.trans (b9.mono HB2.out.size))
              clear b9 o9
              go_wp2_with fail
              refine bodyPost_ret (v := .tuple #[massV (rS r) A9 (rN r) C9, .bool (rB r)]) (by simp [results, Try.results17, go_sem, d1, d2]) rfl ?_
              exact ⟨⟨A9, C9, rfl, (HO9.out.setBox hz9 _ _).mono (by omega)⟩, (HB9.out.setCell (by simp) _).setCell (by simp) _⟩
            · have hall' : P.all (inMost 1000000) = false := by simpa using hall
              rw [show sumMost P 1000000 = -1 from if_neg hall] at HS3
              have HN := Lib.hid (HALL.out hall')
              clear hall hall'
              have hvz : v0 = 0 := by rw [hv0]; exact HV0.out
              subst hvz
              clear hv0
              go_wp2_with (go_at_call 49; refine HS3.out.mono ?_; rintro e w' ⟨rfl, rfl⟩)
              refine bodyPost_ret (v := .tuple #[massV 0 none 0 0, .bool false]) (by simp [results, Try.results17, go_sem, d1, d2]) rfl ?_
              exact ⟨by rw [HN.out]; exact RetM.none_ _ _, (HB2.out.setCell (by simp) _).setCell (by simp) _⟩
          · rw [HZN.out (by rw [zeroB]; simpa using hz)]
            have HV0 := Lib.hid hz
            clear HZN hv hz HK HALL
            go_enter Try.func17, Try.ntmps17
            go_wp2_with (first | (go_at_call 47; rw [← HW0.out]; refine (HT.out _ hr0).mono ?_; rintro e w' ⟨rfl, rfl⟩) | (go_at_call 46; refine (HZ.out _).mono ?_; rintro e w' ⟨rfl, rfl⟩) | (go_at_call 35; refine (HFS.out _).mono ?_; rintro e w' ⟨rfl, rfl⟩))
            refine (HP.out _ hr1).mono ?_
            rintro e w2 ⟨A2, C2, rfl, o2, b2⟩
            have HB2 := Lib.hid (HB1.out.trans (b2.mono HB1.out.size))
            have HX2 := Lib.hid (HX1.out.below b2 HX1.out.lt)
            have HBB := Lib.hid (((show Below w0.heap.size w0 (w0.alloc (.cells #[] 3)) from (Below.refl _ _).alloc (Nat.le_refl _) _)).trans (b2.mono ((show Below w0.heap.size w0 (w0.alloc (.cells #[] 3)) from (Below.refl _ _).alloc (Nat.le_refl _) _)).size))
            clear b2
            obtain ⟨d1, d2, f1, f2⟩ := HX2.out.cells
            obtain ⟨b0, off0, v0, hze, hv0, hc0⟩ := (hr0.below HBB.out).at_ hpos
            cases hze
            simp only [Nat.add_zero] at hc0
            have hn0 : (0 : Int) < (n : Int) := by omega
            have hvz : (v0 != 0) = true := by have := HV0.out; rw [← hv0] at this; simpa using this
            clear hv0 o2
            go_wp2_with fail
            refine bodyPost_ret (v := .tuple #[massV 0 none 0 0, .bool false]) (by simp [results, Try.results17, go_sem, d1, d2]) rfl ?_
            exact ⟨RetM.none_ _ _, (HB2.out.setCell (by simp) _).setCell (by simp) _⟩
set_option maxHeartbeats 6400000 in
set_option maxRecDepth 100000 in
theorem smot2_any (s : Int) (kd : ByteArray) (a : Option Addr) (n c : Nat) (xs : List Int) (w : World) (hr : Row w a n xs) (hn : n ≤ 1048576) (ht : tableB xs = true) (hs : sizeB s = true) (hf : fitB s n = true) (hkd : kd.toList = [112, 111, 115, 115, 105, 98, 108, 101]) :
    Calls Try.prog 17 #[.int .i64 s, .slice a n c, .string kd] w fun e w' => RetM w.heap.size (motR s xs kd) e w' ∧ Below w.heap.size w w' := by
          have HT := Lib.hid (fun W h => l5Table_any a n c xs W h hn)
          have HZ := Lib.hid (fun W => SizeValid_any s W)
          have hb0 : Below w.heap.size w (w.alloc (.cells #[.int .i64 0, .slice none 0 0] 25)) := (Below.refl w.heap.size w).alloc (Nat.le_refl _) _
          have hr0 := hr.below hb0
          rw [ht] at HT
          rw [hs] at HZ
          obtain ⟨p, hp⟩ : ∃ p : Int, p = 2 ^ s.toNat := ⟨_, rfl⟩
          have hsh : wrap64 (2 ^ min s.toNat 64) = p := by rw [hp]; rcases size_cases hs with rfl | rfl | rfl | rfl <;> decide +kernel
          have hsh2 : wrap64 (2 ^ min (IntKind.u64.wrap s).toNat 64) = p := by rw [hp]; rcases size_cases hs with rfl | rfl | rfl | rfl <;> decide +kernel
          have hs0 : ¬ s < 0 := by simp [sizeB] at hs; omega
          have hsp : shapeB s xs = true := by simp [shapeB, ht, hs, hr.1, hf]
          have hpn : p = (n : Int) := by rw [hp]; have h : (n : Int) = 2 ^ s.toNat := (by simpa [fitB] using hf); exact h.symm
          have hnn := (table_part hr.1 ht).1
          have hbd := (table_part hr.1 ht).2
          rw [hpn] at hsh hsh2
          have hnl : n ≤ 16 := by omega
          have hpos : 0 < n := by omega
          have hFS : ∀ W, Calls Try.prog 35 #[.int .i64 s] W fun e w' => e = .returned (.int .i64 ((n - 1 : Nat) : Int)) ∧ W = w' := fun W => fullSet_any s n W hs hf
          have HFS := Lib.hid hFS; clear hFS
          clear hp hpn ht hf
          have hs' := hs; clear hs
          obtain ⟨w0, hw0⟩ : ∃ w0, w0 = w.alloc (.cells #[.int .i64 0, .slice none 0 0] 25) := ⟨_, rfl⟩
          have HBX : Hid (Box w0 w.heap.size 25 (.int .i64 0) (.slice none 0 0)) := by rw [hw0]; exact Box.new _ _ _ _
          rw [← hw0] at hb0 hr0
          have HB0 := Lib.hid hb0; clear hb0
          have HW0 := Lib.hid hw0; clear hw0
          have hb1 : Below w0.heap.size w0 (w0.alloc (.cells #[] 3)) := (Below.refl _ _).alloc (Nat.le_refl _) _
          have HB1 := Lib.hid (HB0.out.trans (hb1.mono HB0.out.size))
          have HX1 := Lib.hid (HBX.out.below hb1 HBX.out.lt)
          have hr1 := hr0.below hb1
          clear hb1
          have hk := kind2 hkd
          obtain ⟨r, hre⟩ : ∃ r, r = motR s xs kd := ⟨_, rfl⟩
          obtain ⟨P, hPe⟩ : ∃ P, P = motP 2 xs := ⟨_, rfl⟩
          have HALL : Hid (P.all (inMost 1000000) = false → r = none) := fun h => by rw [hre]; exact mot_no4 hk (by rw [← hPe]; exact h)
          have HPL : Hid (P.length = n) := by show _ = _; rw [hPe, motP_length]; exact hr.1
          have HZN : Hid (zeroB 2 xs = false → r = none) := fun h => by rw [hre]; exact mot_no3 hk h
          have HK : Hid (zeroB 2 xs = true → P.all (inMost 1000000) = true → ∀ A C W, Row W A n P → Calls Try.prog 50 #[.int .i64 s, .slice A n C] W fun e w' => RetM W.heap.size r e w' ∧ Below W.heap.size W w') := fun hz h A C W hrow => by
            rw [hre, mot_yes hsp hk (by omega) hz (by rw [← hPe]; exact h), ← hPe]
            exact l3Made_any s A n C P W hrow hn (fun k hk => by have := inMost_bound HPL.out h k hk; omega)
          rw [← hre]
          have HP := Lib.hid (fun A C W (h : Row W A n (impOf xs)) => l5Sums_any false true A n C (impOf xs) W h hnl (fun k hk => by rw [impOf, hr.1, tab_getD _ _ _ hk]; have := hbd (n - 1) (by omega); have := hbd (n - 1 - k) (by omega); omega))
          rw [show sums false true (impOf xs) = P by rw [hPe]; rfl] at HP
          have HIE : Hid (impOf xs = tab n (fun a => xs.getD (n - 1) 0 - xs.getD (n - 1 - a) 0)) := by show _ = _; rw [impOf, hr.1]
          have HBD := Lib.hid hbd
          have HNN := Lib.hid hnn
          obtain ⟨g, hg⟩ : ∃ g, g = n - 1 := ⟨_, rfl⟩
          have HGE := Lib.hid hg
          have hgn : g < n := by omega
          rw [← hg] at HFS
          clear hg
          clear hre hPe hsp hk hbd hs' hr hnn
          have hv := hr0.at_ hpos
          by_cases hz : xs.getD 0 0 = 0
          · have HK := Lib.hid (HK.out (by rw [zeroB, hz]; rfl))
            have HV0 := Lib.hid hz
            clear HZN hv hz
            go_enter Try.func17, Try.ntmps17
            go_wp2_with (first | (go_at_call 47; rw [← HW0.out]; refine (HT.out _ hr0).mono ?_; rintro e w' ⟨rfl, rfl⟩) | (go_at_call 46; refine (HZ.out _).mono ?_; rintro e w' ⟨rfl, rfl⟩) | (go_at_call 35; refine (HFS.out _).mono ?_; rintro e w' ⟨rfl, rfl⟩))
            clear hsh hsh2
            obtain ⟨w1, hw1⟩ : ∃ w1, w1 = w0.alloc (.cells #[] 3) := ⟨_, rfl⟩
            have how : Own w1.heap.size (w1.alloc (.cells #[] 3)) (some ⟨w1.heap.size, 0, none⟩) 0 0 (tab 0 (fun a => xs.getD (n - 1) 0 - xs.getD (n - 1 - a) 0)) := World.ownsRow_lit w1 #[] 0 (Nat.le_refl _) (by unfold maxLen; omega) rfl
            have hbw : Below w1.heap.size w1 (w1.alloc (.cells #[] 3)) := (Below.refl _ _).alloc (Nat.le_refl _) _
            have hs1 : w1.heap.size = w.heap.size + 1 + 1 := by rw [hw1, HW0.out]; simp
            have HS1 := Lib.hid hs1; clear hs1
            have HS1b : Hid (w1.heap.size = w0.heap.size + 1) := by show _ = _; rw [hw1]; simp
            rw [← hw1] at HB1 HX1 hr1
            have HW1 := Lib.hid hw1; clear hw1
            rw [← HW1.out]
            go_loopw [9, 10] (fun z i wr => ∃ (k : Nat) (A : Option Addr) (C : Nat), k ≤ n ∧ i = .int .i64 k ∧ z = .slice A k C ∧ Hid (Own w1.heap.size wr A k C (tab k (fun a => xs.getD (n - 1) 0 - xs.getD (n - 1 - a) 0))) ∧ Hid (Below w1.heap.size w1 wr)) (fun _ i _ => n - (intOf i).toNat)
            case atStart => exact ⟨0, _, 0, Nat.zero_le _, rfl, by first | (rw [HS1.out]; done) | (rw [HS1b.out]; done), how, hbw⟩
            case round =>
              obtain ⟨k, A, C, hk, rfl, rfl, HO, HBR⟩ := hrel
              clear how hbw
              by_cases hlt : k < n
              · obtain ⟨b0, off0, x, he0, hx, hcx⟩ := hr1.at_ hgn
                cases he0
                obtain ⟨p, hp⟩ : ∃ p, p = n - 1 - k := ⟨_, rfl⟩
                have hpn : p < n := by omega
                obtain ⟨b0', off0', y, he, hy, hcy⟩ := hr1.at_ hpn
                cases he
                have hxb := HBD.out g hgn
                have hyb := HBD.out p hpn
                rw [← hx] at hxb
                rw [← hy] at hyb
                have HT2 : Hid (tab k (fun a => xs.getD (n - 1) 0 - xs.getD (n - 1 - a) 0) ++ [x - y] = tab (k + 1) (fun a => xs.getD (n - 1) 0 - xs.getD (n - 1 - a) 0)) := by show _ = _; rw [tab_succ, hx, hy, hp, HGE.out]
                obtain ⟨ys, hys⟩ : ∃ ys, ys = tab k (fun a => xs.getD (n - 1) 0 - xs.getD (n - 1 - a) 0) := ⟨_, rfl⟩
                rw [← hys] at HO HT2
                have e1 : IntKind.i64.wrap (x - y) = x - y := IntWalk.i64_in _ (by omega)
                have hpi : (p : Int) < (n : Int) := by omega
                have hqi : (g : Int) < (n : Int) := by omega
                have hgw : (g : Int) + 1 = (n : Int) := by have := HGE.out; omega
                have HGW := Lib.hid hgw; clear hgw
                have e2 : IntKind.i64.wrap ((n : Int) - 1) = (g : Int) := by have := HGW.out; rw [show (n : Int) - 1 = (g : Int) by omega]; exact IntWalk.i64_in _ (by omega)
                have e3 : IntKind.i64.wrap ((g : Int) - (k : Int)) = (p : Int) := by have := HGW.out; rw [show (g : Int) - (k : Int) = (p : Int) by omega]; exact IntWalk.i64_in _ (by omega)
                have HKS : Hid (∀ W : World, Below w1.heap.size w1 W → (W.cell? ⟨b0, off0 + g, none⟩ = some (.int .i64 x) ∧ W.cell? ⟨b0, off0 + p, none⟩ = some (.int .i64 y))) := fun W hB => ⟨(hB.cell (p := ⟨b0, off0 + g, none⟩) (World.block_lt_of_cell? _ _ hcx)).trans hcx, (hB.cell (p := ⟨b0, off0 + p, none⟩) (World.block_lt_of_cell? _ _ hcy)).trans hcy⟩
                obtain ⟨c1, c2⟩ := HKS.out wr HBR.out
                have BB := HBR.out.drew
                have OO := HO.out.below (w' := wr.drew) (Below.refl _ _).drew
                clear hx hy hp hys hcx hcy
                go_wp2_with fail
                go_region_held3 (fun W => W.cell? ⟨b0, off0 + g, none⟩ = some (.int .i64 x) ∧ W.cell? ⟨b0, off0 + p, none⟩ = some (.int .i64 y))
                  (first | exact HKS.out _ hb' | exact HKS.out _ BB | exact HKS.out _ (BB.alloc BB.size _))
                  (first | (refine step_push wr.drew rfl _ _ (by rfl) A k C ys (x - y) _ w1 (by rfl) (by rfl) OO BB BB.size (by omega) ?_; intro A' C' w3 ho' hb'))
                all_goals
                  rw [HT2.out] at ho'
                  have HO' := Lib.hid ho'
                  have HB' := Lib.hid hb'
                  clear ho' hb' OO BB c1 c2
                  go_wp2_with fail
                  go_roundw
                  case rel => first | exact ⟨k + 1, A', C', by omega, by go_num, rfl, HO'.out, HB'.out⟩ | ((repeat apply Exists.intro); exact ⟨⟨k + 1, A', C', by omega, by go_num, rfl, HO'.out, HB'.out⟩, rfl⟩)
                  case measure => simp [intOf]; omega
              · have hk' : k = n := by omega
                have HO2 : Hid (Own w1.heap.size wr A n C (impOf xs)) := by rw [HIE.out]; have := HO.out; rw [hk'] at this; exact this
                have HBW := Lib.hid (HB1.out.trans (HBR.out.mono HB1.out.size))
                have HXW := Lib.hid (HX1.out.below HBR.out HX1.out.lt)
                have hb01 : Below w0.heap.size w0 w1 := by rw [HW1.out]; exact (Below.refl _ _).alloc (Nat.le_refl _) _
                have hb02 := hb01.trans (HBR.out.mono hb01.size)
                clear HO
                subst k
                go_wp2_with fail
                refine (HP.out _ _ _ HO2.out.row).mono ?_
                rintro e w2 ⟨A2, C2, rfl, o2, b2⟩
                have HB2 := Lib.hid (HBW.out.trans (b2.mono HBW.out.size))
                have HX2 := Lib.hid (HXW.out.below b2 HXW.out.lt)
                have HBB := Lib.hid ((hb02).trans (b2.mono (hb02).size))
                clear b2
                have HO := Lib.hid o2
                clear o2
                obtain ⟨d1, d2, f1, f2⟩ := HX2.out.cells
                obtain ⟨b0, off0, v0, rfl, hv0, hc0⟩ := (hr0.below HBB.out).at_ hpos
                simp only [Nat.add_zero] at hc0
                have hn0 : (0 : Int) < (n : Int) := by omega
                have HS3 := Lib.hid (l3Sum_any A2 n C2 P 1000000 w2 HO.out.row hn (by omega))
                by_cases hall : P.all (inMost 1000000) = true
                · rw [show sumMost P 1000000 = sumL P from if_pos hall] at HS3
                  have hsl := sum_nn HPL.out hall
                  obtain ⟨z, hz⟩ : ∃ z, z = sumL P := ⟨_, rfl⟩
                  rw [← hz] at HS3 hsl
                  have hz0 : ¬ z < 0 := by omega
                  have HKK := Lib.hid (HK.out hall)
                  clear hall hz hsl
                  have hvz : v0 = 0 := by rw [hv0]; exact HV0.out
                  subst hvz
                  clear hv0
                  go_wp2_with (go_at_call 49; refine HS3.out.mono ?_; rintro e w' ⟨rfl, rfl⟩)
                  refine (HKK.out _ _ _ HO.out.row).mono ?_
                  rintro e w9 ⟨⟨A9, C9, rfl, o9⟩, b9⟩
                  obtain ⟨d1, d2, f1, f2⟩ := (HX2.out.below b9 HX2.out.lt).cells
                  have HO9 := Lib.hid o9
                  have hz9 := HX2.out.lt
                  have HB9 := Lib.hid (HB2.out.trans (b9.mono HB2.out.size))
                  clear b9 o9
                  go_wp2_with fail
                  refine bodyPost_ret (v := .tuple #[massV (rS r) A9 (rN r) C9, .bool (rB r)]) (by simp [results, Try.results17, go_sem, d1, d2]) rfl ?_
                  exact ⟨⟨A9, C9, rfl, (HO9.out.setBox hz9 _ _).mono (by omega)⟩, (HB9.out.setCell (by simp) _).setCell (by simp) _⟩
                · have hall' : P.all (inMost 1000000) = false := by simpa using hall
                  rw [show sumMost P 1000000 = -1 from if_neg hall] at HS3
                  have HN := Lib.hid (HALL.out hall')
                  clear hall hall'
                  have hvz : v0 = 0 := by rw [hv0]; exact HV0.out
                  subst hvz
                  clear hv0
                  go_wp2_with (go_at_call 49; refine HS3.out.mono ?_; rintro e w' ⟨rfl, rfl⟩)
                  refine bodyPost_ret (v := .tuple #[massV 0 none 0 0, .bool false]) (by simp [results, Try.results17, go_sem, d1, d2]) rfl ?_
                  exact ⟨by rw [HN.out]; exact RetM.none_ _ _, (HB2.out.setCell (by simp) _).setCell (by simp) _⟩
          · rw [HZN.out (by rw [zeroB]; simpa using hz)]
            have HV0 := Lib.hid hz
            clear HZN hv hz HK HALL
            go_enter Try.func17, Try.ntmps17
            go_wp2_with (first | (go_at_call 47; rw [← HW0.out]; refine (HT.out _ hr0).mono ?_; rintro e w' ⟨rfl, rfl⟩) | (go_at_call 46; refine (HZ.out _).mono ?_; rintro e w' ⟨rfl, rfl⟩) | (go_at_call 35; refine (HFS.out _).mono ?_; rintro e w' ⟨rfl, rfl⟩))
            clear hsh hsh2
            obtain ⟨w1, hw1⟩ : ∃ w1, w1 = w0.alloc (.cells #[] 3) := ⟨_, rfl⟩
            have how : Own w1.heap.size (w1.alloc (.cells #[] 3)) (some ⟨w1.heap.size, 0, none⟩) 0 0 (tab 0 (fun a => xs.getD (n - 1) 0 - xs.getD (n - 1 - a) 0)) := World.ownsRow_lit w1 #[] 0 (Nat.le_refl _) (by unfold maxLen; omega) rfl
            have hbw : Below w1.heap.size w1 (w1.alloc (.cells #[] 3)) := (Below.refl _ _).alloc (Nat.le_refl _) _
            have hs1 : w1.heap.size = w.heap.size + 1 + 1 := by rw [hw1, HW0.out]; simp
            have HS1 := Lib.hid hs1; clear hs1
            have HS1b : Hid (w1.heap.size = w0.heap.size + 1) := by show _ = _; rw [hw1]; simp
            rw [← hw1] at HB1 HX1 hr1
            have HW1 := Lib.hid hw1; clear hw1
            rw [← HW1.out]
            go_loopw [9, 10] (fun z i wr => ∃ (k : Nat) (A : Option Addr) (C : Nat), k ≤ n ∧ i = .int .i64 k ∧ z = .slice A k C ∧ Hid (Own w1.heap.size wr A k C (tab k (fun a => xs.getD (n - 1) 0 - xs.getD (n - 1 - a) 0))) ∧ Hid (Below w1.heap.size w1 wr)) (fun _ i _ => n - (intOf i).toNat)
            case atStart => exact ⟨0, _, 0, Nat.zero_le _, rfl, by first | (rw [HS1.out]; done) | (rw [HS1b.out]; done), how, hbw⟩
            case round =>
              obtain ⟨k, A, C, hk, rfl, rfl, HO, HBR⟩ := hrel
              clear how hbw
              by_cases hlt : k < n
              · obtain ⟨b0, off0, x, he0, hx, hcx⟩ := hr1.at_ hgn
                cases he0
                obtain ⟨p, hp⟩ : ∃ p, p = n - 1 - k := ⟨_, rfl⟩
                have hpn : p < n := by omega
                obtain ⟨b0', off0', y, he, hy, hcy⟩ := hr1.at_ hpn
                cases he
                have hxb := HBD.out g hgn
                have hyb := HBD.out p hpn
                rw [← hx] at hxb
                rw [← hy] at hyb
                have HT2 : Hid (tab k (fun a => xs.getD (n - 1) 0 - xs.getD (n - 1 - a) 0) ++ [x - y] = tab (k + 1) (fun a => xs.getD (n - 1) 0 - xs.getD (n - 1 - a) 0)) := by show _ = _; rw [tab_succ, hx, hy, hp, HGE.out]
                obtain ⟨ys, hys⟩ : ∃ ys, ys = tab k (fun a => xs.getD (n - 1) 0 - xs.getD (n - 1 - a) 0) := ⟨_, rfl⟩
                rw [← hys] at HO HT2
                have e1 : IntKind.i64.wrap (x - y) = x - y := IntWalk.i64_in _ (by omega)
                have hpi : (p : Int) < (n : Int) := by omega
                have hqi : (g : Int) < (n : Int) := by omega
                have hgw : (g : Int) + 1 = (n : Int) := by have := HGE.out; omega
                have HGW := Lib.hid hgw; clear hgw
                have e2 : IntKind.i64.wrap ((n : Int) - 1) = (g : Int) := by have := HGW.out; rw [show (n : Int) - 1 = (g : Int) by omega]; exact IntWalk.i64_in _ (by omega)
                have e3 : IntKind.i64.wrap ((g : Int) - (k : Int)) = (p : Int) := by have := HGW.out; rw [show (g : Int) - (k : Int) = (p : Int) by omega]; exact IntWalk.i64_in _ (by omega)
                have HKS : Hid (∀ W : World, Below w1.heap.size w1 W → (W.cell? ⟨b0, off0 + g, none⟩ = some (.int .i64 x) ∧ W.cell? ⟨b0, off0 + p, none⟩ = some (.int .i64 y))) := fun W hB => ⟨(hB.cell (p := ⟨b0, off0 + g, none⟩) (World.block_lt_of_cell? _ _ hcx)).trans hcx, (hB.cell (p := ⟨b0, off0 + p, none⟩) (World.block_lt_of_cell? _ _ hcy)).trans hcy⟩
                obtain ⟨c1, c2⟩ := HKS.out wr HBR.out
                have BB := HBR.out.drew
                have OO := HO.out.below (w' := wr.drew) (Below.refl _ _).drew
                clear hx hy hp hys hcx hcy
                go_wp2_with fail
                go_region_held3 (fun W => W.cell? ⟨b0, off0 + g, none⟩ = some (.int .i64 x) ∧ W.cell? ⟨b0, off0 + p, none⟩ = some (.int .i64 y))
                  (first | exact HKS.out _ hb' | exact HKS.out _ BB | exact HKS.out _ (BB.alloc BB.size _))
                  (first | (refine step_push wr.drew rfl _ _ (by rfl) A k C ys (x - y) _ w1 (by rfl) (by rfl) OO BB BB.size (by omega) ?_; intro A' C' w3 ho' hb'))
                all_goals
                  rw [HT2.out] at ho'
                  have HO' := Lib.hid ho'
                  have HB' := Lib.hid hb'
                  clear ho' hb' OO BB c1 c2
                  go_wp2_with fail
                  go_roundw
                  case rel => first | exact ⟨k + 1, A', C', by omega, by go_num, rfl, HO'.out, HB'.out⟩ | ((repeat apply Exists.intro); exact ⟨⟨k + 1, A', C', by omega, by go_num, rfl, HO'.out, HB'.out⟩, rfl⟩)
                  case measure => simp [intOf]; omega
              · have hk' : k = n := by omega
                have HO2 : Hid (Own w1.heap.size wr A n C (impOf xs)) := by rw [HIE.out]; have := HO.out; rw [hk'] at this; exact this
                have HBW := Lib.hid (HB1.out.trans (HBR.out.mono HB1.out.size))
                have HXW := Lib.hid (HX1.out.below HBR.out HX1.out.lt)
                have hb01 : Below w0.heap.size w0 w1 := by rw [HW1.out]; exact (Below.refl _ _).alloc (Nat.le_refl _) _
                have hb02 := hb01.trans (HBR.out.mono hb01.size)
                clear HO
                subst k
                go_wp2_with fail
                refine (HP.out _ _ _ HO2.out.row).mono ?_
                rintro e w2 ⟨A2, C2, rfl, o2, b2⟩
                have HB2 := Lib.hid (HBW.out.trans (b2.mono HBW.out.size))
                have HX2 := Lib.hid (HXW.out.below b2 HXW.out.lt)
                have HBB := Lib.hid ((hb02).trans (b2.mono (hb02).size))
                clear b2
                obtain ⟨d1, d2, f1, f2⟩ := HX2.out.cells
                obtain ⟨b0, off0, v0, hze, hv0, hc0⟩ := (hr0.below HBB.out).at_ hpos
                cases hze
                simp only [Nat.add_zero] at hc0
                have hn0 : (0 : Int) < (n : Int) := by omega
                have hvz : (v0 != 0) = true := by have := HV0.out; rw [← hv0] at this; simpa using this
                clear hv0 o2
                go_wp2_with fail
                refine bodyPost_ret (v := .tuple #[massV 0 none 0 0, .bool false]) (by simp [results, Try.results17, go_sem, d1, d2]) rfl ?_
                exact ⟨RetM.none_ _ _, (HB2.out.setCell (by simp) _).setCell (by simp) _⟩
set_option maxHeartbeats 6400000 in
set_option maxRecDepth 100000 in
theorem smot3_any (s : Int) (kd : ByteArray) (a : Option Addr) (n c : Nat) (xs : List Int) (w : World) (hr : Row w a n xs) (hn : n ≤ 1048576) (ht : tableB xs = true) (hs : sizeB s = true) (hf : fitB s n = true) (hkd : kd.toList = [99, 111, 109, 109, 111, 110]) :
    Calls Try.prog 17 #[.int .i64 s, .slice a n c, .string kd] w fun e w' => RetM w.heap.size (motR s xs kd) e w' ∧ Below w.heap.size w w' := by
          have HT := Lib.hid (fun W h => l5Table_any a n c xs W h hn)
          have HZ := Lib.hid (fun W => SizeValid_any s W)
          have hb0 : Below w.heap.size w (w.alloc (.cells #[.int .i64 0, .slice none 0 0] 25)) := (Below.refl w.heap.size w).alloc (Nat.le_refl _) _
          have hr0 := hr.below hb0
          rw [ht] at HT
          rw [hs] at HZ
          obtain ⟨p, hp⟩ : ∃ p : Int, p = 2 ^ s.toNat := ⟨_, rfl⟩
          have hsh : wrap64 (2 ^ min s.toNat 64) = p := by rw [hp]; rcases size_cases hs with rfl | rfl | rfl | rfl <;> decide +kernel
          have hsh2 : wrap64 (2 ^ min (IntKind.u64.wrap s).toNat 64) = p := by rw [hp]; rcases size_cases hs with rfl | rfl | rfl | rfl <;> decide +kernel
          have hs0 : ¬ s < 0 := by simp [sizeB] at hs; omega
          have hsp : shapeB s xs = true := by simp [shapeB, ht, hs, hr.1, hf]
          have hpn : p = (n : Int) := by rw [hp]; have h : (n : Int) = 2 ^ s.toNat := (by simpa [fitB] using hf); exact h.symm
          have hnn := (table_part hr.1 ht).1
          have hbd := (table_part hr.1 ht).2
          rw [hpn] at hsh hsh2
          have hnl : n ≤ 16 := by omega
          have hpos : 0 < n := by omega
          have hFS : ∀ W, Calls Try.prog 35 #[.int .i64 s] W fun e w' => e = .returned (.int .i64 ((n - 1 : Nat) : Int)) ∧ W = w' := fun W => fullSet_any s n W hs hf
          have HFS := Lib.hid hFS; clear hFS
          clear hp hpn ht hf
          have hs' := hs; clear hs
          obtain ⟨w0, hw0⟩ : ∃ w0, w0 = w.alloc (.cells #[.int .i64 0, .slice none 0 0] 25) := ⟨_, rfl⟩
          have HBX : Hid (Box w0 w.heap.size 25 (.int .i64 0) (.slice none 0 0)) := by rw [hw0]; exact Box.new _ _ _ _
          rw [← hw0] at hb0 hr0
          have HB0 := Lib.hid hb0; clear hb0
          have HW0 := Lib.hid hw0; clear hw0
          have hb1 : Below w0.heap.size w0 (w0.alloc (.cells #[] 3)) := (Below.refl _ _).alloc (Nat.le_refl _) _
          have HB1 := Lib.hid (HB0.out.trans (hb1.mono HB0.out.size))
          have HX1 := Lib.hid (HBX.out.below hb1 HBX.out.lt)
          have hr1 := hr0.below hb1
          clear hb1
          have hk := kind3 hkd
          obtain ⟨r, hre⟩ : ∃ r, r = motR s xs kd := ⟨_, rfl⟩
          obtain ⟨P, hPe⟩ : ∃ P, P = motP 3 xs := ⟨_, rfl⟩
          have HALL : Hid (P.all (inMost 1000000) = false → r = none) := fun h => by rw [hre]; exact mot_no4 hk (by rw [← hPe]; exact h)
          have HPL : Hid (P.length = n) := by show _ = _; rw [hPe, motP_length]; exact hr.1
          have HZN : Hid (zeroB 3 xs = false → r = none) := fun h => by rw [hre]; exact mot_no3 hk h
          have HK : Hid (zeroB 3 xs = true → P.all (inMost 1000000) = true → ∀ A C W, Row W A n P → Calls Try.prog 50 #[.int .i64 s, .slice A n C] W fun e w' => RetM W.heap.size r e w' ∧ Below W.heap.size W w') := fun hz h A C W hrow => by
            rw [hre, mot_yes hsp hk (by omega) hz (by rw [← hPe]; exact h), ← hPe]
            exact l3Made_any s A n C P W hrow hn (fun k hk => by have := inMost_bound HPL.out h k hk; omega)
          rw [← hre]
          have HP := Lib.hid (fun W (h : Row W a n xs) => l5Sums_any true true a n c xs W h hnl (fun k hk => by have := hbd k hk; omega))
          rw [show sums true true xs = P by rw [hPe]; rfl] at HP
          clear hre hPe hsp hk hbd hs' hr hnn
          replace HK := Lib.hid (HK.out rfl)
          clear HZN
          go_enter Try.func17, Try.ntmps17
          go_wp2_with (first | (go_at_call 47; rw [← HW0.out]; refine (HT.out _ hr0).mono ?_; rintro e w' ⟨rfl, rfl⟩) | (go_at_call 46; refine (HZ.out _).mono ?_; rintro e w' ⟨rfl, rfl⟩) | (go_at_call 35; refine (HFS.out _).mono ?_; rintro e w' ⟨rfl, rfl⟩))
          refine (HP.out _ hr1).mono ?_
          rintro e w2 ⟨A2, C2, rfl, o2, b2⟩
          have HB2 := Lib.hid (HB1.out.trans (b2.mono HB1.out.size))
          have HX2 := Lib.hid (HX1.out.below b2 HX1.out.lt)
          have HBB := Lib.hid (((show Below w0.heap.size w0 (w0.alloc (.cells #[] 3)) from (Below.refl _ _).alloc (Nat.le_refl _) _)).trans (b2.mono ((show Below w0.heap.size w0 (w0.alloc (.cells #[] 3)) from (Below.refl _ _).alloc (Nat.le_refl _) _)).size))
          clear b2
          have HO := Lib.hid o2
          clear o2
          obtain ⟨d1, d2, f1, f2⟩ := HX2.out.cells
          obtain ⟨b0, off0, v0, rfl, hv0, hc0⟩ := (hr0.below HBB.out).at_ hpos
          simp only [Nat.add_zero] at hc0
          have hn0 : (0 : Int) < (n : Int) := by omega
          have HS3 := Lib.hid (l3Sum_any A2 n C2 P 1000000 w2 HO.out.row hn (by omega))
          by_cases hall : P.all (inMost 1000000) = true
          · rw [show sumMost P 1000000 = sumL P from if_pos hall] at HS3
            have hsl := sum_nn HPL.out hall
            obtain ⟨z, hz⟩ : ∃ z, z = sumL P := ⟨_, rfl⟩
            rw [← hz] at HS3 hsl
            have hz0 : ¬ z < 0 := by omega
            have HKK := Lib.hid (HK.out hall)
            clear hall hz hsl
            go_wp2_with (go_at_call 49; refine HS3.out.mono ?_; rintro e w' ⟨rfl, rfl⟩)
            refine (HKK.out _ _ _ HO.out.row).mono ?_
            rintro e w9 ⟨⟨A9, C9, rfl, o9⟩, b9⟩
            obtain ⟨d1, d2, f1, f2⟩ := (HX2.out.below b9 HX2.out.lt).cells
            have HO9 := Lib.hid o9
            have hz9 := HX2.out.lt
            have HB9 := Lib.hid (HB2.out.trans (b9.mono HB2.out.size))
            clear b9 o9
            go_wp2_with fail
            refine bodyPost_ret (v := .tuple #[massV (rS r) A9 (rN r) C9, .bool (rB r)]) (by simp [results, Try.results17, go_sem, d1, d2]) rfl ?_
            exact ⟨⟨A9, C9, rfl, (HO9.out.setBox hz9 _ _).mono (by omega)⟩, (HB9.out.setCell (by simp) _).setCell (by simp) _⟩
          · have hall' : P.all (inMost 1000000) = false := by simpa using hall
            rw [show sumMost P 1000000 = -1 from if_neg hall] at HS3
            have HN := Lib.hid (HALL.out hall')
            clear hall hall'
            go_wp2_with (go_at_call 49; refine HS3.out.mono ?_; rintro e w' ⟨rfl, rfl⟩)
            refine bodyPost_ret (v := .tuple #[massV 0 none 0 0, .bool false]) (by simp [results, Try.results17, go_sem, d1, d2]) rfl ?_
            exact ⟨by rw [HN.out]; exact RetM.none_ _ _, (HB2.out.setCell (by simp) _).setCell (by simp) _⟩
set_option maxHeartbeats 6400000 in
set_option maxRecDepth 100000 in
theorem smot4_any (s : Int) (kd : ByteArray) (a : Option Addr) (n c : Nat) (xs : List Int) (w : World) (hr : Row w a n xs) (hn : n ≤ 1048576) (ht : tableB xs = true) (hs : sizeB s = true) (hf : fitB s n = true) (h0 : kd.toList ≠ [105, 109, 112, 108, 105, 101, 100]) (h1 : kd.toList ≠ [98, 101, 108, 105, 101, 118, 101, 100]) (h2 : kd.toList ≠ [112, 111, 115, 115, 105, 98, 108, 101]) (h3 : kd.toList ≠ [99, 111, 109, 109, 111, 110]) :
    Calls Try.prog 17 #[.int .i64 s, .slice a n c, .string kd] w fun e w' => RetM w.heap.size (motR s xs kd) e w' ∧ Below w.heap.size w w' := by
          have HT := Lib.hid (fun W h => l5Table_any a n c xs W h hn)
          have HZ := Lib.hid (fun W => SizeValid_any s W)
          have hb0 : Below w.heap.size w (w.alloc (.cells #[.int .i64 0, .slice none 0 0] 25)) := (Below.refl w.heap.size w).alloc (Nat.le_refl _) _
          have hr0 := hr.below hb0
          rw [ht] at HT
          rw [hs] at HZ
          obtain ⟨p, hp⟩ : ∃ p : Int, p = 2 ^ s.toNat := ⟨_, rfl⟩
          have hsh : wrap64 (2 ^ min s.toNat 64) = p := by rw [hp]; rcases size_cases hs with rfl | rfl | rfl | rfl <;> decide +kernel
          have hsh2 : wrap64 (2 ^ min (IntKind.u64.wrap s).toNat 64) = p := by rw [hp]; rcases size_cases hs with rfl | rfl | rfl | rfl <;> decide +kernel
          have hs0 : ¬ s < 0 := by simp [sizeB] at hs; omega
          have hsp : shapeB s xs = true := by simp [shapeB, ht, hs, hr.1, hf]
          have hpn : p = (n : Int) := by rw [hp]; have h : (n : Int) = 2 ^ s.toNat := (by simpa [fitB] using hf); exact h.symm
          have hnn := (table_part hr.1 ht).1
          have hbd := (table_part hr.1 ht).2
          rw [hpn] at hsh hsh2
          have hnl : n ≤ 16 := by omega
          have hpos : 0 < n := by omega
          have hFS : ∀ W, Calls Try.prog 35 #[.int .i64 s] W fun e w' => e = .returned (.int .i64 ((n - 1 : Nat) : Int)) ∧ W = w' := fun W => fullSet_any s n W hs hf
          have HFS := Lib.hid hFS; clear hFS
          clear hp hpn ht hf
          have hs' := hs; clear hs
          obtain ⟨w0, hw0⟩ : ∃ w0, w0 = w.alloc (.cells #[.int .i64 0, .slice none 0 0] 25) := ⟨_, rfl⟩
          have HBX : Hid (Box w0 w.heap.size 25 (.int .i64 0) (.slice none 0 0)) := by rw [hw0]; exact Box.new _ _ _ _
          rw [← hw0] at hb0 hr0
          have HB0 := Lib.hid hb0; clear hb0
          have HW0 := Lib.hid hw0; clear hw0
          have hb1 : Below w0.heap.size w0 (w0.alloc (.cells #[] 3)) := (Below.refl _ _).alloc (Nat.le_refl _) _
          have HB1 := Lib.hid (HB0.out.trans (hb1.mono HB0.out.size))
          have HX1 := Lib.hid (HBX.out.below hb1 HBX.out.lt)
          have hr1 := hr0.below hb1
          clear hb1
          rw [mot_no2 (kind4 h0 h1 h2 h3)]
          have q0 : (kd.toList == [105, 109, 112, 108, 105, 101, 100]) = false := by simpa using h0
          have q1 : (kd.toList == [98, 101, 108, 105, 101, 118, 101, 100]) = false := by simpa using h1
          have q2 : (kd.toList == [112, 111, 115, 115, 105, 98, 108, 101]) = false := by simpa using h2
          have q3 : (kd.toList == [99, 111, 109, 109, 111, 110]) = false := by simpa using h3
          obtain ⟨d1, d2, f1, f2⟩ := HX1.out.cells
          go_enter Try.func17, Try.ntmps17
          go_wp2_with (first | (go_at_call 47; rw [← HW0.out]; refine (HT.out _ hr0).mono ?_; rintro e w' ⟨rfl, rfl⟩) | (go_at_call 46; refine (HZ.out _).mono ?_; rintro e w' ⟨rfl, rfl⟩))
          refine bodyPost_ret (v := .tuple #[massV 0 none 0 0, .bool false]) (by simp [results, Try.results17, go_sem, d1, d2]) rfl ?_
          exact ⟨RetM.none_ _ _, (HB1.out.setCell (by simp) _).setCell (by simp) _⟩
set_option maxHeartbeats 6400000 in
set_option maxRecDepth 100000 in
theorem sMassOfTable_any (s : Int) (kd : ByteArray) (a : Option Addr) (n c : Nat) (xs : List Int) (w : World) (hr : Row w a n xs) (hn : n ≤ 1048576) :
    Calls Try.prog 17 #[.int .i64 s, .slice a n c, .string kd] w fun e w' => RetM w.heap.size (motR s xs kd) e w' ∧ Below w.heap.size w w' := by
  have HT := Lib.hid (fun W h => l5Table_any a n c xs W h hn)
  have HZ := Lib.hid (fun W => SizeValid_any s W)
  have hb0 : Below w.heap.size w (w.alloc (.cells #[.int .i64 0, .slice none 0 0] 25)) := (Below.refl w.heap.size w).alloc (Nat.le_refl _) _
  have hr0 := hr.below hb0
  by_cases ht : tableB xs = true
  · rw [ht] at HT
    by_cases hs : sizeB s = true
    · rw [hs] at HZ
      obtain ⟨p, hp⟩ : ∃ p : Int, p = 2 ^ s.toNat := ⟨_, rfl⟩
      have hsh : wrap64 (2 ^ min s.toNat 64) = p := by rw [hp]; rcases size_cases hs with rfl | rfl | rfl | rfl <;> decide +kernel
      have hsh2 : wrap64 (2 ^ min (IntKind.u64.wrap s).toNat 64) = p := by rw [hp]; rcases size_cases hs with rfl | rfl | rfl | rfl <;> decide +kernel
      have hs0 : ¬ s < 0 := by simp [sizeB] at hs; omega
      by_cases hf : fitB s n = true
      · rcases kind_cases kd with hkd | hkd | hkd | hkd | ⟨h0, h1, h2, h3⟩
        · exact smot0_any s kd a n c xs w hr hn ht hs hf hkd
        · exact smot1_any s kd a n c xs w hr hn ht hs hf hkd
        · exact smot2_any s kd a n c xs w hr hn ht hs hf hkd
        · exact smot3_any s kd a n c xs w hr hn ht hs hf hkd
        · exact smot4_any s kd a n c xs w hr hn ht hs hf h0 h1 h2 h3
      · have hf' : fitB s n = false := by simpa using hf
        have hne : ((n : Int) != p) = true := by simp [fitB] at hf'; rw [hp]; simpa using hf'
        clear hp
        rw [mot_no1 (show shapeB s xs = false by simp [shapeB, hr.1, hf'])]
        go_enter Try.func17, Try.ntmps17
        go_wp2_with (first | (go_at_call 47; refine (HT.out _ hr0).mono ?_; rintro e w' ⟨rfl, rfl⟩) | (go_at_call 46; refine (HZ.out _).mono ?_; rintro e w' ⟨rfl, rfl⟩))
        all_goals
          refine bodyPost_ret (v := .tuple #[massV 0 none 0 0, .bool false]) (by simp [results, Try.results17, go_sem]) rfl ?_
          exact ⟨RetM.none_ _ _, hb0⟩
    · have hs' : sizeB s = false := by simpa using hs
      rw [hs'] at HZ
      rw [mot_no1 (show shapeB s xs = false by simp [shapeB, hs'])]
      go_enter Try.func17, Try.ntmps17
      go_wp2_with (first | (go_at_call 47; refine (HT.out _ hr0).mono ?_; rintro e w' ⟨rfl, rfl⟩) | (go_at_call 46; refine (HZ.out _).mono ?_; rintro e w' ⟨rfl, rfl⟩))
      all_goals
        refine bodyPost_ret (v := .tuple #[massV 0 none 0 0, .bool false]) (by simp [results, Try.results17, go_sem]) rfl ?_
        exact ⟨RetM.none_ _ _, hb0⟩
  · have ht' : tableB xs = false := by simpa using ht
    rw [ht'] at HT
    rw [mot_no1 (show shapeB s xs = false by simp [shapeB, ht'])]
    go_enter Try.func17, Try.ntmps17
    go_wp2_with (first | (go_at_call 47; refine (HT.out _ hr0).mono ?_; rintro e w' ⟨rfl, rfl⟩) | (go_at_call 46; refine (HZ.out _).mono ?_; rintro e w' ⟨rfl, rfl⟩))
    all_goals
      refine bodyPost_ret (v := .tuple #[massV 0 none 0 0, .bool false]) (by simp [results, Try.results17, go_sem]) rfl ?_
      exact ⟨RetM.none_ _ _, hb0⟩
end Go.Proofs.Ytlfajalhoifliaa
