/- The walks of the statements on the four tables of sums and parts. -/
import Derived.Test.YtehlccnoalgliaaW3
import Derived.Test.YtehlccnoalgliaaW10
import Derived.Test.YtehlccnoalgliaaBase2
namespace Go.Proofs.Ytehlccnoalgliaa
open Go.RowKit

set_option maxHeartbeats 1600000 in
theorem walkSumsBelow (a : Option Addr) (n c : Nat) (xs : List Int) (w : World) (hr : Row w a n xs) (_hbig : n ≤ 9223372036854775807) :
    Calls Try.prog 6 #[.slice a n c] w fun e w' => e = .returned (.bool true) ∧ Below w.heap.size w w' := by
  by_cases hn : n ≤ 1048576
  · obtain ⟨m, hm⟩ : ∃ m, m = toldN xs n := ⟨_, rfl⟩
    obtain ⟨ys, hys⟩ : ∃ ys, ys = told false false xs := ⟨_, rfl⟩
    have hS := fun a c w hr => sSumsBelow_any a n c xs w hr hn
    have hI := fun a c w hr => iSumsBelow_any a n c xs w hr hn
    rw [← hm, ← hys] at hS hI
    have HS := Lib.hid hS; clear hS
    have HI := Lib.hid hI; clear hI
    have hm1 : m ≤ 1048576 := by rw [hm, toldN]; split <;> omega
    clear hm hys
    have HX : Hid (eqB xs xs = true) := eqB_self xs
    have HY : Hid (eqB ys ys = true) := eqB_self ys
    go_enter Try.func6, Try.ntmps6
    go_wp2_with fail
    refine (toIntS_any a n c xs _ hr hn).mono ?_
    rintro e w1 ⟨rfl, o1, b1⟩
    go_wp2_with fail
    refine (HS.out _ _ _ o1.row).mono ?_
    rintro e w2 ⟨As, Cs, rfl, os, b2⟩
    have B2 := b1.trans (b2.mono b1.size)
    have us := os.under
    clear o1
    go_wp2_with fail
    refine (toIntS_any a n c xs _ (hr.below B2) hn).mono ?_
    rintro e w3 ⟨rfl, ox, b3⟩
    have B3 := B2.trans (b3.mono B2.size)
    replace os := os.below b3
    have ux := ox.under
    go_wp2_with fail
    refine (HI.out _ _ _ ox.row).mono ?_
    rintro e w4 ⟨Ag, Cg, rfl, og, b4⟩
    have B4 := B3.trans (b4.mono B3.size)
    replace os := os.below b4
    replace ox := ox.below b4
    go_wp2_with fail
    refine (eqIntS_any _ _ m _ m _ ys ys _ og.row os.row hm1 hm1).mono ?_
    rw [HY.out]
    rintro e w5 ⟨rfl, b5⟩
    have B5 := B4.trans (b5.mono B4.size)
    replace os := os.below b5
    replace ox := ox.below b5
    replace og := og.below b5
    go_wp2_with fail
    refine (toIntS_any a n c xs _ (hr.below B5) hn).mono ?_
    rintro e w6 ⟨rfl, o6, b6⟩
    have B6 := B5.trans (b6.mono B5.size)
    replace os := os.below b6
    replace ox := ox.below b6
    replace og := og.below b6
    go_wp2_with fail
    refine (eqIntS_any _ _ n _ n _ xs xs _ ox.row o6.row hn hn).mono ?_
    rw [HX.out]
    rintro e w7 ⟨rfl, b7⟩
    have B7 := B6.trans (b7.mono B6.size)
    replace os := os.below b7
    replace ox := ox.below b7
    replace og := og.below b7
    clear o6
    go_wp2_with fail
    refine (markIntS_any _ _ n _ xs 1 _ ox hn (by omega)).mono ?_
    rintro e w8 ⟨rfl, ox8, g8⟩
    have B8 := below_marked B7 ox g8 (by have := B2.size; omega) B7.size
    replace os := os.stays us ox g8
    replace og := og.stays' ux ox g8
    clear ox ox8 g8
    go_wp2_with fail
    refine (eqIntS_any _ _ m _ m _ ys ys _ og.row os.row hm1 hm1).mono ?_
    rw [HY.out]
    rintro e w9 ⟨rfl, b9⟩
    have B9 := B8.trans (b9.mono B8.size)
    replace os := os.below b9
    replace og := og.below b9
    go_wp2_with fail
    refine (markIntS_any _ _ m _ ys 1 _ og hm1 (by omega)).mono ?_
    rintro e w10 ⟨rfl, og10, g10⟩
    have us3 : Under w3.heap.size As := fun g hg => Nat.lt_of_lt_of_le (us g hg) b3.size
    have B10 := below_marked B9 og g10 (by have := B3.size; omega) B9.size
    replace os := os.stays us3 og g10
    clear og g10
    go_wp2_with fail
    refine (heldIntS_any _ m _ 1 _ og10.row hm1 (by omega)).mono ?_
    rintro e w11 ⟨rfl, b11⟩
    have B11 := B10.trans (b11.mono B10.size)
    replace os := os.below b11
    replace og10 := og10.below b11
    go_wp2_with fail
    refine (toIntS_any a n c xs _ (hr.below B11) hn).mono ?_
    rintro e w12 ⟨rfl, o12, b12⟩
    have B12 := B11.trans (b12.mono B11.size)
    replace os := os.below b12
    replace og10 := og10.below b12
    go_wp2_with fail
    refine (HI.out _ _ _ o12.row).mono ?_
    rintro e w13 ⟨Ah, Ch, rfl, oh, b13⟩
    have B13 := B12.trans (b13.mono B12.size)
    replace os := os.below b13
    replace og10 := og10.below b13
    clear o12
    go_wp2_with fail
    refine (eqIntS_any _ _ m _ m _ ys ys _ oh.row os.row hm1 hm1).mono ?_
    rw [HY.out]
    rintro e w14 ⟨rfl, b14⟩
    have B14 := B13.trans (b14.mono B13.size)
    replace og10 := og10.below b14
    clear oh os
    go_wp2_with fail
    refine (heldIntS_any _ m _ 1 _ og10.row hm1 (by omega)).mono ?_
    rintro e w15 ⟨rfl, b15⟩
    have B15 := B14.trans (b15.mono B14.size)
    go_wp2_with fail
    go_ret
    exact ⟨rfl, B15⟩
  · go_enter Try.func6, Try.ntmps6
    go_wp2_with fail
    go_ret
    exact ⟨rfl, Below.refl _ _⟩
set_option maxHeartbeats 1600000 in
theorem walkSumsAbove (a : Option Addr) (n c : Nat) (xs : List Int) (w : World) (hr : Row w a n xs) (_hbig : n ≤ 9223372036854775807) :
    Calls Try.prog 5 #[.slice a n c] w fun e w' => e = .returned (.bool true) ∧ Below w.heap.size w w' := by
  by_cases hn : n ≤ 1048576
  · obtain ⟨m, hm⟩ : ∃ m, m = toldN xs n := ⟨_, rfl⟩
    obtain ⟨ys, hys⟩ : ∃ ys, ys = told true false xs := ⟨_, rfl⟩
    have hS := fun a c w hr => sSumsAbove_any a n c xs w hr hn
    have hI := fun a c w hr => iSumsAbove_any a n c xs w hr hn
    rw [← hm, ← hys] at hS hI
    have HS := Lib.hid hS; clear hS
    have HI := Lib.hid hI; clear hI
    have hm1 : m ≤ 1048576 := by rw [hm, toldN]; split <;> omega
    clear hm hys
    have HX : Hid (eqB xs xs = true) := eqB_self xs
    have HY : Hid (eqB ys ys = true) := eqB_self ys
    go_enter Try.func5, Try.ntmps5
    go_wp2_with fail
    refine (toIntS_any a n c xs _ hr hn).mono ?_
    rintro e w1 ⟨rfl, o1, b1⟩
    go_wp2_with fail
    refine (HS.out _ _ _ o1.row).mono ?_
    rintro e w2 ⟨As, Cs, rfl, os, b2⟩
    have B2 := b1.trans (b2.mono b1.size)
    have us := os.under
    clear o1
    go_wp2_with fail
    refine (toIntS_any a n c xs _ (hr.below B2) hn).mono ?_
    rintro e w3 ⟨rfl, ox, b3⟩
    have B3 := B2.trans (b3.mono B2.size)
    replace os := os.below b3
    have ux := ox.under
    go_wp2_with fail
    refine (HI.out _ _ _ ox.row).mono ?_
    rintro e w4 ⟨Ag, Cg, rfl, og, b4⟩
    have B4 := B3.trans (b4.mono B3.size)
    replace os := os.below b4
    replace ox := ox.below b4
    go_wp2_with fail
    refine (eqIntS_any _ _ m _ m _ ys ys _ og.row os.row hm1 hm1).mono ?_
    rw [HY.out]
    rintro e w5 ⟨rfl, b5⟩
    have B5 := B4.trans (b5.mono B4.size)
    replace os := os.below b5
    replace ox := ox.below b5
    replace og := og.below b5
    go_wp2_with fail
    refine (toIntS_any a n c xs _ (hr.below B5) hn).mono ?_
    rintro e w6 ⟨rfl, o6, b6⟩
    have B6 := B5.trans (b6.mono B5.size)
    replace os := os.below b6
    replace ox := ox.below b6
    replace og := og.below b6
    go_wp2_with fail
    refine (eqIntS_any _ _ n _ n _ xs xs _ ox.row o6.row hn hn).mono ?_
    rw [HX.out]
    rintro e w7 ⟨rfl, b7⟩
    have B7 := B6.trans (b7.mono B6.size)
    replace os := os.below b7
    replace ox := ox.below b7
    replace og := og.below b7
    clear o6
    go_wp2_with fail
    refine (markIntS_any _ _ n _ xs 1 _ ox hn (by omega)).mono ?_
    rintro e w8 ⟨rfl, ox8, g8⟩
    have B8 := below_marked B7 ox g8 (by have := B2.size; omega) B7.size
    replace os := os.stays us ox g8
    replace og := og.stays' ux ox g8
    clear ox ox8 g8
    go_wp2_with fail
    refine (eqIntS_any _ _ m _ m _ ys ys _ og.row os.row hm1 hm1).mono ?_
    rw [HY.out]
    rintro e w9 ⟨rfl, b9⟩
    have B9 := B8.trans (b9.mono B8.size)
    replace os := os.below b9
    replace og := og.below b9
    go_wp2_with fail
    refine (markIntS_any _ _ m _ ys 1 _ og hm1 (by omega)).mono ?_
    rintro e w10 ⟨rfl, og10, g10⟩
    have us3 : Under w3.heap.size As := fun g hg => Nat.lt_of_lt_of_le (us g hg) b3.size
    have B10 := below_marked B9 og g10 (by have := B3.size; omega) B9.size
    replace os := os.stays us3 og g10
    clear og g10
    go_wp2_with fail
    refine (heldIntS_any _ m _ 1 _ og10.row hm1 (by omega)).mono ?_
    rintro e w11 ⟨rfl, b11⟩
    have B11 := B10.trans (b11.mono B10.size)
    replace os := os.below b11
    replace og10 := og10.below b11
    go_wp2_with fail
    refine (toIntS_any a n c xs _ (hr.below B11) hn).mono ?_
    rintro e w12 ⟨rfl, o12, b12⟩
    have B12 := B11.trans (b12.mono B11.size)
    replace os := os.below b12
    replace og10 := og10.below b12
    go_wp2_with fail
    refine (HI.out _ _ _ o12.row).mono ?_
    rintro e w13 ⟨Ah, Ch, rfl, oh, b13⟩
    have B13 := B12.trans (b13.mono B12.size)
    replace os := os.below b13
    replace og10 := og10.below b13
    clear o12
    go_wp2_with fail
    refine (eqIntS_any _ _ m _ m _ ys ys _ oh.row os.row hm1 hm1).mono ?_
    rw [HY.out]
    rintro e w14 ⟨rfl, b14⟩
    have B14 := B13.trans (b14.mono B13.size)
    replace og10 := og10.below b14
    clear oh os
    go_wp2_with fail
    refine (heldIntS_any _ m _ 1 _ og10.row hm1 (by omega)).mono ?_
    rintro e w15 ⟨rfl, b15⟩
    have B15 := B14.trans (b15.mono B14.size)
    go_wp2_with fail
    go_ret
    exact ⟨rfl, B15⟩
  · go_enter Try.func5, Try.ntmps5
    go_wp2_with fail
    go_ret
    exact ⟨rfl, Below.refl _ _⟩
set_option maxHeartbeats 1600000 in
theorem walkPartsBelow (a : Option Addr) (n c : Nat) (xs : List Int) (w : World) (hr : Row w a n xs) (_hbig : n ≤ 9223372036854775807) :
    Calls Try.prog 13 #[.slice a n c] w fun e w' => e = .returned (.bool true) ∧ Below w.heap.size w w' := by
  by_cases hn : n ≤ 1048576
  · obtain ⟨m, hm⟩ : ∃ m, m = toldN xs n := ⟨_, rfl⟩
    obtain ⟨ys, hys⟩ : ∃ ys, ys = told false true xs := ⟨_, rfl⟩
    have hS := fun a c w hr => sPartsBelow_any a n c xs w hr hn
    have hI := fun a c w hr => iPartsBelow_any a n c xs w hr hn
    rw [← hm, ← hys] at hS hI
    have HS := Lib.hid hS; clear hS
    have HI := Lib.hid hI; clear hI
    have hm1 : m ≤ 1048576 := by rw [hm, toldN]; split <;> omega
    clear hm hys
    have HX : Hid (eqB xs xs = true) := eqB_self xs
    have HY : Hid (eqB ys ys = true) := eqB_self ys
    go_enter Try.func13, Try.ntmps13
    go_wp2_with fail
    refine (toIntS_any a n c xs _ hr hn).mono ?_
    rintro e w1 ⟨rfl, o1, b1⟩
    go_wp2_with fail
    refine (HS.out _ _ _ o1.row).mono ?_
    rintro e w2 ⟨As, Cs, rfl, os, b2⟩
    have B2 := b1.trans (b2.mono b1.size)
    have us := os.under
    clear o1
    go_wp2_with fail
    refine (toIntS_any a n c xs _ (hr.below B2) hn).mono ?_
    rintro e w3 ⟨rfl, ox, b3⟩
    have B3 := B2.trans (b3.mono B2.size)
    replace os := os.below b3
    have ux := ox.under
    go_wp2_with fail
    refine (HI.out _ _ _ ox.row).mono ?_
    rintro e w4 ⟨Ag, Cg, rfl, og, b4⟩
    have B4 := B3.trans (b4.mono B3.size)
    replace os := os.below b4
    replace ox := ox.below b4
    go_wp2_with fail
    refine (eqIntS_any _ _ m _ m _ ys ys _ og.row os.row hm1 hm1).mono ?_
    rw [HY.out]
    rintro e w5 ⟨rfl, b5⟩
    have B5 := B4.trans (b5.mono B4.size)
    replace os := os.below b5
    replace ox := ox.below b5
    replace og := og.below b5
    go_wp2_with fail
    refine (toIntS_any a n c xs _ (hr.below B5) hn).mono ?_
    rintro e w6 ⟨rfl, o6, b6⟩
    have B6 := B5.trans (b6.mono B5.size)
    replace os := os.below b6
    replace ox := ox.below b6
    replace og := og.below b6
    go_wp2_with fail
    refine (eqIntS_any _ _ n _ n _ xs xs _ ox.row o6.row hn hn).mono ?_
    rw [HX.out]
    rintro e w7 ⟨rfl, b7⟩
    have B7 := B6.trans (b7.mono B6.size)
    replace os := os.below b7
    replace ox := ox.below b7
    replace og := og.below b7
    clear o6
    go_wp2_with fail
    refine (markIntS_any _ _ n _ xs 1 _ ox hn (by omega)).mono ?_
    rintro e w8 ⟨rfl, ox8, g8⟩
    have B8 := below_marked B7 ox g8 (by have := B2.size; omega) B7.size
    replace os := os.stays us ox g8
    replace og := og.stays' ux ox g8
    clear ox ox8 g8
    go_wp2_with fail
    refine (eqIntS_any _ _ m _ m _ ys ys _ og.row os.row hm1 hm1).mono ?_
    rw [HY.out]
    rintro e w9 ⟨rfl, b9⟩
    have B9 := B8.trans (b9.mono B8.size)
    replace os := os.below b9
    replace og := og.below b9
    go_wp2_with fail
    refine (markIntS_any _ _ m _ ys 1 _ og hm1 (by omega)).mono ?_
    rintro e w10 ⟨rfl, og10, g10⟩
    have us3 : Under w3.heap.size As := fun g hg => Nat.lt_of_lt_of_le (us g hg) b3.size
    have B10 := below_marked B9 og g10 (by have := B3.size; omega) B9.size
    replace os := os.stays us3 og g10
    clear og g10
    go_wp2_with fail
    refine (heldIntS_any _ m _ 1 _ og10.row hm1 (by omega)).mono ?_
    rintro e w11 ⟨rfl, b11⟩
    have B11 := B10.trans (b11.mono B10.size)
    replace os := os.below b11
    replace og10 := og10.below b11
    go_wp2_with fail
    refine (toIntS_any a n c xs _ (hr.below B11) hn).mono ?_
    rintro e w12 ⟨rfl, o12, b12⟩
    have B12 := B11.trans (b12.mono B11.size)
    replace os := os.below b12
    replace og10 := og10.below b12
    go_wp2_with fail
    refine (HI.out _ _ _ o12.row).mono ?_
    rintro e w13 ⟨Ah, Ch, rfl, oh, b13⟩
    have B13 := B12.trans (b13.mono B12.size)
    replace os := os.below b13
    replace og10 := og10.below b13
    clear o12
    go_wp2_with fail
    refine (eqIntS_any _ _ m _ m _ ys ys _ oh.row os.row hm1 hm1).mono ?_
    rw [HY.out]
    rintro e w14 ⟨rfl, b14⟩
    have B14 := B13.trans (b14.mono B13.size)
    replace og10 := og10.below b14
    clear oh os
    go_wp2_with fail
    refine (heldIntS_any _ m _ 1 _ og10.row hm1 (by omega)).mono ?_
    rintro e w15 ⟨rfl, b15⟩
    have B15 := B14.trans (b15.mono B14.size)
    go_wp2_with fail
    go_ret
    exact ⟨rfl, B15⟩
  · go_enter Try.func13, Try.ntmps13
    go_wp2_with fail
    go_ret
    exact ⟨rfl, Below.refl _ _⟩
set_option maxHeartbeats 1600000 in
theorem walkPartsAbove (a : Option Addr) (n c : Nat) (xs : List Int) (w : World) (hr : Row w a n xs) (_hbig : n ≤ 9223372036854775807) :
    Calls Try.prog 12 #[.slice a n c] w fun e w' => e = .returned (.bool true) ∧ Below w.heap.size w w' := by
  by_cases hn : n ≤ 1048576
  · obtain ⟨m, hm⟩ : ∃ m, m = toldN xs n := ⟨_, rfl⟩
    obtain ⟨ys, hys⟩ : ∃ ys, ys = told true true xs := ⟨_, rfl⟩
    have hS := fun a c w hr => sPartsAbove_any a n c xs w hr hn
    have hI := fun a c w hr => iPartsAbove_any a n c xs w hr hn
    rw [← hm, ← hys] at hS hI
    have HS := Lib.hid hS; clear hS
    have HI := Lib.hid hI; clear hI
    have hm1 : m ≤ 1048576 := by rw [hm, toldN]; split <;> omega
    clear hm hys
    have HX : Hid (eqB xs xs = true) := eqB_self xs
    have HY : Hid (eqB ys ys = true) := eqB_self ys
    go_enter Try.func12, Try.ntmps12
    go_wp2_with fail
    refine (toIntS_any a n c xs _ hr hn).mono ?_
    rintro e w1 ⟨rfl, o1, b1⟩
    go_wp2_with fail
    refine (HS.out _ _ _ o1.row).mono ?_
    rintro e w2 ⟨As, Cs, rfl, os, b2⟩
    have B2 := b1.trans (b2.mono b1.size)
    have us := os.under
    clear o1
    go_wp2_with fail
    refine (toIntS_any a n c xs _ (hr.below B2) hn).mono ?_
    rintro e w3 ⟨rfl, ox, b3⟩
    have B3 := B2.trans (b3.mono B2.size)
    replace os := os.below b3
    have ux := ox.under
    go_wp2_with fail
    refine (HI.out _ _ _ ox.row).mono ?_
    rintro e w4 ⟨Ag, Cg, rfl, og, b4⟩
    have B4 := B3.trans (b4.mono B3.size)
    replace os := os.below b4
    replace ox := ox.below b4
    go_wp2_with fail
    refine (eqIntS_any _ _ m _ m _ ys ys _ og.row os.row hm1 hm1).mono ?_
    rw [HY.out]
    rintro e w5 ⟨rfl, b5⟩
    have B5 := B4.trans (b5.mono B4.size)
    replace os := os.below b5
    replace ox := ox.below b5
    replace og := og.below b5
    go_wp2_with fail
    refine (toIntS_any a n c xs _ (hr.below B5) hn).mono ?_
    rintro e w6 ⟨rfl, o6, b6⟩
    have B6 := B5.trans (b6.mono B5.size)
    replace os := os.below b6
    replace ox := ox.below b6
    replace og := og.below b6
    go_wp2_with fail
    refine (eqIntS_any _ _ n _ n _ xs xs _ ox.row o6.row hn hn).mono ?_
    rw [HX.out]
    rintro e w7 ⟨rfl, b7⟩
    have B7 := B6.trans (b7.mono B6.size)
    replace os := os.below b7
    replace ox := ox.below b7
    replace og := og.below b7
    clear o6
    go_wp2_with fail
    refine (markIntS_any _ _ n _ xs 1 _ ox hn (by omega)).mono ?_
    rintro e w8 ⟨rfl, ox8, g8⟩
    have B8 := below_marked B7 ox g8 (by have := B2.size; omega) B7.size
    replace os := os.stays us ox g8
    replace og := og.stays' ux ox g8
    clear ox ox8 g8
    go_wp2_with fail
    refine (eqIntS_any _ _ m _ m _ ys ys _ og.row os.row hm1 hm1).mono ?_
    rw [HY.out]
    rintro e w9 ⟨rfl, b9⟩
    have B9 := B8.trans (b9.mono B8.size)
    replace os := os.below b9
    replace og := og.below b9
    go_wp2_with fail
    refine (markIntS_any _ _ m _ ys 1 _ og hm1 (by omega)).mono ?_
    rintro e w10 ⟨rfl, og10, g10⟩
    have us3 : Under w3.heap.size As := fun g hg => Nat.lt_of_lt_of_le (us g hg) b3.size
    have B10 := below_marked B9 og g10 (by have := B3.size; omega) B9.size
    replace os := os.stays us3 og g10
    clear og g10
    go_wp2_with fail
    refine (heldIntS_any _ m _ 1 _ og10.row hm1 (by omega)).mono ?_
    rintro e w11 ⟨rfl, b11⟩
    have B11 := B10.trans (b11.mono B10.size)
    replace os := os.below b11
    replace og10 := og10.below b11
    go_wp2_with fail
    refine (toIntS_any a n c xs _ (hr.below B11) hn).mono ?_
    rintro e w12 ⟨rfl, o12, b12⟩
    have B12 := B11.trans (b12.mono B11.size)
    replace os := os.below b12
    replace og10 := og10.below b12
    go_wp2_with fail
    refine (HI.out _ _ _ o12.row).mono ?_
    rintro e w13 ⟨Ah, Ch, rfl, oh, b13⟩
    have B13 := B12.trans (b13.mono B12.size)
    replace os := os.below b13
    replace og10 := og10.below b13
    clear o12
    go_wp2_with fail
    refine (eqIntS_any _ _ m _ m _ ys ys _ oh.row os.row hm1 hm1).mono ?_
    rw [HY.out]
    rintro e w14 ⟨rfl, b14⟩
    have B14 := B13.trans (b14.mono B13.size)
    replace og10 := og10.below b14
    clear oh os
    go_wp2_with fail
    refine (heldIntS_any _ m _ 1 _ og10.row hm1 (by omega)).mono ?_
    rintro e w15 ⟨rfl, b15⟩
    have B15 := B14.trans (b15.mono B14.size)
    go_wp2_with fail
    go_ret
    exact ⟨rfl, B15⟩
  · go_enter Try.func12, Try.ntmps12
    go_wp2_with fail
    go_ret
    exact ⟨rfl, Below.refl _ _⟩
end Go.Proofs.Ytehlccnoalgliaa
