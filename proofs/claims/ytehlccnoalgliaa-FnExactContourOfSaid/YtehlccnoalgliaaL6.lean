/- The walk of the statement FnExactContourOf. -/
import Derived.Test.YtehlccnoalgliaaW16
import Derived.Deep.RegionHeld3
namespace Go.Proofs.Ytehlccnoalgliaa
open Go.RowKit

theorem markMass_any (B : Nat) (s : Int) (a : Option Addr) (n c : Nat) (xs : List Int) (z : Int) (w : World) (ho : Own B w a n c xs) (hn : n ≤ 1048576) (hz : 0 ≤ z ∧ z ≤ 1048576000) :
    Calls Try.prog 46 #[massV s a n c, .int .i64 z] w fun e w' => e = .returned (.int .i64 (z + n)) ∧ Own B w' a n c (marks n z) ∧ w.grownBy w' (Value.slice a n c).ownBlock := by
  have HM := Lib.hid (markIntS_any B a n c xs z (w.alloc (.cells #[.int .i64 s, .slice a n c] 31)) (ho.below ((Below.refl w.heap.size w).alloc (Nat.le_refl _) _)) hn hz)
  clear ho
  have HG := Lib.hid (World.grownBy_alloc w (.cells #[.int .i64 s, .slice a n c] 31) (Value.slice a n c).ownBlock)
  go_enter Try.func46, Try.ntmps46
  go_wp2_with fail
  refine HM.out.mono ?_
  rintro e w1 ⟨rfl, o1, g1⟩
  have HO := Lib.hid o1; clear o1
  have HG1 := Lib.hid (grown_trans HG.out g1); clear g1
  go_wp2_with fail
  go_ret
  exact ⟨rfl, HO.out, HG1.out⟩
set_option maxHeartbeats 3200000 in
theorem walkContourOf (s : Int) (a : Option Addr) (n c : Nat) (xs : List Int) (w : World) (hr : Row w a n xs) (hbig : n ≤ 9223372036854775807) :
    Calls Try.prog 14 #[massV s a n c] w fun e w' => e = .returned (.bool true) ∧ Below w.heap.size w w' := by
  have hB0 : Below w.heap.size w (w.alloc (.cells #[.int .i64 s, .slice a n c] 28)) := (Below.refl w.heap.size w).alloc (Nat.le_refl _) _
  have HZ := Lib.hid (fun W => szMass_any s a n c 1048576 W hbig (by omega))
  by_cases hn : n ≤ 1048576
  · rw [if_neg (by omega)] at HZ
    have hr0 := hr.below hB0
    have HB0 := Lib.hid hB0; clear hB0 hr
    have HE : Hid ((s == s && eqB xs xs) = true) := by show _ = _; simp [eqB_self]
    have HS := Lib.hid (fun a c W (h : Row W a n xs) => sContourOf_any s a n c xs W h hn)
    have HI := Lib.hid (fun a c W (h : Row W a n xs) => iContourOf_any s a n c xs W h hn)
    have hm1 : contourN s xs ≤ 1048576 := by
      rw [contourN]; split
      · next h => obtain ⟨m, rfl, _, h4⟩ := size_nat (massB_is rfl h).size; simp; omega
      · omega
    obtain ⟨m, hm⟩ : ∃ m, m = contourN s xs := ⟨_, rfl⟩
    obtain ⟨ys, hys⟩ : ∃ ys, ys = contourT s xs := ⟨_, rfl⟩
    rw [← hm] at hm1
    rw [← hm, ← hys] at HS HI
    clear hm hys
    have HY : Hid (eqB ys ys = true) := eqB_self ys
    obtain ⟨W0, hW0⟩ : ∃ W0, W0 = w.alloc (.cells #[.int .i64 s, .slice a n c] 28) := ⟨_, rfl⟩
    have hk0 : W0.heap[w.heap.size]? = some (.cells #[.int .i64 s, .slice a n c] 28) := by rw [hW0]; exact alloc_at rfl
    rw [← hW0] at hr0 HB0
    have HW0 := Lib.hid hW0; clear hW0
    have HK := Lib.hid hk0; clear hk0
    go_enter Try.func14, Try.ntmps14
    go_wp2_with fail
    rw [← HW0.out]
    refine (HZ.out _).mono ?_
    rintro e w1 ⟨rfl, b1⟩
    obtain ⟨c1, c2, _, _⟩ := box2 HK.out b1
    go_wp2_with fail
    refine (toMass_any s a n c xs _ (hr0.below b1) hn).mono ?_
    rintro e w2 ⟨g2, rfl, o2, b2⟩
    have B2 := b1.trans (b2.mono b1.size)
    go_wp2_with fail
    refine (HS.out _ _ _ o2.row).mono ?_
    rintro e w3 ⟨As, Cs, rfl, os, b3⟩
    have us := os.under
    have B3 := B2.trans (b3.mono B2.size)
    have hs3 := B3.size
    clear o2 c1 c2
    obtain ⟨c1, c2, _, _⟩ := box2 HK.out B3
    go_wp2_with fail
    refine (toMass_any s a n c xs _ (hr0.below B3) hn).mono ?_
    rintro e w4 ⟨g4, rfl, ox, b4⟩
    have B4 := B3.trans (b4.mono B3.size)
    have us4 : Under (w4.alloc (.cells #[.int .i64 s, .slice (some ⟨g4, 0, none⟩) n n] 31)).heap.size As := fun g hg => Nat.lt_of_lt_of_le (us g hg) (Nat.le_trans b4.size (by simp))
    clear c1 c2
    have b4' : Below w4.heap.size w4 (w4.alloc (.cells #[.int .i64 s, .slice (some ⟨g4, 0, none⟩) n n] 31)) := (Below.refl _ _).alloc (Nat.le_refl _) _
    have HX := Lib.hid (alloc_at (w := w4) (o := .cells #[.int .i64 s, .slice (some ⟨g4, 0, none⟩) n n] 31) rfl)
    replace ox := ox.below b4'
    replace os := (os.below b4).below b4'
    have HB4 := Lib.hid (B4.trans (b4'.mono B4.size)); clear b4'
    go_wp2_with fail
    have ux := ox.under
    refine (HI.out _ _ _ ox.row).mono ?_
    rintro e w5 ⟨Ag, Cg, rfl, og, b5⟩
    have B5 := HB4.out.trans (b5.mono HB4.out.size)
    have hx0 : w4.heap.size < (w4.alloc (.cells #[.int .i64 s, .slice (some ⟨g4, 0, none⟩) n n] 31)).heap.size := by simp
    replace os := os.below b5
    replace ox := ox.below b5
    go_wp2_with fail
    refine (eqIntS_any _ _ m _ m _ ys ys _ og.row os.row hm1 hm1).mono ?_
    rw [HY.out]
    rintro e w6 ⟨rfl, b6⟩
    have B6 := B5.trans (b6.mono B5.size)
    replace os := os.below b6
    replace ox := ox.below b6
    replace og := og.below b6
    obtain ⟨d1, d2, _, _⟩ := box2 HX.out (b5.trans (b6.mono b5.size))
    obtain ⟨c1, c2, _, _⟩ := box2 HK.out B6
    have HRA := Lib.hid ((hr0.below B6).below (w' := w6.drew) (Below.refl _ _).drew)
    have HOX := Lib.hid (ox.below (w' := w6.drew) (Below.refl _ _).drew)
    have HOS := Lib.hid (os.below (w' := w6.drew) (Below.refl _ _).drew)
    have HOG := Lib.hid (og.below (w' := w6.drew) (Below.refl _ _).drew)
    have hz0 : w.heap.size < w6.heap.size := World.block_lt_of_cell? _ _ c1
    have hz1 : w4.heap.size < w6.heap.size := World.block_lt_of_cell? _ _ d1
    have HB6 := Lib.hid B6
    clear b1 b2 B2 B3 B4 B5 B6 ox os og
    go_wp2_with fail
    go_region_held3 (fun W => W.cell? ⟨w.heap.size, 0, none⟩ = some (.int .i64 s) ∧ W.cell? ⟨w.heap.size, 1, none⟩ = some (.slice a n c) ∧ W.cell? ⟨w4.heap.size, 0, none⟩ = some (.int .i64 s) ∧ W.cell? ⟨w4.heap.size, 1, none⟩ = some (.slice (some ⟨g4, 0, none⟩) n n))
      (first | go_keep | exact ⟨(b8.cell (Nat.lt_of_lt_of_le hz0 b7.size)).trans ((b7.cell hz0).trans c1), (b8.cell (Nat.lt_of_lt_of_le hz0 b7.size)).trans ((b7.cell hz0).trans c2), (b8.cell (Nat.lt_of_lt_of_le hz1 b7.size)).trans ((b7.cell hz1).trans d1), (b8.cell (Nat.lt_of_lt_of_le hz1 b7.size)).trans ((b7.cell hz1).trans d2)⟩ | exact ⟨(b7.cell hz0).trans c1, (b7.cell hz0).trans c2, (b7.cell hz1).trans d1, (b7.cell hz1).trans d2⟩)
      (first | (go_at_call 29; refine (toMass_any s a n c xs _ HRA.out hn).mono ?_; rintro e w7 ⟨g7, rfl, o7, b7⟩) | (go_at_call 31; refine (eqMass_any s s _ _ n n n n xs xs _ (HOX.out.below b7).row o7.row hn hn).mono ?_; rw [HE.out]; rintro e w8 ⟨rfl, b8⟩))
    have B7 := HB6.out.drew.trans (b7.mono HB6.out.size)
    have B8 := B7.trans (b8.mono B7.size)
    have ox := (HOX.out.below b7).below b8
    have os := (HOS.out.below b7).below b8
    have og := (HOG.out.below b7).below b8
    have e1 := (b8.cell (Nat.lt_of_lt_of_le hz1 b7.size)).trans ((b7.cell hz1).trans d1)
    have e2 := (b8.cell (Nat.lt_of_lt_of_le hz1 b7.size)).trans ((b7.cell hz1).trans d2)
    have hs8 : w5.heap.size ≤ w8.heap.size := Nat.le_trans b6.size (Nat.le_trans b7.size b8.size)
    clear c1 c2 d1 d2 o7 B7
    go_wp2_with fail
    refine (markMass_any _ s _ n _ xs 1 _ ox hn (by omega)).mono ?_
    rintro e w9 ⟨rfl, ox9, g9⟩
    have B9 := below_marked B8 ox g9 hs3 B8.size
    replace os := os.stays us ox g9
    replace og := og.stays' ux ox g9
    clear ox ox9 g9 e1 e2 B8
    go_wp2_with fail
    refine (eqIntS_any _ _ m _ m _ ys ys _ og.row os.row hm1 hm1).mono ?_
    rw [HY.out]
    rintro e w10 ⟨rfl, b10⟩
    have B10 := B9.trans (b10.mono B9.size)
    replace os := os.below b10
    replace og := og.below b10
    go_wp2_with fail
    refine (markIntS_any _ _ m _ ys 1 _ og hm1 (by omega)).mono ?_
    rintro e w11 ⟨rfl, og11, g11⟩
    have B11 := below_marked B10 og g11 HB4.out.size B10.size
    replace os := os.stays us4 og g11
    clear og g11
    go_wp2_with fail
    refine (heldIntS_any _ m _ 1 _ og11.row hm1 (by omega)).mono ?_
    rintro e w12 ⟨rfl, b12⟩
    have B12 := B11.trans (b12.mono B11.size)
    replace os := os.below b12
    replace og11 := og11.below b12
    obtain ⟨c1, c2, _, _⟩ := box2 HK.out B12
    go_wp2_with fail
    refine (toMass_any s a n c xs _ (hr0.below B12) hn).mono ?_
    rintro e w13 ⟨g13, rfl, o13, b13⟩
    have B13 := B12.trans (b13.mono B12.size)
    replace os := os.below b13
    replace og11 := og11.below b13
    clear c1 c2
    go_wp2_with fail
    refine (HI.out _ _ _ o13.row).mono ?_
    rintro e w14 ⟨Ah, Ch, rfl, oh, b14⟩
    have B14 := B13.trans (b14.mono B13.size)
    replace os := os.below b14
    replace og11 := og11.below b14
    clear o13
    go_wp2_with fail
    refine (eqIntS_any _ _ m _ m _ ys ys _ oh.row os.row hm1 hm1).mono ?_
    rw [HY.out]
    rintro e w15 ⟨rfl, b15⟩
    have B15 := B14.trans (b15.mono B14.size)
    replace og11 := og11.below b15
    clear oh os
    go_wp2_with fail
    refine (heldIntS_any _ m _ 1 _ og11.row hm1 (by omega)).mono ?_
    rintro e w16 ⟨rfl, b16⟩
    have B16 := B15.trans (b16.mono B15.size)
    go_wp2_with fail
    go_ret
    exact ⟨rfl, HB0.out.trans (B16.mono HB0.out.size)⟩
  · rw [if_pos (by omega)] at HZ
    have HB0 := Lib.hid hB0; clear hB0
    go_enter Try.func14, Try.ntmps14
    go_wp2_with fail
    refine (HZ.out _).mono ?_
    rintro e w1 ⟨rfl, b1⟩
    go_wp2_with fail
    go_ret
    exact ⟨rfl, HB0.out.trans (b1.mono HB0.out.size)⟩
end Go.Proofs.Ytehlccnoalgliaa
