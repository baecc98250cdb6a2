/- The walks of the statements on measures of a set. -/
import Derived.Test.YtehlccnoalgliaaW14
import Derived.Test.YtehlccnoalgliaaW15
import Derived.Deep.RegionHeld3
namespace Go.Proofs.Ytehlccnoalgliaa
open Go.RowKit

set_option maxHeartbeats 1600000 in
theorem walkImpliedPart (s : Int) (a : Option Addr) (n c : Nat) (xs : List Int) (x : Int) (w : World) (hr : Row w a n xs) (hbig : n ≤ 9223372036854775807) :
    Calls Try.prog 9 #[massV s a n c, .int .i64 x] w fun e w' => e = .returned (.bool true) ∧ Below w.heap.size w w' := by
  have hB0 : Below w.heap.size w (w.alloc (.cells #[.int .i64 s, .slice a n c] 28)) := (Below.refl w.heap.size w).alloc (Nat.le_refl _) _
  have HZ := Lib.hid (fun W => szMass_any s a n c 1048576 W hbig (by omega))
  by_cases hn : n ≤ 1048576
  · rw [if_neg (by omega)] at HZ
    have hr0 := hr.below hB0
    have HB0 := Lib.hid hB0; clear hB0 hr
    have HE : Hid ((s == s && eqB xs xs) = true) := by show _ = _; simp [eqB_self]
    have HS := Lib.hid (fun a c W (h : Row W a n xs) => sImpliedPart_any s x a n c xs W h hn)
    have HI := Lib.hid (fun a c W (h : Row W a n xs) => iImpliedPart_any s x a n c xs W h hn)
    obtain ⟨z, hz⟩ : ∃ z, z = measure s xs x (partOf (fun j => subB j x.toNat) xs) := ⟨_, rfl⟩
    rw [← hz] at HS HI
    clear hz
    obtain ⟨W0, hW0⟩ : ∃ W0, W0 = w.alloc (.cells #[.int .i64 s, .slice a n c] 28) := ⟨_, rfl⟩
    have hk0 : W0.heap[w.heap.size]? = some (.cells #[.int .i64 s, .slice a n c] 28) := by rw [hW0]; exact alloc_at rfl
    rw [← hW0] at hr0 HB0
    have HW0 := Lib.hid hW0; clear hW0
    have HK := Lib.hid hk0; clear hk0
    go_enter Try.func9, Try.ntmps9
    go_wp2_with fail
    rw [← HW0.out]
    refine (HZ.out _).mono ?_
    rintro e w1 ⟨rfl, b1⟩
    obtain ⟨c1, c2, _, _⟩ := box2 HK.out b1
    go_wp2_with fail
    refine (toMass_any s a n c xs _ (hr0.below b1) hn).mono ?_
    rintro e w2 ⟨g2, rfl, o2, b2⟩
    have B2 := b1.trans (b2.mono b1.size)
    go_wp2_with fail
    refine (HS.out _ _ _ o2.row).mono ?_
    rintro e w3 ⟨rfl, b3⟩
    have B3 := B2.trans (b3.mono B2.size)
    clear o2 c1 c2
    obtain ⟨c1, c2, _, _⟩ := box2 HK.out B3
    go_wp2_with fail
    refine (toMass_any s a n c xs _ (hr0.below B3) hn).mono ?_
    rintro e w4 ⟨g4, rfl, o4, b4⟩
    have B4 := B3.trans (b4.mono B3.size)
    clear c1 c2
    have b4' : Below w4.heap.size w4 (w4.alloc (.cells #[.int .i64 s, .slice (some ⟨g4, 0, none⟩) n n] 31)) := (Below.refl _ _).alloc (Nat.le_refl _) _
    have HX := Lib.hid (alloc_at (w := w4) (o := .cells #[.int .i64 s, .slice (some ⟨g4, 0, none⟩) n n] 31) rfl)
    have o4' := o4.below b4'
    have HB4 := Lib.hid (B4.trans (b4'.mono B4.size)); clear b4' o4
    go_wp2_with fail
    refine (HI.out _ _ _ o4'.row).mono ?_
    rintro e w5 ⟨rfl, b5⟩
    obtain ⟨d1, d2, _, _⟩ := box2 HX.out b5
    have B5 := HB4.out.trans (b5.mono HB4.out.size)
    obtain ⟨c1, c2, _, _⟩ := box2 HK.out B5
    have HRA := Lib.hid ((hr0.below B5).below (w' := w5.drew) (Below.refl _ _).drew)
    have HOX := Lib.hid ((o4'.below b5).below (w' := w5.drew) (Below.refl _ _).drew)
    have hz0 : w.heap.size < w5.heap.size := World.block_lt_of_cell? _ _ c1
    have hz1 : w4.heap.size < w5.heap.size := World.block_lt_of_cell? _ _ d1
    have HB5 := Lib.hid B5
    clear b1 b2 b3 b4 b5 B2 B3 B4 B5 o4'
    go_wp2_with fail
    go_region_held3 (fun W => W.cell? ⟨w.heap.size, 0, none⟩ = some (.int .i64 s) ∧ W.cell? ⟨w.heap.size, 1, none⟩ = some (.slice a n c) ∧ W.cell? ⟨w4.heap.size, 0, none⟩ = some (.int .i64 s) ∧ W.cell? ⟨w4.heap.size, 1, none⟩ = some (.slice (some ⟨g4, 0, none⟩) n n))
      (first | go_keep | exact ⟨(b7.cell (Nat.lt_of_lt_of_le hz0 b6.size)).trans ((b6.cell hz0).trans c1), (b7.cell (Nat.lt_of_lt_of_le hz0 b6.size)).trans ((b6.cell hz0).trans c2), (b7.cell (Nat.lt_of_lt_of_le hz1 b6.size)).trans ((b6.cell hz1).trans d1), (b7.cell (Nat.lt_of_lt_of_le hz1 b6.size)).trans ((b6.cell hz1).trans d2)⟩ | exact ⟨(b6.cell hz0).trans c1, (b6.cell hz0).trans c2, (b6.cell hz1).trans d1, (b6.cell hz1).trans d2⟩)
      (first | (go_at_call 29; refine (toMass_any s a n c xs _ HRA.out hn).mono ?_; rintro e w6 ⟨g6, rfl, o6, b6⟩) | (go_at_call 31; refine (eqMass_any s s _ _ n n n n xs xs _ (HOX.out.below b6).row o6.row hn hn).mono ?_; rw [HE.out]; rintro e w7 ⟨rfl, b7⟩))
    have B6 := HB5.out.drew.trans (b6.mono HB5.out.size)
    have B7 := B6.trans (b7.mono B6.size)
    go_wp2_with fail
    go_ret
    exact ⟨rfl, HB0.out.trans (B7.mono HB0.out.size)⟩
  · rw [if_pos (by omega)] at HZ
    have HB0 := Lib.hid hB0; clear hB0
    go_enter Try.func9, Try.ntmps9
    go_wp2_with fail
    refine (HZ.out _).mono ?_
    rintro e w1 ⟨rfl, b1⟩
    go_wp2_with fail
    go_ret
    exact ⟨rfl, HB0.out.trans (b1.mono HB0.out.size)⟩
set_option maxHeartbeats 1600000 in
theorem walkBelievedPart (s : Int) (a : Option Addr) (n c : Nat) (xs : List Int) (x : Int) (w : World) (hr : Row w a n xs) (hbig : n ≤ 9223372036854775807) :
    Calls Try.prog 8 #[massV s a n c, .int .i64 x] w fun e w' => e = .returned (.bool true) ∧ Below w.heap.size w w' := by
  have hB0 : Below w.heap.size w (w.alloc (.cells #[.int .i64 s, .slice a n c] 28)) := (Below.refl w.heap.size w).alloc (Nat.le_refl _) _
  have HZ := Lib.hid (fun W => szMass_any s a n c 1048576 W hbig (by omega))
  by_cases hn : n ≤ 1048576
  · rw [if_neg (by omega)] at HZ
    have hr0 := hr.below hB0
    have HB0 := Lib.hid hB0; clear hB0 hr
    have HE : Hid ((s == s && eqB xs xs) = true) := by show _ = _; simp [eqB_self]
    have HS := Lib.hid (fun a c W (h : Row W a n xs) => sBelievedPart_any s x a n c xs W h hn)
    have HI := Lib.hid (fun a c W (h : Row W a n xs) => iBelievedPart_any s x a n c xs W h hn)
    obtain ⟨z, hz⟩ : ∃ z, z = measure s xs x (partOf (fun j => subB j x.toNat) xs - xs.getD 0 0) := ⟨_, rfl⟩
    rw [← hz] at HS HI
    clear hz
    obtain ⟨W0, hW0⟩ : ∃ W0, W0 = w.alloc (.cells #[.int .i64 s, .slice a n c] 28) := ⟨_, rfl⟩
    have hk0 : W0.heap[w.heap.size]? = some (.cells #[.int .i64 s, .slice a n c] 28) := by rw [hW0]; exact alloc_at rfl
    rw [← hW0] at hr0 HB0
    have HW0 := Lib.hid hW0; clear hW0
    have HK := Lib.hid hk0; clear hk0
    go_enter Try.func8, Try.ntmps8
    go_wp2_with fail
    rw [← HW0.out]
    refine (HZ.out _).mono ?_
    rintro e w1 ⟨rfl, b1⟩
    obtain ⟨c1, c2, _, _⟩ := box2 HK.out b1
    go_wp2_with fail
    refine (toMass_any s a n c xs _ (hr0.below b1) hn).mono ?_
    rintro e w2 ⟨g2, rfl, o2, b2⟩
    have B2 := b1.trans (b2.mono b1.size)
    go_wp2_with fail
    refine (HS.out _ _ _ o2.row).mono ?_
    rintro e w3 ⟨rfl, b3⟩
    have B3 := B2.trans (b3.mono B2.size)
    clear o2 c1 c2
    obtain ⟨c1, c2, _, _⟩ := box2 HK.out B3
    go_wp2_with fail
    refine (toMass_any s a n c xs _ (hr0.below B3) hn).mono ?_
    rintro e w4 ⟨g4, rfl, o4, b4⟩
    have B4 := B3.trans (b4.mono B3.size)
    clear c1 c2
    have b4' : Below w4.heap.size w4 (w4.alloc (.cells #[.int .i64 s, .slice (some ⟨g4, 0, none⟩) n n] 31)) := (Below.refl _ _).alloc (Nat.le_refl _) _
    have HX := Lib.hid (alloc_at (w := w4) (o := .cells #[.int .i64 s, .slice (some ⟨g4, 0, none⟩) n n] 31) rfl)
    have o4' := o4.below b4'
    have HB4 := Lib.hid (B4.trans (b4'.mono B4.size)); clear b4' o4
    go_wp2_with fail
    refine (HI.out _ _ _ o4'.row).mono ?_
    rintro e w5 ⟨rfl, b5⟩
    obtain ⟨d1, d2, _, _⟩ := box2 HX.out b5
    have B5 := HB4.out.trans (b5.mono HB4.out.size)
    obtain ⟨c1, c2, _, _⟩ := box2 HK.out B5
    have HRA := Lib.hid ((hr0.below B5).below (w' := w5.drew) (Below.refl _ _).drew)
    have HOX := Lib.hid ((o4'.below b5).below (w' := w5.drew) (Below.refl _ _).drew)
    have hz0 : w.heap.size < w5.heap.size := World.block_lt_of_cell? _ _ c1
    have hz1 : w4.heap.size < w5.heap.size := World.block_lt_of_cell? _ _ d1
    have HB5 := Lib.hid B5
    clear b1 b2 b3 b4 b5 B2 B3 B4 B5 o4'
    go_wp2_with fail
    go_region_held3 (fun W => W.cell? ⟨w.heap.size, 0, none⟩ = some (.int .i64 s) ∧ W.cell? ⟨w.heap.size, 1, none⟩ = some (.slice a n c) ∧ W.cell? ⟨w4.heap.size, 0, none⟩ = some (.int .i64 s) ∧ W.cell? ⟨w4.heap.size, 1, none⟩ = some (.slice (some ⟨g4, 0, none⟩) n n))
      (first | go_keep | exact ⟨(b7.cell (Nat.lt_of_lt_of_le hz0 b6.size)).trans ((b6.cell hz0).trans c1), (b7.cell (Nat.lt_of_lt_of_le hz0 b6.size)).trans ((b6.cell hz0).trans c2), (b7.cell (Nat.lt_of_lt_of_le hz1 b6.size)).trans ((b6.cell hz1).trans d1), (b7.cell (Nat.lt_of_lt_of_le hz1 b6.size)).trans ((b6.cell hz1).trans d2)⟩ | exact ⟨(b6.cell hz0).trans c1, (b6.cell hz0).trans c2, (b6.cell hz1).trans d1, (b6.cell hz1).trans d2⟩)
      (first | (go_at_call 29; refine (toMass_any s a n c xs _ HRA.out hn).mono ?_; rintro e w6 ⟨g6, rfl, o6, b6⟩) | (go_at_call 31; refine (eqMass_any s s _ _ n n n n xs xs _ (HOX.out.below b6).row o6.row hn hn).mono ?_; rw [HE.out]; rintro e w7 ⟨rfl, b7⟩))
    have B6 := HB5.out.drew.trans (b6.mono HB5.out.size)
    have B7 := B6.trans (b7.mono B6.size)
    go_wp2_with fail
    go_ret
    exact ⟨rfl, HB0.out.trans (B7.mono HB0.out.size)⟩
  · rw [if_pos (by omega)] at HZ
    have HB0 := Lib.hid hB0; clear hB0
    go_enter Try.func8, Try.ntmps8
    go_wp2_with fail
    refine (HZ.out _).mono ?_
    rintro e w1 ⟨rfl, b1⟩
    go_wp2_with fail
    go_ret
    exact ⟨rfl, HB0.out.trans (b1.mono HB0.out.size)⟩
set_option maxHeartbeats 1600000 in
theorem walkPossiblePart (s : Int) (a : Option Addr) (n c : Nat) (xs : List Int) (x : Int) (w : World) (hr : Row w a n xs) (hbig : n ≤ 9223372036854775807) :
    Calls Try.prog 10 #[massV s a n c, .int .i64 x] w fun e w' => e = .returned (.bool true) ∧ Below w.heap.size w w' := by
  have hB0 : Below w.heap.size w (w.alloc (.cells #[.int .i64 s, .slice a n c] 28)) := (Below.refl w.heap.size w).alloc (Nat.le_refl _) _
  have HZ := Lib.hid (fun W => szMass_any s a n c 1048576 W hbig (by omega))
  by_cases hn : n ≤ 1048576
  · rw [if_neg (by omega)] at HZ
    have hr0 := hr.below hB0
    have HB0 := Lib.hid hB0; clear hB0 hr
    have HE : Hid ((s == s && eqB xs xs) = true) := by show _ = _; simp [eqB_self]
    have HS := Lib.hid (fun a c W (h : Row W a n xs) => sPossiblePart_any s x a n c xs W h hn)
    have HI := Lib.hid (fun a c W (h : Row W a n xs) => iPossiblePart_any s x a n c xs W h hn)
    obtain ⟨z, hz⟩ : ∃ z, z = measure s xs x (partOf (fun j => meetB x.toNat j) xs) := ⟨_, rfl⟩
    rw [← hz] at HS HI
    clear hz
    obtain ⟨W0, hW0⟩ : ∃ W0, W0 = w.alloc (.cells #[.int .i64 s, .slice a n c] 28) := ⟨_, rfl⟩
    have hk0 : W0.heap[w.heap.size]? = some (.cells #[.int .i64 s, .slice a n c] 28) := by rw [hW0]; exact alloc_at rfl
    rw [← hW0] at hr0 HB0
    have HW0 := Lib.hid hW0; clear hW0
    have HK := Lib.hid hk0; clear hk0
    go_enter Try.func10, Try.ntmps10
    go_wp2_with fail
    rw [← HW0.out]
    refine (HZ.out _).mono ?_
    rintro e w1 ⟨rfl, b1⟩
    obtain ⟨c1, c2, _, _⟩ := box2 HK.out b1
    go_wp2_with fail
    refine (toMass_any s a n c xs _ (hr0.below b1) hn).mono ?_
    rintro e w2 ⟨g2, rfl, o2, b2⟩
    have B2 := b1.trans (b2.mono b1.size)
    go_wp2_with fail
    refine (HS.out _ _ _ o2.row).mono ?_
    rintro e w3 ⟨rfl, b3⟩
    have B3 := B2.trans (b3.mono B2.size)
    clear o2 c1 c2
    obtain ⟨c1, c2, _, _⟩ := box2 HK.out B3
    go_wp2_with fail
    refine (toMass_any s a n c xs _ (hr0.below B3) hn).mono ?_
    rintro e w4 ⟨g4, rfl, o4, b4⟩
    have B4 := B3.trans (b4.mono B3.size)
    clear c1 c2
    have b4' : Below w4.heap.size w4 (w4.alloc (.cells #[.int .i64 s, .slice (some ⟨g4, 0, none⟩) n n] 31)) := (Below.refl _ _).alloc (Nat.le_refl _) _
    have HX := Lib.hid (alloc_at (w := w4) (o := .cells #[.int .i64 s, .slice (some ⟨g4, 0, none⟩) n n] 31) rfl)
    have o4' := o4.below b4'
    have HB4 := Lib.hid (B4.trans (b4'.mono B4.size)); clear b4' o4
    go_wp2_with fail
    refine (HI.out _ _ _ o4'.row).mono ?_
    rintro e w5 ⟨rfl, b5⟩
    obtain ⟨d1, d2, _, _⟩ := box2 HX.out b5
    have B5 := HB4.out.trans (b5.mono HB4.out.size)
    obtain ⟨c1, c2, _, _⟩ := box2 HK.out B5
    have HRA := Lib.hid ((hr0.below B5).below (w' := w5.drew) (Below.refl _ _).drew)
    have HOX := Lib.hid ((o4'.below b5).below (w' := w5.drew) (Below.refl _ _).drew)
    have hz0 : w.heap.size < w5.heap.size := World.block_lt_of_cell? _ _ c1
    have hz1 : w4.heap.size < w5.heap.size := World.block_lt_of_cell? _ _ d1
    have HB5 := Lib.hid B5
    clear b1 b2 b3 b4 b5 B2 B3 B4 B5 o4'
    go_wp2_with fail
    go_region_held3 (fun W => W.cell? ⟨w.heap.size, 0, none⟩ = some (.int .i64 s) ∧ W.cell? ⟨w.heap.size, 1, none⟩ = some (.slice a n c) ∧ W.cell? ⟨w4.heap.size, 0, none⟩ = some (.int .i64 s) ∧ W.cell? ⟨w4.heap.size, 1, none⟩ = some (.slice (some ⟨g4, 0, none⟩) n n))
      (first | go_keep | exact ⟨(b7.cell (Nat.lt_of_lt_of_le hz0 b6.size)).trans ((b6.cell hz0).trans c1), (b7.cell (Nat.lt_of_lt_of_le hz0 b6.size)).trans ((b6.cell hz0).trans c2), (b7.cell (Nat.lt_of_lt_of_le hz1 b6.size)).trans ((b6.cell hz1).trans d1), (b7.cell (Nat.lt_of_lt_of_le hz1 b6.size)).trans ((b6.cell hz1).trans d2)⟩ | exact ⟨(b6.cell hz0).trans c1, (b6.cell hz0).trans c2, (b6.cell hz1).trans d1, (b6.cell hz1).trans d2⟩)
      (first | (go_at_call 29; refine (toMass_any s a n c xs _ HRA.out hn).mono ?_; rintro e w6 ⟨g6, rfl, o6, b6⟩) | (go_at_call 31; refine (eqMass_any s s _ _ n n n n xs xs _ (HOX.out.below b6).row o6.row hn hn).mono ?_; rw [HE.out]; rintro e w7 ⟨rfl, b7⟩))
    have B6 := HB5.out.drew.trans (b6.mono HB5.out.size)
    have B7 := B6.trans (b7.mono B6.size)
    go_wp2_with fail
    go_ret
    exact ⟨rfl, HB0.out.trans (B7.mono HB0.out.size)⟩
  · rw [if_pos (by omega)] at HZ
    have HB0 := Lib.hid hB0; clear hB0
    go_enter Try.func10, Try.ntmps10
    go_wp2_with fail
    refine (HZ.out _).mono ?_
    rintro e w1 ⟨rfl, b1⟩
    go_wp2_with fail
    go_ret
    exact ⟨rfl, HB0.out.trans (b1.mono HB0.out.size)⟩
set_option maxHeartbeats 1600000 in
theorem walkCommonPart (s : Int) (a : Option Addr) (n c : Nat) (xs : List Int) (x : Int) (w : World) (hr : Row w a n xs) (hbig : n ≤ 9223372036854775807) :
    Calls Try.prog 7 #[massV s a n c, .int .i64 x] w fun e w' => e = .returned (.bool true) ∧ Below w.heap.size w w' := by
  have hB0 : Below w.heap.size w (w.alloc (.cells #[.int .i64 s, .slice a n c] 28)) := (Below.refl w.heap.size w).alloc (Nat.le_refl _) _
  have HZ := Lib.hid (fun W => szMass_any s a n c 1048576 W hbig (by omega))
  by_cases hn : n ≤ 1048576
  · rw [if_neg (by omega)] at HZ
    have hr0 := hr.below hB0
    have HB0 := Lib.hid hB0; clear hB0 hr
    have HE : Hid ((s == s && eqB xs xs) = true) := by show _ = _; simp [eqB_self]
    have HS := Lib.hid (fun a c W (h : Row W a n xs) => sCommonPart_any s x a n c xs W h hn)
    have HI := Lib.hid (fun a c W (h : Row W a n xs) => iCommonPart_any s x a n c xs W h hn)
    obtain ⟨z, hz⟩ : ∃ z, z = measure s xs x (partOf (fun j => subB x.toNat j) xs) := ⟨_, rfl⟩
    rw [← hz] at HS HI
    clear hz
    obtain ⟨W0, hW0⟩ : ∃ W0, W0 = w.alloc (.cells #[.int .i64 s, .slice a n c] 28) := ⟨_, rfl⟩
    have hk0 : W0.heap[w.heap.size]? = some (.cells #[.int .i64 s, .slice a n c] 28) := by rw [hW0]; exact alloc_at rfl
    rw [← hW0] at hr0 HB0
    have HW0 := Lib.hid hW0; clear hW0
    have HK := Lib.hid hk0; clear hk0
    go_enter Try.func7, Try.ntmps7
    go_wp2_with fail
    rw [← HW0.out]
    refine (HZ.out _).mono ?_
    rintro e w1 ⟨rfl, b1⟩
    obtain ⟨c1, c2, _, _⟩ := box2 HK.out b1
    go_wp2_with fail
    refine (toMass_any s a n c xs _ (hr0.below b1) hn).mono ?_
    rintro e w2 ⟨g2, rfl, o2, b2⟩
    have B2 := b1.trans (b2.mono b1.size)
    go_wp2_with fail
    refine (HS.out _ _ _ o2.row).mono ?_
    rintro e w3 ⟨rfl, b3⟩
    have B3 := B2.trans (b3.mono B2.size)
    clear o2 c1 c2
    obtain ⟨c1, c2, _, _⟩ := box2 HK.out B3
    go_wp2_with fail
    refine (toMass_any s a n c xs _ (hr0.below B3) hn).mono ?_
    rintro e w4 ⟨g4, rfl, o4, b4⟩
    have B4 := B3.trans (b4.mono B3.size)
    clear c1 c2
    have b4' : Below w4.heap.size w4 (w4.alloc (.cells #[.int .i64 s, .slice (some ⟨g4, 0, none⟩) n n] 31)) := (Below.refl _ _).alloc (Nat.le_refl _) _
    have HX := Lib.hid (alloc_at (w := w4) (o := .cells #[.int .i64 s, .slice (some ⟨g4, 0, none⟩) n n] 31) rfl)
    have o4' := o4.below b4'
    have HB4 := Lib.hid (B4.trans (b4'.mono B4.size)); clear b4' o4
    go_wp2_with fail
    refine (HI.out _ _ _ o4'.row).mono ?_
    rintro e w5 ⟨rfl, b5⟩
    obtain ⟨d1, d2, _, _⟩ := box2 HX.out b5
    have B5 := HB4.out.trans (b5.mono HB4.out.size)
    obtain ⟨c1, c2, _, _⟩ := box2 HK.out B5
    have HRA := Lib.hid ((hr0.below B5).below (w' := w5.drew) (Below.refl _ _).drew)
    have HOX := Lib.hid ((o4'.below b5).below (w' := w5.drew) (Below.refl _ _).drew)
    have hz0 : w.heap.size < w5.heap.size := World.block_lt_of_cell? _ _ c1
    have hz1 : w4.heap.size < w5.heap.size := World.block_lt_of_cell? _ _ d1
    have HB5 := Lib.hid B5
    clear b1 b2 b3 b4 b5 B2 B3 B4 B5 o4'
    go_wp2_with fail
    go_region_held3 (fun W => W.cell? ⟨w.heap.size, 0, none⟩ = some (.int .i64 s) ∧ W.cell? ⟨w.heap.size, 1, none⟩ = some (.slice a n c) ∧ W.cell? ⟨w4.heap.size, 0, none⟩ = some (.int .i64 s) ∧ W.cell? ⟨w4.heap.size, 1, none⟩ = some (.slice (some ⟨g4, 0, none⟩) n n))
      (first | go_keep | exact ⟨(b7.cell (Nat.lt_of_lt_of_le hz0 b6.size)).trans ((b6.cell hz0).trans c1), (b7.cell (Nat.lt_of_lt_of_le hz0 b6.size)).trans ((b6.cell hz0).trans c2), (b7.cell (Nat.lt_of_lt_of_le hz1 b6.size)).trans ((b6.cell hz1).trans d1), (b7.cell (Nat.lt_of_lt_of_le hz1 b6.size)).trans ((b6.cell hz1).trans d2)⟩ | exact ⟨(b6.cell hz0).trans c1, (b6.cell hz0).trans c2, (b6.cell hz1).trans d1, (b6.cell hz1).trans d2⟩)
      (first | (go_at_call 29; refine (toMass_any s a n c xs _ HRA.out hn).mono ?_; rintro e w6 ⟨g6, rfl, o6, b6⟩) | (go_at_call 31; refine (eqMass_any s s _ _ n n n n xs xs _ (HOX.out.below b6).row o6.row hn hn).mono ?_; rw [HE.out]; rintro e w7 ⟨rfl, b7⟩))
    have B6 := HB5.out.drew.trans (b6.mono HB5.out.size)
    have B7 := B6.trans (b7.mono B6.size)
    go_wp2_with fail
    go_ret
    exact ⟨rfl, HB0.out.trans (B7.mono HB0.out.size)⟩
  · rw [if_pos (by omega)] at HZ
    have HB0 := Lib.hid hB0; clear hB0
    go_enter Try.func7, Try.ntmps7
    go_wp2_with fail
    refine (HZ.out _).mono ?_
    rintro e w1 ⟨rfl, b1⟩
    go_wp2_with fail
    go_ret
    exact ⟨rfl, HB0.out.trans (b1.mono HB0.out.size)⟩
end Go.Proofs.Ytehlccnoalgliaa
