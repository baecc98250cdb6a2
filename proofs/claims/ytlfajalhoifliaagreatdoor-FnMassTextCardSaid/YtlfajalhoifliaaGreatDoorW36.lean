/- Contracts of fractions from 0 to 1 and of sure masses. -/
import Derived.Test.YtlfajalhoifliaaGreatDoorW22
import Derived.Test.YtlfajalhoifliaaGreatDoorW12
import Derived.Test.YtlfajalhoifliaaGreatDoorMath
import Derived.Test.YtlfajalhoifliaaGreatDoorBase3
import Derived.Deep.Cut
namespace Go.Proofs.YtlfajalhoifliaaGreatDoor
open Go.RowKit

set_option maxHeartbeats 1600000 in
theorem l3Sure_any (s : Int) (k n : Nat) (w : World) (hs : sizeB s = true) (hf : fitB s n = true) (hk : k < n) :
    Calls Tryz.prog 70 #[.int .i64 s, .int .i64 k] w fun e w' => ∃ A C, e = .returned (massV s A n C) ∧ Own w.heap.size w' A n C (sureL n k) ∧ Below w.heap.size w w' := by
  obtain ⟨w0, hw0⟩ : ∃ w0, w0 = w.alloc (.cells #[.int .i64 0, .slice none 0 0] 25) := ⟨_, rfl⟩
  have HBX : Hid (Box w0 w.heap.size 25 (.int .i64 0) (.slice none 0 0)) := by rw [hw0]; exact Box.new _ _ _ _
  have HB0 : Hid (Below w.heap.size w w0) := by rw [hw0]; exact (Below.refl _ _).alloc (Nat.le_refl _) _
  have HS0 : Hid (w0.heap.size = w.heap.size + 1) := by show _ = _; rw [hw0]; simp
  have HW0 := Lib.hid hw0; clear hw0
  have hl : n ≤ 16 := by have := fit_le hs hf; omega
  have hnn : (n : Int) = 2 ^ s.toNat := by simpa [fitB] using hf
  have HSL : Hid (sureL n k = (List.replicate n 0).set k 1) := by
    show _ = _
    rw [tab_zeros, tab_set]
    rfl
  obtain ⟨i0, hi, hz0, hz1, hz2⟩ := info_parts info_int
  have h := size_cases hs
  clear hf hs
  rcases h with rfl | rfl | rfl | rfl
  · simp at hnn
    obtain rfl : n = 2 := by omega
    clear hnn
    go_enter Tryz.func70, Tryz.ntmps70
    go_wp2_with (at_make; go_loud (refine wpList_make_full _ rfl _ _ 23 rfl (w.heap.size + 1) 3 i0 (.int .i64 0) 1 Tryz.underlying23 hi hz0 hz1 _ _ _ _ 2 rfl rfl (by omega) (by omega) (by rw [hz2]; omega) (by unfold maxLen; omega) (by simp) ?_))
    intro w1 hown hg
    rw [toList_madeCells_one, ← List.map_replicate (f := Value.int .i64) (a := 0)] at hown
    rw [← HW0.out] at hg
    have how : Own (w.heap.size + 1) w1 (some ⟨w.heap.size + 1, 0, none⟩) 2 2 (List.replicate 2 0) := hown
    have hbw : Below (w.heap.size + 1) w0 w1 := (Below.refl _ _).grown hg (by rw [HS0.out]; exact Nat.le_refl _) (fun k h => by cases h)
    have HX1 := Lib.hid (HBX.out.below hbw (by omega))
    have HO := Lib.hid how
    have HB1 := Lib.hid (HB0.out.trans (hbw.mono (by omega)))
    have hlt1 : w.heap.size + 1 < w1.heap.size := by
      rcases how.form with ⟨h, _⟩ | ⟨g, h, _, h2, _⟩ <;> (cases h)
      exact h2
    have hki : (k : Int) < 2 := by omega
    clear hown hg hi hz0 hz1 hz2 how hbw
    go_upto_region 2 with fail
    obtain ⟨w2, hw2⟩ : ∃ W, W = w1.alloc (.cells #[.int .i64 1, .slice (some ⟨w.heap.size + 1, 0, none⟩) 2 2] 25) := ⟨_, rfl⟩
    have b2 : Below w1.heap.size w1 w2 := by rw [hw2]; exact (Below.refl _ _).alloc (Nat.le_refl _) _
    have HBM : Hid (Box w2 w1.heap.size 25 (.int .i64 1) (.slice (some ⟨w.heap.size + 1, 0, none⟩) 2 2)) := by rw [hw2]; exact Box.new _ _ _ _
    have HX2 := Lib.hid (HX1.out.below b2 HX1.out.lt)
    have ho2 := HO.out.below b2
    have HB2 := Lib.hid (HB1.out.trans (b2.mono HB1.out.size))
    rw [← hw2]
    clear hw2 b2
    have pc := ho2.cell (k := k) (by omega)
    have pf := ho2.frozen k
    obtain ⟨t, ht⟩ : ∃ t, t = (List.replicate 2 (0 : Int)).getD k 0 := ⟨_, rfl⟩
    rw [← ht] at pc
    have HO2 := Lib.hid ho2
    clear ht ho2
    obtain ⟨m1, m2, _, _⟩ := HBM.out.cells
    go_upto_region 3 with fail
    obtain ⟨w3, hw3⟩ : ∃ W, W = w2.setCell ⟨w.heap.size + 1, k, none⟩ (.int .i64 1) := ⟨_, rfl⟩
    have ho3 := HO2.out.set k 1
    rw [← hw3, ← HSL.out] at ho3
    have hx3 := HX2.out.far (p := ⟨w.heap.size + 1, k, none⟩) (by simp) (.int .i64 1)
    rw [← hw3] at hx3
    have hm3 := HBM.out.far (p := ⟨w.heap.size + 1, k, none⟩) (show w1.heap.size ≠ w.heap.size + 1 by omega) (.int .i64 1)
    rw [← hw3] at hm3
    have hb3 := HB2.out.setCell (p := ⟨w.heap.size + 1, k, none⟩) (by simp) (.int .i64 1)
    rw [← hw3] at hb3
    rw [← hw3]
    clear pc pf m1 m2 hw3
    have HO3 := Lib.hid ho3
    have HB3 := Lib.hid hb3
    obtain ⟨d1, d2, f1, f2⟩ := hx3.cells
    obtain ⟨c1, c2, _, _⟩ := hm3.cells
    clear ho3 hb3 hx3 hm3
    go_wp2_with fail
    refine bodyPost_ret (v := massV 1 (some ⟨w.heap.size + 1, 0, none⟩) 2 2) (by simp [results, Tryz.results70, go_sem, d1, d2]) rfl ?_
    exact ⟨_, _, rfl, (HO3.out.setBox (p := w.heap.size) (by omega) _ _).mono (by omega), (HB3.out.setCell (by simp) _).setCell (by simp) _⟩
  · simp at hnn
    obtain rfl : n = 4 := by omega
    clear hnn
    go_enter Tryz.func70, Tryz.ntmps70
    go_wp2_with (at_make; go_loud (refine wpList_make_full _ rfl _ _ 23 rfl (w.heap.size + 1) 3 i0 (.int .i64 0) 1 Tryz.underlying23 hi hz0 hz1 _ _ _ _ 4 rfl rfl (by omega) (by omega) (by rw [hz2]; omega) (by unfold maxLen; omega) (by simp) ?_))
    intro w1 hown hg
    rw [toList_madeCells_one, ← List.map_replicate (f := Value.int .i64) (a := 0)] at hown
    rw [← HW0.out] at hg
    have how : Own (w.heap.size + 1) w1 (some ⟨w.heap.size + 1, 0, none⟩) 4 4 (List.replicate 4 0) := hown
    have hbw : Below (w.heap.size + 1) w0 w1 := (Below.refl _ _).grown hg (by rw [HS0.out]; exact Nat.le_refl _) (fun k h => by cases h)
    have HX1 := Lib.hid (HBX.out.below hbw (by omega))
    have HO := Lib.hid how
    have HB1 := Lib.hid (HB0.out.trans (hbw.mono (by omega)))
    have hlt1 : w.heap.size + 1 < w1.heap.size := by
      rcases how.form with ⟨h, _⟩ | ⟨g, h, _, h2, _⟩ <;> (cases h)
      exact h2
    have hki : (k : Int) < 4 := by omega
    clear hown hg hi hz0 hz1 hz2 how hbw
    go_upto_region 2 with fail
    obtain ⟨w2, hw2⟩ : ∃ W, W = w1.alloc (.cells #[.int .i64 2, .slice (some ⟨w.heap.size + 1, 0, none⟩) 4 4] 25) := ⟨_, rfl⟩
    have b2 : Below w1.heap.size w1 w2 := by rw [hw2]; exact (Below.refl _ _).alloc (Nat.le_refl _) _
    have HBM : Hid (Box w2 w1.heap.size 25 (.int .i64 2) (.slice (some ⟨w.heap.size + 1, 0, none⟩) 4 4)) := by rw [hw2]; exact Box.new _ _ _ _
    have HX2 := Lib.hid (HX1.out.below b2 HX1.out.lt)
    have ho2 := HO.out.below b2
    have HB2 := Lib.hid (HB1.out.trans (b2.mono HB1.out.size))
    rw [← hw2]
    clear hw2 b2
    have pc := ho2.cell (k := k) (by omega)
    have pf := ho2.frozen k
    obtain ⟨t, ht⟩ : ∃ t, t = (List.replicate 4 (0 : Int)).getD k 0 := ⟨_, rfl⟩
    rw [← ht] at pc
    have HO2 := Lib.hid ho2
    clear ht ho2
    obtain ⟨m1, m2, _, _⟩ := HBM.out.cells
    go_upto_region 3 with fail
    obtain ⟨w3, hw3⟩ : ∃ W, W = w2.setCell ⟨w.heap.size + 1, k, none⟩ (.int .i64 1) := ⟨_, rfl⟩
    have ho3 := HO2.out.set k 1
    rw [← hw3, ← HSL.out] at ho3
    have hx3 := HX2.out.far (p := ⟨w.heap.size + 1, k, none⟩) (by simp) (.int .i64 1)
    rw [← hw3] at hx3
    have hm3 := HBM.out.far (p := ⟨w.heap.size + 1, k, none⟩) (show w1.heap.size ≠ w.heap.size + 1 by omega) (.int .i64 1)
    rw [← hw3] at hm3
    have hb3 := HB2.out.setCell (p := ⟨w.heap.size + 1, k, none⟩) (by simp) (.int .i64 1)
    rw [← hw3] at hb3
    rw [← hw3]
    clear pc pf m1 m2 hw3
    have HO3 := Lib.hid ho3
    have HB3 := Lib.hid hb3
    obtain ⟨d1, d2, f1, f2⟩ := hx3.cells
    obtain ⟨c1, c2, _, _⟩ := hm3.cells
    clear ho3 hb3 hx3 hm3
    go_wp2_with fail
    refine bodyPost_ret (v := massV 2 (some ⟨w.heap.size + 1, 0, none⟩) 4 4) (by simp [results, Tryz.results70, go_sem, d1, d2]) rfl ?_
    exact ⟨_, _, rfl, (HO3.out.setBox (p := w.heap.size) (by omega) _ _).mono (by omega), (HB3.out.setCell (by simp) _).setCell (by simp) _⟩
  · simp at hnn
    obtain rfl : n = 8 := by omega
    clear hnn
    go_enter Tryz.func70, Tryz.ntmps70
    go_wp2_with (at_make; go_loud (refine wpList_make_full _ rfl _ _ 23 rfl (w.heap.size + 1) 3 i0 (.int .i64 0) 1 Tryz.underlying23 hi hz0 hz1 _ _ _ _ 8 rfl rfl (by omega) (by omega) (by rw [hz2]; omega) (by unfold maxLen; omega) (by simp) ?_))
    intro w1 hown hg
    rw [toList_madeCells_one, ← List.map_replicate (f := Value.int .i64) (a := 0)] at hown
    rw [← HW0.out] at hg
    have how : Own (w.heap.size + 1) w1 (some ⟨w.heap.size + 1, 0, none⟩) 8 8 (List.replicate 8 0) := hown
    have hbw : Below (w.heap.size + 1) w0 w1 := (Below.refl _ _).grown hg (by rw [HS0.out]; exact Nat.le_refl _) (fun k h => by cases h)
    have HX1 := Lib.hid (HBX.out.below hbw (by omega))
    have HO := Lib.hid how
    have HB1 := Lib.hid (HB0.out.trans (hbw.mono (by omega)))
    have hlt1 : w.heap.size + 1 < w1.heap.size := by
      rcases how.form with ⟨h, _⟩ | ⟨g, h, _, h2, _⟩ <;> (cases h)
      exact h2
    have hki : (k : Int) < 8 := by omega
    clear hown hg hi hz0 hz1 hz2 how hbw
    go_upto_region 2 with fail
    obtain ⟨w2, hw2⟩ : ∃ W, W = w1.alloc (.cells #[.int .i64 3, .slice (some ⟨w.heap.size + 1, 0, none⟩) 8 8] 25) := ⟨_, rfl⟩
    have b2 : Below w1.heap.size w1 w2 := by rw [hw2]; exact (Below.refl _ _).alloc (Nat.le_refl _) _
    have HBM : Hid (Box w2 w1.heap.size 25 (.int .i64 3) (.slice (some ⟨w.heap.size + 1, 0, none⟩) 8 8)) := by rw [hw2]; exact Box.new _ _ _ _
    have HX2 := Lib.hid (HX1.out.below b2 HX1.out.lt)
    have ho2 := HO.out.below b2
    have HB2 := Lib.hid (HB1.out.trans (b2.mono HB1.out.size))
    rw [← hw2]
    clear hw2 b2
    have pc := ho2.cell (k := k) (by omega)
    have pf := ho2.frozen k
    obtain ⟨t, ht⟩ : ∃ t, t = (List.replicate 8 (0 : Int)).getD k 0 := ⟨_, rfl⟩
    rw [← ht] at pc
    have HO2 := Lib.hid ho2
    clear ht ho2
    obtain ⟨m1, m2, _, _⟩ := HBM.out.cells
    go_upto_region 3 with fail
    obtain ⟨w3, hw3⟩ : ∃ W, W = w2.setCell ⟨w.heap.size + 1, k, none⟩ (.int .i64 1) := ⟨_, rfl⟩
    have ho3 := HO2.out.set k 1
    rw [← hw3, ← HSL.out] at ho3
    have hx3 := HX2.out.far (p := ⟨w.heap.size + 1, k, none⟩) (by simp) (.int .i64 1)
    rw [← hw3] at hx3
    have hm3 := HBM.out.far (p := ⟨w.heap.size + 1, k, none⟩) (show w1.heap.size ≠ w.heap.size + 1 by omega) (.int .i64 1)
    rw [← hw3] at hm3
    have hb3 := HB2.out.setCell (p := ⟨w.heap.size + 1, k, none⟩) (by simp) (.int .i64 1)
    rw [← hw3] at hb3
    rw [← hw3]
    clear pc pf m1 m2 hw3
    have HO3 := Lib.hid ho3
    have HB3 := Lib.hid hb3
    obtain ⟨d1, d2, f1, f2⟩ := hx3.cells
    obtain ⟨c1, c2, _, _⟩ := hm3.cells
    clear ho3 hb3 hx3 hm3
    go_wp2_with fail
    refine bodyPost_ret (v := massV 3 (some ⟨w.heap.size + 1, 0, none⟩) 8 8) (by simp [results, Tryz.results70, go_sem, d1, d2]) rfl ?_
    exact ⟨_, _, rfl, (HO3.out.setBox (p := w.heap.size) (by omega) _ _).mono (by omega), (HB3.out.setCell (by simp) _).setCell (by simp) _⟩
  · simp at hnn
    obtain rfl : n = 16 := by omega
    clear hnn
    go_enter Tryz.func70, Tryz.ntmps70
    go_wp2_with (at_make; go_loud (refine wpList_make_full _ rfl _ _ 23 rfl (w.heap.size + 1) 3 i0 (.int .i64 0) 1 Tryz.underlying23 hi hz0 hz1 _ _ _ _ 16 rfl rfl (by omega) (by omega) (by rw [hz2]; omega) (by unfold maxLen; omega) (by simp) ?_))
    intro w1 hown hg
    rw [toList_madeCells_one, ← List.map_replicate (f := Value.int .i64) (a := 0)] at hown
    rw [← HW0.out] at hg
    have how : Own (w.heap.size + 1) w1 (some ⟨w.heap.size + 1, 0, none⟩) 16 16 (List.replicate 16 0) := hown
    have hbw : Below (w.heap.size + 1) w0 w1 := (Below.refl _ _).grown hg (by rw [HS0.out]; exact Nat.le_refl _) (fun k h => by cases h)
    have HX1 := Lib.hid (HBX.out.below hbw (by omega))
    have HO := Lib.hid how
    have HB1 := Lib.hid (HB0.out.trans (hbw.mono (by omega)))
    have hlt1 : w.heap.size + 1 < w1.heap.size := by
      rcases how.form with ⟨h, _⟩ | ⟨g, h, _, h2, _⟩ <;> (cases h)
      exact h2
    have hki : (k : Int) < 16 := by omega
    clear hown hg hi hz0 hz1 hz2 how hbw
    go_upto_region 2 with fail
    obtain ⟨w2, hw2⟩ : ∃ W, W = w1.alloc (.cells #[.int .i64 4, .slice (some ⟨w.heap.size + 1, 0, none⟩) 16 16] 25) := ⟨_, rfl⟩
    have b2 : Below w1.heap.size w1 w2 := by rw [hw2]; exact (Below.refl _ _).alloc (Nat.le_refl _) _
    have HBM : Hid (Box w2 w1.heap.size 25 (.int .i64 4) (.slice (some ⟨w.heap.size + 1, 0, none⟩) 16 16)) := by rw [hw2]; exact Box.new _ _ _ _
    have HX2 := Lib.hid (HX1.out.below b2 HX1.out.lt)
    have ho2 := HO.out.below b2
    have HB2 := Lib.hid (HB1.out.trans (b2.mono HB1.out.size))
    rw [← hw2]
    clear hw2 b2
    have pc := ho2.cell (k := k) (by omega)
    have pf := ho2.frozen k
    obtain ⟨t, ht⟩ : ∃ t, t = (List.replicate 16 (0 : Int)).getD k 0 := ⟨_, rfl⟩
    rw [← ht] at pc
    have HO2 := Lib.hid ho2
    clear ht ho2
    obtain ⟨m1, m2, _, _⟩ := HBM.out.cells
    go_upto_region 3 with fail
    obtain ⟨w3, hw3⟩ : ∃ W, W = w2.setCell ⟨w.heap.size + 1, k, none⟩ (.int .i64 1) := ⟨_, rfl⟩
    have ho3 := HO2.out.set k 1
    rw [← hw3, ← HSL.out] at ho3
    have hx3 := HX2.out.far (p := ⟨w.heap.size + 1, k, none⟩) (by simp) (.int .i64 1)
    rw [← hw3] at hx3
    have hm3 := HBM.out.far (p := ⟨w.heap.size + 1, k, none⟩) (show w1.heap.size ≠ w.heap.size + 1 by omega) (.int .i64 1)
    rw [← hw3] at hm3
    have hb3 := HB2.out.setCell (p := ⟨w.heap.size + 1, k, none⟩) (by simp) (.int .i64 1)
    rw [← hw3] at hb3
    rw [← hw3]
    clear pc pf m1 m2 hw3
    have HO3 := Lib.hid ho3
    have HB3 := Lib.hid hb3
    obtain ⟨d1, d2, f1, f2⟩ := hx3.cells
    obtain ⟨c1, c2, _, _⟩ := hm3.cells
    clear ho3 hb3 hx3 hm3
    go_wp2_with fail
    refine bodyPost_ret (v := massV 4 (some ⟨w.heap.size + 1, 0, none⟩) 16 16) (by simp [results, Tryz.results70, go_sem, d1, d2]) rfl ?_
    exact ⟨_, _, rfl, (HO3.out.setBox (p := w.heap.size) (by omega) _ _).mono (by omega), (HB3.out.setCell (by simp) _).setCell (by simp) _⟩
end Go.Proofs.YtlfajalhoifliaaGreatDoor
