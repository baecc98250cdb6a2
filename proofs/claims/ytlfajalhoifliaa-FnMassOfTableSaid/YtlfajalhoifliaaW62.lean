/- Contracts: the kind of a table is drawn; the arguments of the laws on tables of masses are drawn. -/
import Derived.Test.YtlfajalhoifliaaW60
import Derived.Test.YtlfajalhoifliaaW55
import Derived.Test.YtlfajalhoifliaaW42
import Derived.Deep.RegionHeld3
namespace Go.Proofs.Ytlfajalhoifliaa
open Go.RowKit

/-- a mass and the kind of a table -/
def ArgMK (w : World) (e : Ending) (w' : World) : Prop :=
  ∃ s A n C xs kd, e = .returned (.tuple #[massV s A n C, .string kd]) ∧ (1 ≤ n ∧ n ≤ 17) ∧ Row w' A n xs ∧ Below w.heap.size w w'
/-- a number, a list and the kind of a table -/
def ArgT (w : World) (e : Ending) (w' : World) : Prop :=
  ∃ s A n C xs kd, e = .returned (.tuple #[.int .i64 s, .slice A n C, .string kd]) ∧ n ≤ 17 ∧ Row w' A n xs ∧ Below w.heap.size w w'
set_option maxHeartbeats 1600000 in
set_option maxRecDepth 100000 in
theorem l5Kind_any {w0 : World} (k : Nat) (q : Int) (w : World) (hB : Below w0.heap.size w0 w) (hk : w0.heap.size ≤ k) (hx : Src w0 k q w) (hq : 0 ≤ q ∧ q ≤ 900000) :
    Calls Try.prog 21 #[.pointer (some ⟨k, 0, none⟩)] w fun e w' => ∃ kd, e = .returned (.string kd) ∧ Src w0 k (q + 1) w' ∧ w.grownBy w' (some k) := by
  have hkw := hx.lt
  have hba : Below w.heap.size w (w.alloc (.cells #[.string { data := #[105, 109, 112, 108, 105, 101, 100] }, .string { data := #[98, 101, 108, 105, 101, 118, 101, 100] }, .string { data := #[112, 111, 115, 115, 105, 98, 108, 101] }, .string { data := #[99, 111, 109, 109, 111, 110] }, .string { data := #[105, 109, 112, 108, 105, 101, 100] }, .string { data := #[112, 111, 115, 115, 105, 98, 108, 101] }, .string { data := #[99, 111, 109, 109, 111, 110] }, .string { data := #[112, 97, 114, 116, 115] }, .string { data := #[] }] 9)) := (Below.refl _ _).alloc (Nat.le_refl _) _
  have hL : ∀ j, j < 9 → (w.alloc (.cells #[.string { data := #[105, 109, 112, 108, 105, 101, 100] }, .string { data := #[98, 101, 108, 105, 101, 118, 101, 100] }, .string { data := #[112, 111, 115, 115, 105, 98, 108, 101] }, .string { data := #[99, 111, 109, 109, 111, 110] }, .string { data := #[105, 109, 112, 108, 105, 101, 100] }, .string { data := #[112, 111, 115, 115, 105, 98, 108, 101] }, .string { data := #[99, 111, 109, 109, 111, 110] }, .string { data := #[112, 97, 114, 116, 115] }, .string { data := #[] }] 9)).cell? ⟨w.heap.size, j, none⟩ = some (.string (([{ data := #[105, 109, 112, 108, 105, 101, 100] }, { data := #[98, 101, 108, 105, 101, 118, 101, 100] }, { data := #[112, 111, 115, 115, 105, 98, 108, 101] }, { data := #[99, 111, 109, 109, 111, 110] }, { data := #[105, 109, 112, 108, 105, 101, 100] }, { data := #[112, 111, 115, 115, 105, 98, 108, 101] }, { data := #[99, 111, 109, 109, 111, 110] }, { data := #[112, 97, 114, 116, 115] }, { data := #[] }] : List ByteArray).getD j .empty)) := fun j hj => by
    rw [cell_of_row (w.alloc (.cells #[.string { data := #[105, 109, 112, 108, 105, 101, 100] }, .string { data := #[98, 101, 108, 105, 101, 118, 101, 100] }, .string { data := #[112, 111, 115, 115, 105, 98, 108, 101] }, .string { data := #[99, 111, 109, 109, 111, 110] }, .string { data := #[105, 109, 112, 108, 105, 101, 100] }, .string { data := #[112, 111, 115, 115, 105, 98, 108, 101] }, .string { data := #[99, 111, 109, 109, 111, 110] }, .string { data := #[112, 97, 114, 116, 115] }, .string { data := #[] }] 9)) w.heap.size j _ 9 (0, 0) (heap_alloc_new w _)]
    have h : j = 0 ∨ j = 1 ∨ j = 2 ∨ j = 3 ∨ j = 4 ∨ j = 5 ∨ j = 6 ∨ j = 7 ∨ j = 8 := by omega
    rcases h with rfl | rfl | rfl | rfl | rfl | rfl | rfl | rfl | rfl <;> rfl
  have HF := Lib.hid (ofS_any k q w.heap.size 9 9 ([{ data := #[105, 109, 112, 108, 105, 101, 100] }, { data := #[98, 101, 108, 105, 101, 118, 101, 100] }, { data := #[112, 111, 115, 115, 105, 98, 108, 101] }, { data := #[99, 111, 109, 109, 111, 110] }, { data := #[105, 109, 112, 108, 105, 101, 100] }, { data := #[112, 111, 115, 115, 105, 98, 108, 101] }, { data := #[99, 111, 109, 109, 111, 110] }, { data := #[112, 97, 114, 116, 115] }, { data := #[] }] : List ByteArray) _ (hB.trans (hba.mono hB.size)) hk (hx.below hba) (by omega) hL (by omega) (by simp) (by omega))
  have HG := Lib.hid (grown_of_below hba (some k))
  clear hL hba hB hx
  go_enter Try.func21, Try.ntmps21
  go_wp2_with fail
  refine HF.out.mono ?_
  rintro e w2 ⟨z, hz, rfl, hs2, hg2⟩
  obtain ⟨kd, hkd⟩ : ∃ kd, kd = ([{ data := #[105, 109, 112, 108, 105, 101, 100] }, { data := #[98, 101, 108, 105, 101, 118, 101, 100] }, { data := #[112, 111, 115, 115, 105, 98, 108, 101] }, { data := #[99, 111, 109, 109, 111, 110] }, { data := #[105, 109, 112, 108, 105, 101, 100] }, { data := #[112, 111, 115, 115, 105, 98, 108, 101] }, { data := #[99, 111, 109, 109, 111, 110] }, { data := #[112, 97, 114, 116, 115] }, { data := #[] }] : List ByteArray).getD z .empty := ⟨_, rfl⟩
  rw [← hkd]
  have HS2 := Lib.hid hs2
  have HG2 := Lib.hid (grown_trans HG.out hg2)
  clear hkd hs2 hg2 HG HF
  go_wp2_with fail
  go_ret
  exact ⟨kd, rfl, HS2.out, HG2.out⟩
set_option maxHeartbeats 1600000 in
set_option maxRecDepth 100000 in
theorem l1Size_any {w0 : World} (k : Nat) (q : Int) (w : World) (hB : Below w0.heap.size w0 w) (hk : w0.heap.size ≤ k) (hx : Src w0 k q w) (hq : 0 ≤ q ∧ q ≤ 900000) :
    Calls Try.prog 44 #[.pointer (some ⟨k, 0, none⟩)] w fun e w' => ∃ x, e = .returned (.int .i64 x) ∧ Src w0 k (q + 1) w' ∧ w.grownBy w' (some k) := by
  have hkw := hx.lt
  have hba : Below w.heap.size w (w.alloc (.cells #[.int .i64 3, .int .i64 2, .int .i64 3, .int .i64 1, .int .i64 4, .int .i64 3, .int .i64 2, .int .i64 3, .int .i64 0, .int .i64 5, .int .i64 (-1)] 3)) := (Below.refl _ _).alloc (Nat.le_refl _) _
  have hL := Row.lit w #[.int .i64 3, .int .i64 2, .int .i64 3, .int .i64 1, .int .i64 4, .int .i64 3, .int .i64 2, .int .i64 3, .int .i64 0, .int .i64 5, .int .i64 (-1)] ([3, 2, 3, 1, 4, 3, 2, 3, 0, 5, -1] : List Int) 3 w.heap.size rfl (fun j hj => by
    have h : j = 0 ∨ j = 1 ∨ j = 2 ∨ j = 3 ∨ j = 4 ∨ j = 5 ∨ j = 6 ∨ j = 7 ∨ j = 8 ∨ j = 9 ∨ j = 10 := by simp at hj; omega
    rcases h with rfl | rfl | rfl | rfl | rfl | rfl | rfl | rfl | rfl | rfl | rfl <;> rfl)
  have HF := Lib.hid (numS_any k q (some ⟨w.heap.size, 0, none⟩) 11 11 ([3, 2, 3, 1, 4, 3, 2, 3, 0, 5, -1] : List Int) _ (hB.trans (hba.mono hB.size)) hk (hx.below hba) (by omega) hL (by omega) (fun b off h => by cases h; omega))
  have HG := Lib.hid (grown_of_below hba (some k))
  clear hL hba hB hx
  go_enter Try.func44, Try.ntmps44
  go_wp2_with fail
  refine HF.out.mono ?_
  rintro e w2 ⟨z, hz, rfl, hs2, hg2⟩
  obtain ⟨x, hx⟩ : ∃ x, x = ([3, 2, 3, 1, 4, 3, 2, 3, 0, 5, -1] : List Int).getD z 0 := ⟨_, rfl⟩
  rw [← hx]
  have HS2 := Lib.hid hs2
  have HG2 := Lib.hid (grown_trans HG.out hg2)
  clear hx hs2 hg2 HG HF
  go_wp2_with fail
  go_ret
  exact ⟨x, rfl, HS2.out, HG2.out⟩
set_option maxHeartbeats 3200000 in
set_option maxRecDepth 100000 in
theorem DrawTableOf_any (a : Option Addr) (l c : Nat) (bs : List Int) (w : World) (hr : BRow w a l bs) (hnc : l ≤ c ∨ l ≤ 2000) :
    Calls Try.prog 5 #[.slice a l c] w fun e w' => ArgMK w e w' := by
  obtain ⟨wx, hwx⟩ : ∃ wx, wx = w.alloc (.cells #[.int .i64 0, .slice none 0 0] 25) := ⟨_, rfl⟩
  have hbx : Box wx w.heap.size 25 (.int .i64 0) (.slice none 0 0) := by rw [hwx]; exact Box.new _ _ _ _
  have hbw0 : Below w.heap.size w wx := by rw [hwx]; exact (Below.refl _ _).alloc (Nat.le_refl _) _
  have hsx : wx.heap.size = w.heap.size + 1 := by rw [hwx]; simp
  have HO := Lib.hid (l14Open_any a l c bs wx (hr.below hbw0) hnc)
  rw [hsx] at HO
  have HX := Lib.hid hbx
  have HB := Lib.hid hbw0
  have HW := Lib.hid hwx
  clear hwx hbx hbw0 hr
  go_enter Try.func5, Try.ntmps5
  go_wp2_with fail
  rw [← HW.out]
  refine HO.out.mono ?_
  rintro e w1 ⟨rfl, hs1, b1⟩
  have HBX1 : Hid (Below wx.heap.size wx w1) := by rw [hsx] <;> exact b1
  have HS := Lib.hid (l3Open_any (w0 := wx) (w.heap.size + 1) 0 w1 HBX1.out (by omega) hs1 (by omega))
  have HX1 := Lib.hid (HX.out.below b1 (by omega))
  have HB1 := Lib.hid (HB.out.trans (b1.mono (by omega)))
  have hsz1 := HX1.out.lt
  have hk1 := hs1.lt
  clear hs1 b1
  go_wp2_with fail
  refine HS.out.mono ?_
  rintro e w2 ⟨s, A, n, C, xs, q2, rfl, hn, ho, hs2, hqq, hg2⟩
  have HX2 := Lib.hid (HX1.out.grown hg2 (by simp))
  have HB2 := Lib.hid (HB1.out.grown hg2 HB1.out.size (fun g h => by cases h; omega))
  have HBX2 := Lib.hid (HBX1.out.grown hg2 HBX1.out.size (fun g h => by cases h; omega))
  have hsz2 := hg2.size
  have hk2 := hs2.lt
  have HO2 := Lib.hid ho
  have HS2 := Lib.hid hs2
  clear ho hs2 hg2
  go_upto_region 2 with fail
  obtain ⟨w3, hw3⟩ : ∃ W, W = w2.alloc (.cells #[.int .i64 s, .slice A n C] 25) := ⟨_, rfl⟩
  have ba : Below w2.heap.size w2 w3 := by rw [hw3]; exact (Below.refl _ _).alloc (Nat.le_refl _) _
  have HM3 : Hid (Box w3 w2.heap.size 25 (.int .i64 s) (.slice A n C)) := by rw [hw3]; exact Lib.hid (Box.new _ _ _ _)
  rw [← hw3]
  have HX3 := Lib.hid (HX2.out.below ba HX2.out.lt).drew
  have HO3 := Lib.hid (HO2.out.below (ba.trans (Below.refl _ _).drew))
  have HM4 := Lib.hid HM3.out.drew
  have HB3 := Lib.hid (HB2.out.trans (ba.mono HB2.out.size)).drew
  have hba := Lib.hid (HBX2.out.trans (ba.mono HBX2.out.size)).drew
  have HD := Lib.hid (l5Kind_any (w.heap.size + 1) q2 w3.drew hba.out (by omega) ((HS2.out.below ba).below (w' := w3.drew) (Below.refl _ _).drew) (by omega))
  have hkA : ∀ g, A = some ⟨g, 0, none⟩ → some (w.heap.size + 1) ≠ some g := fun g h => by
    rcases HO3.out.form with ⟨h1, _⟩ | ⟨g1, h1, h2, _⟩
    · rw [h1] at h; cases h
    · rw [h1] at h; cases h; intro e; cases e; omega
  clear hw3 ba hba HX2 HO2 HB2 HBX2
  obtain ⟨d1, d2, _, _⟩ := HM4.out.cells
  have k1 : w2.heap.size ≠ w.heap.size := by omega
  have HF1 : Hid (∀ (W : World) (u v : Value), (W.cell? ⟨w2.heap.size, 0, none⟩ = some (.int .i64 s) ∧ W.cell? ⟨w2.heap.size, 1, none⟩ = some (.slice A n C)) → (((W.setCell ⟨w.heap.size, 0, none⟩ u).setCell ⟨w.heap.size, 1, none⟩ v).cell? ⟨w2.heap.size, 0, none⟩ = some (.int .i64 s) ∧ ((W.setCell ⟨w.heap.size, 0, none⟩ u).setCell ⟨w.heap.size, 1, none⟩ v).cell? ⟨w2.heap.size, 1, none⟩ = some (.slice A n C))) := fun W u v h => ⟨World.cell_far k1 k1 h.1, World.cell_far k1 k1 h.2⟩
  go_wp2_with fail
  go_region_held3 (fun W => W.cell? ⟨w2.heap.size, 0, none⟩ = some (.int .i64 s) ∧ W.cell? ⟨w2.heap.size, 1, none⟩ = some (.slice A n C))
    (first | with_reducible exact ⟨d1, d2⟩ | with_reducible exact HF1.out _ _ _ (by assumption) | exact ⟨HM9.out.cells.1, HM9.out.cells.2.1⟩ | go_keep)
    (first
      | ((go_at_call 21; refine HD.out.mono ?_; rintro e w9 ⟨kd, rfl, hs9, hg9⟩; have HM9 := Lib.hid (HM4.out.grown hg9 (fun e => by simp at e; omega)); have HX9 := Lib.hid (HX3.out.grown hg9 (by simp)); have HO9 := Lib.hid (HO3.out.kept hg9 hkA); have HB9 := Lib.hid (HB3.out.grown hg9 HB3.out.size (fun g h => by cases h; omega)); obtain ⟨x1, x2, x3, x4⟩ := HX9.out.cells)))
  all_goals
    go_wp2_with fail
    refine bodyPost_ret (v := .tuple #[massV s A n C, .string kd]) (by simp [results, Try.results5, go_sem, x1, x2]) rfl ?_
    exact ⟨s, A, n, C, xs, kd, rfl, hn, Row.setBox HO9.out (by omega) _ _, (HB9.out.setCell (Nat.le_refl _) _).setCell (Nat.le_refl _) _⟩
set_option maxHeartbeats 3200000 in
set_option maxRecDepth 100000 in
theorem DrawMassOfTable_any (a : Option Addr) (l c : Nat) (bs : List Int) (w : World) (hr : BRow w a l bs) (hnc : l ≤ c ∨ l ≤ 2000) :
    Calls Try.prog 16 #[.slice a l c] w fun e w' => ArgT w e w' := by
  have HO := Lib.hid (l14Open_any a l c bs w hr hnc)
  clear hr
  go_enter Try.func16, Try.ntmps16
  go_wp2_with fail
  refine HO.out.mono ?_
  rintro e w1 ⟨rfl, hs1, b1⟩
  have HS := Lib.hid (l5Kind_any (w0 := w) w.heap.size 0 w1 b1 (Nat.le_refl _) hs1 (by omega))
  have HB := Lib.hid b1
  clear hs1 b1
  go_wp2_with fail
  refine HS.out.mono ?_
  rintro e w2 ⟨kd, rfl, hs2, hg2⟩
  have hb2 := HB.out.grown hg2 HB.out.size (fun g h => by cases h; exact Nat.le_refl _)
  have HP := Lib.hid (pickS_any (w0 := w) w.heap.size (0 + 1) 2 w2 hb2 (Nat.le_refl _) hs2 (by omega) (by omega))
  have HB2 := Lib.hid hb2
  clear hs2 hg2 hb2 HB HS HO
  go_wp2_with fail
  refine HP.out.mono ?_
  rintro e w3 ⟨z, rfl, hz, hs3, hg3⟩
  have hb3 := HB2.out.grown hg3 HB2.out.size (fun g h => by cases h; exact Nat.le_refl _)
  have HB3 := Lib.hid hb3
  have HS3 := Lib.hid hs3
  clear hs3 hg3 hb3 HB2 HP
  by_cases h0 : z = 0
  · subst h0
    have HM := Lib.hid (l3Some_any (w0 := w) w.heap.size (0 + 1 + 1) w3 HB3.out (Nat.le_refl _) HS3.out (by omega))
    clear HS3
    go_wp2_with fail
    refine HM.out.mono ?_
    rintro e w4 ⟨s, A, n, C, xs, q4, rfl, hm, ho, hs4, hqq, hg4⟩
    have HB4 := Lib.hid (HB3.out.grown hg4 HB3.out.size (fun g h => by cases h; exact Nat.le_refl _))
    have hI := massB_is ho.len hm
    have hnn := hI.nums
    have HO4 := Lib.hid ho
    have HS4 := Lib.hid hs4
    clear hI hm ho hs4 hg4 HM HB3
    go_upto_region 5 with fail
    obtain ⟨w5, hw5⟩ : ∃ W, W = w4.alloc (.cells #[.int .i64 s, .slice A n C] 25) := ⟨_, rfl⟩
    have ba : Below w4.heap.size w4 w5 := by rw [hw5]; exact (Below.refl _ _).alloc (Nat.le_refl _) _
    have HM5 : Hid (Box w5 w4.heap.size 25 (.int .i64 s) (.slice A n C)) := by rw [hw5]; exact Lib.hid (Box.new _ _ _ _)
    rw [← hw5]
    have HB5 := Lib.hid (HB4.out.trans (ba.mono HB4.out.size))
    have HS5 := Lib.hid (HS4.out.below ba)
    have hr5 := (HO4.out.below ba).row
    have HT := Lib.hid (sTableOf_any s kd A n C xs w5 hr5 (by omega))
    have hlx := hr5.1
    obtain ⟨d, hd⟩ : ∃ d, d = tabN s xs kd := ⟨_, rfl⟩
    have hdn : d ≤ n := by have := tabN_le s xs kd; omega
    obtain ⟨ys, hys⟩ : ∃ ys, ys = tabT s xs kd := ⟨_, rfl⟩
    rw [← hd, ← hys] at HT
    obtain ⟨d1, d2, _, _⟩ := HM5.out.cells
    clear hw5 ba HB4 HO4 HS4 hr5 hd hys hlx
    go_wp2_with fail
    clear d1 d2
    refine HT.out.mono ?_
    rintro e w6 ⟨A2, C2, rfl, ho6, b6⟩
    obtain ⟨d1, d2, _, _⟩ := (HM5.out.below b6 HM5.out.lt).cells
    have HB6 := Lib.hid (HB5.out.trans (b6.mono HB5.out.size))
    have HS6 := Lib.hid (HS5.out.below b6)
    have HR6 := Lib.hid ho6.row
    clear ho6 b6 HT
    by_cases h1 : 0 < d
    · have h1' : (0 : Int) < (d : Int) := by omega
      go_wp2_with fail
      refine bodyPost_ret (v := .tuple #[.int .i64 s, .slice A2 d C2, .string kd]) (by simp [results, Try.results16, go_sem]) rfl ?_
      exact ⟨s, A2, d, C2, ys, kd, rfl, by omega, HR6.out, HB6.out⟩
    · have h1' : ¬ (0 : Int) < (d : Int) := by omega
      clear d1 d2
      go_wp2_with fail
      refine (l1Size_any (w0 := w) w.heap.size (q4) _ HB6.out (Nat.le_refl _) HS6.out (by omega)).mono ?_
      rintro e w7 ⟨x, rfl, hs7, hg7⟩
      have hb7 := HB6.out.grown hg7 HB6.out.size (fun g h => by cases h; exact Nat.le_refl _)
      have HT7 := Lib.hid (l5List_any (w0 := w) w.heap.size (q4 + 1) w7 hb7 (Nat.le_refl _) hs7 (by omega))
      have HB7 := Lib.hid hb7
      clear hb7 hs7 hg7
      go_wp2_with fail
      refine HT7.out.mono ?_
      rintro e w8 ⟨A8, n8, C8, xs8, q8, rfl, hn8, ho8, _, _, hg8⟩
      have HO8 := Lib.hid ho8
      have HB8 := Lib.hid (HB7.out.grown hg8 HB7.out.size (fun g h => by cases h; exact Nat.le_refl _))
      clear ho8 hg8
      go_wp2_with fail
      refine bodyPost_ret (v := .tuple #[.int .i64 x, .slice A8 n8 C8, .string kd]) (by simp [results, Try.results16, go_sem]) rfl ?_
      exact ⟨x, A8, n8, C8, xs8, kd, rfl, hn8, HO8.out.row, HB8.out⟩
  · have h0' : (z == 0) = false := by simpa using h0
    go_wp2_with fail
    refine (l1Size_any (w0 := w) w.heap.size (0 + 1 + 1) _ HB3.out (Nat.le_refl _) HS3.out (by omega)).mono ?_
    rintro e w7 ⟨x, rfl, hs7, hg7⟩
    have hb7 := HB3.out.grown hg7 HB3.out.size (fun g h => by cases h; exact Nat.le_refl _)
    have HT7 := Lib.hid (l5List_any (w0 := w) w.heap.size (0 + 1 + 1 + 1) w7 hb7 (Nat.le_refl _) hs7 (by omega))
    have HB7 := Lib.hid hb7
    clear hb7 hs7 hg7
    go_wp2_with fail
    refine HT7.out.mono ?_
    rintro e w8 ⟨A8, n8, C8, xs8, q8, rfl, hn8, ho8, _, _, hg8⟩
    have HO8 := Lib.hid ho8
    have HB8 := Lib.hid (HB7.out.grown hg8 HB7.out.size (fun g h => by cases h; exact Nat.le_refl _))
    clear ho8 hg8
    go_wp2_with fail
    refine bodyPost_ret (v := .tuple #[.int .i64 x, .slice A8 n8 C8, .string kd]) (by simp [results, Try.results16, go_sem]) rfl ?_
    exact ⟨x, A8, n8, C8, xs8, kd, rfl, hn8, HO8.out.row, HB8.out⟩
end Go.Proofs.Ytlfajalhoifliaa
