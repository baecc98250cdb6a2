/- Contracts: a mass and a set are drawn; the functions that draw the arguments of the laws. -/
import Derived.Test.YtffkpmmgfgcngaaW51
namespace Go.Proofs.Ytffkpmmgfgcngaa
open Go.RowKit

/-- a drawn mass and a number -/
def DrawnMI (w0 : World) (k : Nat) (q d : Int) (w : World) (e : Ending) (w' : World) : Prop :=
  ∃ s A n C xs x q', e = .returned (.tuple #[massV s A n C, .int .i64 x]) ∧ (1 ≤ n ∧ n ≤ 17) ∧ Own w.heap.size w' A n C xs ∧ Src w0 k q' w' ∧ (q ≤ q' ∧ q' ≤ q + d) ∧ w.grownBy w' (some k)
/-- the arguments of a law: a mass -/
def ArgM (w : World) (e : Ending) (w' : World) : Prop :=
  ∃ s A n C xs, e = .returned (massV s A n C) ∧ (1 ≤ n ∧ n ≤ 17) ∧ Row w' A n xs ∧ Below w.heap.size w w'
/-- the arguments of a law: a mass and a number -/
def ArgMI (w : World) (e : Ending) (w' : World) : Prop :=
  ∃ s A n C xs x, e = .returned (.tuple #[massV s A n C, .int .i64 x]) ∧ (1 ≤ n ∧ n ≤ 17) ∧ Row w' A n xs ∧ Below w.heap.size w w'
theorem Row.setBox {w : World} {a : Option Addr} {n : Nat} {xs : List Int} {B c : Nat} (h : Own B w a n c xs) {p : Nat} (hp : p < B) (u v : Value) : Row ((w.setCell ⟨p, 0, none⟩ u).setCell ⟨p, 1, none⟩ v) a n xs := (h.setBox hp u v).row
set_option maxHeartbeats 3200000 in
set_option maxRecDepth 100000 in
theorem l3With_any {w0 : World} (k : Nat) (q : Int) (w : World) (hB : Below w0.heap.size w0 w) (hk : w0.heap.size ≤ k) (hx : Src w0 k q w) (hq : 0 ≤ q ∧ q ≤ 600000) :
    Calls Try.prog 129 #[.pointer (some ⟨k, 0, none⟩)] w fun e w' => DrawnMI w0 k q 100 w e w' := by
  have hkw := hx.lt
  obtain ⟨wx, hwx⟩ : ∃ wx, wx = w.alloc (.cells #[.int .i64 0, .slice none 0 0] 25) := ⟨_, rfl⟩
  have hbx : Box wx w.heap.size 25 (.int .i64 0) (.slice none 0 0) := by rw [hwx]; exact Box.new _ _ _ _
  have hbw0 : Below w.heap.size w wx := by rw [hwx]; exact (Below.refl _ _).alloc (Nat.le_refl _) _
  have hsx : wx.heap.size = w.heap.size + 1 := by rw [hwx]; simp
  have hBx := hB.trans (hbw0.mono hB.size)
  have HP := Lib.hid (l3Open_any k q wx hBx hk (hx.below hbw0) (by omega))
  have HX := Lib.hid hbx
  have HG := Lib.hid (grown_of_below hbw0 (some k))
  have HB := Lib.hid hBx
  have HW := Lib.hid hwx
  clear hwx hbx hbw0 hBx hx hB
  go_enter Try.func129, Try.ntmps129
  go_wp2_with fail
  rw [← HW.out]
  refine HP.out.mono ?_
  rintro e w2 ⟨s, A, n, C, xs, q2, rfl, hn, ho, hs2, hqq, hg2⟩
  have HX2 := Lib.hid (HX.out.grown hg2 (fun e => by simp at e; omega))
  have HG2 := Lib.hid (grown_trans HG.out hg2)
  have HB2 := Lib.hid (HB.out.grown hg2 HB.out.size (fun g h => by cases h; exact hk))
  have HO2 := Lib.hid ho
  have HS2 := Lib.hid hs2
  have hsz2 := hg2.size
  have hk2 := hs2.lt
  clear ho hs2 hg2
  go_upto_region 2 with fail
  obtain ⟨w3, hw3⟩ : ∃ W, W = w2.alloc (.cells #[.int .i64 s, .slice A n C] 25) := ⟨_, rfl⟩
  have ba : Below w2.heap.size w2 w3 := by rw [hw3]; exact (Below.refl _ _).alloc (Nat.le_refl _) _
  have HM3 : Hid (Box w3 w2.heap.size 25 (.int .i64 s) (.slice A n C)) := by rw [hw3]; exact Lib.hid (Box.new _ _ _ _)
  rw [← hw3]
  have HX3 := Lib.hid (HX2.out.below ba HX2.out.lt)
  have HO3 := Lib.hid (HO2.out.below ba)
  have HS3 := Lib.hid (HS2.out.below ba)
  have HG3 := Lib.hid (grown_trans HG2.out (grown_of_below ba _))
  have HB3 := Lib.hid (HB2.out.trans (ba.mono HB2.out.size))
  clear hw3 ba HX2 HO2 HS2 HG2
  have HT := Lib.hid (l1Set_any k q2 w3 HB3.out hk HS3.out (by omega))
  go_wp2_with fail
  refine HT.out.mono ?_
  rintro e w4 ⟨x, q4, rfl, hs4, hqq4, hg4⟩
  have HM4 := Lib.hid (HM3.out.grown hg4 (fun e => by simp at e; omega))
  have HX4 := Lib.hid (HX3.out.grown hg4 (fun e => by simp at e; omega))
  have HO4 := Lib.hid (HO3.out.kept hg4 (fun g h => by
    rcases HO3.out.form with ⟨h1, _⟩ | ⟨g1, h1, h2, _⟩
    · rw [h1] at h; cases h
    · rw [h1] at h; cases h; intro e; cases e; omega))
  have HG4 := Lib.hid (grown_trans HG3.out hg4)
  have HB4 := Lib.hid (HB3.out.grown hg4 HB3.out.size (fun g h => by cases h; exact hk))
  have HS4 := Lib.hid hs4
  clear hs4 hg4 HM3 HX3 HO3 HS3 HG3 HB3 HB2
  have HV := Lib.hid (MassValid_any s A n C xs w4 HO4.out.row (by omega))
  obtain ⟨c1, c2, _, _⟩ := HM4.out.cells
  go_wp2_with fail
  clear c1 c2
  refine HV.out.mono ?_
  rintro e w5 ⟨rfl, b5⟩
  have HM5 := Lib.hid (HM4.out.below b5 HM4.out.lt)
  have HX5 := Lib.hid (HX4.out.below b5 HX4.out.lt)
  have HO5 := Lib.hid (HO4.out.below b5)
  have HS5 := Lib.hid (HS4.out.below b5)
  have HG5 := Lib.hid (grown_trans HG4.out (grown_of_below b5 _))
  have HB5 := Lib.hid (HB4.out.trans (b5.mono HB4.out.size))
  clear b5 HM4 HX4 HO4 HS4 HG4 HB4 HV
  by_cases hm : massB s xs = true
  · rw [hm]
    have HA := Lib.hid (fun W => l1Any_any x W)
    by_cases ha : anyB x = true
    · rw [ha] at HA
      have HP5 := Lib.hid (pickS_any k q4 16 w5 HB5.out hk HS5.out (by omega) (by omega))
      clear hm ha
      go_wp2_with fail
      refine (HA.out _).mono ?_
      rintro e w' ⟨rfl, rfl⟩
      go_wp2_with fail
      refine HP5.out.mono ?_
      rintro e w6 ⟨z, rfl, hz, hs6, hg6⟩
      have HM6 := Lib.hid (HM5.out.grown hg6 (fun e => by simp at e; omega))
      have HX6 := Lib.hid (HX5.out.grown hg6 (fun e => by simp at e; omega))
      have HO6 := Lib.hid (HO5.out.kept hg6 (fun g h => by
        rcases HO5.out.form with ⟨h1, _⟩ | ⟨g1, h1, h2, _⟩
        · rw [h1] at h; cases h
        · rw [h1] at h; cases h; intro e; cases e; omega))
      have HG6 := Lib.hid (grown_trans HG5.out hg6)
      have HS6 := Lib.hid hs6
      clear hs6 hg6 HM5 HX5 HO5 HS5 HG5 HB5 HP5
      by_cases h0 : 0 < z
      · obtain ⟨y, hy⟩ : ∃ y, y = bits .and .i64 x ((n : Int) - 1) := ⟨_, rfl⟩
        obtain ⟨c1, c2, _, _⟩ := HM6.out.cells
        obtain ⟨d1, d2, f1, f2⟩ := HX6.out.cells
        go_wp2_with fail
        try rw [← hy]
        refine bodyPost_ret (v := .tuple #[massV s A n C, .int .i64 _]) (by simp [results, Try.results129, go_sem, d1, d2]; rfl) rfl ?_
        exact ⟨s, A, n, C, xs, _, _, rfl, hn, (HO6.out.setBox (by omega) _ _).mono (by omega), (HS6.out.grown (grown_setCell _ _ _) (by simp; omega)).grown (grown_setCell _ _ _) (by simp; omega), by omega, set_grown (set_grown HG6.out (by simp)) (by simp)⟩
      · have hz0 : z = 0 := by omega
        subst hz0
        obtain ⟨c1, c2, _, _⟩ := HM6.out.cells
        obtain ⟨d1, d2, f1, f2⟩ := HX6.out.cells
        go_wp2_with fail
        refine bodyPost_ret (v := .tuple #[massV s A n C, .int .i64 x]) (by simp [results, Try.results129, go_sem, d1, d2]) rfl ?_
        exact ⟨s, A, n, C, xs, _, _, rfl, hn, (HO6.out.setBox (by omega) _ _).mono (by omega), (HS6.out.grown (grown_setCell _ _ _) (by simp; omega)).grown (grown_setCell _ _ _) (by simp; omega), by omega, set_grown (set_grown HG6.out (by simp)) (by simp)⟩
    · have ha' : anyB x = false := by simpa using ha
      rw [ha'] at HA
      clear hm ha ha'
      go_wp2_with fail
      refine (HA.out _).mono ?_
      rintro e w' ⟨rfl, rfl⟩
      obtain ⟨c1, c2, _, _⟩ := HM5.out.cells
      obtain ⟨d1, d2, f1, f2⟩ := HX5.out.cells
      go_wp2_with fail
      refine bodyPost_ret (v := .tuple #[massV s A n C, .int .i64 x]) (by simp [results, Try.results129, go_sem, d1, d2]) rfl ?_
      exact ⟨s, A, n, C, xs, _, _, rfl, hn, (HO5.out.setBox (by omega) _ _).mono (by omega), (HS5.out.grown (grown_setCell _ _ _) (by simp; omega)).grown (grown_setCell _ _ _) (by simp; omega), by omega, set_grown (set_grown HG5.out (by simp)) (by simp)⟩
  · have hm' : massB s xs = false := by simpa using hm
    rw [hm']
    clear hm hm'
    obtain ⟨c1, c2, _, _⟩ := HM5.out.cells
    obtain ⟨d1, d2, f1, f2⟩ := HX5.out.cells
    go_wp2_with fail
    refine bodyPost_ret (v := .tuple #[massV s A n C, .int .i64 x]) (by simp [results, Try.results129, go_sem, d1, d2]) rfl ?_
    exact ⟨s, A, n, C, xs, _, _, rfl, hn, (HO5.out.setBox (by omega) _ _).mono (by omega), (HS5.out.grown (grown_setCell _ _ _) (by simp; omega)).grown (grown_setCell _ _ _) (by simp; omega), by omega, set_grown (set_grown HG5.out (by simp)) (by simp)⟩
theorem BRow.below {w w' : World} {a : Option Addr} {n : Nat} {bs : List Int} (h : BRow w a n bs) (hb : Below w.heap.size w w') : BRow w' a n bs := by
  refine ⟨h.1, fun hn => ?_⟩
  obtain ⟨b, off, rfl, hlt, hc⟩ := h.2 hn
  exact ⟨b, off, rfl, Nat.lt_of_lt_of_le hlt hb.size, fun k hk => (hb.cell (p := ⟨b, off + k, none⟩) hlt).trans (hc k hk)⟩
set_option maxHeartbeats 800000 in
set_option maxRecDepth 100000 in
theorem DrawBelievedPart_any (a : Option Addr) (l c : Nat) (bs : List Int) (w : World) (hr : BRow w a l bs) (hnc : l ≤ c ∨ l ≤ 2000) :
    Calls Try.prog 56 #[.slice a l c] w fun e w' => ArgMI w e w' := by
  obtain ⟨wx, hwx⟩ : ∃ wx, wx = w.alloc (.cells #[.int .i64 0, .slice none 0 0] 25) := ⟨_, rfl⟩
  have hbx : Box wx w.heap.size 25 (.int .i64 0) (.slice none 0 0) := by rw [hwx]; exact Box.new _ _ _ _
  have hbw0 : Below w.heap.size w wx := by rw [hwx]; exact (Below.refl _ _).alloc (Nat.le_refl _) _
  have hsx : wx.heap.size = w.heap.size + 1 := by rw [hwx]; simp
  have HO := Lib.hid (l14Open_any a l c bs wx (hr.below hbw0) hnc)
  rw [hsx] at HO
  have HX := Lib.hid hbx
  have HB := Lib.hid hbw0
  have HW := Lib.hid hwx
  clear hwx hbx hbw0 hr
  go_enter Try.func56, Try.ntmps56
  go_wp2_with fail
  rw [← HW.out]
  refine HO.out.mono ?_
  rintro e w1 ⟨rfl, hs1, b1⟩
  have HS := Lib.hid (l3With_any (w0 := wx) (w.heap.size + 1) 0 w1 (by rw [hsx] <;> exact b1) (by omega) hs1 (by omega))
  have HX1 := Lib.hid (HX.out.below b1 (by omega))
  have HB1 := Lib.hid (HB.out.trans (b1.mono (by omega)))
  have hsz1 := HX1.out.lt
  clear hs1 b1
  go_wp2_with fail
  refine HS.out.mono ?_
  rintro e w2 ⟨s, A, n, C, xs, x, q2, rfl, hn, ho, _, _, hg⟩
  obtain ⟨d1, d2, f1, f2⟩ := (HX1.out.grown hg (by simp)).cells
  have HO2 := Lib.hid ho
  have HB2 := Lib.hid (HB1.out.grown hg HB1.out.size (fun g h => by cases h; omega))
  clear ho hg hsx
  go_wp2_with fail
  refine bodyPost_ret (v := .tuple #[massV s A n C, .int .i64 x]) (by simp [results, Try.results56, go_sem, d1, d2]) rfl ?_
  exact ⟨s, A, n, C, xs, x, rfl, hn, Row.setBox HO2.out (by omega) _ _, (HB2.out.setCell (Nat.le_refl _) _).setCell (Nat.le_refl _) _⟩
set_option maxHeartbeats 800000 in
set_option maxRecDepth 100000 in
theorem DrawCommonPart_any (a : Option Addr) (l c : Nat) (bs : List Int) (w : World) (hr : BRow w a l bs) (hnc : l ≤ c ∨ l ≤ 2000) :
    Calls Try.prog 49 #[.slice a l c] w fun e w' => ArgMI w e w' := by
  obtain ⟨wx, hwx⟩ : ∃ wx, wx = w.alloc (.cells #[.int .i64 0, .slice none 0 0] 25) := ⟨_, rfl⟩
  have hbx : Box wx w.heap.size 25 (.int .i64 0) (.slice none 0 0) := by rw [hwx]; exact Box.new _ _ _ _
  have hbw0 : Below w.heap.size w wx := by rw [hwx]; exact (Below.refl _ _).alloc (Nat.le_refl _) _
  have hsx : wx.heap.size = w.heap.size + 1 := by rw [hwx]; simp
  have HO := Lib.hid (l14Open_any a l c bs wx (hr.below hbw0) hnc)
  rw [hsx] at HO
  have HX := Lib.hid hbx
  have HB := Lib.hid hbw0
  have HW := Lib.hid hwx
  clear hwx hbx hbw0 hr
  go_enter Try.func49, Try.ntmps49
  go_wp2_with fail
  rw [← HW.out]
  refine HO.out.mono ?_
  rintro e w1 ⟨rfl, hs1, b1⟩
  have HS := Lib.hid (l3With_any (w0 := wx) (w.heap.size + 1) 0 w1 (by rw [hsx] <;> exact b1) (by omega) hs1 (by omega))
  have HX1 := Lib.hid (HX.out.below b1 (by omega))
  have HB1 := Lib.hid (HB.out.trans (b1.mono (by omega)))
  have hsz1 := HX1.out.lt
  clear hs1 b1
  go_wp2_with fail
  refine HS.out.mono ?_
  rintro e w2 ⟨s, A, n, C, xs, x, q2, rfl, hn, ho, _, _, hg⟩
  obtain ⟨d1, d2, f1, f2⟩ := (HX1.out.grown hg (by simp)).cells
  have HO2 := Lib.hid ho
  have HB2 := Lib.hid (HB1.out.grown hg HB1.out.size (fun g h => by cases h; omega))
  clear ho hg hsx
  go_wp2_with fail
  refine bodyPost_ret (v := .tuple #[massV s A n C, .int .i64 x]) (by simp [results, Try.results49, go_sem, d1, d2]) rfl ?_
  exact ⟨s, A, n, C, xs, x, rfl, hn, Row.setBox HO2.out (by omega) _ _, (HB2.out.setCell (Nat.le_refl _) _).setCell (Nat.le_refl _) _⟩
set_option maxHeartbeats 800000 in
set_option maxRecDepth 100000 in
theorem DrawChanceOf_any (a : Option Addr) (l c : Nat) (bs : List Int) (w : World) (hr : BRow w a l bs) (hnc : l ≤ c ∨ l ≤ 2000) :
    Calls Try.prog 66 #[.slice a l c] w fun e w' => ArgMI w e w' := by
  obtain ⟨wx, hwx⟩ : ∃ wx, wx = w.alloc (.cells #[.int .i64 0, .slice none 0 0] 25) := ⟨_, rfl⟩
  have hbx : Box wx w.heap.size 25 (.int .i64 0) (.slice none 0 0) := by rw [hwx]; exact Box.new _ _ _ _
  have hbw0 : Below w.heap.size w wx := by rw [hwx]; exact (Below.refl _ _).alloc (Nat.le_refl _) _
  have hsx : wx.heap.size = w.heap.size + 1 := by rw [hwx]; simp
  have HO := Lib.hid (l14Open_any a l c bs wx (hr.below hbw0) hnc)
  rw [hsx] at HO
  have HX := Lib.hid hbx
  have HB := Lib.hid hbw0
  have HW := Lib.hid hwx
  clear hwx hbx hbw0 hr
  go_enter Try.func66, Try.ntmps66
  go_wp2_with fail
  rw [← HW.out]
  refine HO.out.mono ?_
  rintro e w1 ⟨rfl, hs1, b1⟩
  have HS := Lib.hid (l3With_any (w0 := wx) (w.heap.size + 1) 0 w1 (by rw [hsx] <;> exact b1) (by omega) hs1 (by omega))
  have HX1 := Lib.hid (HX.out.below b1 (by omega))
  have HB1 := Lib.hid (HB.out.trans (b1.mono (by omega)))
  have hsz1 := HX1.out.lt
  clear hs1 b1
  go_wp2_with fail
  refine HS.out.mono ?_
  rintro e w2 ⟨s, A, n, C, xs, x, q2, rfl, hn, ho, _, _, hg⟩
  obtain ⟨d1, d2, f1, f2⟩ := (HX1.out.grown hg (by simp)).cells
  have HO2 := Lib.hid ho
  have HB2 := Lib.hid (HB1.out.grown hg HB1.out.size (fun g h => by cases h; omega))
  clear ho hg hsx
  go_wp2_with fail
  refine bodyPost_ret (v := .tuple #[massV s A n C, .int .i64 x]) (by simp [results, Try.results66, go_sem, d1, d2]) rfl ?_
  exact ⟨s, A, n, C, xs, x, rfl, hn, Row.setBox HO2.out (by omega) _ _, (HB2.out.setCell (Nat.le_refl _) _).setCell (Nat.le_refl _) _⟩
end Go.Proofs.Ytffkpmmgfgcngaa
