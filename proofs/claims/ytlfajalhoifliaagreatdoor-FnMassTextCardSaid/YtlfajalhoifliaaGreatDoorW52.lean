/- Contracts: a mass and a set are drawn; the functions that draw the arguments of the laws. -/
import Derived.Test.YtlfajalhoifliaaGreatDoorW51
namespace Go.Proofs.YtlfajalhoifliaaGreatDoor
open Go.RowKit

/-- a drawn mass and a number -/
def DrawnMI (w0 : World) (k : Nat) (q d : Int) (w : World) (e : Ending) (w' : World) : Prop :=
  ∃ s A n C xs x q', e = .returned (.tuple #[massV s A n C, .int .i64 x]) ∧ (1 ≤ n ∧ n ≤ 17) ∧ Own w.heap.size w' A n C xs ∧ Src w0 k q' w' ∧ (q ≤ q' ∧ q' ≤ q + d) ∧ w.grownBy w' (some k)
/-- the arguments of a law: a mass -/
def ArgM (w : World) (e : Ending) (w' : World) : Prop :=
  ∃ s A n C xs, e = .returned (massV s A n C) ∧ (1 ≤ n ∧ n ≤ 17) ∧ Row w' A n xs ∧ Below w.heap.size w w'
/-- the arguments of a law: a mass and a number -/
def ArgMI (w : World) (e : Ending) (w' : World) : Prop :=
  ∃ s A n C xs x, e = .returned (.tuple #[massV s A n C, .int .i64 x]) ∧ (1 ≤ n ∧ n ≤ 17) ∧ Row w' A n xs ∧ Below w.heap.size w w'
theorem Row.setBox {w : World} {a : Option Addr} {n : Nat} {xs : List Int} {B c : Nat} (h : Own B w a n c xs) {p : Nat} (hp : p < B) (u v : Value) : Row ((w.setCell ⟨p, 0, none⟩ u).setCell ⟨p, 1, none⟩ v) a n xs := (h.setBox hp u v).row
theorem BRow.below {w w' : World} {a : Option Addr} {n : Nat} {bs : List Int} (h : BRow w a n bs) (hb : Below w.heap.size w w') : BRow w' a n bs := by
  refine ⟨h.1, fun hn => ?_⟩
  obtain ⟨b, off, rfl, hlt, hc⟩ := h.2 hn
  exact ⟨b, off, rfl, Nat.lt_of_lt_of_le hlt hb.size, fun k hk => (hb.cell (p := ⟨b, off + k, none⟩) hlt).trans (hc k hk)⟩
set_option maxHeartbeats 800000 in
set_option maxRecDepth 100000 in
theorem DrawFormatMass_any (a : Option Addr) (l c : Nat) (bs : List Int) (w : World) (hr : BRow w a l bs) (hnc : l ≤ c ∨ l ≤ 2000) :
    Calls Tryz.prog 4 #[.slice a l c] w fun e w' => ArgM w e w' := by
  obtain ⟨wx, hwx⟩ : ∃ wx, wx = w.alloc (.cells #[.int .i64 0, .slice none 0 0] 25) := ⟨_, rfl⟩
  have hbx : Box wx w.heap.size 25 (.int .i64 0) (.slice none 0 0) := by rw [hwx]; exact Box.new _ _ _ _
  have hbw0 : Below w.heap.size w wx := by rw [hwx]; exact (Below.refl _ _).alloc (Nat.le_refl _) _
  have hsx : wx.heap.size = w.heap.size + 1 := by rw [hwx]; simp
  have HO := Lib.hid (l14Open_any a l c bs wx (hr.below hbw0) hnc)
  rw [hsx] at HO
  have HX := Lib.hid hbx
  have HB := Lib.hid hbw0
  have HW := Lib.hid hwx
  clear hwx hbx hbw0 hr
  go_enter Tryz.func4, Tryz.ntmps4
  go_wp2_with fail
  rw [← HW.out]
  refine HO.out.mono ?_
  rintro e w1 ⟨rfl, hs1, b1⟩
  have HS := Lib.hid (l3Open_any (w0 := wx) (w.heap.size + 1) 0 w1 (by rw [hsx] <;> exact b1) (by omega) hs1 (by omega))
  have HX1 := Lib.hid (HX.out.below b1 (by omega))
  have HB1 := Lib.hid (HB.out.trans (b1.mono (by omega)))
  have hsz1 := HX1.out.lt
  clear hs1 b1
  go_wp2_with fail
  refine HS.out.mono ?_
  rintro e w2 ⟨s, A, n, C, xs, q2, rfl, hn, ho, _, _, hg⟩
  obtain ⟨d1, d2, f1, f2⟩ := (HX1.out.grown hg (by simp)).cells
  have HO2 := Lib.hid ho
  have HB2 := Lib.hid (HB1.out.grown hg HB1.out.size (fun g h => by cases h; omega))
  clear ho hg hsx
  go_wp2_with fail
  refine bodyPost_ret (v := massV s A n C) (by simp [results, Tryz.results4, go_sem, d1, d2]) rfl ?_
  exact ⟨s, A, n, C, xs, rfl, hn, Row.setBox HO2.out (by omega) _ _, (HB2.out.setCell (Nat.le_refl _) _).setCell (Nat.le_refl _) _⟩
