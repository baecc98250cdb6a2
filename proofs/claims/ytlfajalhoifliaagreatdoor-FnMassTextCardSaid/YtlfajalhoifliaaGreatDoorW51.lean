/- Contracts: a mass is drawn that is sometimes not valid; a set; a mass and a set. -/
import Derived.Test.YtlfajalhoifliaaGreatDoorW50
import Derived.Test.YtlfajalhoifliaaGreatDoorW12
namespace Go.Proofs.YtlfajalhoifliaaGreatDoor
open Go.RowKit

set_option maxHeartbeats 1600000 in
set_option maxRecDepth 100000 in
theorem l3Open_any {w0 : World} (k : Nat) (q : Int) (w : World) (hB : Below w0.heap.size w0 w) (hk : w0.heap.size ≤ k) (hx : Src w0 k q w) (hq : 0 ≤ q ∧ q ≤ 700000) :
    Calls Tryz.prog 13 #[.pointer (some ⟨k, 0, none⟩)] w fun e w' => DrawnM w0 k q 60 w e w' := by
  have hkw := hx.lt
  obtain ⟨wx, hwx⟩ : ∃ wx, wx = w.alloc (.cells #[.int .i64 0, .slice none 0 0] 25) := ⟨_, rfl⟩
  have hbx : Box wx w.heap.size 25 (.int .i64 0) (.slice none 0 0) := by rw [hwx]; exact Box.new _ _ _ _
  have hbw0 : Below w.heap.size w wx := by rw [hwx]; exact (Below.refl _ _).alloc (Nat.le_refl _) _
  have hsx : wx.heap.size = w.heap.size + 1 := by rw [hwx]; simp
  have hBx := hB.trans (hbw0.mono hB.size)
  have HSM := Lib.hid (l3Some_any k q wx hBx hk (hx.below hbw0) (by omega))
  have HX := Lib.hid hbx
  have HG := Lib.hid (grown_of_below hbw0 (some k))
  have HB := Lib.hid hBx
  have HW := Lib.hid hwx
  clear hwx hbx hbw0 hBx hx hB
  go_enter Tryz.func13, Tryz.ntmps13
  go_wp2_with fail
  rw [← HW.out]
  refine HSM.out.mono ?_
  rintro e w2 ⟨s, A, n, C, xs, q', rfl, hm, ho, hs, hqq, hg⟩
  have hM := massB_is ho.len hm
  have hn16 : 1 ≤ n ∧ n ≤ 16 := by have := hM.nums; omega
  have HBD := Lib.hid (l3Bad_any (wb := wx) k q q' s A n C xs w2 hg (by omega) (HB.out.grown hg HB.out.size (fun g h => by cases h; exact hk)) hk hs (by omega) (by omega) hn16 ho)
  clear hm ho hs hM
  go_wp2_with fail
  refine HBD.out.mono ?_
  rintro e w3 ⟨t, A, n, C, xs, q', rfl, hn, ho, hsr, hqq3, hgr⟩
  obtain ⟨d1, d2, f1, f2⟩ := (HX.out.grown hgr (fun e => by simp at e; omega)).cells
  have HO := Lib.hid ho
  have HS := Lib.hid hsr
  have HG3 := Lib.hid (grown_trans HG.out hgr)
  clear ho hsr hgr hg
  go_wp2_with fail
  refine bodyPost_ret (v := massV t A n C) (by simp [results, Tryz.results13, go_sem, d1, d2]) rfl ?_
  exact ⟨t, A, n, C, xs, q', rfl, hn, (HO.out.setBox (by omega) _ _).mono (by omega), (HS.out.grown (grown_setCell _ _ _) (by simp; omega)).grown (grown_setCell _ _ _) (by simp; omega), by omega, set_grown (set_grown HG3.out (by simp)) (by simp)⟩
def anyB (x : Int) : Bool := decide (0 ≤ x) && decide (x ≤ 15)
set_option maxHeartbeats 400000 in
theorem l1Any_any (x : Int) (w : World) : Calls Tryz.prog 47 #[.int .i64 x] w fun e w' => e = .returned (.bool (anyB x)) ∧ w = w' := by
  have H := Lib.hid (fun W => l1In_any x 0 15 W)
  go_enter Tryz.func47, Tryz.ntmps47
  go_wp2_with fail
  refine (H.out _).mono ?_
  rintro e w1 ⟨rfl, rfl⟩
  go_wp2_with fail
  go_ret
  exact ⟨rfl, rfl⟩
end Go.Proofs.YtlfajalhoifliaaGreatDoor
