/- Contracts: some mass is drawn. -/
import Derived.Test.YtlfajalhoifliaaGreatDoorW48
namespace Go.Proofs.YtlfajalhoifliaaGreatDoor
open Go.RowKit

theorem Row.lit (w : World) (cs : Array Value) (xs : List Int) (T : TypeId) (j : Nat) (hj : j = w.heap.size) (h : ∀ k, k < xs.length → cs[k]? = some (.int .i64 (xs.getD k 0))) : Row (w.alloc (.cells cs T)) (some ⟨j, 0, none⟩) xs.length xs := by
  subst hj
  refine ⟨rfl, fun _ => ⟨w.heap.size, 0, rfl, by simp, fun k hk => ?_⟩⟩
  rw [Nat.zero_add, cell_of_row _ _ _ cs T (0, 0) (heap_alloc_new w _)]
  exact h k hk
set_option maxHeartbeats 1600000 in
set_option maxRecDepth 100000 in
theorem l3Some_any {w0 : World} (k : Nat) (q : Int) (w : World) (hB : Below w0.heap.size w0 w) (hk : w0.heap.size ≤ k) (hx : Src w0 k q w) (hq : 0 ≤ q ∧ q ≤ 800000) :
    Calls Tryz.prog 33 #[.pointer (some ⟨k, 0, none⟩)] w fun e w' => DrawnV w0 k q 50 w e w' := by
  have hkw := hx.lt
  obtain ⟨wx, hwx⟩ : ∃ wx, wx = w.alloc (.cells #[.int .i64 0, .slice none 0 0] 25) := ⟨_, rfl⟩
  have hbx : Box wx w.heap.size 25 (.int .i64 0) (.slice none 0 0) := by rw [hwx]; exact Box.new _ _ _ _
  have hbw0 : Below w.heap.size w wx := by rw [hwx]; exact (Below.refl _ _).alloc (Nat.le_refl _) _
  have hsx : wx.heap.size = w.heap.size + 1 := by rw [hwx]; simp
  have hbw1 : Below wx.heap.size wx (wx.alloc (.cells #[.int .i64 3, .int .i64 2, .int .i64 3, .int .i64 1, .int .i64 4, .int .i64 3] 3)) := (Below.refl _ _).alloc (Nat.le_refl _) _
  have hL := Row.lit wx #[.int .i64 3, .int .i64 2, .int .i64 3, .int .i64 1, .int .i64 4, .int .i64 3] [3, 2, 3, 1, 4, 3] 3 (w.heap.size + 1) hsx.symm (fun j hj => by
    have h : j = 0 ∨ j = 1 ∨ j = 2 ∨ j = 3 ∨ j = 4 ∨ j = 5 := by simp at hj; omega
    rcases h with rfl | rfl | rfl | rfl | rfl | rfl <;> rfl)
  have hb1 : Below w.heap.size w (wx.alloc (.cells #[.int .i64 3, .int .i64 2, .int .i64 3, .int .i64 1, .int .i64 4, .int .i64 3] 3)) := hbw0.trans (hbw1.mono (by omega))
  have HN := Lib.hid (numS_any k q (some ⟨w.heap.size + 1, 0, none⟩) 6 6 [3, 2, 3, 1, 4, 3] _ (hB.trans (hb1.mono hB.size)) hk (hx.below hb1) (by omega) hL (by omega) (fun b off h => by cases h; omega))
  have HX1 := Lib.hid (hbx.below hbw1 hbx.lt)
  have HG1 := Lib.hid (grown_of_below hb1 (some k))
  have HB1 := Lib.hid (hB.trans (hb1.mono hB.size))
  have HW := Lib.hid hwx
  clear hwx hbx hbw0 hbw1 hL hb1 hx hB
  go_enter Tryz.func33, Tryz.ntmps33
  go_wp2_with fail
  rw [← HW.out]
  refine HN.out.mono ?_
  rintro e w2 ⟨z, hz, rfl, hs2, hg2⟩
  obtain ⟨s, hs⟩ : ∃ s, s = ([3, 2, 3, 1, 4, 3] : List Int).getD z 0 := ⟨_, rfl⟩
  have hs4 : 1 ≤ s ∧ s ≤ 4 := by
    have h : z = 0 ∨ z = 1 ∨ z = 2 ∨ z = 3 ∨ z = 4 ∨ z = 5 := by omega
    rcases h with rfl | rfl | rfl | rfl | rfl | rfl <;> (simp at hs; omega)
  rw [← hs]
  obtain ⟨m, rfl⟩ : ∃ m : Nat, s = m := ⟨s.toNat, by omega⟩
  have hB2 := HB1.out.grown hg2 HB1.out.size (fun g h => by cases h; exact hk)
  have HD := Lib.hid (l3Draw_any k (q + 1) m (2 ^ m) w2 (by simp [sizeB]; omega) (by simp [fitB]) hB2 hk hs2 (by omega))
  have HX2 := Lib.hid (HX1.out.grown hg2 (fun e => by simp at e; omega))
  have HG2 := Lib.hid (grown_trans HG1.out hg2)
  clear hB2 hs2 hg2 hs
  go_wp2_with fail
  refine HD.out.mono ?_
  rintro e w3 ⟨t, A, n, C, xs, q', rfl, hn, ho, hsr, hqq, hgr⟩
  obtain ⟨d1, d2, f1, f2⟩ := (HX2.out.grown hgr (fun e => by simp at e; omega)).cells
  have HO := Lib.hid ho
  have HN4 := Lib.hid hn; clear hn
  have HS := Lib.hid hsr
  have HG3 := Lib.hid (grown_trans HG2.out hgr)
  have hx2 := HX2.out.lt
  have hle : w.heap.size ≤ w2.heap.size := HG2.out.size
  clear ho hsr hgr
  go_wp2_with fail
  refine bodyPost_ret (v := massV t A n C) (by simp [results, Tryz.results33, go_sem, d1, d2]) rfl ?_
  exact ⟨t, A, n, C, xs, q', rfl, HN4.out, (HO.out.setBox hx2 _ _).mono hle, (HS.out.grown (grown_setCell _ _ _) (by simp; omega)).grown (grown_setCell _ _ _) (by simp; omega), by omega, set_grown (set_grown HG3.out (by simp)) (by simp)⟩
end Go.Proofs.YtlfajalhoifliaaGreatDoor
