/- Contracts: a mass is drawn that is sometimes not valid; a set; a mass and a set. -/
import Derived.Test.YtffkpmmgfgcngaaW50
import Derived.Test.YtffkpmmgfgcngaaW12
namespace Go.Proofs.Ytffkpmmgfgcngaa
open Go.RowKit

set_option maxHeartbeats 1600000 in
set_option maxRecDepth 100000 in
theorem l3Open_any {w0 : World} (k : Nat) (q : Int) (w : World) (hB : Below w0.heap.size w0 w) (hk : w0.heap.size ≤ k) (hx : Src w0 k q w) (hq : 0 ≤ q ∧ q ≤ 700000) :
    Calls Try.prog 118 #[.pointer (some ⟨k, 0, none⟩)] w fun e w' => DrawnM w0 k q 60 w e w' := by
  have hkw := hx.lt
  obtain ⟨wx, hwx⟩ : ∃ wx, wx = w.alloc (.cells #[.int .i64 0, .slice none 0 0] 25) := ⟨_, rfl⟩
  have hbx : Box wx w.heap.size 25 (.int .i64 0) (.slice none 0 0) := by rw [hwx]; exact Box.new _ _ _ _
  have hbw0 : Below w.heap.size w wx := by rw [hwx]; exact (Below.refl _ _).alloc (Nat.le_refl _) _
  have hsx : wx.heap.size = w.heap.size + 1 := by rw [hwx]; simp
  have hBx := hB.trans (hbw0.mono hB.size)
  have HSM := Lib.hid (l3Some_any k q wx hBx hk (hx.below hbw0) (by omega))
  have HX := Lib.hid hbx
  have HG := Lib.hid (grown_of_below hbw0 (some k))
  have HB := Lib.hid hBx
  have HW := Lib.hid hwx
  clear hwx hbx hbw0 hBx hx hB
  go_enter Try.func118, Try.ntmps118
  go_wp2_with fail
  rw [← HW.out]
  refine HSM.out.mono ?_
  rintro e w2 ⟨s, A, n, C, xs, q', rfl, hm, ho, hs, hqq, hg⟩
  have hM := massB_is ho.len hm
  have hn16 : 1 ≤ n ∧ n ≤ 16 := by have := hM.nums; omega
  have HBD := Lib.hid (l3Bad_any (wb := wx) k q q' s A n C xs w2 hg (by omega) (HB.out.grown hg HB.out.size (fun g h => by cases h; exact hk)) hk hs (by omega) (by omega) hn16 ho)
  clear hm ho hs hM
  go_wp2_with fail
  refine HBD.out.mono ?_
  rintro e w3 ⟨t, A, n, C, xs, q', rfl, hn, ho, hsr, hqq3, hgr⟩
  obtain ⟨d1, d2, f1, f2⟩ := (HX.out.grown hgr (fun e => by simp at e; omega)).cells
  have HO := Lib.hid ho
  have HS := Lib.hid hsr
  have HG3 := Lib.hid (grown_trans HG.out hgr)
  clear ho hsr hgr hg
  go_wp2_with fail
  refine bodyPost_ret (v := massV t A n C) (by simp [results, Try.results118, go_sem, d1, d2]) rfl ?_
  exact ⟨t, A, n, C, xs, q', rfl, hn, (HO.out.setBox (by omega) _ _).mono (by omega), (HS.out.grown (grown_setCell _ _ _) (by simp; omega)).grown (grown_setCell _ _ _) (by simp; omega), by omega, set_grown (set_grown HG3.out (by simp)) (by simp)⟩
set_option maxHeartbeats 1600000 in
set_option maxRecDepth 100000 in
theorem l1Set_any {w0 : World} (k : Nat) (q : Int) (w : World) (hB : Below w0.heap.size w0 w) (hk : w0.heap.size ≤ k) (hx : Src w0 k q w) (hq : 0 ≤ q ∧ q ≤ 900000) :
    Calls Try.prog 168 #[.pointer (some ⟨k, 0, none⟩)] w fun e w' => ∃ x q', e = .returned (.int .i64 x) ∧ Src w0 k q' w' ∧ (q ≤ q' ∧ q' ≤ q + 3) ∧ w.grownBy w' (some k) := by
  have hkw := hx.lt
  have HP := Lib.hid (pickS_any k q 24 w hB hk hx (by omega) (by omega))
  have HB := Lib.hid hB; clear hB hx
  go_enter Try.func168, Try.ntmps168
  go_wp2_with fail
  refine HP.out.mono ?_
  rintro e w2 ⟨z, rfl, hz, hs2, hg2⟩
  have hB2 := HB.out.grown hg2 HB.out.size (fun g h => by cases h; exact hk)
  by_cases h0 : z = 0
  · subst h0
    have hL := Row.lit w2 #[.int .i64 (-1), .int .i64 16, .int .i64 9223372036854775807] [-1, 16, 9223372036854775807] 3 w2.heap.size rfl (fun j hj => by
      have h : j = 0 ∨ j = 1 ∨ j = 2 := by simp at hj; omega
      rcases h with rfl | rfl | rfl <;> rfl)
    have hba : Below w2.heap.size w2 (w2.alloc (.cells #[.int .i64 (-1), .int .i64 16, .int .i64 9223372036854775807] 3)) := (Below.refl _ _).alloc (Nat.le_refl _) _
    have hkw2 : k < w2.heap.size := hs2.lt
    have HN := Lib.hid (numS_any k (q + 1) (some ⟨w2.heap.size, 0, none⟩) 3 3 [-1, 16, 9223372036854775807] _ (hB2.trans (hba.mono hB2.size)) hk (hs2.below hba) (by omega) hL (by omega) (fun b off h => by cases h; omega))
    have HG2 := Lib.hid (grown_trans hg2 (grown_of_below hba _))
    clear hL hba hs2 hg2 hB2
    go_wp2_with fail
    refine HN.out.mono ?_
    rintro e w3 ⟨z, hz, rfl, hs3, hg3⟩
    have HS3 := Lib.hid hs3
    have HG3 := Lib.hid (grown_trans HG2.out hg3)
    clear hs3 hg3
    obtain ⟨v, hv⟩ : ∃ v, v = ([-1, 16, 9223372036854775807] : List Int).getD z 0 := ⟨_, rfl⟩
    rw [← hv]
    clear hv
    go_wp2_with fail
    go_ret
    exact ⟨v, _, rfl, HS3.out, by omega, HG3.out⟩
  · have HP2 := Lib.hid (pickS_any k (q + 1) 8 w2 hB2 hk hs2 (by omega) (by omega))
    have HB2 := Lib.hid hB2
    have HG2 := Lib.hid hg2
    clear hs2 hg2 hB2
    go_wp2_with fail
    refine HP2.out.mono ?_
    rintro e w3 ⟨z3, rfl, hz3, hs3, hg3⟩
    have hB3 := HB2.out.grown hg3 HB2.out.size (fun g h => by cases h; exact hk)
    have HP3 := Lib.hid (pickS_any k (q + 1 + 1) 4 w3 hB3 hk hs3 (by omega) (by omega))
    have HG3 := Lib.hid (grown_trans HG2.out hg3)
    clear hs3 hg3 hB3
    go_wp2_with fail
    refine HP3.out.mono ?_
    rintro e w4 ⟨z4, rfl, hz4, hs4, hg4⟩
    have HS4 := Lib.hid hs4
    have HG4 := Lib.hid (grown_trans HG3.out hg4)
    clear hs4 hg4
    go_wp2_with fail
    go_ret
    exact ⟨_, _, rfl, HS4.out, by omega, HG4.out⟩
def anyB (x : Int) : Bool := decide (0 ≤ x) && decide (x ≤ 15)
set_option maxHeartbeats 400000 in
theorem l1Any_any (x : Int) (w : World) : Calls Try.prog 169 #[.int .i64 x] w fun e w' => e = .returned (.bool (anyB x)) ∧ w = w' := by
  have H := Lib.hid (fun W => l1In_any x 0 15 W)
  go_enter Try.func169, Try.ntmps169
  go_wp2_with fail
  refine (H.out _).mono ?_
  rintro e w1 ⟨rfl, rfl⟩
  go_wp2_with fail
  go_ret
  exact ⟨rfl, rfl⟩
end Go.Proofs.Ytffkpmmgfgcngaa
