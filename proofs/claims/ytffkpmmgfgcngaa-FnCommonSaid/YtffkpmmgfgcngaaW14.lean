/- Contracts of the measures of the reference. -/
import Derived.Test.YtffkpmmgfgcngaaW13
import Derived.Deep.RegionHeld3
namespace Go.Proofs.Ytffkpmmgfgcngaa
open Go.RowKit

set_option maxHeartbeats 1600000 in
theorem sImpliedPart_any (s x : Int) (a : Option Addr) (n c : Nat) (xs : List Int) (w : World) (hr : Row w a n xs) (hn : n ≤ 1048576) :
    Calls Try.prog 59 #[massV s a n c, .int .i64 x] w fun e w' => e = .returned (.int .i64 (measure s xs x (partOf (fun j => subB j x.toNat) xs))) ∧ Below w.heap.size w w' := by
  have hb1 : Below w.heap.size w (w.alloc (.cells #[.int .i64 s, .slice a n c] 25)) := (Below.refl w.heap.size w).alloc (Nat.le_refl _) _
  have HS := Lib.hid (l3Set_any s x a n c xs _ (hr.below hb1) hn)
  by_cases hm : (massB s xs && setB s x) = true
  · rw [hm] at HS
    rw [measure, if_pos hm]
    simp only [Bool.and_eq_true] at hm
    have hI := massB_is hr.1 hm.1
    obtain ⟨y, rfl, hy⟩ := set_nat hI hm.2
    rw [Int.toNat_natCast]
    have hnl : n ≤ 16 := by have := hI.nums; omega
    have hxb := hI.part 0 (by omega)
    have hpb := partOf_bound (pr := fun j => subB j y) hr.1 hI.part
    have HP := Lib.hid (fun W h => l4Implied_any s y a n c xs W h hnl (by omega) hI.part)
    obtain ⟨z, hz⟩ : ∃ z, z = partOf (fun j => subB j y) xs := ⟨_, rfl⟩
    rw [← hz] at HP hpb ⊢
    clear hm hI hz
    go_enter Try.func59, Try.ntmps59
    go_wp2_with fail
    refine HS.out.mono ?_
    rintro e w1 ⟨rfl, b1⟩
    obtain ⟨c1, c2, _, _⟩ := box2 (k := w.heap.size) (alloc_at rfl) b1
    have hb := hb1.trans (b1.mono (by simp))
    clear b1
    have HR := Lib.hid (hr.below hb)
    clear hr
    go_wp2_with fail
    refine (HP.out _ HR.out).mono ?_
    rintro e w2 ⟨rfl, b2⟩
    have hb2 := hb.trans (b2.mono hb.size)
    go_wp2_with fail
    go_ret
    exact ⟨rfl, hb2⟩
  · have hm' : (massB s xs && setB s x) = false := by simpa using hm
    rw [hm'] at HS
    rw [measure, if_neg hm]
    clear hm hm'
    go_enter Try.func59, Try.ntmps59
    go_wp2_with fail
    refine HS.out.mono ?_
    rintro e w1 ⟨rfl, b1⟩
    have hb := hb1.trans (b1.mono (by simp))
    go_wp2_with fail
    go_ret
    exact ⟨rfl, hb⟩
set_option maxHeartbeats 1600000 in
theorem sBelievedPart_any (s x : Int) (a : Option Addr) (n c : Nat) (xs : List Int) (w : World) (hr : Row w a n xs) (hn : n ≤ 1048576) :
    Calls Try.prog 57 #[massV s a n c, .int .i64 x] w fun e w' => e = .returned (.int .i64 (measure s xs x (partOf (fun j => subB j x.toNat) xs - xs.getD 0 0))) ∧ Below w.heap.size w w' := by
  have hb1 : Below w.heap.size w (w.alloc (.cells #[.int .i64 s, .slice a n c] 25)) := (Below.refl w.heap.size w).alloc (Nat.le_refl _) _
  have HS := Lib.hid (l3Set_any s x a n c xs _ (hr.below hb1) hn)
  by_cases hm : (massB s xs && setB s x) = true
  · rw [hm] at HS
    rw [measure, if_pos hm]
    simp only [Bool.and_eq_true] at hm
    have hI := massB_is hr.1 hm.1
    obtain ⟨y, rfl, hy⟩ := set_nat hI hm.2
    rw [Int.toNat_natCast]
    have hnl : n ≤ 16 := by have := hI.nums; omega
    have hxb := hI.part 0 (by omega)
    have hpb := partOf_bound (pr := fun j => subB j y) hr.1 hI.part
    have HP := Lib.hid (fun W h => l4Implied_any s y a n c xs W h hnl (by omega) hI.part)
    obtain ⟨z, hz⟩ : ∃ z, z = partOf (fun j => subB j y) xs := ⟨_, rfl⟩
    rw [← hz] at HP hpb ⊢
    clear hm hI hz
    obtain ⟨b0, off0, v, rfl, hv, hc0⟩ := hr.at_ (show 0 < n by omega)
    have hlt0 := World.block_lt_of_cell? _ _ hc0
    rw [← hv] at hxb ⊢
    clear hv
    go_enter Try.func57, Try.ntmps57
    go_wp2_with fail
    refine HS.out.mono ?_
    rintro e w1 ⟨rfl, b1⟩
    obtain ⟨c1, c2, _, _⟩ := box2 (k := w.heap.size) (alloc_at rfl) b1
    have hb := hb1.trans (b1.mono (by simp))
    clear b1
    have hd0 : w1.cell? ⟨b0, off0, none⟩ = some (.int .i64 v) := (hb.cell (p := ⟨b0, off0 + 0, none⟩) hlt0).trans hc0
    have HB := Lib.hid hb
    have HR := Lib.hid ((hr.below hb).below (w' := w1.drew) (Below.refl _ _).drew)
    have hn0 : (0 : Int) < (n : Int) := by omega
    have hn1 : 0 < n := by omega
    have hz0 : w.heap.size < w1.heap.size := World.block_lt_of_cell? _ _ c1
    have hz1 : b0 < w1.heap.size := World.block_lt_of_cell? _ _ hd0
    clear hb hr hc0 hlt0
    go_wp2_with fail
    go_region_held3 (fun W => W.cell? ⟨w.heap.size, 0, none⟩ = some (.int .i64 s) ∧ W.cell? ⟨w.heap.size, 1, none⟩ = some (.slice (some ⟨b0, off0, none⟩) n c) ∧ W.cell? ⟨b0, off0, none⟩ = some (.int .i64 v)) (first | go_keep | exact ⟨(b2.cell hz0).trans c1, (b2.cell hz0).trans c2, (b2.cell hz1).trans hd0⟩)
      (first | (go_at_call 135; refine (HP.out _ HR.out).mono ?_; rintro e w2 ⟨rfl, b2⟩))
    have hb2 := HB.out.drew.trans (b2.mono HB.out.size)
    go_wp2_with fail
    go_ret
    exact ⟨ret_int (IntWalk.i64_in _ (by omega)), hb2⟩
  · have hm' : (massB s xs && setB s x) = false := by simpa using hm
    rw [hm'] at HS
    rw [measure, if_neg hm]
    clear hm hm'
    go_enter Try.func57, Try.ntmps57
    go_wp2_with fail
    refine HS.out.mono ?_
    rintro e w1 ⟨rfl, b1⟩
    have hb := hb1.trans (b1.mono (by simp))
    go_wp2_with fail
    go_ret
    exact ⟨rfl, hb⟩
set_option maxHeartbeats 1600000 in
theorem sPossiblePart_any (s x : Int) (a : Option Addr) (n c : Nat) (xs : List Int) (w : World) (hr : Row w a n xs) (hn : n ≤ 1048576) :
    Calls Try.prog 58 #[massV s a n c, .int .i64 x] w fun e w' => e = .returned (.int .i64 (measure s xs x (partOf (fun j => meetB x.toNat j) xs))) ∧ Below w.heap.size w w' := by
  have hb1 : Below w.heap.size w (w.alloc (.cells #[.int .i64 s, .slice a n c] 25)) := (Below.refl w.heap.size w).alloc (Nat.le_refl _) _
  have HS := Lib.hid (l3Set_any s x a n c xs _ (hr.below hb1) hn)
  by_cases hm : (massB s xs && setB s x) = true
  · rw [hm] at HS
    rw [measure, if_pos hm]
    simp only [Bool.and_eq_true] at hm
    have hI := massB_is hr.1 hm.1
    obtain ⟨y, rfl, hy⟩ := set_nat hI hm.2
    rw [Int.toNat_natCast]
    have hnl : n ≤ 16 := by have := hI.nums; omega
    have hxb := hI.part 0 (by omega)
    have hpb := partOf_bound (pr := fun j => meetB y j) hr.1 hI.part
    have HP := Lib.hid (fun W h => l4Possible_any s y a n c xs W h hnl (by omega) hI.part)
    obtain ⟨z, hz⟩ : ∃ z, z = partOf (fun j => meetB y j) xs := ⟨_, rfl⟩
    rw [← hz] at HP hpb ⊢
    clear hm hI hz
    go_enter Try.func58, Try.ntmps58
    go_wp2_with fail
    refine HS.out.mono ?_
    rintro e w1 ⟨rfl, b1⟩
    obtain ⟨c1, c2, _, _⟩ := box2 (k := w.heap.size) (alloc_at rfl) b1
    have hb := hb1.trans (b1.mono (by simp))
    clear b1
    have HR := Lib.hid (hr.below hb)
    clear hr
    go_wp2_with fail
    refine (HP.out _ HR.out).mono ?_
    rintro e w2 ⟨rfl, b2⟩
    have hb2 := hb.trans (b2.mono hb.size)
    go_wp2_with fail
    go_ret
    exact ⟨rfl, hb2⟩
  · have hm' : (massB s xs && setB s x) = false := by simpa using hm
    rw [hm'] at HS
    rw [measure, if_neg hm]
    clear hm hm'
    go_enter Try.func58, Try.ntmps58
    go_wp2_with fail
    refine HS.out.mono ?_
    rintro e w1 ⟨rfl, b1⟩
    have hb := hb1.trans (b1.mono (by simp))
    go_wp2_with fail
    go_ret
    exact ⟨rfl, hb⟩
set_option maxHeartbeats 1600000 in
theorem sCommonPart_any (s x : Int) (a : Option Addr) (n c : Nat) (xs : List Int) (w : World) (hr : Row w a n xs) (hn : n ≤ 1048576) :
    Calls Try.prog 50 #[massV s a n c, .int .i64 x] w fun e w' => e = .returned (.int .i64 (measure s xs x (partOf (fun j => subB x.toNat j) xs))) ∧ Below w.heap.size w w' := by
  have hb1 : Below w.heap.size w (w.alloc (.cells #[.int .i64 s, .slice a n c] 25)) := (Below.refl w.heap.size w).alloc (Nat.le_refl _) _
  have HS := Lib.hid (l3Set_any s x a n c xs _ (hr.below hb1) hn)
  by_cases hm : (massB s xs && setB s x) = true
  · rw [hm] at HS
    rw [measure, if_pos hm]
    simp only [Bool.and_eq_true] at hm
    have hI := massB_is hr.1 hm.1
    obtain ⟨y, rfl, hy⟩ := set_nat hI hm.2
    rw [Int.toNat_natCast]
    have hnl : n ≤ 16 := by have := hI.nums; omega
    have hxb := hI.part 0 (by omega)
    have hpb := partOf_bound (pr := fun j => subB y j) hr.1 hI.part
    have HP := Lib.hid (fun W h => l4Common_any s y a n c xs W h hnl (by omega) hI.part)
    obtain ⟨z, hz⟩ : ∃ z, z = partOf (fun j => subB y j) xs := ⟨_, rfl⟩
    rw [← hz] at HP hpb ⊢
    clear hm hI hz
    go_enter Try.func50, Try.ntmps50
    go_wp2_with fail
    refine HS.out.mono ?_
    rintro e w1 ⟨rfl, b1⟩
    obtain ⟨c1, c2, _, _⟩ := box2 (k := w.heap.size) (alloc_at rfl) b1
    have hb := hb1.trans (b1.mono (by simp))
    clear b1
    have HR := Lib.hid (hr.below hb)
    clear hr
    go_wp2_with fail
    refine (HP.out _ HR.out).mono ?_
    rintro e w2 ⟨rfl, b2⟩
    have hb2 := hb.trans (b2.mono hb.size)
    go_wp2_with fail
    go_ret
    exact ⟨rfl, hb2⟩
  · have hm' : (massB s xs && setB s x) = false := by simpa using hm
    rw [hm'] at HS
    rw [measure, if_neg hm]
    clear hm hm'
    go_enter Try.func50, Try.ntmps50
    go_wp2_with fail
    refine HS.out.mono ?_
    rintro e w1 ⟨rfl, b1⟩
    have hb := hb1.trans (b1.mono (by simp))
    go_wp2_with fail
    go_ret
    exact ⟨rfl, hb⟩
end Go.Proofs.Ytffkpmmgfgcngaa
