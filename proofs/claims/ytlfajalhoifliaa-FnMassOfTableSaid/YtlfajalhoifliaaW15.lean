/- Contracts of the measures of the program. -/
import Derived.Test.YtlfajalhoifliaaW13
import Derived.Deep.RegionHeld3
namespace Go.Proofs.Ytlfajalhoifliaa
open Go.RowKit

set_option maxHeartbeats 1600000 in
theorem iImpliedPart_any (s x : Int) (a : Option Addr) (n c : Nat) (xs : List Int) (w : World) (hr : Row w a n xs) (hn : n ≤ 1048576) :
    Calls Try.prog 23 #[massV s a n c, .int .i64 x] w fun e w' => e = .returned (.int .i64 (measure s xs x (partOf (fun j => subB j x.toNat) xs))) ∧ Below w.heap.size w w' := by
  have hb1 : Below w.heap.size w (w.alloc (.cells #[.int .i64 s, .slice a n c] 25)) := (Below.refl w.heap.size w).alloc (Nat.le_refl _) _
  have HM := Lib.hid (isMass_any s a n c xs _ (hr.below hb1) hn)
  by_cases hm : massB s xs = true
  · have hI := massB_is hr.1 hm
    have HV := Lib.hid (fun W => isSetOf_any s x W hI.size)
    rw [hm] at HM
    by_cases hv : setB s x = true
    · rw [hv] at HV
      rw [measure_yes hm hv]
      obtain ⟨y, rfl, hy⟩ := set_nat hI hv
      rw [Int.toNat_natCast]
      have hnl : n ≤ 16 := by have := hI.nums; omega
      have hxb := hI.part 0 (by omega)
      have hpb := partOf_bound (pr := fun j => subB j y) hr.1 hI.part
      have HP := Lib.hid (fun W h => impliedPart_any s y a n c xs W h hnl (by omega) hI.part)
      obtain ⟨z, hz⟩ : ∃ z, z = partOf (fun j => subB j y) xs := ⟨_, rfl⟩
      rw [← hz] at HP hpb ⊢
      clear hm hv hI hz
      go_enter Try.func23, Try.ntmps23
      go_wp2_with fail
      refine HM.out.mono ?_
      rintro e w1 ⟨rfl, b1⟩
      obtain ⟨c1, c2, _, _⟩ := box2 (k := w.heap.size) (alloc_at rfl) b1
      have hb := hb1.trans (b1.mono (by simp))
      clear b1
      have HR := Lib.hid (hr.below hb)
      clear hr
      go_wp2_with (go_at_call 54; refine (HV.out _).mono ?_; rintro e w' ⟨rfl, rfl⟩)
      refine (HP.out _ HR.out).mono ?_
      rintro e w2 ⟨rfl, b2⟩
      have hb2 := hb.trans (b2.mono hb.size)
      go_wp2_with fail
      go_ret
      exact ⟨rfl, hb2⟩
    · have hv' : setB s x = false := by simpa using hv
      rw [hv'] at HV
      rw [measure_no2 hv']
      clear hm hv hv' hI
      go_enter Try.func23, Try.ntmps23
      go_wp2_with fail
      refine HM.out.mono ?_
      rintro e w1 ⟨rfl, b1⟩
      obtain ⟨c1, c2, _, _⟩ := box2 (k := w.heap.size) (alloc_at rfl) b1
      have hb := hb1.trans (b1.mono (by simp))
      clear b1
      go_wp2_with (go_at_call 54; refine (HV.out _).mono ?_; rintro e w' ⟨rfl, rfl⟩)
      go_ret
      exact ⟨rfl, hb⟩
  · have hm' : massB s xs = false := by simpa using hm
    rw [hm'] at HM
    rw [measure_no1 hm']
    clear hm hm'
    go_enter Try.func23, Try.ntmps23
    go_wp2_with fail
    refine HM.out.mono ?_
    rintro e w1 ⟨rfl, b1⟩
    have hb := hb1.trans (b1.mono (by simp))
    clear b1
    go_wp2_with fail
    go_ret
    exact ⟨rfl, hb⟩
set_option maxHeartbeats 1600000 in
theorem iBelievedPart_any (s x : Int) (a : Option Addr) (n c : Nat) (xs : List Int) (w : World) (hr : Row w a n xs) (hn : n ≤ 1048576) :
    Calls Try.prog 24 #[massV s a n c, .int .i64 x] w fun e w' => e = .returned (.int .i64 (measure s xs x (partOf (fun j => subB j x.toNat) xs - xs.getD 0 0))) ∧ Below w.heap.size w w' := by
  have hb1 : Below w.heap.size w (w.alloc (.cells #[.int .i64 s, .slice a n c] 25)) := (Below.refl w.heap.size w).alloc (Nat.le_refl _) _
  have HM := Lib.hid (isMass_any s a n c xs _ (hr.below hb1) hn)
  by_cases hm : massB s xs = true
  · have hI := massB_is hr.1 hm
    have HV := Lib.hid (fun W => isSetOf_any s x W hI.size)
    rw [hm] at HM
    by_cases hv : setB s x = true
    · rw [hv] at HV
      rw [measure_yes hm hv]
      obtain ⟨y, rfl, hy⟩ := set_nat hI hv
      rw [Int.toNat_natCast]
      have hnl : n ≤ 16 := by have := hI.nums; omega
      have hxb := hI.part 0 (by omega)
      have hpb := partOf_bound (pr := fun j => subB j y) hr.1 hI.part
      have HP := Lib.hid (fun W h => impliedPart_any s y a n c xs W h hnl (by omega) hI.part)
      obtain ⟨z, hz⟩ : ∃ z, z = partOf (fun j => subB j y) xs := ⟨_, rfl⟩
      rw [← hz] at HP hpb ⊢
      clear hm hv hI hz
      obtain ⟨b0, off0, v, rfl, hv, hc0⟩ := hr.at_ (show 0 < n by omega)
      have hlt0 := World.block_lt_of_cell? _ _ hc0
      rw [← hv] at hxb ⊢
      clear hv
      go_enter Try.func24, Try.ntmps24
      go_wp2_with fail
      refine HM.out.mono ?_
      rintro e w1 ⟨rfl, b1⟩
      obtain ⟨c1, c2, _, _⟩ := box2 (k := w.heap.size) (alloc_at rfl) b1
      have hb := hb1.trans (b1.mono (by simp))
      clear b1
      have hd0 : w1.cell? ⟨b0, off0, none⟩ = some (.int .i64 v) := (hb.cell (p := ⟨b0, off0 + 0, none⟩) hlt0).trans hc0
      have HB := Lib.hid hb
      have HR := Lib.hid ((hr.below hb).below (w' := w1.drew) (Below.refl _ _).drew)
      have hn0 : (0 : Int) < (n : Int) := by omega
      have hn1 : 0 < n := by omega
      have hz0 : w.heap.size < w1.heap.size := World.block_lt_of_cell? _ _ c1
      have hz1 : b0 < w1.heap.size := World.block_lt_of_cell? _ _ hd0
      clear hb hr hc0 hlt0
      go_wp2_with (go_at_call 54; refine (HV.out _).mono ?_; rintro e w' ⟨rfl, rfl⟩)
      go_region_held3 (fun W => W.cell? ⟨w.heap.size, 0, none⟩ = some (.int .i64 s) ∧ W.cell? ⟨w.heap.size, 1, none⟩ = some (.slice (some ⟨b0, off0, none⟩) n c) ∧ W.cell? ⟨b0, off0, none⟩ = some (.int .i64 v)) (first | go_keep | exact ⟨(b2.cell hz0).trans c1, (b2.cell hz0).trans c2, (b2.cell hz1).trans hd0⟩)
        (first | (go_at_call 55; refine (HP.out _ HR.out).mono ?_; rintro e w2 ⟨rfl, b2⟩))
      have hb2 := HB.out.drew.trans (b2.mono HB.out.size)
      go_wp2_with fail
      go_ret
      exact ⟨ret_int (IntWalk.i64_in _ (by omega)), hb2⟩
    · have hv' : setB s x = false := by simpa using hv
      rw [hv'] at HV
      rw [measure_no2 hv']
      clear hm hv hv' hI
      go_enter Try.func24, Try.ntmps24
      go_wp2_with fail
      refine HM.out.mono ?_
      rintro e w1 ⟨rfl, b1⟩
      obtain ⟨c1, c2, _, _⟩ := box2 (k := w.heap.size) (alloc_at rfl) b1
      have hb := hb1.trans (b1.mono (by simp))
      clear b1
      go_wp2_with (go_at_call 54; refine (HV.out _).mono ?_; rintro e w' ⟨rfl, rfl⟩)
      go_ret
      exact ⟨rfl, hb⟩
  · have hm' : massB s xs = false := by simpa using hm
    rw [hm'] at HM
    rw [measure_no1 hm']
    clear hm hm'
    go_enter Try.func24, Try.ntmps24
    go_wp2_with fail
    refine HM.out.mono ?_
    rintro e w1 ⟨rfl, b1⟩
    have hb := hb1.trans (b1.mono (by simp))
    clear b1
    go_wp2_with fail
    go_ret
    exact ⟨rfl, hb⟩
set_option maxHeartbeats 1600000 in
theorem iPossiblePart_any (s x : Int) (a : Option Addr) (n c : Nat) (xs : List Int) (w : World) (hr : Row w a n xs) (hn : n ≤ 1048576) :
    Calls Try.prog 25 #[massV s a n c, .int .i64 x] w fun e w' => e = .returned (.int .i64 (measure s xs x (partOf (fun j => meetB x.toNat j) xs))) ∧ Below w.heap.size w w' := by
  have hb1 : Below w.heap.size w (w.alloc (.cells #[.int .i64 s, .slice a n c] 25)) := (Below.refl w.heap.size w).alloc (Nat.le_refl _) _
  have HM := Lib.hid (isMass_any s a n c xs _ (hr.below hb1) hn)
  by_cases hm : massB s xs = true
  · have hI := massB_is hr.1 hm
    have HV := Lib.hid (fun W => isSetOf_any s x W hI.size)
    rw [hm] at HM
    by_cases hv : setB s x = true
    · rw [hv] at HV
      rw [measure_yes hm hv]
      obtain ⟨y, rfl, hy⟩ := set_nat hI hv
      rw [Int.toNat_natCast]
      have hnl : n ≤ 16 := by have := hI.nums; omega
      have hxb := hI.part 0 (by omega)
      have hpb := partOf_bound (pr := fun j => meetB y j) hr.1 hI.part
      have HP := Lib.hid (fun W h => possiblePart_any s y a n c xs W h hnl (by omega) hI.part)
      obtain ⟨z, hz⟩ : ∃ z, z = partOf (fun j => meetB y j) xs := ⟨_, rfl⟩
      rw [← hz] at HP hpb ⊢
      clear hm hv hI hz
      go_enter Try.func25, Try.ntmps25
      go_wp2_with fail
      refine HM.out.mono ?_
      rintro e w1 ⟨rfl, b1⟩
      obtain ⟨c1, c2, _, _⟩ := box2 (k := w.heap.size) (alloc_at rfl) b1
      have hb := hb1.trans (b1.mono (by simp))
      clear b1
      have HR := Lib.hid (hr.below hb)
      clear hr
      go_wp2_with (go_at_call 54; refine (HV.out _).mono ?_; rintro e w' ⟨rfl, rfl⟩)
      refine (HP.out _ HR.out).mono ?_
      rintro e w2 ⟨rfl, b2⟩
      have hb2 := hb.trans (b2.mono hb.size)
      go_wp2_with fail
      go_ret
      exact ⟨rfl, hb2⟩
    · have hv' : setB s x = false := by simpa using hv
      rw [hv'] at HV
      rw [measure_no2 hv']
      clear hm hv hv' hI
      go_enter Try.func25, Try.ntmps25
      go_wp2_with fail
      refine HM.out.mono ?_
      rintro e w1 ⟨rfl, b1⟩
      obtain ⟨c1, c2, _, _⟩ := box2 (k := w.heap.size) (alloc_at rfl) b1
      have hb := hb1.trans (b1.mono (by simp))
      clear b1
      go_wp2_with (go_at_call 54; refine (HV.out _).mono ?_; rintro e w' ⟨rfl, rfl⟩)
      go_ret
      exact ⟨rfl, hb⟩
  · have hm' : massB s xs = false := by simpa using hm
    rw [hm'] at HM
    rw [measure_no1 hm']
    clear hm hm'
    go_enter Try.func25, Try.ntmps25
    go_wp2_with fail
    refine HM.out.mono ?_
    rintro e w1 ⟨rfl, b1⟩
    have hb := hb1.trans (b1.mono (by simp))
    clear b1
    go_wp2_with fail
    go_ret
    exact ⟨rfl, hb⟩
set_option maxHeartbeats 1600000 in
theorem iCommonPart_any (s x : Int) (a : Option Addr) (n c : Nat) (xs : List Int) (w : World) (hr : Row w a n xs) (hn : n ≤ 1048576) :
    Calls Try.prog 26 #[massV s a n c, .int .i64 x] w fun e w' => e = .returned (.int .i64 (measure s xs x (partOf (fun j => subB x.toNat j) xs))) ∧ Below w.heap.size w w' := by
  have hb1 := ((Below.refl w.heap.size w).alloc (Nat.le_refl _) (.cells #[.int .i64 s, .slice a n c] 25)).alloc (by simp) (.cells #[.int .i64 x] 3)
  have HM := Lib.hid (isMass_any s a n c xs _ (hr.below hb1) hn)
  by_cases hm : massB s xs = true
  · have hI := massB_is hr.1 hm
    have HV := Lib.hid (fun W => isSetOf_any s x W hI.size)
    rw [hm] at HM
    by_cases hv : setB s x = true
    · rw [hv] at HV
      rw [measure_yes hm hv]
      obtain ⟨y, rfl, hy⟩ := set_nat hI hv
      rw [Int.toNat_natCast]
      have hnl : n ≤ 16 := by have := hI.nums; omega
      have hxb := hI.part 0 (by omega)
      have hpb := partOf_bound (pr := fun j => subB y j) hr.1 hI.part
      have HP := Lib.hid (fun (W : World) (h : Row W a n xs) (hp : W.cell? ⟨w.heap.size + 1, 0, none⟩ = some (.int .i64 y)) => sumOver_any 58 ⟨w.heap.size + 1, 0, none⟩ (fun _ _ => by kernel_rfl) (fun j => subB y j) s a n c xs W h hnl hI.part (fun j W' hj hb => cloCommon j y _ W' hj (by omega) ((hb.cell (World.block_lt_of_cell? _ _ hp)).trans hp)))
      obtain ⟨z, hz⟩ : ∃ z, z = partOf (fun j => subB y j) xs := ⟨_, rfl⟩
      rw [← hz] at HP hpb ⊢
      clear hm hv hI hz
      go_enter Try.func26, Try.ntmps26
      go_wp2_with fail
      refine HM.out.mono ?_
      rintro e w1 ⟨rfl, b1⟩
      obtain ⟨c1, c2, _, _⟩ := box2 (k := w.heap.size) ((alloc_before (by simp)).trans (alloc_at rfl)) b1
      have c3 := (b1.cell (p := ⟨w.heap.size + 1, 0, none⟩) (by simp)).trans (cell_one_new' _ _ _ (by simp))
      have hb := hb1.trans (b1.mono (by simp; omega))
      clear b1
      have HR := Lib.hid (hr.below hb)
      clear hr
      go_wp2_with (go_at_call 54; refine (HV.out _).mono ?_; rintro e w' ⟨rfl, rfl⟩)
      refine (HP.out _ HR.out c3).mono ?_
      rintro e w2 ⟨rfl, b2⟩
      have hb2 := hb.trans (b2.mono hb.size)
      go_wp2_with fail
      go_ret
      exact ⟨rfl, hb2⟩
    · have hv' : setB s x = false := by simpa using hv
      rw [hv'] at HV
      rw [measure_no2 hv']
      clear hm hv hv' hI
      go_enter Try.func26, Try.ntmps26
      go_wp2_with fail
      refine HM.out.mono ?_
      rintro e w1 ⟨rfl, b1⟩
      obtain ⟨c1, c2, _, _⟩ := box2 (k := w.heap.size) ((alloc_before (by simp)).trans (alloc_at rfl)) b1
      have c3 := (b1.cell (p := ⟨w.heap.size + 1, 0, none⟩) (by simp)).trans (cell_one_new' _ _ _ (by simp))
      have hb := hb1.trans (b1.mono (by simp; omega))
      clear b1
      go_wp2_with (go_at_call 54; refine (HV.out _).mono ?_; rintro e w' ⟨rfl, rfl⟩)
      go_ret
      exact ⟨rfl, hb⟩
  · have hm' : massB s xs = false := by simpa using hm
    rw [hm'] at HM
    rw [measure_no1 hm']
    clear hm hm'
    go_enter Try.func26, Try.ntmps26
    go_wp2_with fail
    refine HM.out.mono ?_
    rintro e w1 ⟨rfl, b1⟩
    have hb := hb1.trans (b1.mono (by simp; omega))
    clear b1
    go_wp2_with fail
    go_ret
    exact ⟨rfl, hb⟩
end Go.Proofs.Ytlfajalhoifliaa
