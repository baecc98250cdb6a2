/- Contracts of ChanceOf, of the program and of the reference. -/
import Derived.Test.YtffkpmmgfgcngaaW23
import Derived.Test.YtffkpmmgfgcngaaW21
import Derived.Test.YtffkpmmgfgcngaaMath
import Derived.Deep.RegionHeld3
namespace Go.Proofs.Ytffkpmmgfgcngaa
open Go.RowKit

set_option maxHeartbeats 6400000 in
set_option maxRecDepth 100000 in
theorem iChanceOf_any (s x : Int) (a : Option Addr) (n c : Nat) (xs : List Int) (w : World) (hr : Row w a n xs) (hn : n ≤ 1048576) :
    Calls Try.prog 67 #[massV s a n c, .int .i64 x] w fun e w' => RetF (chanceR s xs x) e ∧ Below w.heap.size w w' := by
  obtain ⟨w0, hw0⟩ : ∃ w0, w0 = (w.alloc (.cells #[.int .i64 s, .slice a n c] 25)).alloc (.cells #[.int .i64 0, .int .i64 0] 40) := ⟨_, rfl⟩
  have HBM : Hid (Box w0 w.heap.size 25 (.int .i64 s) (.slice a n c)) := by rw [hw0]; exact (Box.new _ _ _ _).alloc _
  have HBX : Hid (Box w0 (w.heap.size + 1) 40 (.int .i64 0) (.int .i64 0)) := by rw [hw0]; exact alloc_at (by simp)
  have HB0 : Hid (Below w.heap.size w w0) := by rw [hw0]; exact ((Below.refl _ _).alloc (Nat.le_refl _) _).alloc (by simp) _
  have hr0 := (hr.below HB0.out).below (w' := w0.drew) (Below.refl _ _).drew
  have HW0 := Lib.hid hw0; clear hw0
  have HM := Lib.hid (isMass_any s a n c xs w0.drew hr0 hn)
  by_cases hm : massB s xs = true
  · have hI := massB_is hr.1 hm
    have HV := Lib.hid (fun W => isSetOf_any s x W hI.size)
    rw [hm] at HM
    by_cases hv : setB s x = true
    · rw [hv] at HV
      obtain ⟨y, rfl, hy⟩ := set_nat hI hv
      have hnl : n ≤ 16 := by have := hI.nums; omega
      have hpos : 0 < n := by have := hI.nums; omega
      have HH := Lib.hid (fun W (h : Row W a n xs) => wholeOf_any s a n c xs W h hnl hI.part)
      have HE := Lib.hid (fun W (h : Row W a n xs) => sharedPart_any s y a n c xs W h hnl (by omega) hI.part)
      have heb := evenOf_bound (a := y) hr.1 hI.part
      have hub := hI.whole
      have h0b := hI.part 0 hpos
      have hsf := sum_first hr.1 hpos (fun k hk => (hI.part k hk).1)
      obtain ⟨b0, off0, v0, rfl, hv0, hc0⟩ := hr0.at_ hpos
      simp only [Nat.add_zero] at hc0
      rw [← hv0] at h0b hsf
      obtain ⟨u, hu⟩ : ∃ u, u = sumL xs := ⟨_, rfl⟩
      rw [← hu] at HH hub hsf
      obtain ⟨e0, he0⟩ : ∃ e, e = evenOf y xs := ⟨_, rfl⟩
      rw [← he0] at HE heb
      have HR := Lib.hid hr0; clear hr0
      have hn0 : (0 : Int) < (n : Int) := by omega
      obtain ⟨c1, c2, _, _⟩ := HBM.out.drew.cells
      have hz0 := HBM.out.lt
      have hz1 : b0 < w0.drew.heap.size := World.block_lt_of_cell? _ _ hc0
      have hlt0 : b0 < w.heap.size := by
        obtain ⟨b', off', h1, h2, _⟩ := hr.2 hpos
        cases h1
        exact h2
      have hne1 : ¬ b0 = w.heap.size + 1 := by omega
      by_cases hq : u = v0
      · have HC : Hid (chanceR s xs ((y : Nat) : Int) = none) := if_neg (by rw [chanceB, ← hu, ← hv0, hq]; simp)
        rw [HC.out]
        clear hm hI hu hv0 HC hr hv he0
        subst hq
        go_enter Try.func67, Try.ntmps67
        go_wp2_with fail
        rw [← HW0.out]
        first
        | (go_region_held3 (fun W => W.cell? ⟨w.heap.size, 0, none⟩ = some (.int .i64 s) ∧ W.cell? ⟨w.heap.size, 1, none⟩ = some (.slice (some ⟨b0, off0, none⟩) n c) ∧ W.cell? ⟨b0, off0, none⟩ = some (.int .i64 u))
          (first | exact ⟨(b3.cell hz0).trans c1, (b3.cell hz0).trans c2, (b3.cell hz1).trans hc0⟩ | exact ⟨(b2.cell hz0).trans c1, (b2.cell hz0).trans c2, (b2.cell hz1).trans hc0⟩ | go_keep)
          (first | (have _t := tok1; go_at_call 99; refine (HH.out _ (HR.out.below b2)).mono ?_; rintro e w3 ⟨rfl, b3'⟩; have b3 := b2.trans (b3'.mono b2.size)) | (go_at_call 96; refine (HV.out _).mono ?_; rintro e w' ⟨rfl, rfl⟩) | (go_at_call 95; refine HM.out.mono ?_; rintro e w2 ⟨rfl, b2⟩; have tok1 : True := trivial)))
        | fail
        all_goals
          have HB3 := Lib.hid (HB0.out.drew.trans (b3.mono HB0.out.size))
          obtain ⟨d1, d2, f1, f2⟩ := (HBX.out.drew.below b3 HBX.out.lt).cells
          go_wp2_with fail
          refine bodyPost_ret (v := .tuple #[fracV 0 0, .bool false]) (by simp [results, Try.results67, go_sem, d1, d2]) rfl ?_
          exact ⟨RetF.none_, (HB3.out.setCell (by simp) _).setCell (by simp) _⟩
      · have HC : Hid (chanceR s xs ((y : Nat) : Int) = fracOf e0 (12 * (u - v0))) := by
          show _ = _
          rw [chanceR, fracM, if_pos (by rw [chanceB, ← hu, ← hv0, hm, hv]; simp [hq]), Int.toNat_natCast, he0, hu, hv0]
        rw [HC.out]
        have hne : (u == v0) = false := by simpa using hq
        have hne2 : (v0 == u) = false := by simpa using fun h => hq h.symm
        have HL := Lib.hid (fun W => lowest_any e0 (12 * (u - v0)) W (by omega) (by omega))
        obtain ⟨r, hr1⟩ : ∃ r, r = fracOf e0 (12 * (u - v0)) := ⟨_, rfl⟩
        rw [← hr1] at HL ⊢
        have e1 : IntKind.i64.wrap (u - v0) = u - v0 := IntWalk.i64_in _ (by omega)
        have e2 : IntKind.i64.wrap (12 * (u - v0)) = 12 * (u - v0) := IntWalk.i64_in _ (by omega)
        clear hm hI hu hv0 HC hr hv hr1 he0
        go_enter Try.func67, Try.ntmps67
        go_wp2_with fail
        rw [← HW0.out]
        first
        | (go_region_held3 (fun W => W.cell? ⟨w.heap.size, 0, none⟩ = some (.int .i64 s) ∧ W.cell? ⟨w.heap.size, 1, none⟩ = some (.slice (some ⟨b0, off0, none⟩) n c) ∧ W.cell? ⟨b0, off0, none⟩ = some (.int .i64 v0))
          (first | exact ⟨(b3.cell hz0).trans c1, (b3.cell hz0).trans c2, (b3.cell hz1).trans hc0⟩ | exact ⟨(b2.cell hz0).trans c1, (b2.cell hz0).trans c2, (b2.cell hz1).trans hc0⟩ | go_keep)
          (first | (have _t := tok1; go_at_call 99; refine (HH.out _ (HR.out.below b2)).mono ?_; rintro e w3 ⟨rfl, b3'⟩; have b3 := b2.trans (b3'.mono b2.size)) | (go_at_call 96; refine (HV.out _).mono ?_; rintro e w' ⟨rfl, rfl⟩) | (go_at_call 95; refine HM.out.mono ?_; rintro e w2 ⟨rfl, b2⟩; have tok1 : True := trivial)))
        | fail
        have HB3 := Lib.hid (HB0.out.drew.trans (b3.mono HB0.out.size))
        have HR3 := Lib.hid ((HR.out.below b3).below (w' := w3.drew) (Below.refl _ _).drew)
        have HX3 := Lib.hid (HBX.out.drew.below b3 HBX.out.lt).drew
        obtain ⟨p1, p2, _, _⟩ := (HBM.out.drew.below b3 HBM.out.lt).cells
        have p3 : w3.cell? ⟨b0, off0, none⟩ = some (.int .i64 v0) := (b3.cell (p := ⟨b0, off0, none⟩) hz1).trans hc0
        have y0 : w.heap.size < w3.heap.size := World.block_lt_of_cell? _ _ p1
        have y1 : b0 < w3.heap.size := World.block_lt_of_cell? _ _ p3
        clear b2 b3' b3 c1 c2 hc0 hz0 hz1 tok1 HR HBX HBM
        go_wp2_with fail
        have hxl : w.heap.size + 1 ≤ w3.drew.heap.size := by show w.heap.size + 1 ≤ w3.heap.size; omega
        have BB : Below (w.heap.size + 1) w3.drew w3.drew := Below.refl _ _
        have HKS : Hid (∀ W : World, Below (w.heap.size + 1) w3.drew W → (W.cell? ⟨w.heap.size, 0, none⟩ = some (.int .i64 s) ∧ W.cell? ⟨w.heap.size, 1, none⟩ = some (.slice (some ⟨b0, off0, none⟩) n c) ∧ W.cell? ⟨b0, off0, none⟩ = some (.int .i64 v0))) := fun W hB => ⟨(hB.cell (p := ⟨w.heap.size, 0, none⟩) (by simp)).trans p1, (hB.cell (p := ⟨w.heap.size, 1, none⟩) (by simp)).trans p2, (hB.cell (p := ⟨b0, off0, none⟩) (by simp; omega)).trans p3⟩
        go_region_held3 (fun W => W.cell? ⟨w.heap.size, 0, none⟩ = some (.int .i64 s) ∧ W.cell? ⟨w.heap.size, 1, none⟩ = some (.slice (some ⟨b0, off0, none⟩) n c) ∧ W.cell? ⟨b0, off0, none⟩ = some (.int .i64 v0))
          (first | exact HKS.out _ BB | exact HKS.out _ ((BB.setCell (Nat.le_refl _) _).setCell (Nat.le_refl _) _))
          (first | (have _t := tok5; go_at_call 114; refine (HL.out _).mono ?_; rintro e w7 ⟨rfl, b7'⟩; replace b6 := b6.trans (b7'.mono b6.size); replace BB := BB.trans (b7'.mono (Nat.le_trans hxl BB.size)); obtain ⟨d1, d2, f1, f2⟩ := (HX3.out.below b6 HX3.out.lt).cells) | (have _t := tok4; go_at_call 99; refine (HH.out _ (HR3.out.below b5)).mono ?_; rintro e w6 ⟨rfl, b6'⟩; have b6 := b5.trans (b6'.mono b5.size); replace BB := BB.trans (b6'.mono (Nat.le_trans hxl BB.size)); have tok5 : True := trivial) | (go_at_call 138; refine (HE.out _ HR3.out).mono ?_; rintro e w5 ⟨rfl, b5⟩; replace BB := BB.trans (b5.mono (Nat.le_trans hxl BB.size)); have tok4 : True := trivial))
        all_goals
          have HB7 := Lib.hid (HB3.out.drew.trans (b6.mono HB3.out.size))
          clear b5 b6 b6' b7' BB
          go_wp2_with fail
          refine bodyPost_ret (v := .tuple #[fracV (fN r) (fD r), .bool (fB r)]) (by simp [results, Try.results67, go_sem, d1, d2]) rfl ?_
          exact ⟨rfl, (HB7.out.setCell (by simp) _).setCell (by simp) _⟩
    · have hv' : setB s x = false := by simpa using hv
      rw [hv'] at HV
      rw [show chanceR s xs x = none from if_neg (by simp [chanceB, hv'])]
      clear hm hv hv' hI
      obtain ⟨c1, c2, _, _⟩ := HBM.out.drew.cells
      have hz0 := HBM.out.lt
      clear hr0 hr
      go_enter Try.func67, Try.ntmps67
      go_wp2_with fail
      rw [← HW0.out]
      first | (go_region_with (first | (go_at_call 96; refine (HV.out _).mono ?_; rintro e w' ⟨rfl, rfl⟩) | (go_at_call 95; refine HM.out.mono ?_; rintro e w2 ⟨rfl, b2⟩; have k1 := (b2.cell (p := ⟨w.heap.size, 0, none⟩) hz0).trans c1; have k2 := (b2.cell (p := ⟨w.heap.size, 1, none⟩) hz0).trans c2))) | fail
      all_goals
        have HB2 := Lib.hid (HB0.out.drew.trans (b2.mono HB0.out.size))
        obtain ⟨d1, d2, f1, f2⟩ := (HBX.out.drew.below b2 HBX.out.lt).cells
        go_wp2_with fail
        refine bodyPost_ret (v := .tuple #[fracV 0 0, .bool false]) (by simp [results, Try.results67, go_sem, d1, d2]) rfl ?_
        exact ⟨RetF.none_, (HB2.out.setCell (by simp) _).setCell (by simp) _⟩
  · have hm' : massB s xs = false := by simpa using hm
    rw [hm'] at HM
    rw [show chanceR s xs x = none from if_neg (by simp [chanceB, hm'])]
    clear hm hm'
    obtain ⟨c1, c2, _, _⟩ := HBM.out.drew.cells
    have hz0 := HBM.out.lt
    clear hr0 hr
    go_enter Try.func67, Try.ntmps67
    go_wp2_with fail
    rw [← HW0.out]
    first | (go_region_with ((go_at_call 95; refine HM.out.mono ?_; rintro e w2 ⟨rfl, b2⟩))) | fail
    all_goals
      have HB2 := Lib.hid (HB0.out.drew.trans (b2.mono HB0.out.size))
      obtain ⟨d1, d2, f1, f2⟩ := (HBX.out.drew.below b2 HBX.out.lt).cells
      go_wp2_with fail
      refine bodyPost_ret (v := .tuple #[fracV 0 0, .bool false]) (by simp [results, Try.results67, go_sem, d1, d2]) rfl ?_
      exact ⟨RetF.none_, (HB2.out.setCell (by simp) _).setCell (by simp) _⟩
set_option maxHeartbeats 6400000 in
set_option maxRecDepth 100000 in
theorem sChanceOf_any (s x : Int) (a : Option Addr) (n c : Nat) (xs : List Int) (w : World) (hr : Row w a n xs) (hn : n ≤ 1048576) :
    Calls Try.prog 68 #[massV s a n c, .int .i64 x] w fun e w' => RetF (chanceR s xs x) e ∧ Below w.heap.size w w' := by
  obtain ⟨w0, hw0⟩ : ∃ w0, w0 = (w.alloc (.cells #[.int .i64 s, .slice a n c] 25)).alloc (.cells #[.int .i64 0, .int .i64 0] 40) := ⟨_, rfl⟩
  have HBM : Hid (Box w0 w.heap.size 25 (.int .i64 s) (.slice a n c)) := by rw [hw0]; exact (Box.new _ _ _ _).alloc _
  have HBX : Hid (Box w0 (w.heap.size + 1) 40 (.int .i64 0) (.int .i64 0)) := by rw [hw0]; exact alloc_at (by simp)
  have HB0 : Hid (Below w.heap.size w w0) := by rw [hw0]; exact ((Below.refl _ _).alloc (Nat.le_refl _) _).alloc (by simp) _
  have hr0 := (hr.below HB0.out).below (w' := w0.drew) (Below.refl _ _).drew
  have HW0 := Lib.hid hw0; clear hw0
  have HM := Lib.hid (l3Set_any s x a n c xs w0.drew hr0 hn)
  by_cases hmv : (massB s xs && setB s x) = true
  · rw [hmv] at HM
    simp only [Bool.and_eq_true] at hmv
    have hm := hmv.1
    have hv := hmv.2
    have hI := massB_is hr.1 hm
    obtain ⟨y, rfl, hy⟩ := set_nat hI hv
    clear hmv
    have hnl : n ≤ 16 := by have := hI.nums; omega
    have hpos : 0 < n := by have := hI.nums; omega
    have HH := Lib.hid (fun W (h : Row W a n xs) => l3Whole_any s a n c xs W h hn)
    rw [whole_is hm] at HH
    have HE := Lib.hid (fun W (h : Row W a n xs) => l4Even_any s y a n c xs W h hnl (by omega) (by omega) hI.part)
    have heb := evenOf_bound (a := y) hr.1 hI.part
    have hub := hI.whole
    have h0b := hI.part 0 hpos
    have hsf := sum_first hr.1 hpos (fun k hk => (hI.part k hk).1)
    obtain ⟨b0, off0, v0, rfl, hv0, hc0⟩ := hr0.at_ hpos
    simp only [Nat.add_zero] at hc0
    rw [← hv0] at h0b hsf
    obtain ⟨u, hu⟩ : ∃ u, u = sumL xs := ⟨_, rfl⟩
    rw [← hu] at HH hub hsf
    obtain ⟨e0, he0⟩ : ∃ e, e = evenOf y xs := ⟨_, rfl⟩
    rw [← he0] at HE heb
    have HR := Lib.hid hr0; clear hr0
    have hn0 : (0 : Int) < (n : Int) := by omega
    obtain ⟨c1, c2, _, _⟩ := HBM.out.drew.cells
    have hz0 := HBM.out.lt
    have hz1 : b0 < w0.drew.heap.size := World.block_lt_of_cell? _ _ hc0
    have hlt0 : b0 < w.heap.size := by
      obtain ⟨b', off', h1, h2, _⟩ := hr.2 hpos
      cases h1
      exact h2
    have hne1 : ¬ b0 = w.heap.size + 1 := by omega
    by_cases hq : u = v0
    · have HC : Hid (chanceR s xs ((y : Nat) : Int) = none) := if_neg (by rw [chanceB, ← hu, ← hv0, hq]; simp)
      rw [HC.out]
      clear hm hI hu hv0 HC hr hv he0
      subst hq
      go_enter Try.func68, Try.ntmps68
      go_wp2_with fail
      rw [← HW0.out]
      first
      | (go_region_held3 (fun W => W.cell? ⟨w.heap.size, 0, none⟩ = some (.int .i64 s) ∧ W.cell? ⟨w.heap.size, 1, none⟩ = some (.slice (some ⟨b0, off0, none⟩) n c) ∧ W.cell? ⟨b0, off0, none⟩ = some (.int .i64 u))
        (first | exact ⟨(b3.cell hz0).trans c1, (b3.cell hz0).trans c2, (b3.cell hz1).trans hc0⟩ | exact ⟨(b2.cell hz0).trans c1, (b2.cell hz0).trans c2, (b2.cell hz1).trans hc0⟩ | go_keep)
        (first | (have _t := tok1; go_at_call 117; refine (HH.out _ (HR.out.below b2)).mono ?_; rintro e w3 ⟨rfl, b3'⟩; have b3 := b2.trans (b3'.mono b2.size)) | (go_at_call 130; refine HM.out.mono ?_; rintro e w2 ⟨rfl, b2⟩; have tok1 : True := trivial)))
      | fail
      all_goals
        have HB3 := Lib.hid (HB0.out.drew.trans (b3.mono HB0.out.size))
        obtain ⟨d1, d2, f1, f2⟩ := (HBX.out.drew.below b3 HBX.out.lt).cells
        go_wp2_with fail
        refine bodyPost_ret (v := .tuple #[fracV 0 0, .bool false]) (by simp [results, Try.results68, go_sem, d1, d2]) rfl ?_
        exact ⟨RetF.none_, (HB3.out.setCell (by simp) _).setCell (by simp) _⟩
    · have HC : Hid (chanceR s xs ((y : Nat) : Int) = fracOf e0 (12 * (u - v0))) := by
        show _ = _
        rw [chanceR, fracM, if_pos (by rw [chanceB, ← hu, ← hv0, hm, hv]; simp [hq]), Int.toNat_natCast, he0, hu, hv0]
      rw [HC.out]
      have hne : (u == v0) = false := by simpa using hq
      have hne2 : (v0 == u) = false := by simpa using fun h => hq h.symm
      have HL := Lib.hid (fun W => l2Made_any e0 (12 * (u - v0)) W (by omega) (by omega))
      obtain ⟨r, hr1⟩ : ∃ r, r = fracOf e0 (12 * (u - v0)) := ⟨_, rfl⟩
      rw [← hr1] at HL ⊢
      have e1 : IntKind.i64.wrap (u - v0) = u - v0 := IntWalk.i64_in _ (by omega)
      have e2 : IntKind.i64.wrap (12 * (u - v0)) = 12 * (u - v0) := IntWalk.i64_in _ (by omega)
      clear hm hI hu hv0 HC hr hv hr1 he0
      go_enter Try.func68, Try.ntmps68
      go_wp2_with fail
      rw [← HW0.out]
      first
      | (go_region_held3 (fun W => W.cell? ⟨w.heap.size, 0, none⟩ = some (.int .i64 s) ∧ W.cell? ⟨w.heap.size, 1, none⟩ = some (.slice (some ⟨b0, off0, none⟩) n c) ∧ W.cell? ⟨b0, off0, none⟩ = some (.int .i64 v0))
        (first | exact ⟨(b3.cell hz0).trans c1, (b3.cell hz0).trans c2, (b3.cell hz1).trans hc0⟩ | exact ⟨(b2.cell hz0).trans c1, (b2.cell hz0).trans c2, (b2.cell hz1).trans hc0⟩ | go_keep)
        (first | (have _t := tok1; go_at_call 117; refine (HH.out _ (HR.out.below b2)).mono ?_; rintro e w3 ⟨rfl, b3'⟩; have b3 := b2.trans (b3'.mono b2.size)) | (go_at_call 130; refine HM.out.mono ?_; rintro e w2 ⟨rfl, b2⟩; have tok1 : True := trivial)))
      | fail
      have HB3 := Lib.hid (HB0.out.drew.trans (b3.mono HB0.out.size))
      have HR3 := Lib.hid ((HR.out.below b3).below (w' := w3.drew) (Below.refl _ _).drew)
      have HX3 := Lib.hid (HBX.out.drew.below b3 HBX.out.lt).drew
      obtain ⟨p1, p2, _, _⟩ := (HBM.out.drew.below b3 HBM.out.lt).cells
      have p3 : w3.cell? ⟨b0, off0, none⟩ = some (.int .i64 v0) := (b3.cell (p := ⟨b0, off0, none⟩) hz1).trans hc0
      have y0 : w.heap.size < w3.heap.size := World.block_lt_of_cell? _ _ p1
      have y1 : b0 < w3.heap.size := World.block_lt_of_cell? _ _ p3
      clear b2 b3' b3 c1 c2 hc0 hz0 hz1 tok1 HR HBX HBM
      go_wp2_with fail
      have hxl : w.heap.size + 1 ≤ w3.drew.heap.size := by show w.heap.size + 1 ≤ w3.heap.size; omega
      have BB : Below (w.heap.size + 1) w3.drew w3.drew := Below.refl _ _
      have HKS : Hid (∀ W : World, Below (w.heap.size + 1) w3.drew W → (W.cell? ⟨w.heap.size, 0, none⟩ = some (.int .i64 s) ∧ W.cell? ⟨w.heap.size, 1, none⟩ = some (.slice (some ⟨b0, off0, none⟩) n c) ∧ W.cell? ⟨b0, off0, none⟩ = some (.int .i64 v0))) := fun W hB => ⟨(hB.cell (p := ⟨w.heap.size, 0, none⟩) (by simp)).trans p1, (hB.cell (p := ⟨w.heap.size, 1, none⟩) (by simp)).trans p2, (hB.cell (p := ⟨b0, off0, none⟩) (by simp; omega)).trans p3⟩
      go_region_held3 (fun W => W.cell? ⟨w.heap.size, 0, none⟩ = some (.int .i64 s) ∧ W.cell? ⟨w.heap.size, 1, none⟩ = some (.slice (some ⟨b0, off0, none⟩) n c) ∧ W.cell? ⟨b0, off0, none⟩ = some (.int .i64 v0))
        (first | exact HKS.out _ BB | exact HKS.out _ ((BB.setCell (Nat.le_refl _) _).setCell (Nat.le_refl _) _))
        (first | (have _t := tok5; go_at_call 116; refine (HL.out _).mono ?_; rintro e w7 ⟨rfl, b7'⟩; replace b6 := b6.trans (b7'.mono b6.size); replace BB := BB.trans (b7'.mono (Nat.le_trans hxl BB.size)); obtain ⟨d1, d2, f1, f2⟩ := (HX3.out.below b6 HX3.out.lt).cells) | (have _t := tok4; go_at_call 117; refine (HH.out _ (HR3.out.below b5)).mono ?_; rintro e w6 ⟨rfl, b6'⟩; have b6 := b5.trans (b6'.mono b5.size); replace BB := BB.trans (b6'.mono (Nat.le_trans hxl BB.size)); have tok5 : True := trivial) | (go_at_call 139; refine (HE.out _ HR3.out).mono ?_; rintro e w5 ⟨rfl, b5⟩; replace BB := BB.trans (b5.mono (Nat.le_trans hxl BB.size)); have tok4 : True := trivial))
      all_goals
        have HB7 := Lib.hid (HB3.out.drew.trans (b6.mono HB3.out.size))
        clear b5 b6 b6' b7' BB
        go_wp2_with fail
        refine bodyPost_ret (v := .tuple #[fracV (fN r) (fD r), .bool (fB r)]) (by simp [results, Try.results68, go_sem, d1, d2]) rfl ?_
        exact ⟨rfl, (HB7.out.setCell (by simp) _).setCell (by simp) _⟩
  · have hm' : (massB s xs && setB s x) = false := by simpa using hmv
    rw [hm'] at HM
    rw [show chanceR s xs x = none from if_neg (by rw [chanceB, hm']; simp)]
    clear hmv hm'
    obtain ⟨c1, c2, _, _⟩ := HBM.out.drew.cells
    have hz0 := HBM.out.lt
    clear hr0 hr
    go_enter Try.func68, Try.ntmps68
    go_wp2_with fail
    rw [← HW0.out]
    first | (go_region_with ((go_at_call 130; refine HM.out.mono ?_; rintro e w2 ⟨rfl, b2⟩))) | fail
    all_goals
      have HB2 := Lib.hid (HB0.out.drew.trans (b2.mono HB0.out.size))
      obtain ⟨d1, d2, f1, f2⟩ := (HBX.out.drew.below b2 HBX.out.lt).cells
      go_wp2_with fail
      refine bodyPost_ret (v := .tuple #[fracV 0 0, .bool false]) (by simp [results, Try.results68, go_sem, d1, d2]) rfl ?_
      exact ⟨RetF.none_, (HB2.out.setCell (by simp) _).setCell (by simp) _⟩
end Go.Proofs.Ytffkpmmgfgcngaa
