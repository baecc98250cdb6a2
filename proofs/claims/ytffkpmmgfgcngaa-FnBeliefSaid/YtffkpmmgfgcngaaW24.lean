/- Contracts of BeliefOf and PossibilityOf, of the program and of the reference. -/
import Derived.Test.YtffkpmmgfgcngaaW23
import Derived.Test.YtffkpmmgfgcngaaW21
import Derived.Test.YtffkpmmgfgcngaaW14
import Derived.Deep.RegionHeld3
namespace Go.Proofs.Ytffkpmmgfgcngaa
open Go.RowKit

set_option maxHeartbeats 3200000 in
set_option maxRecDepth 100000 in
theorem l4Of_any (s x : Int) (a : Option Addr) (n c : Nat) (xs : List Int) (w : World) (hr : Row w a n xs) (hn : n ≤ 1048576) (hx : x < 0 ∨ (0 ≤ x ∧ x ≤ 4000000000000000000 ∧ massB s xs = true)) :
    Calls Try.prog 136 #[massV s a n c, .int .i64 x] w fun e w' => RetF (if x < 0 then none else fracOf x (sumL xs)) e ∧ Below w.heap.size w w' := by
  obtain ⟨w0, hw0⟩ : ∃ w0, w0 = (w.alloc (.cells #[.int .i64 s, .slice a n c] 25)).alloc (.cells #[.int .i64 0, .int .i64 0] 40) := ⟨_, rfl⟩
  have HBM : Hid (Box w0 w.heap.size 25 (.int .i64 s) (.slice a n c)) := by rw [hw0]; exact (Box.new _ _ _ _).alloc _
  have HBX : Hid (Box w0 (w.heap.size + 1) 40 (.int .i64 0) (.int .i64 0)) := by rw [hw0]; exact alloc_at (by simp)
  have HB0 : Hid (Below w.heap.size w w0) := by rw [hw0]; exact ((Below.refl _ _).alloc (Nat.le_refl _) _).alloc (by simp) _
  have hr0 := hr.below HB0.out
  have HW0 := Lib.hid hw0; clear hw0
  by_cases hx0 : x < 0
  · rw [if_pos hx0]
    obtain ⟨d1, d2, f1, f2⟩ := HBX.out.cells
    clear hx
    go_enter Try.func136, Try.ntmps136
    go_wp2_with fail
    rw [← HW0.out]
    refine bodyPost_ret (v := .tuple #[fracV 0 0, .bool false]) (by simp [results, Try.results136, go_sem, d1, d2]) rfl ?_
    exact ⟨RetF.none_, HB0.out⟩
  · rw [if_neg hx0]
    have hm : massB s xs = true := by rcases hx with h | h
                                      · exact absurd h hx0
                                      · exact h.2.2
    have hI := massB_is hr.1 hm
    have hub := hI.whole
    have HH := Lib.hid (l3Whole_any s a n c xs w0 hr0 hn)
    rw [whole_is hm] at HH
    have hxb : 0 ≤ x ∧ x ≤ 4000000000000000000 := by rcases hx with h | h
                                                     · exact absurd h hx0
                                                     · exact ⟨h.1, h.2.1⟩
    obtain ⟨u, hu⟩ : ∃ u, u = sumL xs := ⟨_, rfl⟩
    rw [← hu] at HH hub ⊢
    have HL := Lib.hid (fun W => l2Made_any x u W (by omega) (by omega))
    obtain ⟨r, hr1⟩ : ∃ r, r = fracOf x u := ⟨_, rfl⟩
    rw [← hr1] at HL ⊢
    clear hr1 hu hm hI hx hr hr0
    obtain ⟨c1, c2, _, _⟩ := HBM.out.cells
    go_enter Try.func136, Try.ntmps136
    go_wp2_with fail
    rw [← HW0.out]
    refine HH.out.mono ?_
    rintro e w1 ⟨rfl, b1⟩
    have HX1 := Lib.hid (HBX.out.below b1 HBX.out.lt)
    have HB1 := Lib.hid (HB0.out.trans (b1.mono HB0.out.size))
    clear b1 c1 c2 HBX HBM HB0
    go_wp2_with fail
    refine (HL.out _).mono ?_
    rintro e w2 ⟨rfl, b2⟩
    obtain ⟨d1, d2, f1, f2⟩ := (HX1.out.below b2 HX1.out.lt).cells
    have HB2 := Lib.hid (HB1.out.trans (b2.mono HB1.out.size))
    clear b2
    go_wp2_with fail
    refine bodyPost_ret (v := .tuple #[fracV (fN r) (fD r), .bool (fB r)]) (by simp [results, Try.results136, go_sem, d1, d2]) rfl ?_
    exact ⟨rfl, (HB2.out.setCell (by simp) _).setCell (by simp) _⟩
set_option maxHeartbeats 3200000 in
set_option maxRecDepth 100000 in
theorem sBeliefOf_any (s x : Int) (a : Option Addr) (n c : Nat) (xs : List Int) (w : World) (hr : Row w a n xs) (hn : n ≤ 1048576) :
    Calls Try.prog 63 #[massV s a n c, .int .i64 x] w fun e w' => RetF (beliefR s xs x) e ∧ Below w.heap.size w w' := by
  have hE : beliefR s xs x = (if measure s xs x (partOf (fun j => subB j x.toNat) xs - xs.getD 0 0) < 0 then none else fracOf (measure s xs x (partOf (fun j => subB j x.toNat) xs - xs.getD 0 0)) (sumL xs)) ∧ (measure s xs x (partOf (fun j => subB j x.toNat) xs - xs.getD 0 0) < 0 ∨ (0 ≤ measure s xs x (partOf (fun j => subB j x.toNat) xs - xs.getD 0 0) ∧ measure s xs x (partOf (fun j => subB j x.toNat) xs - xs.getD 0 0) ≤ 4000000000000000000 ∧ massB s xs = true)) := by
    by_cases h : (massB s xs && setB s x) = true
    · have h1 : massB s xs = true := by simp only [Bool.and_eq_true] at h; exact h.1
      have hI := massB_is hr.1 h1
      have hxb := hI.part 0 (by have := hI.nums; omega)
      have hnl : n ≤ 16 := by have := hI.nums; omega
      have hpb := partOf_bound (pr := fun j => subB j x.toNat) hr.1 hI.part
      have hp0 : 0 ≤ partOf (fun j => subB j x.toNat) xs - xs.getD 0 0 := part_zero hr.1 hI.part (by have := hI.nums; omega) (by simp [subB])
      rw [beliefR, fracM, if_pos h, measure, if_pos h]
      refine ⟨(if_neg (by omega)).symm, .inr ⟨hp0, by omega, h1⟩⟩
    · rw [beliefR, fracM, if_neg h, measure, if_neg h]
      exact ⟨(if_pos (by omega)).symm, .inl (by omega)⟩
  obtain ⟨w0, hw0⟩ : ∃ w0, w0 = (w.alloc (.cells #[.int .i64 s, .slice a n c] 25)).alloc (.cells #[.int .i64 0, .int .i64 0] 40) := ⟨_, rfl⟩
  have HBM : Hid (Box w0 w.heap.size 25 (.int .i64 s) (.slice a n c)) := by rw [hw0]; exact (Box.new _ _ _ _).alloc _
  have HBX : Hid (Box w0 (w.heap.size + 1) 40 (.int .i64 0) (.int .i64 0)) := by rw [hw0]; exact alloc_at (by simp)
  have HB0 : Hid (Below w.heap.size w w0) := by rw [hw0]; exact ((Below.refl _ _).alloc (Nat.le_refl _) _).alloc (by simp) _
  have hr0 := hr.below HB0.out
  have HW0 := Lib.hid hw0; clear hw0
  have HP := Lib.hid (sBelievedPart_any s x a n c xs w0.drew (hr0.below (w' := w0.drew) (Below.refl _ _).drew) hn)
  obtain ⟨z, hz⟩ : ∃ z, z = measure s xs x (partOf (fun j => subB j x.toNat) xs - xs.getD 0 0) := ⟨_, rfl⟩
  rw [← hz] at hE HP
  have HL := Lib.hid (fun W h => l4Of_any s z a n c xs W h hn hE.2)
  rw [← hE.1] at HL
  obtain ⟨r, hr1⟩ : ∃ r, r = beliefR s xs x := ⟨_, rfl⟩
  rw [← hr1] at HL ⊢
  have HR1 := Lib.hid (hr0.below (w' := w0.drew) (Below.refl _ _).drew)
  clear hr1 hz hE hr0 hr
  obtain ⟨c1, c2, _, _⟩ := HBM.out.drew.cells
  have hz0 := HBM.out.lt
  go_enter Try.func63, Try.ntmps63
  go_wp2_with fail
  rw [← HW0.out]
  go_region_held3 (fun W => W.cell? ⟨w.heap.size, 0, none⟩ = some (.int .i64 s) ∧ W.cell? ⟨w.heap.size, 1, none⟩ = some (.slice a n c))
    (first | go_keep | exact ⟨(b3.cell hz0).trans c1, (b3.cell hz0).trans c2⟩ | exact ⟨(b2.cell hz0).trans c1, (b2.cell hz0).trans c2⟩)
    (first | (have _t := tok1; go_at_call 136; refine (HL.out _ (HR1.out.below b2)).mono ?_; rintro e w3 ⟨rfl, b3'⟩; have b3 := b2.trans (b3'.mono b2.size); obtain ⟨d1, d2, f1, f2⟩ := (HBX.out.drew.below b3 HBX.out.lt).cells) | (go_at_call 57; refine HP.out.mono ?_; rintro e w2 ⟨rfl, b2⟩; have tok1 : True := trivial))
  all_goals
    have HB3 := Lib.hid (HB0.out.drew.trans (b3.mono HB0.out.size))
    clear b2 b3 b3'
    go_wp2_with fail
    refine bodyPost_ret (v := .tuple #[fracV (fN r) (fD r), .bool (fB r)]) (by simp [results, Try.results63, go_sem, d1, d2]) rfl ?_
    exact ⟨rfl, (HB3.out.setCell (by simp) _).setCell (by simp) _⟩
set_option maxHeartbeats 3200000 in
set_option maxRecDepth 100000 in
theorem sPossibilityOf_any (s x : Int) (a : Option Addr) (n c : Nat) (xs : List Int) (w : World) (hr : Row w a n xs) (hn : n ≤ 1048576) :
    Calls Try.prog 64 #[massV s a n c, .int .i64 x] w fun e w' => RetF (possR s xs x) e ∧ Below w.heap.size w w' := by
  have hE : possR s xs x = (if measure s xs x (partOf (fun j => meetB x.toNat j) xs) < 0 then none else fracOf (measure s xs x (partOf (fun j => meetB x.toNat j) xs)) (sumL xs)) ∧ (measure s xs x (partOf (fun j => meetB x.toNat j) xs) < 0 ∨ (0 ≤ measure s xs x (partOf (fun j => meetB x.toNat j) xs) ∧ measure s xs x (partOf (fun j => meetB x.toNat j) xs) ≤ 4000000000000000000 ∧ massB s xs = true)) := by
    by_cases h : (massB s xs && setB s x) = true
    · have h1 : massB s xs = true := by simp only [Bool.and_eq_true] at h; exact h.1
      have hI := massB_is hr.1 h1
      have hxb := hI.part 0 (by have := hI.nums; omega)
      have hnl : n ≤ 16 := by have := hI.nums; omega
      have hpb := partOf_bound (pr := fun j => meetB x.toNat j) hr.1 hI.part
      have hp0 : 0 ≤ partOf (fun j => meetB x.toNat j) xs := hpb.1
      rw [possR, fracM, if_pos h, measure, if_pos h]
      refine ⟨(if_neg (by omega)).symm, .inr ⟨hp0, by omega, h1⟩⟩
    · rw [possR, fracM, if_neg h, measure, if_neg h]
      exact ⟨(if_pos (by omega)).symm, .inl (by omega)⟩
  obtain ⟨w0, hw0⟩ : ∃ w0, w0 = (w.alloc (.cells #[.int .i64 s, .slice a n c] 25)).alloc (.cells #[.int .i64 0, .int .i64 0] 40) := ⟨_, rfl⟩
  have HBM : Hid (Box w0 w.heap.size 25 (.int .i64 s) (.slice a n c)) := by rw [hw0]; exact (Box.new _ _ _ _).alloc _
  have HBX : Hid (Box w0 (w.heap.size + 1) 40 (.int .i64 0) (.int .i64 0)) := by rw [hw0]; exact alloc_at (by simp)
  have HB0 : Hid (Below w.heap.size w w0) := by rw [hw0]; exact ((Below.refl _ _).alloc (Nat.le_refl _) _).alloc (by simp) _
  have hr0 := hr.below HB0.out
  have HW0 := Lib.hid hw0; clear hw0
  have HP := Lib.hid (sPossiblePart_any s x a n c xs w0.drew (hr0.below (w' := w0.drew) (Below.refl _ _).drew) hn)
  obtain ⟨z, hz⟩ : ∃ z, z = measure s xs x (partOf (fun j => meetB x.toNat j) xs) := ⟨_, rfl⟩
  rw [← hz] at hE HP
  have HL := Lib.hid (fun W h => l4Of_any s z a n c xs W h hn hE.2)
  rw [← hE.1] at HL
  obtain ⟨r, hr1⟩ : ∃ r, r = possR s xs x := ⟨_, rfl⟩
  rw [← hr1] at HL ⊢
  have HR1 := Lib.hid (hr0.below (w' := w0.drew) (Below.refl _ _).drew)
  clear hr1 hz hE hr0 hr
  obtain ⟨c1, c2, _, _⟩ := HBM.out.drew.cells
  have hz0 := HBM.out.lt
  go_enter Try.func64, Try.ntmps64
  go_wp2_with fail
  rw [← HW0.out]
  go_region_held3 (fun W => W.cell? ⟨w.heap.size, 0, none⟩ = some (.int .i64 s) ∧ W.cell? ⟨w.heap.size, 1, none⟩ = some (.slice a n c))
    (first | go_keep | exact ⟨(b3.cell hz0).trans c1, (b3.cell hz0).trans c2⟩ | exact ⟨(b2.cell hz0).trans c1, (b2.cell hz0).trans c2⟩)
    (first | (have _t := tok1; go_at_call 136; refine (HL.out _ (HR1.out.below b2)).mono ?_; rintro e w3 ⟨rfl, b3'⟩; have b3 := b2.trans (b3'.mono b2.size); obtain ⟨d1, d2, f1, f2⟩ := (HBX.out.drew.below b3 HBX.out.lt).cells) | (go_at_call 58; refine HP.out.mono ?_; rintro e w2 ⟨rfl, b2⟩; have tok1 : True := trivial))
  all_goals
    have HB3 := Lib.hid (HB0.out.drew.trans (b3.mono HB0.out.size))
    clear b2 b3 b3'
    go_wp2_with fail
    refine bodyPost_ret (v := .tuple #[fracV (fN r) (fD r), .bool (fB r)]) (by simp [results, Try.results64, go_sem, d1, d2]) rfl ?_
    exact ⟨rfl, (HB3.out.setCell (by simp) _).setCell (by simp) _⟩
set_option maxHeartbeats 3200000 in
set_option maxRecDepth 100000 in
theorem iBeliefOf_any (s x : Int) (a : Option Addr) (n c : Nat) (xs : List Int) (w : World) (hr : Row w a n xs) (hn : n ≤ 1048576) :
    Calls Try.prog 61 #[massV s a n c, .int .i64 x] w fun e w' => RetF (beliefR s xs x) e ∧ Below w.heap.size w w' := by
  obtain ⟨w0, hw0⟩ : ∃ w0, w0 = (w.alloc (.cells #[.int .i64 s, .slice a n c] 25)).alloc (.cells #[.int .i64 0, .int .i64 0] 40) := ⟨_, rfl⟩
  have HBM : Hid (Box w0 w.heap.size 25 (.int .i64 s) (.slice a n c)) := by rw [hw0]; exact (Box.new _ _ _ _).alloc _
  have HBX : Hid (Box w0 (w.heap.size + 1) 40 (.int .i64 0) (.int .i64 0)) := by rw [hw0]; exact alloc_at (by simp)
  have HB0 : Hid (Below w.heap.size w w0) := by rw [hw0]; exact ((Below.refl _ _).alloc (Nat.le_refl _) _).alloc (by simp) _
  have hr0 := hr.below HB0.out
  have HW0 := Lib.hid hw0; clear hw0
  have HM := Lib.hid (isMass_any s a n c xs w0 hr0 hn)
  by_cases hm : massB s xs = true
  · have hI := massB_is hr.1 hm
    have HV := Lib.hid (fun W => isSetOf_any s x W hI.size)
    rw [hm] at HM
    by_cases hv : setB s x = true
    · rw [hv] at HV
      have HR : Hid (beliefR s xs x = fracOf (partOf (fun j => subB j x.toNat) xs - xs.getD 0 0) (sumL xs)) := by show _ = _; rw [beliefR, fracM, hm, hv]; rfl
      rw [HR.out]
      obtain ⟨y, rfl, hy⟩ := set_nat hI hv
      rw [Int.toNat_natCast]
      have hnl : n ≤ 16 := by have := hI.nums; omega
      have hxb := hI.part 0 (by have := hI.nums; omega)
      have hpb := partOf_bound (pr := fun j => subB j y) hr.1 hI.part
      have hub := hI.whole
      have HP := Lib.hid (fun W h => impliedPart_any s y a n c xs W h hnl (by omega) hI.part)
      have HH := Lib.hid (fun W h => wholeOf_any s a n c xs W h hnl hI.part)
      obtain ⟨z, hz⟩ : ∃ z, z = partOf (fun j => subB j y) xs := ⟨_, rfl⟩
      obtain ⟨u, hu⟩ : ∃ u, u = sumL xs := ⟨_, rfl⟩
      rw [← hz] at HP hpb ⊢
      rw [← hu] at HH hub ⊢
      have hnn : 0 < n := by have := hI.nums; omega
      clear hm hv hI hz hu HR
      obtain ⟨b0, off0, v, rfl, hv, hc0⟩ := hr.at_ hnn
      simp only [Nat.add_zero] at hc0
      have hlt0 := World.block_lt_of_cell? _ _ hc0
      rw [← hv] at hxb ⊢
      clear hv
      have HL := Lib.hid (fun W => lowest_any (z - v) u W (by omega) (by omega))
      obtain ⟨r, hr1⟩ : ∃ r, r = fracOf (z - v) u := ⟨_, rfl⟩
      rw [← hr1] at HL ⊢
      clear hr1
      have e1 : IntKind.i64.wrap (z - v) = z - v := IntWalk.i64_in _ (by omega)
      go_enter Try.func61, Try.ntmps61
      go_wp2_with fail
      rw [← HW0.out]
      refine HM.out.mono ?_
      rintro e w1 ⟨rfl, b1⟩
      have HX1 := Lib.hid (HBX.out.below b1 HBX.out.lt)
      obtain ⟨c1, c2, _, _⟩ := (HBM.out.below b1 HBM.out.lt).cells
      have HR1 := Lib.hid ((hr0.below b1).below (w' := w1.drew) (Below.refl _ _).drew)
      have HB1 := Lib.hid (HB0.out.trans (b1.mono HB0.out.size))
      have hz0 : w.heap.size < w1.heap.size := World.block_lt_of_cell? _ _ c1
      have hc1 : w1.cell? ⟨b0, off0, none⟩ = some (.int .i64 v) := (HB1.out.cell (p := ⟨b0, off0, none⟩) hlt0).trans hc0
      have hz1 : b0 < w1.heap.size := World.block_lt_of_cell? _ _ hc1
      have hne1 : ¬ w.heap.size + 1 = b0 := by have : b0 < w.heap.size := hlt0; omega
      have hne2 : ¬ b0 = w.heap.size + 1 := fun h => hne1 h.symm
      have hn0 : (0 : Int) < (n : Int) := by omega
      clear hc0 hlt0
      clear b1 hr hr0 HM HBX HBM
      go_wp2_with (go_at_call 96; refine (HV.out _).mono ?_; rintro e w' ⟨rfl, rfl⟩)
      go_region_held3 (fun W => W.cell? ⟨w.heap.size, 0, none⟩ = some (.int .i64 s) ∧ W.cell? ⟨w.heap.size, 1, none⟩ = some (.slice (some ⟨b0, off0, none⟩) n c) ∧ W.cell? ⟨b0, off0, none⟩ = some (.int .i64 v))
        (first | go_keep | exact ⟨(b2.cell hz0).trans c1, (b2.cell hz0).trans c2, (b2.cell hz1).trans hc1⟩ | exact ⟨(b3.cell hz0).trans c1, (b3.cell hz0).trans c2, (b3.cell hz1).trans hc1⟩ | exact ⟨(b4.cell hz0).trans c1, (b4.cell hz0).trans c2, (b4.cell hz1).trans hc1⟩)
        (first | (have _t := tok2; go_at_call 114; refine (HL.out _).mono ?_; rintro e w4 ⟨rfl, b4'⟩; have b4 := b3.trans (b4'.mono b3.size); obtain ⟨d1, d2, f1, f2⟩ := (HX1.out.drew.below b4 HX1.out.lt).cells) | (have _t := tok1; go_at_call 99; refine (HH.out _ (HR1.out.below b2)).mono ?_; rintro e w3 ⟨rfl, b3'⟩; have b3 := b2.trans (b3'.mono b2.size); have tok2 : True := trivial) | (go_at_call 105; refine (HP.out _ HR1.out).mono ?_; rintro e w2 ⟨rfl, b2⟩; have tok1 : True := trivial))
      all_goals
        have HB4 := Lib.hid (HB1.out.drew.trans (b4.mono HB1.out.size))
        clear b2 b3 b3' b4 b4'
        go_wp2_with fail
        refine bodyPost_ret (v := .tuple #[fracV (fN r) (fD r), .bool (fB r)]) (by simp [results, Try.results61, go_sem, d1, d2]) rfl ?_
        exact ⟨rfl, (HB4.out.setCell (by simp) _).setCell (by simp) _⟩
    · have hv' : setB s x = false := by simpa using hv
      rw [hv'] at HV
      have HR : Hid (beliefR s xs x = none) := by show _ = _; rw [beliefR, fracM, hm, hv']; simp
      rw [HR.out]
      clear HR hm hv hv'
      go_enter Try.func61, Try.ntmps61
      go_wp2_with fail
      rw [← HW0.out]
      refine HM.out.mono ?_
      rintro e w1 ⟨rfl, b1⟩
      obtain ⟨d1, d2, f1, f2⟩ := (HBX.out.below b1 HBX.out.lt).cells
      obtain ⟨c1, c2, _, _⟩ := (HBM.out.below b1 HBM.out.lt).cells
      have HB1 := Lib.hid (HB0.out.trans (b1.mono HB0.out.size))
      clear b1
      go_wp2_with (go_at_call 96; refine (HV.out _).mono ?_; rintro e w' ⟨rfl, rfl⟩)
      refine bodyPost_ret (v := .tuple #[fracV 0 0, .bool false]) (by simp [results, Try.results61, go_sem, d1, d2]) rfl ?_
      exact ⟨RetF.none_, (HB1.out.setCell (by simp) _).setCell (by simp) _⟩
  · have hm' : massB s xs = false := by simpa using hm
    rw [hm'] at HM
    have HR : Hid (beliefR s xs x = none) := by show _ = _; rw [beliefR, fracM, hm']; rfl
    rw [HR.out]
    clear HR hm hm'
    go_enter Try.func61, Try.ntmps61
    go_wp2_with fail
    rw [← HW0.out]
    refine HM.out.mono ?_
    rintro e w1 ⟨rfl, b1⟩
    obtain ⟨d1, d2, f1, f2⟩ := (HBX.out.below b1 HBX.out.lt).cells
    obtain ⟨c1, c2, _, _⟩ := (HBM.out.below b1 HBM.out.lt).cells
    have HB1 := Lib.hid (HB0.out.trans (b1.mono HB0.out.size))
    clear b1
    go_wp2_with fail
    refine bodyPost_ret (v := .tuple #[fracV 0 0, .bool false]) (by simp [results, Try.results61, go_sem, d1, d2]) rfl ?_
    exact ⟨RetF.none_, (HB1.out.setCell (by simp) _).setCell (by simp) _⟩
set_option maxHeartbeats 3200000 in
set_option maxRecDepth 100000 in
theorem iPossibilityOf_any (s x : Int) (a : Option Addr) (n c : Nat) (xs : List Int) (w : World) (hr : Row w a n xs) (hn : n ≤ 1048576) :
    Calls Try.prog 62 #[massV s a n c, .int .i64 x] w fun e w' => RetF (possR s xs x) e ∧ Below w.heap.size w w' := by
  obtain ⟨w0, hw0⟩ : ∃ w0, w0 = (w.alloc (.cells #[.int .i64 s, .slice a n c] 25)).alloc (.cells #[.int .i64 0, .int .i64 0] 40) := ⟨_, rfl⟩
  have HBM : Hid (Box w0 w.heap.size 25 (.int .i64 s) (.slice a n c)) := by rw [hw0]; exact (Box.new _ _ _ _).alloc _
  have HBX : Hid (Box w0 (w.heap.size + 1) 40 (.int .i64 0) (.int .i64 0)) := by rw [hw0]; exact alloc_at (by simp)
  have HB0 : Hid (Below w.heap.size w w0) := by rw [hw0]; exact ((Below.refl _ _).alloc (Nat.le_refl _) _).alloc (by simp) _
  have hr0 := hr.below HB0.out
  have HW0 := Lib.hid hw0; clear hw0
  have HM := Lib.hid (isMass_any s a n c xs w0 hr0 hn)
  by_cases hm : massB s xs = true
  · have hI := massB_is hr.1 hm
    have HV := Lib.hid (fun W => isSetOf_any s x W hI.size)
    rw [hm] at HM
    by_cases hv : setB s x = true
    · rw [hv] at HV
      have HR : Hid (possR s xs x = fracOf (partOf (fun j => meetB x.toNat j) xs) (sumL xs)) := by show _ = _; rw [possR, fracM, hm, hv]; rfl
      rw [HR.out]
      obtain ⟨y, rfl, hy⟩ := set_nat hI hv
      rw [Int.toNat_natCast]
      have hnl : n ≤ 16 := by have := hI.nums; omega
      have hxb := hI.part 0 (by have := hI.nums; omega)
      have hpb := partOf_bound (pr := fun j => meetB y j) hr.1 hI.part
      have hub := hI.whole
      have HP := Lib.hid (fun W h => possiblePart_any s y a n c xs W h hnl (by omega) hI.part)
      have HH := Lib.hid (fun W h => wholeOf_any s a n c xs W h hnl hI.part)
      obtain ⟨z, hz⟩ : ∃ z, z = partOf (fun j => meetB y j) xs := ⟨_, rfl⟩
      obtain ⟨u, hu⟩ : ∃ u, u = sumL xs := ⟨_, rfl⟩
      rw [← hz] at HP hpb ⊢
      rw [← hu] at HH hub ⊢
      have hnn : 0 < n := by have := hI.nums; omega
      clear hm hv hI hz hu HR
      have HL := Lib.hid (fun W => lowest_any z u W (by omega) (by omega))
      obtain ⟨r, hr1⟩ : ∃ r, r = fracOf z u := ⟨_, rfl⟩
      rw [← hr1] at HL ⊢
      clear hr1
      go_enter Try.func62, Try.ntmps62
      go_wp2_with fail
      rw [← HW0.out]
      refine HM.out.mono ?_
      rintro e w1 ⟨rfl, b1⟩
      have HX1 := Lib.hid (HBX.out.below b1 HBX.out.lt)
      obtain ⟨c1, c2, _, _⟩ := (HBM.out.below b1 HBM.out.lt).cells
      have HR1 := Lib.hid ((hr0.below b1).below (w' := w1.drew) (Below.refl _ _).drew)
      have HB1 := Lib.hid (HB0.out.trans (b1.mono HB0.out.size))
      have hz0 : w.heap.size < w1.heap.size := World.block_lt_of_cell? _ _ c1
      clear b1 hr hr0 HM HBX HBM
      go_wp2_with (go_at_call 96; refine (HV.out _).mono ?_; rintro e w' ⟨rfl, rfl⟩)
      go_region_held3 (fun W => W.cell? ⟨w.heap.size, 0, none⟩ = some (.int .i64 s) ∧ W.cell? ⟨w.heap.size, 1, none⟩ = some (.slice a n c))
        (first | go_keep | exact ⟨(b2.cell hz0).trans c1, (b2.cell hz0).trans c2⟩ | exact ⟨(b3.cell hz0).trans c1, (b3.cell hz0).trans c2⟩ | exact ⟨(b4.cell hz0).trans c1, (b4.cell hz0).trans c2⟩)
        (first | (have _t := tok2; go_at_call 114; refine (HL.out _).mono ?_; rintro e w4 ⟨rfl, b4'⟩; have b4 := b3.trans (b4'.mono b3.size); obtain ⟨d1, d2, f1, f2⟩ := (HX1.out.drew.below b4 HX1.out.lt).cells) | (have _t := tok1; go_at_call 99; refine (HH.out _ (HR1.out.below b2)).mono ?_; rintro e w3 ⟨rfl, b3'⟩; have b3 := b2.trans (b3'.mono b2.size); have tok2 : True := trivial) | (go_at_call 113; refine (HP.out _ HR1.out).mono ?_; rintro e w2 ⟨rfl, b2⟩; have tok1 : True := trivial))
      all_goals
        have HB4 := Lib.hid (HB1.out.drew.trans (b4.mono HB1.out.size))
        clear b2 b3 b3' b4 b4'
        go_wp2_with fail
        refine bodyPost_ret (v := .tuple #[fracV (fN r) (fD r), .bool (fB r)]) (by simp [results, Try.results62, go_sem, d1, d2]) rfl ?_
        exact ⟨rfl, (HB4.out.setCell (by simp) _).setCell (by simp) _⟩
    · have hv' : setB s x = false := by simpa using hv
      rw [hv'] at HV
      have HR : Hid (possR s xs x = none) := by show _ = _; rw [possR, fracM, hm, hv']; simp
      rw [HR.out]
      clear HR hm hv hv'
      go_enter Try.func62, Try.ntmps62
      go_wp2_with fail
      rw [← HW0.out]
      refine HM.out.mono ?_
      rintro e w1 ⟨rfl, b1⟩
      obtain ⟨d1, d2, f1, f2⟩ := (HBX.out.below b1 HBX.out.lt).cells
      obtain ⟨c1, c2, _, _⟩ := (HBM.out.below b1 HBM.out.lt).cells
      have HB1 := Lib.hid (HB0.out.trans (b1.mono HB0.out.size))
      clear b1
      go_wp2_with (go_at_call 96; refine (HV.out _).mono ?_; rintro e w' ⟨rfl, rfl⟩)
      refine bodyPost_ret (v := .tuple #[fracV 0 0, .bool false]) (by simp [results, Try.results62, go_sem, d1, d2]) rfl ?_
      exact ⟨RetF.none_, (HB1.out.setCell (by simp) _).setCell (by simp) _⟩
  · have hm' : massB s xs = false := by simpa using hm
    rw [hm'] at HM
    have HR : Hid (possR s xs x = none) := by show _ = _; rw [possR, fracM, hm']; rfl
    rw [HR.out]
    clear HR hm hm'
    go_enter Try.func62, Try.ntmps62
    go_wp2_with fail
    rw [← HW0.out]
    refine HM.out.mono ?_
    rintro e w1 ⟨rfl, b1⟩
    obtain ⟨d1, d2, f1, f2⟩ := (HBX.out.below b1 HBX.out.lt).cells
    obtain ⟨c1, c2, _, _⟩ := (HBM.out.below b1 HBM.out.lt).cells
    have HB1 := Lib.hid (HB0.out.trans (b1.mono HB0.out.size))
    clear b1
    go_wp2_with fail
    refine bodyPost_ret (v := .tuple #[fracV 0 0, .bool false]) (by simp [results, Try.results62, go_sem, d1, d2]) rfl ?_
    exact ⟨RetF.none_, (HB1.out.setCell (by simp) _).setCell (by simp) _⟩
end Go.Proofs.Ytffkpmmgfgcngaa
