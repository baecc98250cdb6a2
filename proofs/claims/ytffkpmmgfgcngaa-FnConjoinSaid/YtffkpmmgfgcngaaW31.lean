/- Contracts of two masses combined, of the reference. -/
import Derived.Test.YtffkpmmgfgcngaaW29
import Derived.Test.YtffkpmmgfgcngaaW18
import Derived.Deep.RegionHeld3
namespace Go.Proofs.Ytffkpmmgfgcngaa
open Go.RowKit

set_option maxHeartbeats 3200000 in
set_option maxRecDepth 100000 in
theorem l6Told_and_any (sM sN : Int) (aM aN : Option Addr) (nM nN cM cN : Nat) (xsM xsN : List Int) (w : World) (hM : Row w aM nM xsM) (hN : Row w aN nN xsN) (hnM : nM ≤ 1048576) (hnN : nN ≤ 1048576) :
    Calls Try.prog 94 #[massV sM aM nM cM, massV sN aN nN cN, .string { data := #[97, 110, 100] }] w fun e w' => RetM w.heap.size (conjR sM xsM sN xsN) e w' ∧ Below w.heap.size w w' := by
  obtain ⟨w0, hw0⟩ : ∃ w0, w0 = ((w.alloc (.cells #[.int .i64 sM, .slice aM nM cM] 25)).alloc (.cells #[.int .i64 sN, .slice aN nN cN] 25)).alloc (.cells #[.int .i64 0, .slice none 0 0] 25) := ⟨_, rfl⟩
  have HBM : Hid (Box w0 w.heap.size 25 (.int .i64 sM) (.slice aM nM cM)) := by rw [hw0]; exact ((Box.new _ _ _ _).alloc _).alloc _
  have HBN : Hid (Box w0 (w.heap.size + 1) 25 (.int .i64 sN) (.slice aN nN cN)) := by rw [hw0]; exact (show Box _ _ _ _ _ from alloc_at (by simp)).alloc _
  have HBX : Hid (Box w0 (w.heap.size + 1 + 1) 25 (.int .i64 0) (.slice none 0 0)) := by rw [hw0]; exact alloc_at (by simp)
  have HB0 : Hid (Below w.heap.size w w0) := by rw [hw0]; exact (((Below.refl _ _).alloc (Nat.le_refl _) _).alloc (by simp) _).alloc (by simp; omega) _
  have HS0 : Hid (w0.heap.size = w.heap.size + 1 + 1 + 1) := by show _ = _; rw [hw0]; simp
  have hM0 := hM.below HB0.out
  have hN0 := hN.below HB0.out
  have HW0 := Lib.hid hw0; clear hw0
  have HBT := Lib.hid (l3Both_any sM sN aM aN nM nN cM cN xsM xsN w0 hM0 hN0 hnM hnN)
  by_cases hb : bothB sM xsM sN xsN = true
  · rw [hb] at HBT
    obtain ⟨iM, iN, hss, hnn⟩ := both_is hM.1 hN.1 hb
    rw [show conjR sM xsM sN xsN = makeM sM (prods (fun a b => a &&& b) xsM xsN) from if_pos hb]
    subst sN
    subst nN
    have hnl : nM ≤ 16 := by have := iM.nums; omega
    have hpos : 1 ≤ nM := by have := iM.nums; omega
    have HP := Lib.hid (fun W (h1 : Row W aM nM xsM) (h2 : Row W aN nM xsN) => l6Parts_and sM sM aM aN nM cM cN xsM xsN W h1 h2 iM.nums iM.part iN.part)
    have HK := Lib.hid (fun A C W h => l3Made_any sM A nM C (prods (fun a b => a &&& b) xsM xsN) W h hnM (fun k hk => by have := prods_bound (op := fun a b => a &&& b) hM.1 hnl iM.part iN.part k hk; omega))
    obtain ⟨r, hr1⟩ : ∃ r, r = makeM sM (prods (fun a b => a &&& b) xsM xsN) := ⟨_, rfl⟩
    rw [← hr1] at HK ⊢
    have HRM := Lib.hid hM0
    have HRN := Lib.hid hN0
    clear hr1 iM iN hb hM0 hN0 hM hN
    go_enter Try.func94, Try.ntmps94
    go_wp2_with fail
    rw [← HW0.out]
    refine HBT.out.mono ?_
    rintro e w1 ⟨rfl, b1⟩
    have HX1 := Lib.hid (HBX.out.below b1 HBX.out.lt).drew
    obtain ⟨c1, c2, _, _⟩ := (HBM.out.below b1 HBM.out.lt).cells
    obtain ⟨e1, e2, _, _⟩ := (HBN.out.below b1 HBN.out.lt).cells
    have HRM1 := Lib.hid ((HRM.out.below b1).below (w' := w1.drew) (Below.refl _ _).drew)
    have HRN1 := Lib.hid ((HRN.out.below b1).below (w' := w1.drew) (Below.refl _ _).drew)
    have HB1 := Lib.hid (HB0.out.trans (b1.mono HB0.out.size)).drew
    have hz0 : w.heap.size < w1.heap.size := World.block_lt_of_cell? _ _ c1
    have hz1 : w.heap.size + 1 < w1.heap.size := World.block_lt_of_cell? _ _ e1
    have hz2 : w.heap.size + 1 + 1 < w1.heap.size := HX1.out.lt
    have HM1 := Lib.hid (HBM.out.below b1 HBM.out.lt).drew
    have HN1 := Lib.hid (HBN.out.below b1 HBN.out.lt).drew
    have hk1 : w.heap.size ≠ w.heap.size + 1 + 1 := by omega
    have hk2 : w.heap.size + 1 ≠ w.heap.size + 1 + 1 := by omega
    clear b1 HBT HBX HBM HBN HRM HRN
    go_wp2_with fail
    go_region_held3 (fun W => W.cell? ⟨w.heap.size, 0, none⟩ = some (.int .i64 sM) ∧ W.cell? ⟨w.heap.size, 1, none⟩ = some (.slice aM nM cM) ∧ W.cell? ⟨w.heap.size + 1, 0, none⟩ = some (.int .i64 sM) ∧ W.cell? ⟨w.heap.size + 1, 1, none⟩ = some (.slice aN nM cN))
      (first | exact ⟨(b2.cell hz0).trans c1, (b2.cell hz0).trans c2, (b2.cell hz1).trans e1, (b2.cell hz1).trans e2⟩ | exact ⟨(b3.cell hz0).trans c1, (b3.cell hz0).trans c2, (b3.cell hz1).trans e1, (b3.cell hz1).trans e2⟩ | exact ⟨((BXM.far hk1 _).far hk1 _).cells.1, ((BXM.far hk1 _).far hk1 _).cells.2.1, ((BXN.far hk2 _).far hk2 _).cells.1, ((BXN.far hk2 _).far hk2 _).cells.2.1⟩ | go_keep)
      (first | (have _t := tok1; go_at_call 110; refine (HK.out _ _ _ o2.row).mono ?_; rintro e w3 ⟨⟨A3, C3, rfl, o3⟩, b3'⟩; have b3 := b2.trans (b3'.mono b2.size); obtain ⟨d1, d2, f1, f2⟩ := (HX1.out.below b3 HX1.out.lt).cells; have BXM := HM1.out.below b3 hz0; have BXN := HN1.out.below b3 hz1) | (go_at_call 109; refine (HP.out _ HRM1.out HRN1.out).mono ?_; rintro e w2 ⟨A2, C2, rfl, o2, b2⟩; have tok1 : True := trivial))
    all_goals
      have HO3 := Lib.hid o3
      have hz3 : w.heap.size + 1 + 1 < w2.heap.size := Nat.lt_of_lt_of_le hz2 b2.size
      have HB3 := Lib.hid (HB1.out.trans (b3.mono HB1.out.size))
      clear b2 b3 b3' o2 o3
      go_wp2_with fail
      refine bodyPost_ret (v := .tuple #[massV (rS r) A3 (rN r) C3, .bool (rB r)]) (by simp [results, Try.results94, go_sem, d1, d2]) rfl ?_
      exact ⟨⟨A3, C3, rfl, (HO3.out.setBox hz3 _ _).mono (by omega)⟩, (HB3.out.setCell (by simp; omega) _).setCell (by simp; omega) _⟩
  · have hb' : bothB sM xsM sN xsN = false := by simpa using hb
    rw [hb'] at HBT
    rw [show conjR sM xsM sN xsN = none from if_neg hb]
    clear hb hb' hM0 hN0 hM hN
    go_enter Try.func94, Try.ntmps94
    go_wp2_with fail
    rw [← HW0.out]
    refine HBT.out.mono ?_
    rintro e w1 ⟨rfl, b1⟩
    obtain ⟨d1, d2, f1, f2⟩ := (HBX.out.below b1 HBX.out.lt).cells
    have HB1 := Lib.hid (HB0.out.trans (b1.mono HB0.out.size))
    clear b1
    go_wp2_with fail
    refine bodyPost_ret (v := .tuple #[massV 0 none 0 0, .bool false]) (by simp [results, Try.results94, go_sem, d1, d2]) rfl ?_
    exact ⟨RetM.none_ _ _, (HB1.out.setCell (by simp; omega) _).setCell (by simp; omega) _⟩
set_option maxHeartbeats 3200000 in
set_option maxRecDepth 100000 in
theorem l6Told_or_any (sM sN : Int) (aM aN : Option Addr) (nM nN cM cN : Nat) (xsM xsN : List Int) (w : World) (hM : Row w aM nM xsM) (hN : Row w aN nN xsN) (hnM : nM ≤ 1048576) (hnN : nN ≤ 1048576) :
    Calls Try.prog 94 #[massV sM aM nM cM, massV sN aN nN cN, .string { data := #[111, 114] }] w fun e w' => RetM w.heap.size (disjR sM xsM sN xsN) e w' ∧ Below w.heap.size w w' := by
  obtain ⟨w0, hw0⟩ : ∃ w0, w0 = ((w.alloc (.cells #[.int .i64 sM, .slice aM nM cM] 25)).alloc (.cells #[.int .i64 sN, .slice aN nN cN] 25)).alloc (.cells #[.int .i64 0, .slice none 0 0] 25) := ⟨_, rfl⟩
  have HBM : Hid (Box w0 w.heap.size 25 (.int .i64 sM) (.slice aM nM cM)) := by rw [hw0]; exact ((Box.new _ _ _ _).alloc _).alloc _
  have HBN : Hid (Box w0 (w.heap.size + 1) 25 (.int .i64 sN) (.slice aN nN cN)) := by rw [hw0]; exact (show Box _ _ _ _ _ from alloc_at (by simp)).alloc _
  have HBX : Hid (Box w0 (w.heap.size + 1 + 1) 25 (.int .i64 0) (.slice none 0 0)) := by rw [hw0]; exact alloc_at (by simp)
  have HB0 : Hid (Below w.heap.size w w0) := by rw [hw0]; exact (((Below.refl _ _).alloc (Nat.le_refl _) _).alloc (by simp) _).alloc (by simp; omega) _
  have HS0 : Hid (w0.heap.size = w.heap.size + 1 + 1 + 1) := by show _ = _; rw [hw0]; simp
  have hM0 := hM.below HB0.out
  have hN0 := hN.below HB0.out
  have HW0 := Lib.hid hw0; clear hw0
  have HBT := Lib.hid (l3Both_any sM sN aM aN nM nN cM cN xsM xsN w0 hM0 hN0 hnM hnN)
  by_cases hb : bothB sM xsM sN xsN = true
  · rw [hb] at HBT
    obtain ⟨iM, iN, hss, hnn⟩ := both_is hM.1 hN.1 hb
    rw [show disjR sM xsM sN xsN = makeM sM (prods (fun a b => a ||| b) xsM xsN) from if_pos hb]
    subst sN
    subst nN
    have hnl : nM ≤ 16 := by have := iM.nums; omega
    have hpos : 1 ≤ nM := by have := iM.nums; omega
    have HP := Lib.hid (fun W (h1 : Row W aM nM xsM) (h2 : Row W aN nM xsN) => l6Parts_or sM sM aM aN nM cM cN xsM xsN W h1 h2 iM.nums iM.part iN.part)
    have HK := Lib.hid (fun A C W h => l3Made_any sM A nM C (prods (fun a b => a ||| b) xsM xsN) W h hnM (fun k hk => by have := prods_bound (op := fun a b => a ||| b) hM.1 hnl iM.part iN.part k hk; omega))
    obtain ⟨r, hr1⟩ : ∃ r, r = makeM sM (prods (fun a b => a ||| b) xsM xsN) := ⟨_, rfl⟩
    rw [← hr1] at HK ⊢
    have HRM := Lib.hid hM0
    have HRN := Lib.hid hN0
    clear hr1 iM iN hb hM0 hN0 hM hN
    go_enter Try.func94, Try.ntmps94
    go_wp2_with fail
    rw [← HW0.out]
    refine HBT.out.mono ?_
    rintro e w1 ⟨rfl, b1⟩
    have HX1 := Lib.hid (HBX.out.below b1 HBX.out.lt).drew
    obtain ⟨c1, c2, _, _⟩ := (HBM.out.below b1 HBM.out.lt).cells
    obtain ⟨e1, e2, _, _⟩ := (HBN.out.below b1 HBN.out.lt).cells
    have HRM1 := Lib.hid ((HRM.out.below b1).below (w' := w1.drew) (Below.refl _ _).drew)
    have HRN1 := Lib.hid ((HRN.out.below b1).below (w' := w1.drew) (Below.refl _ _).drew)
    have HB1 := Lib.hid (HB0.out.trans (b1.mono HB0.out.size)).drew
    have hz0 : w.heap.size < w1.heap.size := World.block_lt_of_cell? _ _ c1
    have hz1 : w.heap.size + 1 < w1.heap.size := World.block_lt_of_cell? _ _ e1
    have hz2 : w.heap.size + 1 + 1 < w1.heap.size := HX1.out.lt
    have HM1 := Lib.hid (HBM.out.below b1 HBM.out.lt).drew
    have HN1 := Lib.hid (HBN.out.below b1 HBN.out.lt).drew
    have hk1 : w.heap.size ≠ w.heap.size + 1 + 1 := by omega
    have hk2 : w.heap.size + 1 ≠ w.heap.size + 1 + 1 := by omega
    clear b1 HBT HBX HBM HBN HRM HRN
    go_wp2_with fail
    go_region_held3 (fun W => W.cell? ⟨w.heap.size, 0, none⟩ = some (.int .i64 sM) ∧ W.cell? ⟨w.heap.size, 1, none⟩ = some (.slice aM nM cM) ∧ W.cell? ⟨w.heap.size + 1, 0, none⟩ = some (.int .i64 sM) ∧ W.cell? ⟨w.heap.size + 1, 1, none⟩ = some (.slice aN nM cN))
      (first | exact ⟨(b2.cell hz0).trans c1, (b2.cell hz0).trans c2, (b2.cell hz1).trans e1, (b2.cell hz1).trans e2⟩ | exact ⟨(b3.cell hz0).trans c1, (b3.cell hz0).trans c2, (b3.cell hz1).trans e1, (b3.cell hz1).trans e2⟩ | exact ⟨((BXM.far hk1 _).far hk1 _).cells.1, ((BXM.far hk1 _).far hk1 _).cells.2.1, ((BXN.far hk2 _).far hk2 _).cells.1, ((BXN.far hk2 _).far hk2 _).cells.2.1⟩ | go_keep)
      (first | (have _t := tok1; go_at_call 110; refine (HK.out _ _ _ o2.row).mono ?_; rintro e w3 ⟨⟨A3, C3, rfl, o3⟩, b3'⟩; have b3 := b2.trans (b3'.mono b2.size); obtain ⟨d1, d2, f1, f2⟩ := (HX1.out.below b3 HX1.out.lt).cells; have BXM := HM1.out.below b3 hz0; have BXN := HN1.out.below b3 hz1) | (go_at_call 109; refine (HP.out _ HRM1.out HRN1.out).mono ?_; rintro e w2 ⟨A2, C2, rfl, o2, b2⟩; have tok1 : True := trivial))
    all_goals
      have HO3 := Lib.hid o3
      have hz3 : w.heap.size + 1 + 1 < w2.heap.size := Nat.lt_of_lt_of_le hz2 b2.size
      have HB3 := Lib.hid (HB1.out.trans (b3.mono HB1.out.size))
      clear b2 b3 b3' o2 o3
      go_wp2_with fail
      refine bodyPost_ret (v := .tuple #[massV (rS r) A3 (rN r) C3, .bool (rB r)]) (by simp [results, Try.results94, go_sem, d1, d2]) rfl ?_
      exact ⟨⟨A3, C3, rfl, (HO3.out.setBox hz3 _ _).mono (by omega)⟩, (HB3.out.setCell (by simp; omega) _).setCell (by simp; omega) _⟩
  · have hb' : bothB sM xsM sN xsN = false := by simpa using hb
    rw [hb'] at HBT
    rw [show disjR sM xsM sN xsN = none from if_neg hb]
    clear hb hb' hM0 hN0 hM hN
    go_enter Try.func94, Try.ntmps94
    go_wp2_with fail
    rw [← HW0.out]
    refine HBT.out.mono ?_
    rintro e w1 ⟨rfl, b1⟩
    obtain ⟨d1, d2, f1, f2⟩ := (HBX.out.below b1 HBX.out.lt).cells
    have HB1 := Lib.hid (HB0.out.trans (b1.mono HB0.out.size))
    clear b1
    go_wp2_with fail
    refine bodyPost_ret (v := .tuple #[massV 0 none 0 0, .bool false]) (by simp [results, Try.results94, go_sem, d1, d2]) rfl ?_
    exact ⟨RetM.none_ _ _, (HB1.out.setCell (by simp; omega) _).setCell (by simp; omega) _⟩
set_option maxHeartbeats 3200000 in
set_option maxRecDepth 100000 in
theorem l6Told_xor_any (sM sN : Int) (aM aN : Option Addr) (nM nN cM cN : Nat) (xsM xsN : List Int) (w : World) (hM : Row w aM nM xsM) (hN : Row w aN nN xsN) (hnM : nM ≤ 1048576) (hnN : nN ≤ 1048576) :
    Calls Try.prog 94 #[massV sM aM nM cM, massV sN aN nN cN, .string { data := #[120, 111, 114] }] w fun e w' => RetM w.heap.size (diffR sM xsM sN xsN) e w' ∧ Below w.heap.size w w' := by
  obtain ⟨w0, hw0⟩ : ∃ w0, w0 = ((w.alloc (.cells #[.int .i64 sM, .slice aM nM cM] 25)).alloc (.cells #[.int .i64 sN, .slice aN nN cN] 25)).alloc (.cells #[.int .i64 0, .slice none 0 0] 25) := ⟨_, rfl⟩
  have HBM : Hid (Box w0 w.heap.size 25 (.int .i64 sM) (.slice aM nM cM)) := by rw [hw0]; exact ((Box.new _ _ _ _).alloc _).alloc _
  have HBN : Hid (Box w0 (w.heap.size + 1) 25 (.int .i64 sN) (.slice aN nN cN)) := by rw [hw0]; exact (show Box _ _ _ _ _ from alloc_at (by simp)).alloc _
  have HBX : Hid (Box w0 (w.heap.size + 1 + 1) 25 (.int .i64 0) (.slice none 0 0)) := by rw [hw0]; exact alloc_at (by simp)
  have HB0 : Hid (Below w.heap.size w w0) := by rw [hw0]; exact (((Below.refl _ _).alloc (Nat.le_refl _) _).alloc (by simp) _).alloc (by simp; omega) _
  have HS0 : Hid (w0.heap.size = w.heap.size + 1 + 1 + 1) := by show _ = _; rw [hw0]; simp
  have hM0 := hM.below HB0.out
  have hN0 := hN.below HB0.out
  have HW0 := Lib.hid hw0; clear hw0
  have HBT := Lib.hid (l3Both_any sM sN aM aN nM nN cM cN xsM xsN w0 hM0 hN0 hnM hnN)
  by_cases hb : bothB sM xsM sN xsN = true
  · rw [hb] at HBT
    obtain ⟨iM, iN, hss, hnn⟩ := both_is hM.1 hN.1 hb
    rw [show diffR sM xsM sN xsN = makeM sM (prods (fun a b => a ^^^ b) xsM xsN) from if_pos hb]
    subst sN
    subst nN
    have hnl : nM ≤ 16 := by have := iM.nums; omega
    have hpos : 1 ≤ nM := by have := iM.nums; omega
    have HP := Lib.hid (fun W (h1 : Row W aM nM xsM) (h2 : Row W aN nM xsN) => l6Parts_xor sM sM aM aN nM cM cN xsM xsN W h1 h2 iM.nums iM.part iN.part)
    have HK := Lib.hid (fun A C W h => l3Made_any sM A nM C (prods (fun a b => a ^^^ b) xsM xsN) W h hnM (fun k hk => by have := prods_bound (op := fun a b => a ^^^ b) hM.1 hnl iM.part iN.part k hk; omega))
    obtain ⟨r, hr1⟩ : ∃ r, r = makeM sM (prods (fun a b => a ^^^ b) xsM xsN) := ⟨_, rfl⟩
    rw [← hr1] at HK ⊢
    have HRM := Lib.hid hM0
    have HRN := Lib.hid hN0
    clear hr1 iM iN hb hM0 hN0 hM hN
    go_enter Try.func94, Try.ntmps94
    go_wp2_with fail
    rw [← HW0.out]
    refine HBT.out.mono ?_
    rintro e w1 ⟨rfl, b1⟩
    have HX1 := Lib.hid (HBX.out.below b1 HBX.out.lt).drew
    obtain ⟨c1, c2, _, _⟩ := (HBM.out.below b1 HBM.out.lt).cells
    obtain ⟨e1, e2, _, _⟩ := (HBN.out.below b1 HBN.out.lt).cells
    have HRM1 := Lib.hid ((HRM.out.below b1).below (w' := w1.drew) (Below.refl _ _).drew)
    have HRN1 := Lib.hid ((HRN.out.below b1).below (w' := w1.drew) (Below.refl _ _).drew)
    have HB1 := Lib.hid (HB0.out.trans (b1.mono HB0.out.size)).drew
    have hz0 : w.heap.size < w1.heap.size := World.block_lt_of_cell? _ _ c1
    have hz1 : w.heap.size + 1 < w1.heap.size := World.block_lt_of_cell? _ _ e1
    have hz2 : w.heap.size + 1 + 1 < w1.heap.size := HX1.out.lt
    have HM1 := Lib.hid (HBM.out.below b1 HBM.out.lt).drew
    have HN1 := Lib.hid (HBN.out.below b1 HBN.out.lt).drew
    have hk1 : w.heap.size ≠ w.heap.size + 1 + 1 := by omega
    have hk2 : w.heap.size + 1 ≠ w.heap.size + 1 + 1 := by omega
    clear b1 HBT HBX HBM HBN HRM HRN
    go_wp2_with fail
    go_region_held3 (fun W => W.cell? ⟨w.heap.size, 0, none⟩ = some (.int .i64 sM) ∧ W.cell? ⟨w.heap.size, 1, none⟩ = some (.slice aM nM cM) ∧ W.cell? ⟨w.heap.size + 1, 0, none⟩ = some (.int .i64 sM) ∧ W.cell? ⟨w.heap.size + 1, 1, none⟩ = some (.slice aN nM cN))
      (first | exact ⟨(b2.cell hz0).trans c1, (b2.cell hz0).trans c2, (b2.cell hz1).trans e1, (b2.cell hz1).trans e2⟩ | exact ⟨(b3.cell hz0).trans c1, (b3.cell hz0).trans c2, (b3.cell hz1).trans e1, (b3.cell hz1).trans e2⟩ | exact ⟨((BXM.far hk1 _).far hk1 _).cells.1, ((BXM.far hk1 _).far hk1 _).cells.2.1, ((BXN.far hk2 _).far hk2 _).cells.1, ((BXN.far hk2 _).far hk2 _).cells.2.1⟩ | go_keep)
      (first | (have _t := tok1; go_at_call 110; refine (HK.out _ _ _ o2.row).mono ?_; rintro e w3 ⟨⟨A3, C3, rfl, o3⟩, b3'⟩; have b3 := b2.trans (b3'.mono b2.size); obtain ⟨d1, d2, f1, f2⟩ := (HX1.out.below b3 HX1.out.lt).cells; have BXM := HM1.out.below b3 hz0; have BXN := HN1.out.below b3 hz1) | (go_at_call 109; refine (HP.out _ HRM1.out HRN1.out).mono ?_; rintro e w2 ⟨A2, C2, rfl, o2, b2⟩; have tok1 : True := trivial))
    all_goals
      have HO3 := Lib.hid o3
      have hz3 : w.heap.size + 1 + 1 < w2.heap.size := Nat.lt_of_lt_of_le hz2 b2.size
      have HB3 := Lib.hid (HB1.out.trans (b3.mono HB1.out.size))
      clear b2 b3 b3' o2 o3
      go_wp2_with fail
      refine bodyPost_ret (v := .tuple #[massV (rS r) A3 (rN r) C3, .bool (rB r)]) (by simp [results, Try.results94, go_sem, d1, d2]) rfl ?_
      exact ⟨⟨A3, C3, rfl, (HO3.out.setBox hz3 _ _).mono (by omega)⟩, (HB3.out.setCell (by simp; omega) _).setCell (by simp; omega) _⟩
  · have hb' : bothB sM xsM sN xsN = false := by simpa using hb
    rw [hb'] at HBT
    rw [show diffR sM xsM sN xsN = none from if_neg hb]
    clear hb hb' hM0 hN0 hM hN
    go_enter Try.func94, Try.ntmps94
    go_wp2_with fail
    rw [← HW0.out]
    refine HBT.out.mono ?_
    rintro e w1 ⟨rfl, b1⟩
    obtain ⟨d1, d2, f1, f2⟩ := (HBX.out.below b1 HBX.out.lt).cells
    have HB1 := Lib.hid (HB0.out.trans (b1.mono HB0.out.size))
    clear b1
    go_wp2_with fail
    refine bodyPost_ret (v := .tuple #[massV 0 none 0 0, .bool false]) (by simp [results, Try.results94, go_sem, d1, d2]) rfl ?_
    exact ⟨RetM.none_ _ _, (HB1.out.setCell (by simp; omega) _).setCell (by simp; omega) _⟩
set_option maxHeartbeats 800000 in
theorem sConjoinMasses_any (sM sN : Int) (aM aN : Option Addr) (nM nN cM cN : Nat) (xsM xsN : List Int) (w : World) (hM : Row w aM nM xsM) (hN : Row w aN nN xsN) (hnM : nM ≤ 1048576) (hnN : nN ≤ 1048576) :
    Calls Try.prog 17 #[massV sM aM nM cM, massV sN aN nN cN] w fun e w' => RetM w.heap.size (conjR sM xsM sN xsN) e w' ∧ Below w.heap.size w w' := by
  obtain ⟨w0, hw0⟩ : ∃ w0, w0 = ((w.alloc (.cells #[.int .i64 sM, .slice aM nM cM] 25)).alloc (.cells #[.int .i64 sN, .slice aN nN cN] 25)).alloc (.cells #[.int .i64 0, .slice none 0 0] 25) := ⟨_, rfl⟩
  have HBM : Hid (Box w0 w.heap.size 25 (.int .i64 sM) (.slice aM nM cM)) := by rw [hw0]; exact ((Box.new _ _ _ _).alloc _).alloc _
  have HBN : Hid (Box w0 (w.heap.size + 1) 25 (.int .i64 sN) (.slice aN nN cN)) := by rw [hw0]; exact (show Box _ _ _ _ _ from alloc_at (by simp)).alloc _
  have HBX : Hid (Box w0 (w.heap.size + 1 + 1) 25 (.int .i64 0) (.slice none 0 0)) := by rw [hw0]; exact alloc_at (by simp)
  have HB0 : Hid (Below w.heap.size w w0) := by rw [hw0]; exact (((Below.refl _ _).alloc (Nat.le_refl _) _).alloc (by simp) _).alloc (by simp; omega) _
  have HS0 : Hid (w0.heap.size = w.heap.size + 1 + 1 + 1) := by show _ = _; rw [hw0]; simp
  have hM0 := hM.below HB0.out
  have hN0 := hN.below HB0.out
  have HW0 := Lib.hid hw0; clear hw0
  have HT := Lib.hid (l6Told_and_any sM sN aM aN nM nN cM cN xsM xsN w0 hM0 hN0 hnM hnN)
  obtain ⟨r, hr1⟩ : ∃ r, r = conjR sM xsM sN xsN := ⟨_, rfl⟩
  rw [← hr1] at HT ⊢
  clear hr1 hM0 hN0 hM hN
  go_enter Try.func17, Try.ntmps17
  go_wp2_with fail
  rw [← HW0.out]
  refine HT.out.mono ?_
  rintro e w1 ⟨⟨A, C, rfl, o1⟩, b1⟩
  obtain ⟨d1, d2, f1, f2⟩ := (HBX.out.below b1 HBX.out.lt).cells
  have HO := Lib.hid o1
  have hz : w.heap.size + 1 + 1 < w0.heap.size := HBX.out.lt
  have HB1 := Lib.hid (HB0.out.trans (b1.mono HB0.out.size))
  clear o1 b1
  go_wp2_with fail
  refine bodyPost_ret (v := .tuple #[massV (rS r) A (rN r) C, .bool (rB r)]) (by simp [results, Try.results17, go_sem, d1, d2]) rfl ?_
  exact ⟨⟨A, C, rfl, (HO.out.setBox hz _ _).mono (by omega)⟩, (HB1.out.setCell (by simp; omega) _).setCell (by simp; omega) _⟩
set_option maxHeartbeats 800000 in
theorem sDisjoinMasses_any (sM sN : Int) (aM aN : Option Addr) (nM nN cM cN : Nat) (xsM xsN : List Int) (w : World) (hM : Row w aM nM xsM) (hN : Row w aN nN xsN) (hnM : nM ≤ 1048576) (hnN : nN ≤ 1048576) :
    Calls Try.prog 24 #[massV sM aM nM cM, massV sN aN nN cN] w fun e w' => RetM w.heap.size (disjR sM xsM sN xsN) e w' ∧ Below w.heap.size w w' := by
  obtain ⟨w0, hw0⟩ : ∃ w0, w0 = ((w.alloc (.cells #[.int .i64 sM, .slice aM nM cM] 25)).alloc (.cells #[.int .i64 sN, .slice aN nN cN] 25)).alloc (.cells #[.int .i64 0, .slice none 0 0] 25) := ⟨_, rfl⟩
  have HBM : Hid (Box w0 w.heap.size 25 (.int .i64 sM) (.slice aM nM cM)) := by rw [hw0]; exact ((Box.new _ _ _ _).alloc _).alloc _
  have HBN : Hid (Box w0 (w.heap.size + 1) 25 (.int .i64 sN) (.slice aN nN cN)) := by rw [hw0]; exact (show Box _ _ _ _ _ from alloc_at (by simp)).alloc _
  have HBX : Hid (Box w0 (w.heap.size + 1 + 1) 25 (.int .i64 0) (.slice none 0 0)) := by rw [hw0]; exact alloc_at (by simp)
  have HB0 : Hid (Below w.heap.size w w0) := by rw [hw0]; exact (((Below.refl _ _).alloc (Nat.le_refl _) _).alloc (by simp) _).alloc (by simp; omega) _
  have HS0 : Hid (w0.heap.size = w.heap.size + 1 + 1 + 1) := by show _ = _; rw [hw0]; simp
  have hM0 := hM.below HB0.out
  have hN0 := hN.below HB0.out
  have HW0 := Lib.hid hw0; clear hw0
  have HT := Lib.hid (l6Told_or_any sM sN aM aN nM nN cM cN xsM xsN w0 hM0 hN0 hnM hnN)
  obtain ⟨r, hr1⟩ : ∃ r, r = disjR sM xsM sN xsN := ⟨_, rfl⟩
  rw [← hr1] at HT ⊢
  clear hr1 hM0 hN0 hM hN
  go_enter Try.func24, Try.ntmps24
  go_wp2_with fail
  rw [← HW0.out]
  refine HT.out.mono ?_
  rintro e w1 ⟨⟨A, C, rfl, o1⟩, b1⟩
  obtain ⟨d1, d2, f1, f2⟩ := (HBX.out.below b1 HBX.out.lt).cells
  have HO := Lib.hid o1
  have hz : w.heap.size + 1 + 1 < w0.heap.size := HBX.out.lt
  have HB1 := Lib.hid (HB0.out.trans (b1.mono HB0.out.size))
  clear o1 b1
  go_wp2_with fail
  refine bodyPost_ret (v := .tuple #[massV (rS r) A (rN r) C, .bool (rB r)]) (by simp [results, Try.results24, go_sem, d1, d2]) rfl ?_
  exact ⟨⟨A, C, rfl, (HO.out.setBox hz _ _).mono (by omega)⟩, (HB1.out.setCell (by simp; omega) _).setCell (by simp; omega) _⟩
set_option maxHeartbeats 800000 in
theorem sDifferMasses_any (sM sN : Int) (aM aN : Option Addr) (nM nN cM cN : Nat) (xsM xsN : List Int) (w : World) (hM : Row w aM nM xsM) (hN : Row w aN nN xsN) (hnM : nM ≤ 1048576) (hnN : nN ≤ 1048576) :
    Calls Try.prog 30 #[massV sM aM nM cM, massV sN aN nN cN] w fun e w' => RetM w.heap.size (diffR sM xsM sN xsN) e w' ∧ Below w.heap.size w w' := by
  obtain ⟨w0, hw0⟩ : ∃ w0, w0 = ((w.alloc (.cells #[.int .i64 sM, .slice aM nM cM] 25)).alloc (.cells #[.int .i64 sN, .slice aN nN cN] 25)).alloc (.cells #[.int .i64 0, .slice none 0 0] 25) := ⟨_, rfl⟩
  have HBM : Hid (Box w0 w.heap.size 25 (.int .i64 sM) (.slice aM nM cM)) := by rw [hw0]; exact ((Box.new _ _ _ _).alloc _).alloc _
  have HBN : Hid (Box w0 (w.heap.size + 1) 25 (.int .i64 sN) (.slice aN nN cN)) := by rw [hw0]; exact (show Box _ _ _ _ _ from alloc_at (by simp)).alloc _
  have HBX : Hid (Box w0 (w.heap.size + 1 + 1) 25 (.int .i64 0) (.slice none 0 0)) := by rw [hw0]; exact alloc_at (by simp)
  have HB0 : Hid (Below w.heap.size w w0) := by rw [hw0]; exact (((Below.refl _ _).alloc (Nat.le_refl _) _).alloc (by simp) _).alloc (by simp; omega) _
  have HS0 : Hid (w0.heap.size = w.heap.size + 1 + 1 + 1) := by show _ = _; rw [hw0]; simp
  have hM0 := hM.below HB0.out
  have hN0 := hN.below HB0.out
  have HW0 := Lib.hid hw0; clear hw0
  have HT := Lib.hid (l6Told_xor_any sM sN aM aN nM nN cM cN xsM xsN w0 hM0 hN0 hnM hnN)
  obtain ⟨r, hr1⟩ : ∃ r, r = diffR sM xsM sN xsN := ⟨_, rfl⟩
  rw [← hr1] at HT ⊢
  clear hr1 hM0 hN0 hM hN
  go_enter Try.func30, Try.ntmps30
  go_wp2_with fail
  rw [← HW0.out]
  refine HT.out.mono ?_
  rintro e w1 ⟨⟨A, C, rfl, o1⟩, b1⟩
  obtain ⟨d1, d2, f1, f2⟩ := (HBX.out.below b1 HBX.out.lt).cells
  have HO := Lib.hid o1
  have hz : w.heap.size + 1 + 1 < w0.heap.size := HBX.out.lt
  have HB1 := Lib.hid (HB0.out.trans (b1.mono HB0.out.size))
  clear o1 b1
  go_wp2_with fail
  refine bodyPost_ret (v := .tuple #[massV (rS r) A (rN r) C, .bool (rB r)]) (by simp [results, Try.results30, go_sem, d1, d2]) rfl ?_
  exact ⟨⟨A, C, rfl, (HO.out.setBox hz _ _).mono (by omega)⟩, (HB1.out.setCell (by simp; omega) _).setCell (by simp; omega) _⟩
set_option maxHeartbeats 3200000 in
set_option maxRecDepth 100000 in
theorem sJoinMasses_any (sM sN : Int) (aM aN : Option Addr) (nM nN cM cN : Nat) (xsM xsN : List Int) (w : World) (hM : Row w aM nM xsM) (hN : Row w aN nN xsN) (hnM : nM ≤ 1048576) (hnN : nN ≤ 1048576) :
    Calls Try.prog 40 #[massV sM aM nM cM, massV sN aN nN cN] w fun e w' => RetM w.heap.size (joinR sM xsM sN xsN) e w' ∧ Below w.heap.size w w' := by
  obtain ⟨w0, hw0⟩ : ∃ w0, w0 = ((w.alloc (.cells #[.int .i64 sM, .slice aM nM cM] 25)).alloc (.cells #[.int .i64 sN, .slice aN nN cN] 25)).alloc (.cells #[.int .i64 0, .slice none 0 0] 25) := ⟨_, rfl⟩
  have HBM : Hid (Box w0 w.heap.size 25 (.int .i64 sM) (.slice aM nM cM)) := by rw [hw0]; exact ((Box.new _ _ _ _).alloc _).alloc _
  have HBN : Hid (Box w0 (w.heap.size + 1) 25 (.int .i64 sN) (.slice aN nN cN)) := by rw [hw0]; exact (show Box _ _ _ _ _ from alloc_at (by simp)).alloc _
  have HBX : Hid (Box w0 (w.heap.size + 1 + 1) 25 (.int .i64 0) (.slice none 0 0)) := by rw [hw0]; exact alloc_at (by simp)
  have HB0 : Hid (Below w.heap.size w w0) := by rw [hw0]; exact (((Below.refl _ _).alloc (Nat.le_refl _) _).alloc (by simp) _).alloc (by simp; omega) _
  have HS0 : Hid (w0.heap.size = w.heap.size + 1 + 1 + 1) := by show _ = _; rw [hw0]; simp
  have hM0 := hM.below HB0.out
  have hN0 := hN.below HB0.out
  have HW0 := Lib.hid hw0; clear hw0
  have HBT := Lib.hid (l3Both_any sM sN aM aN nM nN cM cN xsM xsN w0 hM0 hN0 hnM hnN)
  by_cases hb : bothB sM xsM sN xsN = true
  · rw [hb] at HBT
    obtain ⟨iM, iN, hss, hnn⟩ := both_is hM.1 hN.1 hb
    rw [show joinR sM xsM sN xsN = makeM sM (noNone (prods (fun a b => a &&& b) xsM xsN)) from if_pos hb]
    subst sN
    subst nN
    have hnl : nM ≤ 16 := by have := iM.nums; omega
    have hpos : 1 ≤ nM := by have := iM.nums; omega
    have HP := Lib.hid (fun W (h1 : Row W aM nM xsM) (h2 : Row W aN nM xsN) => l6Parts_and sM sM aM aN nM cM cN xsM xsN W h1 h2 iM.nums iM.part iN.part)
    have HK := Lib.hid (fun A C W h => l6Normal_any sM A nM C (prods (fun a b => a &&& b) xsM xsN) W h hpos hnM (fun k hk => by have := prods_bound (op := fun a b => a &&& b) hM.1 hnl iM.part iN.part k hk; omega))
    obtain ⟨r, hr1⟩ : ∃ r, r = makeM sM (noNone (prods (fun a b => a &&& b) xsM xsN)) := ⟨_, rfl⟩
    rw [← hr1] at HK ⊢
    have HRM := Lib.hid hM0
    have HRN := Lib.hid hN0
    clear hr1 iM iN hb hM0 hN0 hM hN
    go_enter Try.func40, Try.ntmps40
    go_wp2_with fail
    rw [← HW0.out]
    refine HBT.out.mono ?_
    rintro e w1 ⟨rfl, b1⟩
    have HX1 := Lib.hid (HBX.out.below b1 HBX.out.lt).drew
    obtain ⟨c1, c2, _, _⟩ := (HBM.out.below b1 HBM.out.lt).cells
    obtain ⟨e1, e2, _, _⟩ := (HBN.out.below b1 HBN.out.lt).cells
    have HRM1 := Lib.hid ((HRM.out.below b1).below (w' := w1.drew) (Below.refl _ _).drew)
    have HRN1 := Lib.hid ((HRN.out.below b1).below (w' := w1.drew) (Below.refl _ _).drew)
    have HB1 := Lib.hid (HB0.out.trans (b1.mono HB0.out.size)).drew
    have hz0 : w.heap.size < w1.heap.size := World.block_lt_of_cell? _ _ c1
    have hz1 : w.heap.size + 1 < w1.heap.size := World.block_lt_of_cell? _ _ e1
    have hz2 : w.heap.size + 1 + 1 < w1.heap.size := HX1.out.lt
    have HM1 := Lib.hid (HBM.out.below b1 HBM.out.lt).drew
    have HN1 := Lib.hid (HBN.out.below b1 HBN.out.lt).drew
    have hk1 : w.heap.size ≠ w.heap.size + 1 + 1 := by omega
    have hk2 : w.heap.size + 1 ≠ w.heap.size + 1 + 1 := by omega
    clear b1 HBT HBX HBM HBN HRM HRN
    go_wp2_with fail
    go_region_held3 (fun W => W.cell? ⟨w.heap.size, 0, none⟩ = some (.int .i64 sM) ∧ W.cell? ⟨w.heap.size, 1, none⟩ = some (.slice aM nM cM) ∧ W.cell? ⟨w.heap.size + 1, 0, none⟩ = some (.int .i64 sM) ∧ W.cell? ⟨w.heap.size + 1, 1, none⟩ = some (.slice aN nM cN))
      (first | exact ⟨(b2.cell hz0).trans c1, (b2.cell hz0).trans c2, (b2.cell hz1).trans e1, (b2.cell hz1).trans e2⟩ | exact ⟨(b3.cell hz0).trans c1, (b3.cell hz0).trans c2, (b3.cell hz1).trans e1, (b3.cell hz1).trans e2⟩ | exact ⟨((BXM.far hk1 _).far hk1 _).cells.1, ((BXM.far hk1 _).far hk1 _).cells.2.1, ((BXN.far hk2 _).far hk2 _).cells.1, ((BXN.far hk2 _).far hk2 _).cells.2.1⟩ | go_keep)
      (first | (have _t := tok1; go_at_call 115; refine (HK.out _ _ _ o2.row).mono ?_; rintro e w3 ⟨⟨A3, C3, rfl, o3⟩, b3'⟩; have b3 := b2.trans (b3'.mono b2.size); obtain ⟨d1, d2, f1, f2⟩ := (HX1.out.below b3 HX1.out.lt).cells; have BXM := HM1.out.below b3 hz0; have BXN := HN1.out.below b3 hz1) | (go_at_call 109; refine (HP.out _ HRM1.out HRN1.out).mono ?_; rintro e w2 ⟨A2, C2, rfl, o2, b2⟩; have tok1 : True := trivial))
    all_goals
      have HO3 := Lib.hid o3
      have hz3 : w.heap.size + 1 + 1 < w2.heap.size := Nat.lt_of_lt_of_le hz2 b2.size
      have HB3 := Lib.hid (HB1.out.trans (b3.mono HB1.out.size))
      clear b2 b3 b3' o2 o3
      go_wp2_with fail
      refine bodyPost_ret (v := .tuple #[massV (rS r) A3 (rN r) C3, .bool (rB r)]) (by simp [results, Try.results40, go_sem, d1, d2]) rfl ?_
      exact ⟨⟨A3, C3, rfl, (HO3.out.setBox hz3 _ _).mono (by omega)⟩, (HB3.out.setCell (by simp; omega) _).setCell (by simp; omega) _⟩
  · have hb' : bothB sM xsM sN xsN = false := by simpa using hb
    rw [hb'] at HBT
    rw [show joinR sM xsM sN xsN = none from if_neg hb]
    clear hb hb' hM0 hN0 hM hN
    go_enter Try.func40, Try.ntmps40
    go_wp2_with fail
    rw [← HW0.out]
    refine HBT.out.mono ?_
    rintro e w1 ⟨rfl, b1⟩
    obtain ⟨d1, d2, f1, f2⟩ := (HBX.out.below b1 HBX.out.lt).cells
    have HB1 := Lib.hid (HB0.out.trans (b1.mono HB0.out.size))
    clear b1
    go_wp2_with fail
    refine bodyPost_ret (v := .tuple #[massV 0 none 0 0, .bool false]) (by simp [results, Try.results40, go_sem, d1, d2]) rfl ?_
    exact ⟨RetM.none_ _ _, (HB1.out.setCell (by simp; omega) _).setCell (by simp; omega) _⟩
end Go.Proofs.Ytffkpmmgfgcngaa
