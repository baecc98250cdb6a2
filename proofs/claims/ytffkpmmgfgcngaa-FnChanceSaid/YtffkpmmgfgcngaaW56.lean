/- Contracts: shares, sure masses, sums of fractions, subsets and signs of sets. -/
import Derived.Test.YtffkpmmgfgcngaaW53
import Derived.Test.YtffkpmmgfgcngaaW36
import Derived.Test.YtffkpmmgfgcngaaBase7
import Derived.Test.YtffkpmmgfgcngaaW55
import Derived.Deep.RegionHeld3
namespace Go.Proofs.Ytffkpmmgfgcngaa
open Go.RowKit

set_option maxHeartbeats 3200000 in
set_option maxRecDepth 100000 in
theorem ShareOf_any (s : Int) (y : Nat) (a : Option Addr) (n c : Nat) (xs : List Int) (w : World) (hr : Row w a n xs) (hm : massB s xs = true) (hy : y < n) :
    Calls Try.prog 43 #[massV s a n c, .int .i64 y] w fun e w' => RetF (fracOf (xs.getD y 0) (sumL xs)) e ∧ Below w.heap.size w w' := by
  have hI := massB_is hr.1 hm
  have hnl : n ≤ 16 := by have := hI.nums; omega
  obtain ⟨w0, hw0⟩ : ∃ w0, w0 = (w.alloc (.cells #[.int .i64 s, .slice a n c] 25)).alloc (.cells #[.int .i64 0, .int .i64 0] 40) := ⟨_, rfl⟩
  have hb0 : Below w.heap.size w w0 := by rw [hw0]; exact ((Below.refl _ _).alloc (Nat.le_refl _) _).alloc (by simp) _
  have hbm : Box w0 w.heap.size 25 (.int .i64 s) (.slice a n c) := by rw [hw0]; exact (Box.new _ _ _ _).alloc _
  have hbx : Box w0 (w.heap.size + 1) 40 (.int .i64 0) (.int .i64 0) := by rw [hw0]; exact alloc_at (by simp)
  have HM := Lib.hid (isMass_any s a n c xs w0 (hr.below hb0) (by omega))
  rw [hm] at HM
  have hsb : setB s (y : Int) = true := by
    have hnn : (n : Int) = 2 ^ s.toNat := by simpa [fitB] using hI.fit
    unfold setB
    rw [← hnn]
    simp
    omega
  have HV := Lib.hid (fun W => isSetOf_any s (y : Int) W hI.size)
  rw [hsb] at HV
  have HP := Lib.hid (fun W h => wholeOf_any s a n c xs W h hnl hI.part)
  have hw := hI.whole
  have hyb := hI.part y hy
  obtain ⟨b, off, rfl⟩ := (show ∃ b off, a = some ⟨b, off, none⟩ by obtain ⟨b, off, h1, _⟩ := hr.2 (by omega); exact ⟨b, off, h1⟩)
  have hbl : b < w.heap.size := by
    obtain ⟨b', off', h1, hlt, _⟩ := hr.2 (by omega)
    cases h1
    exact hlt
  obtain ⟨v, hv⟩ : ∃ v, v = xs.getD y 0 := ⟨_, rfl⟩
  obtain ⟨d, hd⟩ : ∃ d, d = sumL xs := ⟨_, rfl⟩
  rw [← hv] at hyb ⊢
  rw [← hd] at HP hw ⊢
  have HL := Lib.hid (fun W => lowest_any v d W (by omega) (by omega))
  obtain ⟨r, hr1⟩ : ∃ r, r = fracOf v d := ⟨_, rfl⟩
  rw [← hr1] at HL ⊢
  have HVE := Lib.hid hv
  have HW := Lib.hid hw0
  have HB := Lib.hid hb0
  have HBM := Lib.hid hbm
  have HBX := Lib.hid hbx
  have HR := Lib.hid (hr.below hb0)
  have hyi : (y : Int) < (n : Int) := by omega
  clear hw0 hb0 hbm hbx hm hsb hv hd hr1 hr hI hyb hw
  go_enter Try.func43, Try.ntmps43
  go_wp2_with fail
  rw [← HW.out]
  refine HM.out.mono ?_
  rintro e w1 ⟨rfl, b1⟩
  obtain ⟨c1, c2, _, _⟩ := (HBM.out.below b1 HBM.out.lt).cells
  go_wp2_with (go_at_call 96; refine (HV.out _).mono ?_; rintro e w' ⟨rfl, rfl⟩)
  clear c1 c2
  have BM := (HBM.out.below b1 HBM.out.lt).drew
  have BX := (HBX.out.below b1 HBX.out.lt).drew
  have RR := (HR.out.below b1).below (w' := w1.drew) (Below.refl _ _).drew
  have BB := (HB.out.trans (b1.mono HB.out.size)).drew
  have RC := RR.cellAt (Below.refl _ _) hy
  rw [← HVE.out] at RC
  obtain ⟨d1, d2, _, _⟩ := BM.cells
  have hk1 : w.heap.size ≠ w.heap.size + 1 := by omega
  have hbo : b ≠ w.heap.size + 1 := by omega
  clear b1
  go_wp2_with fail
  go_region_held3 (fun W => W.cell? ⟨w.heap.size, 0, none⟩ = some (.int .i64 s) ∧ W.cell? ⟨w.heap.size, 1, none⟩ = some (.slice (some ⟨b, off, none⟩) n c) ∧ W.cell? ⟨b, off + y, none⟩ = some (.int .i64 v))
    (first | exact ⟨d1, d2, RC⟩ | exact ⟨BM3.cells.1, BM3.cells.2.1, RC3⟩ | exact ⟨((BM3.far hk1 _).far hk1 _).cells.1, ((BM3.far hk1 _).far hk1 _).cells.2.1, (World.cell_far hbo hbo RC3)⟩ | exact ⟨BM2.cells.1, BM2.cells.2.1, RC2⟩ | go_keep)
    (first
      | ((go_at_call 99; refine (HP.out _ RR).mono ?_; rintro e w2 ⟨rfl, b2⟩; have BM2 := BM.below b2 BM.lt; have BX2 := BX.below b2 BX.lt; have BB2 := BB.trans (b2.mono BB.size); have RC2 := RR.cellAt b2 hy; rw [← HVE.out] at RC2))
      | ((go_at_call 114; refine (HL.out _).mono ?_; rintro e w3 ⟨he, b3⟩; unfold RetF at he; subst he; have BM3 := BM2.below b3 BM2.lt; have BX3 := BX2.below b3 BX2.lt; have BB3 := BB2.trans (b3.mono BB2.size); have RC3 := (b3.cell (p := ⟨b, off + y, none⟩) (World.block_lt_of_cell? _ _ RC2)).trans RC2; obtain ⟨x1, x2, f1, f2⟩ := BX3.cells)))
  all_goals
    go_wp2_with fail
    refine bodyPost_ret (v := .tuple #[fracV (fN r) (fD r), .bool (fB r)]) (by simp [results, Try.results43, go_sem, x1, x2]) rfl ?_
    exact ⟨rfl, (BB3.setCell (by simp) _).setCell (by simp) _⟩
set_option maxHeartbeats 800000 in
theorem SureMass_any (s : Int) (k n : Nat) (w : World) (hs : sizeB s = true) (hf : fitB s n = true) (hk : k < n) :
    Calls Try.prog 27 #[.int .i64 s, .int .i64 k] w fun e w' => (∃ A C, e = .returned (.tuple #[massV s A n C, .bool true]) ∧ Row w' A n (sureL n k)) ∧ Below w.heap.size w w' := by
  have hb1 : Below w.heap.size w (w.alloc (.cells #[.int .i64 0, .slice none 0 0] 25)) := (Below.refl w.heap.size w).alloc (Nat.le_refl _) _
  have hx := Box.new w 25 (.int .i64 0) (.slice none 0 0)
  have hsb : setB s (k : Int) = true := by
    have hnn : (n : Int) = 2 ^ s.toNat := by simpa [fitB] using hf
    unfold setB
    rw [← hnn]
    simp
    omega
  have HV := Lib.hid (fun W => isSetOf_any s (k : Int) W hs)
  rw [hsb] at HV
  have HZ := Lib.hid (fun W => isSize_any s W)
  rw [hs] at HZ
  have HS := Lib.hid (fun W => sureMass_any s k n W hs hf hk)
  have HB := Lib.hid hb1
  have HX := Lib.hid hx
  clear hb1 hx hsb hs hf
  go_enter Try.func27, Try.ntmps27
  go_wp2_with (fail)
  refine (HZ.out _).mono ?_
  rintro e w' ⟨rfl, rfl⟩
  go_wp2_with (fail)
  refine (HV.out _).mono ?_
  rintro e w' ⟨rfl, rfl⟩
  go_wp2_with (fail)
  refine (HS.out _).mono ?_
  rintro e w2 ⟨A, C, rfl, ho, b2⟩
  obtain ⟨d1, d2, f1, f2⟩ := (HX.out.below b2 HX.out.lt).cells
  have HB2 := Lib.hid (HB.out.trans (b2.mono HB.out.size))
  have HO := Lib.hid ho
  clear ho b2
  go_wp2_with fail
  refine bodyPost_ret (v := .tuple #[massV s A n C, .bool true]) (by simp [results, Try.results27, go_sem, d1, d2]) rfl ?_
  exact ⟨⟨A, C, rfl, (HO.out.setBox (by simp) _ _).row⟩, (HB2.out.setCell (Nat.le_refl _) _).setCell (Nat.le_refl _) _⟩
set_option maxHeartbeats 800000 in
theorem NoEvidence_any (s : Int) (n : Nat) (w : World) (hs : sizeB s = true) (hf : fitB s n = true) (hn : 1 ≤ n) :
    Calls Try.prog 21 #[.int .i64 s] w fun e w' => (∃ A C, e = .returned (.tuple #[massV s A n C, .bool true]) ∧ Row w' A n (sureL n (n - 1))) ∧ Below w.heap.size w w' := by
  have hb1 : Below w.heap.size w (w.alloc (.cells #[.int .i64 0, .slice none 0 0] 25)) := (Below.refl w.heap.size w).alloc (Nat.le_refl _) _
  have hx := Box.new w 25 (.int .i64 0) (.slice none 0 0)
  have HZ := Lib.hid (fun W => isSize_any s W)
  rw [hs] at HZ
  have HF := Lib.hid (fun W => fullSet_any s n W hs hf)
  have HS := Lib.hid (fun W => sureMass_any s (n - 1) n W hs hf (by omega))
  obtain ⟨g, hg⟩ : ∃ g, g = n - 1 := ⟨_, rfl⟩
  rw [← hg] at HF HS ⊢
  have HB := Lib.hid hb1
  have HX := Lib.hid hx
  clear hb1 hx hs hf hg
  go_enter Try.func21, Try.ntmps21
  go_wp2_with (fail)
  refine (HZ.out _).mono ?_
  rintro e w' ⟨rfl, rfl⟩
  go_wp2_with (fail)
  refine (HF.out _).mono ?_
  rintro e w' ⟨rfl, rfl⟩
  go_wp2_with (fail)
  refine (HS.out _).mono ?_
  rintro e w2 ⟨A, C, rfl, ho, b2⟩
  obtain ⟨d1, d2, f1, f2⟩ := (HX.out.below b2 HX.out.lt).cells
  have HB2 := Lib.hid (HB.out.trans (b2.mono HB.out.size))
  have HO := Lib.hid ho
  clear ho b2
  go_wp2_with fail
  refine bodyPost_ret (v := .tuple #[massV s A n C, .bool true]) (by simp [results, Try.results21, go_sem, d1, d2]) rfl ?_
  exact ⟨⟨A, C, rfl, (HO.out.setBox (by simp) _ _).row⟩, (HB2.out.setCell (Nat.le_refl _) _).setCell (Nat.le_refl _) _⟩
set_option maxHeartbeats 1600000 in
theorem AddFractions_any (p q r t : Int) (w : World) (hpq : fracB p q = true) (hrt : fracB r t = true) :
    Calls Try.prog 69 #[fracV p q, fracV r t] w fun e w' => RetF (fracOf (p * t + r * q) (q * t)) e ∧ Below w.heap.size w w' := by
  obtain ⟨w0, hw0⟩ : ∃ w0, w0 = ((w.alloc (.cells #[.int .i64 p, .int .i64 q] 40)).alloc (.cells #[.int .i64 r, .int .i64 t] 40)).alloc (.cells #[.int .i64 0, .int .i64 0] 40) := ⟨_, rfl⟩
  have hb0 : Below w.heap.size w w0 := by rw [hw0]; exact (((Below.refl _ _).alloc (Nat.le_refl _) _).alloc (by simp) _).alloc (by simp; omega) _
  have h1 : Box w0 w.heap.size 40 (.int .i64 p) (.int .i64 q) := by rw [hw0]; exact ((Box.new _ _ _ _).alloc _).alloc _
  have h2 : Box w0 (w.heap.size + 1) 40 (.int .i64 r) (.int .i64 t) := by rw [hw0]; exact Box.alloc (alloc_at (by simp)) _
  have h3 : Box w0 (w.heap.size + 1 + 1) 40 (.int .i64 0) (.int .i64 0) := by rw [hw0]; exact alloc_at (by simp)
  have HA := Lib.hid (fun W => isFraction_any p q W)
  have HC := Lib.hid (fun W => isFraction_any r t W)
  rw [hpq] at HA
  rw [hrt] at HC
  have hbp : -1000000000 ≤ p ∧ p ≤ 1000000000 ∧ 1 ≤ q ∧ q ≤ 1000000000 := by simp [fracB, isPartB] at hpq; omega
  have hbr : -1000000000 ≤ r ∧ r ≤ 1000000000 ∧ 1 ≤ t ∧ t ≤ 1000000000 := by simp [fracB, isPartB] at hrt; omega
  obtain ⟨u, hu⟩ : ∃ u, u = p * t := ⟨_, rfl⟩
  obtain ⟨v, hv⟩ : ∃ v, v = r * q := ⟨_, rfl⟩
  obtain ⟨d, hd⟩ : ∃ d, d = q * t := ⟨_, rfl⟩
  have hub : -1000000000000000000 ≤ u ∧ u ≤ 1000000000000000000 := by rw [hu]; exact prod_within (by omega) (by omega)
  have hvb : -1000000000000000000 ≤ v ∧ v ≤ 1000000000000000000 := by rw [hv]; exact prod_within (by omega) (by omega)
  have hdb : 1 ≤ d ∧ d ≤ 1000000000000000000 := by
    have h5 : 1 * 1 ≤ q * t := Int.mul_le_mul hbp.2.2.1 hbr.2.2.1 (by omega) (by omega)
    have h6 : -1000000000000000000 ≤ q * t ∧ q * t ≤ 1000000000000000000 := prod_within (by omega) (by omega)
    omega
  have e3 : wrap64 (p * t) = u := by rw [← hu]; exact IntWalk.wrap64_in _ (by omega)
  have e4 : wrap64 (r * q) = v := by rw [← hv]; exact IntWalk.wrap64_in _ (by omega)
  have e5 : wrap64 (q * t) = d := by rw [← hd]; exact IntWalk.wrap64_in _ (by omega)
  rw [← hu, ← hv, ← hd]
  have HL := Lib.hid (fun W => lowest_any (u + v) d W (by omega) (by omega))
  obtain ⟨f, hf⟩ : ∃ f, f = fracOf (u + v) d := ⟨_, rfl⟩
  rw [← hf] at HL ⊢
  have HB := Lib.hid hb0
  have HW := Lib.hid hw0
  have H1 := Lib.hid h1
  have H2 := Lib.hid h2
  have H3 := Lib.hid h3
  clear hb0 hw0 h1 h2 h3 hu hv hd hf hpq hrt hbp hbr
  go_enter Try.func69, Try.ntmps69
  go_wp2_with (fail)
  rw [← HW.out]
  obtain ⟨c1, c2, _, _⟩ := H1.out.cells
  go_wp2_with (fail)
  refine (HA.out _).mono ?_
  rintro e w1 ⟨rfl, b1⟩
  clear c1 c2
  obtain ⟨d1, d2, _, _⟩ := (H2.out.below b1 H2.out.lt).cells
  go_wp2_with (fail)
  refine (HC.out _).mono ?_
  rintro e w2 ⟨rfl, b2⟩
  clear d1 d2
  have b12 := b1.trans (b2.mono b1.size)
  obtain ⟨c1, c2, _, _⟩ := (H1.out.below b12 H1.out.lt).cells
  obtain ⟨d1, d2, _, _⟩ := (H2.out.below b12 H2.out.lt).cells
  go_wp2_with (fail)
  clear c1 c2 d1 d2
  refine (HL.out _).mono ?_
  rintro e w3 ⟨he, b3⟩
  unfold RetF at he
  subst he
  have b13 := b12.trans (b3.mono b12.size)
  obtain ⟨x1, x2, f1, f2⟩ := (H3.out.below b13 H3.out.lt).cells
  have HB3 := Lib.hid (HB.out.trans (b13.mono HB.out.size))
  clear b1 b2 b3 b12 b13
  go_wp2_with fail
  refine bodyPost_ret (v := .tuple #[fracV (fN f) (fD f), .bool (fB f)]) (by simp [results, Try.results69, go_sem, x1, x2]) rfl ?_
  exact ⟨rfl, (HB3.out.setCell (by simp; omega) _).setCell (by simp; omega) _⟩
end Go.Proofs.Ytffkpmmgfgcngaa
