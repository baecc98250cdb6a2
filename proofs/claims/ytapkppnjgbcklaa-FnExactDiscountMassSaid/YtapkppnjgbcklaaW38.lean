/- Contract of MixMasses, of the reference. -/
import Derived.Test.YtapkppnjgbcklaaW27
import Derived.Test.YtapkppnjgbcklaaW36
import Derived.Test.YtapkppnjgbcklaaW17
import Derived.Test.YtapkppnjgbcklaaW21
import Derived.Deep.RegionHeld3
namespace Go.Proofs.Ytapkppnjgbcklaa
open Go.RowKit

set_option maxHeartbeats 6400000 in
set_option maxRecDepth 100000 in
theorem sMixMasses_any (sM sN p q : Int) (aM aN : Option Addr) (nM nN cM cN : Nat) (xsM xsN : List Int) (w : World) (hM : Row w aM nM xsM) (hN : Row w aN nN xsN) (hnM : nM ≤ 1048576) (hnN : nN ≤ 1048576) :
    Calls Try.prog 73 #[massV sM aM nM cM, massV sN aN nN cN, fracV p q] w fun e w' => RetM w.heap.size (mixR sM xsM sN xsN p q) e w' ∧ Below w.heap.size w w' := by
  obtain ⟨w0, hw0⟩ : ∃ w0, w0 = (((w.alloc (.cells #[.int .i64 sM, .slice aM nM cM] 30)).alloc (.cells #[.int .i64 sN, .slice aN nN cN] 30)).alloc (.cells #[.int .i64 p, .int .i64 q] 27)).alloc (.cells #[.int .i64 0, .slice none 0 0] 30) := ⟨_, rfl⟩
  have HBM : Hid (Box w0 w.heap.size 30 (.int .i64 sM) (.slice aM nM cM)) := by rw [hw0]; exact (((Box.new _ _ _ _).alloc _).alloc _).alloc _
  have HBN : Hid (Box w0 (w.heap.size + 1) 30 (.int .i64 sN) (.slice aN nN cN)) := by rw [hw0]; exact ((show Box _ _ _ _ _ from alloc_at (by simp)).alloc _).alloc _
  have HBF : Hid (Box w0 (w.heap.size + 1 + 1) 27 (.int .i64 p) (.int .i64 q)) := by rw [hw0]; exact (show Box _ _ _ _ _ from alloc_at (by simp)).alloc _
  have HBX : Hid (Box w0 (w.heap.size + 1 + 1 + 1) 30 (.int .i64 0) (.slice none 0 0)) := by rw [hw0]; exact alloc_at (by simp)
  have HB0 : Hid (Below w.heap.size w w0) := by rw [hw0]; exact ((((Below.refl _ _).alloc (Nat.le_refl _) _).alloc (by simp) _).alloc (by simp; omega) _).alloc (by simp; omega) _
  have hM0 := hM.below HB0.out
  have hN0 := hN.below HB0.out
  have HW0 := Lib.hid hw0; clear hw0
  have HBT := Lib.hid (l3Both_any sM sN aM aN nM nN cM cN xsM xsN w0 hM0 hN0 hnM hnN)
  have HSH := Lib.hid (fun W => l3Share_any p q W)
  by_cases hb : bothB sM xsM sN xsN = true
  · rw [hb] at HBT
    by_cases hs : shareB p q = true
    · rw [hs] at HSH
      by_cases hq : q ≤ 1000
      · rw [show mixR sM xsM sN xsN p q = makeM sM (mixL p q xsM xsN) from if_pos (by simp [hb, hs, hq])]
        obtain ⟨iM, iN, hss, hnn⟩ := both_is hM.1 hN.1 hb
        simp only [bothB, Bool.and_eq_true] at hb
        subst sN
        subst nN
        have hpq := share_is hs
        have hnl : nM ≤ 16 := by have := iM.nums; omega
        have hbd := fun k hk => mix_bound (p := p) (q := q) (n := nM) ⟨hpq.1, hpq.2.1, hq⟩ iM.part iN.part iM.whole iN.whole k hk
        have hu := iM.whole
        have hv := iN.whole
        have HPX := Lib.hid iM.part
        have HPY := Lib.hid iN.part
        have HWM := Lib.hid (fun W (h : Row W aM nM xsM) => l3Whole_any sM aM nM cM xsM W h hnM)
        have HWN := Lib.hid (fun W (h : Row W aN nM xsN) => l3Whole_any sM aN nM cN xsN W h hnM)
        rw [whole_is hb.1.1] at HWM
        rw [whole_is hb.1.2] at HWN
        have HFE : Hid (∀ k, mixF p q xsM xsN k = p * xsM.getD k 0 * sumL xsN + (q - p) * xsN.getD k 0 * sumL xsM) := fun k => rfl
        have HLE : Hid (mixL p q xsM xsN = tab nM (mixF p q xsM xsN)) := by show _ = _; rw [mixL, hM.1]
        have HLL : Hid ((mixL p q xsM xsN).length = nM) := by show _ = _; rw [mixL, tab_length, hM.1]
        have HK := Lib.hid (fun A C W h => l3Made_any sM A nM C (mixL p q xsM xsN) W h hnM (fun k hk => by rw [HLE.out, tab_getD _ _ _ hk]; have := hbd k hk; omega))
        obtain ⟨r, hr1⟩ : ∃ r, r = makeM sM (mixL p q xsM xsN) := ⟨_, rfl⟩
        rw [← hr1] at HK ⊢
        obtain ⟨u, hue⟩ : ∃ u, u = sumL xsM := ⟨_, rfl⟩
        obtain ⟨v, hve⟩ : ∃ v, v = sumL xsN := ⟨_, rfl⟩
        rw [← hue] at HWM hu
        rw [← hve] at HWN hv
        rw [← hue, ← hve] at HFE
        obtain ⟨L, hL⟩ : ∃ L, L = mixL p q xsM xsN := ⟨_, rfl⟩
        obtain ⟨F, hF⟩ : ∃ F, F = mixF p q xsM xsN := ⟨_, rfl⟩
        rw [← hL] at HK HLE HLL
        rw [← hF] at HFE HLE
        have hq1 : (decide (q > 1000)) = false := by simp; omega
        clear hr1 hbd hue hve iM iN hb hs hL hF hM hN
        go_enter Try.func73, Try.ntmps73
        go_wp2_with fail
        rw [← HW0.out]
        refine HBT.out.mono ?_
        rintro e w1 ⟨rfl, b1⟩
        have HX1 := Lib.hid (HBX.out.below b1 HBX.out.lt)
        have HF1 := Lib.hid (HBF.out.below b1 HBF.out.lt)
        have HM1 := Lib.hid (HBM.out.below b1 HBM.out.lt)
        have HN1 := Lib.hid (HBN.out.below b1 HBN.out.lt)
        have HB1 := Lib.hid (HB0.out.trans (b1.mono HB0.out.size))
        have hM1 := hM0.below b1
        have hN1 := hN0.below b1
        clear b1 HBT HBX HBF HBM HBN hM0 hN0
        obtain ⟨c1, c2, _, _⟩ := HF1.out.cells
        go_wp2_with fail
        clear c1 c2
        refine (HSH.out _).mono ?_
        rintro e w2 ⟨rfl, b2⟩
        have HX2 := Lib.hid (HX1.out.below b2 HX1.out.lt)
        have HF2 := Lib.hid (HF1.out.below b2 HF1.out.lt)
        have HM2 := Lib.hid (HM1.out.below b2 HM1.out.lt)
        have HN2 := Lib.hid (HN1.out.below b2 HN1.out.lt)
        have HB2 := Lib.hid (HB1.out.trans (b2.mono HB1.out.size))
        have hM2 := hM1.below b2
        have hN2 := hN1.below b2
        clear b2 HSH HX1 HF1 HM1 HN1 hM1 hN1
        obtain ⟨c1, c2, _, _⟩ := HF2.out.cells
        obtain ⟨c3, c4, _, _⟩ := HM2.out.cells
        have how : Own w2.heap.size (w2.alloc (.cells #[] 3)) (some ⟨w2.heap.size, 0, none⟩) 0 0 (tab 0 F) := World.ownsRow_lit w2 #[] 0 (Nat.le_refl _) (by unfold maxLen; omega) rfl
        have hbw : Below w2.heap.size w2 (w2.alloc (.cells #[] 3)) := (Below.refl _ _).alloc (Nat.le_refl _) _
        go_wp2_with fail
        clear c1 c2 c3 c4
        go_loopw [8, 9] (fun z i wr => ∃ (k : Nat) (A : Option Addr) (C : Nat), k ≤ nM ∧ i = .int .i64 k ∧ z = .slice A k C ∧ Hid (Own w2.heap.size wr A k C (tab k F)) ∧ Hid (Below w2.heap.size w2 wr)) (fun _ i _ => nM - (intOf i).toNat)
        case atStart => exact ⟨0, _, 0, Nat.zero_le _, rfl, rfl, how, hbw⟩
        case round =>
          obtain ⟨k, A, C, hk, rfl, rfl, HO, HBR⟩ := hrel
          clear how hbw
          by_cases hlt : k < nM
          · obtain ⟨b, off, x, rfl, hxe, hcx⟩ := hM2.at_ hlt
            obtain ⟨b2, off2, y, rfl, hye, hcy⟩ := hN2.at_ hlt
            have RX := hM2.below HBR.out
            have RY := hN2.below HBR.out
            have BB := HBR.out
            have O := HO.out
            have hxb := HPX.out k hlt
            have hyb := HPY.out k hlt
            rw [← hxe] at hxb
            rw [← hye] at hyb
            have hFk := HFE.out k
            rw [← hxe, ← hye] at hFk
            have a1 := mul_bound (a := x) (b := v) (A := 1000000) (B := 1000000) hxb (by omega)
            have a2 := mul_bound (a := x * v) (b := p) (A := 1000000 * 1000000) (B := 1000) a1 (by omega)
            have a3 := mul_bound (a := y) (b := u) (A := 1000000) (B := 1000000) hyb (by omega)
            have a4 := mul_bound (a := y * u) (b := q - p) (A := 1000000 * 1000000) (B := 1000) a3 (by omega)
            rw [show p * x * v = x * v * p by rw [Int.mul_comm p x, Int.mul_assoc, Int.mul_comm p v, ← Int.mul_assoc], show (q - p) * y * u = y * u * (q - p) by rw [Int.mul_comm (q - p) y, Int.mul_assoc, Int.mul_comm (q - p) u, ← Int.mul_assoc]] at hFk
            obtain ⟨d, hd⟩ : ∃ d, d = q - p := ⟨_, rfl⟩
            rw [← hd] at a4 hFk
            obtain ⟨t1, ht1⟩ : ∃ t, t = x * v := ⟨_, rfl⟩
            rw [← ht1] at a1 a2 hFk
            obtain ⟨t2, ht2⟩ : ∃ t, t = t1 * p := ⟨_, rfl⟩
            rw [← ht2] at a2 hFk
            obtain ⟨t3, ht3⟩ : ∃ t, t = y * u := ⟨_, rfl⟩
            rw [← ht3] at a3 a4 hFk
            obtain ⟨t4, ht4⟩ : ∃ t, t = t3 * d := ⟨_, rfl⟩
            rw [← ht4] at a4 hFk
            have e1 : IntKind.i64.wrap (x * v) = t1 := by rw [← ht1]; exact IntWalk.i64_in _ (by omega)
            have e2 : IntKind.i64.wrap (t1 * p) = t2 := by rw [← ht2]; exact IntWalk.i64_in _ (by omega)
            have e3 : IntKind.i64.wrap (q - p) = d := by rw [← hd]; exact IntWalk.i64_in _ (by omega)
            have e4 : IntKind.i64.wrap (y * u) = t3 := by rw [← ht3]; exact IntWalk.i64_in _ (by omega)
            have e5 : IntKind.i64.wrap (t3 * d) = t4 := by rw [← ht4]; exact IntWalk.i64_in _ (by omega)
            have e6 : IntKind.i64.wrap (t2 + t4) = t2 + t4 := IntWalk.i64_in _ (by omega)
            have HFK := Lib.hid hFk
            clear hFk hd ht1 ht2 ht3 ht4 hxe hye
            have HT : Hid (tab k F ++ [t2 + t4] = tab (k + 1) F) := by show _ = _; rw [tab_succ, HFK.out]
            obtain ⟨ys, hys⟩ : ∃ ys, ys = tab k F := ⟨_, rfl⟩
            rw [← hys] at O HT
            clear hys
            have HKS : Hid (∀ W : World, Below w2.heap.size w2 W → (W.cell? ⟨w.heap.size, 0, none⟩ = some (.int .i64 sM) ∧ W.cell? ⟨w.heap.size, 1, none⟩ = some (.slice (some ⟨b, off, none⟩) nM cM) ∧ W.cell? ⟨w.heap.size + 1, 0, none⟩ = some (.int .i64 sM) ∧ W.cell? ⟨w.heap.size + 1, 1, none⟩ = some (.slice (some ⟨b2, off2, none⟩) nM cN) ∧ W.cell? ⟨w.heap.size + 1 + 1, 0, none⟩ = some (.int .i64 p) ∧ W.cell? ⟨w.heap.size + 1 + 1, 1, none⟩ = some (.int .i64 q) ∧ W.cell? ⟨b, off + k, none⟩ = some (.int .i64 x) ∧ W.cell? ⟨b2, off2 + k, none⟩ = some (.int .i64 y))) := fun W hB => ⟨(HM2.out.below hB HM2.out.lt).cells.1, (HM2.out.below hB HM2.out.lt).cells.2.1, (HN2.out.below hB HN2.out.lt).cells.1, (HN2.out.below hB HN2.out.lt).cells.2.1, (HF2.out.below hB HF2.out.lt).cells.1, (HF2.out.below hB HF2.out.lt).cells.2.1, (hB.cell (p := ⟨b, off + k, none⟩) (World.block_lt_of_cell? _ _ hcx)).trans hcx, (hB.cell (p := ⟨b2, off2 + k, none⟩) (World.block_lt_of_cell? _ _ hcy)).trans hcy⟩
            obtain ⟨c1, c2, c3, c4, c5, c6, c7, c8⟩ := HKS.out wr BB
            have hki : (k : Int) < (nM : Int) := by omega
            clear HO HBR
            go_wp2_with fail
            replace BB := BB.drew
            replace RX := RX.below (w' := wr.drew) (Below.refl _ _).drew
            replace RY := RY.below (w' := wr.drew) (Below.refl _ _).drew
            replace O := O.below (w' := wr.drew) (Below.refl _ _).drew
            go_region_held3 (fun W => W.cell? ⟨w.heap.size, 0, none⟩ = some (.int .i64 sM) ∧ W.cell? ⟨w.heap.size, 1, none⟩ = some (.slice (some ⟨b, off, none⟩) nM cM) ∧ W.cell? ⟨w.heap.size + 1, 0, none⟩ = some (.int .i64 sM) ∧ W.cell? ⟨w.heap.size + 1, 1, none⟩ = some (.slice (some ⟨b2, off2, none⟩) nM cN) ∧ W.cell? ⟨w.heap.size + 1 + 1, 0, none⟩ = some (.int .i64 p) ∧ W.cell? ⟨w.heap.size + 1 + 1, 1, none⟩ = some (.int .i64 q) ∧ W.cell? ⟨b, off + k, none⟩ = some (.int .i64 x) ∧ W.cell? ⟨b2, off2 + k, none⟩ = some (.int .i64 y))
              (first | exact HKS.out _ hb7 | exact HKS.out _ BB | exact HKS.out _ (BB.alloc BB.size _))
              (first | (have _t := tok1; go_at_call 64; refine (HWM.out _ RX).mono ?_; rintro e w6 ⟨rfl, b6⟩; replace BB := BB.trans (b6.mono BB.size); replace RX := RX.below b6; replace RY := RY.below b6; replace O := O.below b6; have tok2 : True := trivial) | (go_at_call 64; refine (HWN.out _ RY).mono ?_; rintro e w5 ⟨rfl, b5⟩; replace BB := BB.trans (b5.mono BB.size); replace RX := RX.below b5; replace RY := RY.below b5; replace O := O.below b5; have tok1 : True := trivial) | (have _t := tok2; refine step_push w6 rfl _ _ (by rfl) A k C ys (t2 + t4) _ w2 (by rfl) (by rfl) O BB BB.size (by omega) ?_; intro A7 C7 w7 ho7 hb7))
            all_goals
              rw [HT.out] at ho7
              have HO7 := Lib.hid ho7
              have HB7 := Lib.hid hb7
              clear ho7 hb7 c1 c2 c3 c4 c5 c6 c7 c8
              go_wp2_with fail
              go_roundw
              case rel => exact ⟨k + 1, A7, C7, by omega, by go_num, rfl, HO7.out, HB7.out⟩
              case measure => simp [intOf]; omega
          · have hk' : k = nM := by omega
            have HO2 : Hid (Own w2.heap.size wr A nM C L) := by rw [HLE.out]; have := HO.out; rw [hk'] at this; exact this
            clear HO
            subst hk'
            obtain ⟨c1, c2, _, _⟩ := (HM2.out.below HBR.out HM2.out.lt).cells
            go_wp2_with fail
            clear c1 c2
            refine (HK.out _ _ _ HO2.out.row).mono ?_
            rintro e w9 ⟨⟨A9, C9, rfl, o9⟩, b9⟩
            have BX9 := (HX2.out.below HBR.out HX2.out.lt).below b9 (Nat.lt_of_lt_of_le HX2.out.lt HBR.out.size)
            obtain ⟨d1, d2, f1, f2⟩ := BX9.cells
            have HO9 := Lib.hid o9
            have HBB := Lib.hid (HB2.out.trans ((HBR.out.trans (b9.mono HBR.out.size)).mono HB2.out.size))
            have hz9 : w.heap.size + 1 + 1 + 1 < wr.heap.size := Nat.lt_of_lt_of_le HX2.out.lt HBR.out.size
            clear b9 o9 BX9
            go_wp2_with fail
            refine bodyPost_ret (v := .tuple #[massV (rS r) A9 (rN r) C9, .bool (rB r)]) (by simp [results, Try.results73, go_sem, d1, d2]) rfl ?_
            exact ⟨⟨A9, C9, rfl, (HO9.out.setBox hz9 _ _).mono (by omega)⟩, (HBB.out.setCell (by simp; omega) _).setCell (by simp; omega) _⟩
      · rw [show mixR sM xsM sN xsN p q = none from if_neg (by simp [hb, hs, hq])]
        have hq1 : 1000 < q := by omega
        clear hb hs hq hM0 hN0 hM hN
        go_enter Try.func73, Try.ntmps73
        go_wp2_with fail
        rw [← HW0.out]
        refine HBT.out.mono ?_
        rintro e w1 ⟨rfl, b1⟩
        have HX1 := Lib.hid (HBX.out.below b1 HBX.out.lt)
        have HF1 := Lib.hid (HBF.out.below b1 HBF.out.lt)
        have HB1 := Lib.hid (HB0.out.trans (b1.mono HB0.out.size))
        clear b1
        obtain ⟨c1, c2, _, _⟩ := HF1.out.cells
        go_wp2_with fail
        clear c1 c2
        refine (HSH.out _).mono ?_
        rintro e w2 ⟨rfl, b2⟩
        obtain ⟨d1, d2, f1, f2⟩ := (HX1.out.below b2 HX1.out.lt).cells
        obtain ⟨c1, c2, _, _⟩ := (HF1.out.below b2 HF1.out.lt).cells
        have HB2 := Lib.hid (HB1.out.trans (b2.mono HB1.out.size))
        clear b2
        go_wp2_with fail
        refine bodyPost_ret (v := .tuple #[massV 0 none 0 0, .bool false]) (by simp [results, Try.results73, go_sem, d1, d2]) rfl ?_
        exact ⟨RetM.none_ _ _, (HB2.out.setCell (by simp; omega) _).setCell (by simp; omega) _⟩
    · have hs' : shareB p q = false := by simpa using hs
      rw [hs'] at HSH
      rw [show mixR sM xsM sN xsN p q = none from if_neg (by simp [hs'])]
      clear hb hs hs' hM0 hN0 hM hN
      go_enter Try.func73, Try.ntmps73
      go_wp2_with fail
      rw [← HW0.out]
      refine HBT.out.mono ?_
      rintro e w1 ⟨rfl, b1⟩
      have HX1 := Lib.hid (HBX.out.below b1 HBX.out.lt)
      have HF1 := Lib.hid (HBF.out.below b1 HBF.out.lt)
      have HB1 := Lib.hid (HB0.out.trans (b1.mono HB0.out.size))
      clear b1
      obtain ⟨c1, c2, _, _⟩ := HF1.out.cells
      go_wp2_with fail
      clear c1 c2
      refine (HSH.out _).mono ?_
      rintro e w2 ⟨rfl, b2⟩
      obtain ⟨d1, d2, f1, f2⟩ := (HX1.out.below b2 HX1.out.lt).cells
      obtain ⟨c1, c2, _, _⟩ := (HF1.out.below b2 HF1.out.lt).cells
      have HB2 := Lib.hid (HB1.out.trans (b2.mono HB1.out.size))
      clear b2
      go_wp2_with fail
      refine bodyPost_ret (v := .tuple #[massV 0 none 0 0, .bool false]) (by simp [results, Try.results73, go_sem, d1, d2]) rfl ?_
      exact ⟨RetM.none_ _ _, (HB2.out.setCell (by simp; omega) _).setCell (by simp; omega) _⟩
  · have hb' : bothB sM xsM sN xsN = false := by simpa using hb
    rw [hb'] at HBT
    rw [show mixR sM xsM sN xsN p q = none from if_neg (by simp [hb'])]
    clear hb hb' hM0 hN0 hM hN
    go_enter Try.func73, Try.ntmps73
    go_wp2_with fail
    rw [← HW0.out]
    refine HBT.out.mono ?_
    rintro e w1 ⟨rfl, b1⟩
    have HX1 := Lib.hid (HBX.out.below b1 HBX.out.lt)
    have HF1 := Lib.hid (HBF.out.below b1 HBF.out.lt)
    have HB1 := Lib.hid (HB0.out.trans (b1.mono HB0.out.size))
    clear b1
    obtain ⟨d1, d2, f1, f2⟩ := HX1.out.cells
    go_wp2_with fail
    refine bodyPost_ret (v := .tuple #[massV 0 none 0 0, .bool false]) (by simp [results, Try.results73, go_sem, d1, d2]) rfl ?_
    exact ⟨RetM.none_ _ _, (HB1.out.setCell (by simp; omega) _).setCell (by simp; omega) _⟩
end Go.Proofs.Ytapkppnjgbcklaa
