/- Contract of MixMasses, of the program. -/
import Derived.Test.YtapkppnjgbcklaaW27
import Derived.Test.YtapkppnjgbcklaaW36
import Derived.Test.YtapkppnjgbcklaaW17
import Derived.Deep.RegionHeld3
namespace Go.Proofs.Ytapkppnjgbcklaa
open Go.RowKit

set_option maxHeartbeats 6400000 in
set_option maxRecDepth 100000 in
theorem iMixMasses_any (sM sN p q : Int) (aM aN : Option Addr) (nM nN cM cN : Nat) (xsM xsN : List Int) (w : World) (hM : Row w aM nM xsM) (hN : Row w aN nN xsN) (hnM : nM ≤ 1048576) (hnN : nN ≤ 1048576) :
    Calls Try.prog 75 #[massV sM aM nM cM, massV sN aN nN cN, fracV p q] w fun e w' => RetM w.heap.size (mixR sM xsM sN xsN p q) e w' ∧ Below w.heap.size w w' := by
  obtain ⟨w0, hw0⟩ : ∃ w0, w0 = (((w.alloc (.cells #[.int .i64 sM, .slice aM nM cM] 30)).alloc (.cells #[.int .i64 sN, .slice aN nN cN] 30)).alloc (.cells #[.int .i64 p, .int .i64 q] 27)).alloc (.cells #[.int .i64 0, .slice none 0 0] 30) := ⟨_, rfl⟩
  have HBM : Hid (Box w0 w.heap.size 30 (.int .i64 sM) (.slice aM nM cM)) := by rw [hw0]; exact (((Box.new _ _ _ _).alloc _).alloc _).alloc _
  have HBN : Hid (Box w0 (w.heap.size + 1) 30 (.int .i64 sN) (.slice aN nN cN)) := by rw [hw0]; exact ((show Box _ _ _ _ _ from alloc_at (by simp)).alloc _).alloc _
  have HBF : Hid (Box w0 (w.heap.size + 1 + 1) 27 (.int .i64 p) (.int .i64 q)) := by rw [hw0]; exact (show Box _ _ _ _ _ from alloc_at (by simp)).alloc _
  have HBX : Hid (Box w0 (w.heap.size + 1 + 1 + 1) 30 (.int .i64 0) (.slice none 0 0)) := by rw [hw0]; exact alloc_at (by simp)
  have HB0 : Hid (Below w.heap.size w w0) := by rw [hw0]; exact ((((Below.refl _ _).alloc (Nat.le_refl _) _).alloc (by simp) _).alloc (by simp; omega) _).alloc (by simp; omega) _
  have hM0 := hM.below HB0.out
  have hN0 := hN.below HB0.out
  have HW0 := Lib.hid hw0; clear hw0
  have HBT := Lib.hid (ofOneQuestion_any sM sN aM aN nM nN cM cN xsM xsN w0 hM0 hN0 hnM hnN)
  have HSH := Lib.hid (fun W => isShare_any p q W)
  by_cases hb : bothB sM xsM sN xsN = true
  · rw [hb] at HBT
    by_cases hs : shareB p q = true
    · rw [hs] at HSH
      by_cases hq : q ≤ 1000
      · rw [show mixR sM xsM sN xsN p q = makeM sM (mixL p q xsM xsN) from if_pos (by simp [hb, hs, hq])]
        obtain ⟨iM, iN, hss, hnn⟩ := both_is hM.1 hN.1 hb
        simp only [bothB, Bool.and_eq_true] at hb
        subst sN
        subst nN
        have hpq := share_is hs
        have hnl : nM ≤ 16 := by have := iM.nums; omega
        have hbd := fun k hk => mix_bound (p := p) (q := q) (n := nM) ⟨hpq.1, hpq.2.1, hq⟩ iM.part iN.part iM.whole iN.whole k hk
        have hu := iM.whole
        have hv := iN.whole
        have HPX := Lib.hid iM.part
        have HPY := Lib.hid iN.part
        have HWM := Lib.hid (fun W (h : Row W aM nM xsM) => wholeOf_any sM aM nM cM xsM W h hnl iM.part)
        have HWN := Lib.hid (fun W (h : Row W aN nM xsN) => wholeOf_any sM aN nM cN xsN W h hnl iN.part)
        have HFE : Hid (∀ k, mixF p q xsM xsN k = p * xsM.getD k 0 * sumL xsN + (q - p) * xsN.getD k 0 * sumL xsM) := fun k => rfl
        have HLE : Hid (mixL p q xsM xsN = tab nM (mixF p q xsM xsN)) := by show _ = _; rw [mixL, hM.1]
        have HLL : Hid ((mixL p q xsM xsN).length = nM) := by show _ = _; rw [mixL, tab_length, hM.1]
        have HK := Lib.hid (fun A C W h => makeMass_any sM A nM C (mixL p q xsM xsN) W h hnM (fun k hk => by rw [HLE.out, tab_getD _ _ _ hk]; have := hbd k hk; omega))
        obtain ⟨r, hr1⟩ : ∃ r, r = makeM sM (mixL p q xsM xsN) := ⟨_, rfl⟩
        rw [← hr1] at HK ⊢
        obtain ⟨u, hue⟩ : ∃ u, u = sumL xsM := ⟨_, rfl⟩
        obtain ⟨v, hve⟩ : ∃ v, v = sumL xsN := ⟨_, rfl⟩
        rw [← hue] at HWM hu
        rw [← hve] at HWN hv
        rw [← hue, ← hve] at HFE
        obtain ⟨L, hL⟩ : ∃ L, L = mixL p q xsM xsN := ⟨_, rfl⟩
        obtain ⟨F, hF⟩ : ∃ F, F = mixF p q xsM xsN := ⟨_, rfl⟩
        rw [← hL] at HK HLE HLL
        rw [← hF] at HFE HLE
        have hq1 : (decide (q > 1000)) = false := by simp; omega
        clear hr1 hbd hue hve iM iN hb hs hL hF hM hN
        go_enter Try.func75, Try.ntmps75
        go_wp2_with fail
        rw [← HW0.out]
        refine HBT.out.mono ?_
        rintro e w1 ⟨rfl, b1⟩
        have HX1 := Lib.hid (HBX.out.below b1 HBX.out.lt)
        have HF1 := Lib.hid (HBF.out.below b1 HBF.out.lt)
        have HM1 := Lib.hid (HBM.out.below b1 HBM.out.lt)
        have HN1 := Lib.hid (HBN.out.below b1 HBN.out.lt)
        have HB1 := Lib.hid (HB0.out.trans (b1.mono HB0.out.size))
        have hM1 := hM0.below b1
        have hN1 := hN0.below b1
        clear b1 HBT HBX HBF HBM HBN hM0 hN0
        obtain ⟨c1, c2, _, _⟩ := HF1.out.cells
        go_wp2_with fail
        clear c1 c2
        refine (HSH.out _).mono ?_
        rintro e w2 ⟨rfl, b2⟩
        have HX2 := Lib.hid (HX1.out.below b2 HX1.out.lt)
        have HF2 := Lib.hid (HF1.out.below b2 HF1.out.lt)
        have HM2 := Lib.hid (HM1.out.below b2 HM1.out.lt)
        have HN2 := Lib.hid (HN1.out.below b2 HN1.out.lt)
        have HB2 := Lib.hid (HB1.out.trans (b2.mono HB1.out.size))
        have hM2 := hM1.below b2
        have hN2 := hN1.below b2
        clear b2 HSH HX1 HF1 HM1 HN1 hM1 hN1
        obtain ⟨c1, c2, _, _⟩ := HF2.out.cells
        obtain ⟨c3, c4, _, _⟩ := HM2.out.cells
        obtain ⟨i0, hi, hz0, hz1, hz2⟩ := info_parts info_int
        go_wp2_with (at_make; go_loud (refine wpList_make_full _ rfl _ _ 22 rfl w2.heap.size 3 i0 (.int .i64 0) 1 Try.underlying22 hi hz0 hz1 _ _ _ _ nM rfl rfl (by omega) (by omega) (by rw [hz2]; omega) (by unfold maxLen; omega) (Nat.le_refl _) ?_))
        intro w3 hown hg
        rw [toList_madeCells_one, ← List.map_replicate (f := Value.int .i64) (a := 0)] at hown
        have how : Own w2.heap.size w3 (some ⟨w2.heap.size, 0, none⟩) nM nM (List.replicate nM 0) := hown
        have hbw : Below w2.heap.size w2 w3 := (Below.refl _ _).grown hg (Nat.le_refl _) (fun k h => by cases h)
        rw [← filled_zero L nM] at how
        clear hown hg hi hz0 hz1 hz2 c1 c2 c3 c4
        have hn16 : nM ≤ 16 := hnl
        go_wp2_with fail
        go_loopw [31] (fun i wr => ∃ k : Nat, k ≤ nM ∧ i = .int .i64 k ∧ Hid (Own w2.heap.size wr (some ⟨w2.heap.size, 0, none⟩) nM nM (filled L nM k)) ∧ Hid (Below w2.heap.size w2 wr)) (fun i _ => nM - (intOf i).toNat)
        case atStart => exact ⟨0, Nat.zero_le _, rfl, how, hbw⟩
        case round =>
          obtain ⟨k, hk, rfl, HO, HBR⟩ := hrel
          clear how hbw
          by_cases hlt : k < nM
          · obtain ⟨b, off, x, rfl, hxe, hcx⟩ := hM2.at_ hlt
            obtain ⟨b2, off2, y, rfl, hye, hcy⟩ := hN2.at_ hlt
            have RX := hM2.below HBR.out
            have RY := hN2.below HBR.out
            have BB := HBR.out
            have O := HO.out
            have hxb := HPX.out k hlt
            have hyb := HPY.out k hlt
            rw [← hxe] at hxb
            rw [← hye] at hyb
            have hFk := HFE.out k
            rw [← hxe, ← hye] at hFk
            have a1 := mul_bound (a := p) (b := x) (A := 1000) (B := 1000000) (by omega) hxb
            have a2 := mul_bound (a := p * x) (b := v) (A := 1000 * 1000000) (B := 1000000) a1 (by omega)
            have a3 := mul_bound (a := q - p) (b := y) (A := 1000) (B := 1000000) (by omega) hyb
            have a4 := mul_bound (a := (q - p) * y) (b := u) (A := 1000 * 1000000) (B := 1000000) a3 (by omega)
            obtain ⟨d, hd⟩ : ∃ d, d = q - p := ⟨_, rfl⟩
            rw [← hd] at a3 a4 hFk
            obtain ⟨t1, ht1⟩ : ∃ t, t = p * x := ⟨_, rfl⟩
            rw [← ht1] at a1 a2 hFk
            obtain ⟨t2, ht2⟩ : ∃ t, t = t1 * v := ⟨_, rfl⟩
            rw [← ht2] at a2 hFk
            obtain ⟨t3, ht3⟩ : ∃ t, t = d * y := ⟨_, rfl⟩
            rw [← ht3] at a3 a4 hFk
            obtain ⟨t4, ht4⟩ : ∃ t, t = t3 * u := ⟨_, rfl⟩
            rw [← ht4] at a4 hFk
            have e1 : IntKind.i64.wrap (p * x) = t1 := by rw [← ht1]; exact IntWalk.i64_in _ (by omega)
            have e2 : IntKind.i64.wrap (t1 * v) = t2 := by rw [← ht2]; exact IntWalk.i64_in _ (by omega)
            have e3 : IntKind.i64.wrap (q - p) = d := by rw [← hd]; exact IntWalk.i64_in _ (by omega)
            have e4 : IntKind.i64.wrap (d * y) = t3 := by rw [← ht3]; exact IntWalk.i64_in _ (by omega)
            have e5 : IntKind.i64.wrap (t3 * u) = t4 := by rw [← ht4]; exact IntWalk.i64_in _ (by omega)
            have e6 : IntKind.i64.wrap (t2 + t4) = t2 + t4 := IntWalk.i64_in _ (by omega)
            have HFK := Lib.hid hFk
            clear hFk hd ht1 ht2 ht3 ht4 hxe hye
            have HST := Lib.hid (filled_set L nM k)
            rw [show L.getD k 0 = t2 + t4 by rw [HLE.out, tab_getD _ _ _ hlt]; exact HFK.out] at HST
            obtain ⟨t0, ht0⟩ : ∃ t, t = (filled L nM k).getD k 0 := ⟨_, rfl⟩
            have HT0 := Lib.hid ht0; clear ht0
            have HKS : Hid (∀ W : World, Below w2.heap.size w2 W → (W.cell? ⟨w.heap.size, 0, none⟩ = some (.int .i64 sM) ∧ W.cell? ⟨w.heap.size, 1, none⟩ = some (.slice (some ⟨b, off, none⟩) nM cM) ∧ W.cell? ⟨w.heap.size + 1, 0, none⟩ = some (.int .i64 sM) ∧ W.cell? ⟨w.heap.size + 1, 1, none⟩ = some (.slice (some ⟨b2, off2, none⟩) nM cN) ∧ W.cell? ⟨w.heap.size + 1 + 1, 0, none⟩ = some (.int .i64 p) ∧ W.cell? ⟨w.heap.size + 1 + 1, 1, none⟩ = some (.int .i64 q) ∧ W.cell? ⟨b, off + k, none⟩ = some (.int .i64 x) ∧ W.cell? ⟨b2, off2 + k, none⟩ = some (.int .i64 y))) := fun W hB => ⟨(HM2.out.below hB HM2.out.lt).cells.1, (HM2.out.below hB HM2.out.lt).cells.2.1, (HN2.out.below hB HN2.out.lt).cells.1, (HN2.out.below hB HN2.out.lt).cells.2.1, (HF2.out.below hB HF2.out.lt).cells.1, (HF2.out.below hB HF2.out.lt).cells.2.1, (hB.cell (p := ⟨b, off + k, none⟩) (World.block_lt_of_cell? _ _ hcx)).trans hcx, (hB.cell (p := ⟨b2, off2 + k, none⟩) (World.block_lt_of_cell? _ _ hcy)).trans hcy⟩
            obtain ⟨c1, c2, c3, c4, c5, c6, c7, c8⟩ := HKS.out wr BB
            have hki : (k : Int) < (nM : Int) := by omega
            replace BB := BB.drew
            replace RX := RX.below (w' := wr.drew) (Below.refl _ _).drew
            replace RY := RY.below (w' := wr.drew) (Below.refl _ _).drew
            replace O := O.below (w' := wr.drew) (Below.refl _ _).drew
            go_wp2_with fail
            go_region_held3 (fun W => W.cell? ⟨w.heap.size, 0, none⟩ = some (.int .i64 sM) ∧ W.cell? ⟨w.heap.size, 1, none⟩ = some (.slice (some ⟨b, off, none⟩) nM cM) ∧ W.cell? ⟨w.heap.size + 1, 0, none⟩ = some (.int .i64 sM) ∧ W.cell? ⟨w.heap.size + 1, 1, none⟩ = some (.slice (some ⟨b2, off2, none⟩) nM cN) ∧ W.cell? ⟨w.heap.size + 1 + 1, 0, none⟩ = some (.int .i64 p) ∧ W.cell? ⟨w.heap.size + 1 + 1, 1, none⟩ = some (.int .i64 q) ∧ W.cell? ⟨b, off + k, none⟩ = some (.int .i64 x) ∧ W.cell? ⟨b2, off2 + k, none⟩ = some (.int .i64 y))
              (first | exact HKS.out _ BB | exact HKS.out _ (BB.setCell (Nat.le_refl _) _))
              (first | (have _t := tok1; go_at_call 69; refine (HWM.out _ RX).mono ?_; rintro e w6 ⟨rfl, b6⟩; replace BB := BB.trans (b6.mono BB.size); replace RX := RX.below b6; replace RY := RY.below b6; replace O := O.below b6; have pc := O.cell hlt; rw [← HT0.out] at pc; have pf := O.frozen k; have tok2 : True := trivial) | (go_at_call 69; refine (HWN.out _ RY).mono ?_; rintro e w5 ⟨rfl, b5⟩; replace BB := BB.trans (b5.mono BB.size); replace RX := RX.below b5; replace RY := RY.below b5; replace O := O.below b5; have tok1 : True := trivial))
            all_goals
              have HO6 := Lib.hid (O.set k (t2 + t4))
              rw [HST.out] at HO6
              have HB6 := Lib.hid (BB.setCell (p := ⟨w2.heap.size, k, none⟩) (Nat.le_refl _) (.int .i64 (t2 + t4)))
              clear pc pf c1 c2 c3 c4 c5 c6 c7 c8
              go_wp2_with fail
              go_roundw
              case rel => exact ⟨k + 1, by omega, by go_num, HO6.out, HB6.out⟩
              case measure => simp [intOf]; omega
          · have hk' : k = nM := by omega
            have HD := Lib.hid (filled_full L nM HLL.out)
            have HO2 : Hid (Own w2.heap.size wr (some ⟨w2.heap.size, 0, none⟩) nM nM L) := by rw [← HD.out, ← hk']; rw [hk'] at HO; rw [← hk'] at HO; have := HO.out; rw [hk'] at this ⊢; exact this
            clear HO HD
            subst hk'
            obtain ⟨c1, c2, _, _⟩ := (HM2.out.below HBR.out HM2.out.lt).cells
            go_wp2_with fail
            clear c1 c2
            refine (HK.out _ _ _ HO2.out.row).mono ?_
            rintro e w9 ⟨⟨A9, C9, rfl, o9⟩, b9⟩
            have BX9 := (HX2.out.below HBR.out HX2.out.lt).below b9 (Nat.lt_of_lt_of_le HX2.out.lt HBR.out.size)
            obtain ⟨d1, d2, f1, f2⟩ := BX9.cells
            have HO9 := Lib.hid o9
            have HBB := Lib.hid (HB2.out.trans ((HBR.out.trans (b9.mono HBR.out.size)).mono HB2.out.size))
            have hz9 : w.heap.size + 1 + 1 + 1 < wr.heap.size := Nat.lt_of_lt_of_le HX2.out.lt HBR.out.size
            clear b9 o9 BX9
            go_wp2_with fail
            refine bodyPost_ret (v := .tuple #[massV (rS r) A9 (rN r) C9, .bool (rB r)]) (by simp [results, Try.results75, go_sem, d1, d2]) rfl ?_
            exact ⟨⟨A9, C9, rfl, (HO9.out.setBox hz9 _ _).mono (by omega)⟩, (HBB.out.setCell (by simp; omega) _).setCell (by simp; omega) _⟩
      · rw [show mixR sM xsM sN xsN p q = none from if_neg (by simp [hb, hs, hq])]
        have hq1 : 1000 < q := by omega
        clear hb hs hq hM0 hN0 hM hN
        go_enter Try.func75, Try.ntmps75
        go_wp2_with fail
        rw [← HW0.out]
        refine HBT.out.mono ?_
        rintro e w1 ⟨rfl, b1⟩
        have HX1 := Lib.hid (HBX.out.below b1 HBX.out.lt)
        have HF1 := Lib.hid (HBF.out.below b1 HBF.out.lt)
        have HB1 := Lib.hid (HB0.out.trans (b1.mono HB0.out.size))
        clear b1
        obtain ⟨c1, c2, _, _⟩ := HF1.out.cells
        go_wp2_with fail
        clear c1 c2
        refine (HSH.out _).mono ?_
        rintro e w2 ⟨rfl, b2⟩
        obtain ⟨d1, d2, f1, f2⟩ := (HX1.out.below b2 HX1.out.lt).cells
        obtain ⟨c1, c2, _, _⟩ := (HF1.out.below b2 HF1.out.lt).cells
        have HB2 := Lib.hid (HB1.out.trans (b2.mono HB1.out.size))
        clear b2
        go_wp2_with fail
        refine bodyPost_ret (v := .tuple #[massV 0 none 0 0, .bool false]) (by simp [results, Try.results75, go_sem, d1, d2]) rfl ?_
        exact ⟨RetM.none_ _ _, (HB2.out.setCell (by simp; omega) _).setCell (by simp; omega) _⟩
    · have hs' : shareB p q = false := by simpa using hs
      rw [hs'] at HSH
      rw [show mixR sM xsM sN xsN p q = none from if_neg (by simp [hs'])]
      clear hb hs hs' hM0 hN0 hM hN
      go_enter Try.func75, Try.ntmps75
      go_wp2_with fail
      rw [← HW0.out]
      refine HBT.out.mono ?_
      rintro e w1 ⟨rfl, b1⟩
      have HX1 := Lib.hid (HBX.out.below b1 HBX.out.lt)
      have HF1 := Lib.hid (HBF.out.below b1 HBF.out.lt)
      have HB1 := Lib.hid (HB0.out.trans (b1.mono HB0.out.size))
      clear b1
      obtain ⟨c1, c2, _, _⟩ := HF1.out.cells
      go_wp2_with fail
      clear c1 c2
      refine (HSH.out _).mono ?_
      rintro e w2 ⟨rfl, b2⟩
      obtain ⟨d1, d2, f1, f2⟩ := (HX1.out.below b2 HX1.out.lt).cells
      obtain ⟨c1, c2, _, _⟩ := (HF1.out.below b2 HF1.out.lt).cells
      have HB2 := Lib.hid (HB1.out.trans (b2.mono HB1.out.size))
      clear b2
      go_wp2_with fail
      refine bodyPost_ret (v := .tuple #[massV 0 none 0 0, .bool false]) (by simp [results, Try.results75, go_sem, d1, d2]) rfl ?_
      exact ⟨RetM.none_ _ _, (HB2.out.setCell (by simp; omega) _).setCell (by simp; omega) _⟩
  · have hb' : bothB sM xsM sN xsN = false := by simpa using hb
    rw [hb'] at HBT
    rw [show mixR sM xsM sN xsN p q = none from if_neg (by simp [hb'])]
    clear hb hb' hM0 hN0 hM hN
    go_enter Try.func75, Try.ntmps75
    go_wp2_with fail
    rw [← HW0.out]
    refine HBT.out.mono ?_
    rintro e w1 ⟨rfl, b1⟩
    have HX1 := Lib.hid (HBX.out.below b1 HBX.out.lt)
    have HF1 := Lib.hid (HBF.out.below b1 HBF.out.lt)
    have HB1 := Lib.hid (HB0.out.trans (b1.mono HB0.out.size))
    clear b1
    obtain ⟨d1, d2, f1, f2⟩ := HX1.out.cells
    go_wp2_with fail
    refine bodyPost_ret (v := .tuple #[massV 0 none 0 0, .bool false]) (by simp [results, Try.results75, go_sem, d1, d2]) rfl ?_
    exact ⟨RetM.none_ _ _, (HB1.out.setCell (by simp; omega) _).setCell (by simp; omega) _⟩
end Go.Proofs.Ytapkppnjgbcklaa
