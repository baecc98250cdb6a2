/- The walk of the law FnMassText. -/
import Derived.Test.YtlfajalhoifliaaGreatDoorBase7
import Derived.Test.YtlfajalhoifliaaGreatDoorW82
import Derived.Test.YtlfajalhoifliaaGreatDoorW53
import Derived.Test.YtlfajalhoifliaaGreatDoorLaw17
import Derived.Deep.RegionHeld3
namespace Go.Proofs.YtlfajalhoifliaaGreatDoor
open Go.RowKit

theorem BRow.at2 {w w' : World} {a : Option Addr} {n : Nat} {bs : List Int} (h : BRow w a n bs) (hb : Below w.heap.size w w') : BRow w' a n bs := h.below hb
theorem parR_len2 (l : List UInt8) : rN (parR l) ≤ 1048576 := by
  cases h : parR l with
  | none => exact Nat.zero_le _
  | some p =>
    have hI := massB_is rfl (parR_some h).1
    show p.2.length ≤ _
    have := hI.nums
    omega
/-- what both sides return for a text -/
theorem parR_cases (l : List UInt8) : (parR l = none) ∨ ∃ u ys, parR l = some (u, ys) ∧ massB u ys = true ∧ l = fmtT u ys := by
  cases h : parR l with
  | none => exact .inl rfl
  | some p => exact .inr ⟨p.1, p.2, rfl, (parR_some h).1, (parR_some h).2⟩
theorem RetM.no0 {B : Nat} {e : Ending} {w : World} (h : RetM B none e w) : ∃ A C, e = .returned (.tuple #[massV 0 A 0 C, .bool false]) ∧ Row w A 0 [] := by
  obtain ⟨A, C, he, ho⟩ := h
  exact ⟨A, C, he, ho.row⟩
theorem RetM.yes0 {B : Nat} {e : Ending} {w : World} {t : Int} {ys : List Int} {m : Nat} (hm : ys.length = m) (h : RetM B (some (t, ys)) e w) : ∃ A C, e = .returned (.tuple #[massV t A m C, .bool true]) ∧ Row w A m ys := by
  subst hm
  obtain ⟨A, C, he, ho⟩ := h
  exact ⟨A, C, he, ho.row⟩
theorem eq_same (s : Int) (xs : List Int) : ((s == s) && eqB xs xs) = true := by simp [eqB_self]
theorem eqB_at {F : ByteArray} {l : List UInt8} (hF : F = bs l) : (F.toList == ([] : List UInt8)) = decide (l = []) := by
  subst hF
  rw [bs_toList]
  cases l <;> simp
set_option maxHeartbeats 6400000 in
set_option maxRecDepth 100000 in
theorem walkMassText (a : Option Addr) (l c : Nat) (bl : List Int) (a2 : Option Addr) (l2 c2 : Nat) (bl2 : List Int) (w : World) (hr : BRow w a l bl) (hlc : l ≤ c) (hr2 : BRow w a2 l2 bl2) (hlc2 : l2 ≤ c2) (hE : Env w) :
    Calls Tryz.prog 3 #[.slice a l c, .slice a2 l2 c2] w fun e w' => e = .returned (.bool true) ∧ Below w.heap.size w w' := by
  by_cases hl : 1048576 < (l : Int)
  · clear hr hr2
    go_enter Tryz.func3, Tryz.ntmps3
    go_wp2_with fail
    go_ret
    exact ⟨rfl, Below.refl _ _⟩
  by_cases hl2 : 1048576 < (l2 : Int)
  · clear hr hr2
    go_enter Tryz.func3, Tryz.ntmps3
    go_wp2_with fail
    go_ret
    exact ⟨rfl, Below.refl _ _⟩
  have HD := Lib.hid (DrawFormatMass_any a l c bl w hr (.inl hlc))
  have HR2 := Lib.hid hr2
  have HEV := Lib.hid hE
  clear hr hr2 hE
  go_enter Tryz.func3, Tryz.ntmps3
  go_wp2_with fail
  refine HD.out.mono ?_
  rintro e w1 ⟨s, A, n, C, xs, rfl, hn17, Rm, b1⟩
  have hn : n ≤ 1048576 := by omega
  go_upto_region 4 with fail
  obtain ⟨w2, hw2⟩ : ∃ W, W = w1.alloc (.cells #[.int .i64 s, .slice A n C] 25) := ⟨_, rfl⟩
  obtain ⟨Mm, b2⟩ := Mv.new Rm hw2
  rw [← hw2]
  clear hw2
  have BB := b1.trans (b2.mono b1.size)
  have HIF := Lib.hid (fun W (h : Row W A n xs) (he : Env W) => iFormatMass_any s A n C xs W h hn he.tab)
  have HSF := Lib.hid (fun W (h : Row W A n xs) => sFormatMass_any s A n C xs W h hn)
  have HIV := Lib.hid (fun W (h : Row W A n xs) => iMassValid_any s A n C xs W h hn)
  have HSV := Lib.hid (fun W (h : Row W A n xs) => MassValid_any s A n C xs W h hn)
  obtain ⟨F, hF⟩ : ∃ F, F = bs (fmtT s xs) := ⟨_, rfl⟩
  rw [← hF] at HIF HSF
  have HF := Lib.hid hF
  clear b1 b2 Rm hF
  obtain ⟨m1, m2⟩ := Mm.at_ (Below.refl _ _)
  go_wp2_with fail
  clear m1 m2
  refine (HIF.out _ Mm.2 (HEV.out.below BB)).mono ?_
  rintro e w3 ⟨rfl, b3⟩
  replace Mm := Mm.below b3
  replace BB := BB.trans (b3.mono BB.size)
  have HMm := Lib.hid Mm
  have HB3 := Lib.hid BB
  clear Mm BB b3
  have HI : Hid (∀ W, Below w3.heap.size w3 W → Below w3.heap.size w3 W ∧ W.cell? ⟨w1.heap.size, 0, none⟩ = some (.int .i64 s) ∧ W.cell? ⟨w1.heap.size, 1, none⟩ = some (.slice A n C)) := fun W h => ⟨h, (HMm.out.at_ h).1, (HMm.out.at_ h).2⟩
  have HK : Hid (∀ W W', Below W.heap.size W W' → (Below w3.heap.size w3 W ∧ W.cell? ⟨w1.heap.size, 0, none⟩ = some (.int .i64 s) ∧ W.cell? ⟨w1.heap.size, 1, none⟩ = some (.slice A n C)) → Below w3.heap.size w3 W' ∧ W'.cell? ⟨w1.heap.size, 0, none⟩ = some (.int .i64 s) ∧ W'.cell? ⟨w1.heap.size, 1, none⟩ = some (.slice A n C)) := fun W W' b h => HI.out W' (h.1.trans (b.mono h.1.size))
  have HS0 := Lib.hid (HI.out _ ((Below.refl _ _).drew : Below w3.heap.size w3 w3.drew))
  have HSF1 := Lib.hid (fun W (h : Below w3.heap.size w3 W) => HSF.out W (HMm.out.2.below h))
  have HIV1 := Lib.hid (fun W (h : Below w3.heap.size w3 W) => HIV.out W (HMm.out.2.below h))
  have HSV1 := Lib.hid (fun W (h : Below w3.heap.size w3 W) => HSV.out W (HMm.out.2.below h))
  by_cases hm : massB s xs = true
  · rw [hm] at HIV1 HSV1
    have HM := Lib.hid hm
    have hFe : (F.toList == ([] : List UInt8)) = false := by rw [eqB_at HF.out]; have := (fmtT_le hm).1; simp; intro e; rw [e] at this; simp at this
    clear hm
    go_wp2_with fail
    go_region_held3 (fun W => Below w3.heap.size w3 W ∧ W.cell? ⟨w1.heap.size, 0, none⟩ = some (.int .i64 s) ∧ W.cell? ⟨w1.heap.size, 1, none⟩ = some (.slice A n C))
      (first | with_reducible exact HS0.out | with_reducible assumption | with_reducible exact HK.out _ _ (by assumption) (by assumption) | go_keep)
      (first | (go_at_call 6; refine (HSF1.out _ (And.left (by assumption))).mono ?_; rintro e w9 ⟨rfl, b9⟩) | (go_at_call 7; refine (HIV1.out _ (And.left (by assumption))).mono ?_; rintro e w9 ⟨rfl, b9⟩) | (go_at_call 8; refine (HSV1.out _ (And.left (by assumption))).mono ?_; rintro e w9 ⟨rfl, b9⟩))
    have bx : Below w3.heap.size w3 w9 := And.left (by assumption)
    obtain ⟨w4, hw9⟩ : ∃ W, W = w9 := ⟨_, rfl⟩
    rw [← hw9]
    rw [← hw9] at bx
    have Mm := HMm.out.below bx
    have BB := HB3.out.trans (bx.mono HB3.out.size)
    clear HS0 HK HI hw9 bx HSF HSF1 HIV HIV1 HSV HSV1 HIF HMm HB3
    have HIP := Lib.hid (fun W (h : Env W) => iParseMass_any (fmtT s xs) W (by have := (fmtT_le HM.out).2; omega) h)
    rw [← HF.out, parR_text HM.out] at HIP
    have HLX := Lib.hid Mm.2.1
    go_wp2_with fail
    refine (HIP.out _ (HEV.out.below BB)).mono ?_
    rintro e w5 ⟨hr, be⟩
    obtain ⟨A2, C2, rfl, R2⟩ := RetM.yes0 HLX.out hr
    replace BB := BB.trans (be.mono BB.size)
    replace Mm := Mm.below be
    clear hr be
    go_upto_region 9 with fail
    obtain ⟨w6, hw6⟩ : ∃ W, W = w5.alloc (.cells #[.int .i64 s, .slice A2 n C2] 25) := ⟨_, rfl⟩
    obtain ⟨Mk, bw6⟩ := Mv.new R2 hw6
    rw [← hw6]
    clear hw6
    replace BB := BB.trans (bw6.mono BB.size)
    replace Mm := Mm.below bw6
    clear bw6 R2
    have HEK := Lib.hid (weEqual_any s s A2 A n C2 n C xs xs w6 Mk.2 Mm.2 (by omega) (by omega))
    rw [eq_same] at HEK
    obtain ⟨g1, g2⟩ := Mk.at_ (Below.refl _ _)
    obtain ⟨q1, q2⟩ := Mm.at_ (Below.refl _ _)
    go_wp2_with fail
    refine HEK.out.mono ?_
    rintro e w7 ⟨rfl, bi⟩
    replace BB := BB.trans (bi.mono BB.size)
    clear bi g1 g2 q1 q2 Mk Mm
    have HDP := Lib.hid (DrawParseMass_any a2 l2 c2 bl2 w7 (HR2.out.below BB) (.inl hlc2))
    go_wp2_with fail
    refine HDP.out.mono ?_
    rintro e wd ⟨t, rfl, ht, bd⟩
    replace BB := BB.trans (bd.mono BB.size)
    clear bd
    have HI2 := Lib.hid (fun W (h : Env W) => iParseMass_any t W (by omega) h)
    have HS2 := Lib.hid (fun W => sParseMass_any t W (by omega))
    obtain ⟨T, hT⟩ : ∃ T, T = bs t := ⟨_, rfl⟩
    rw [← hT] at HI2 HS2 ⊢
    have HT := Lib.hid hT
    clear hT ht
    rcases parR_cases t with hp | ⟨u, ys, hp, hmy, hty⟩
    · rw [hp] at HI2 HS2
      clear hp
      go_wp2_with fail
      refine (HI2.out _ (HEV.out.below BB)).mono ?_
      rintro e we ⟨hr, be⟩
      obtain ⟨A3, C3, rfl, R3⟩ := RetM.no0 hr
      replace BB := BB.trans (be.mono BB.size)
      clear hr be
      go_upto_region 13 with fail
      obtain ⟨wf, hwf⟩ : ∃ W, W = we.alloc (.cells #[.int .i64 0, .slice A3 0 C3] 25) := ⟨_, rfl⟩
      obtain ⟨Mg, bwf⟩ := Mv.new R3 hwf
      rw [← hwf]
      clear hwf
      replace BB := BB.trans (bwf.mono BB.size)
      clear bwf R3
      go_wp2_with fail
      refine (HS2.out _).mono ?_
      rintro e wg ⟨hr, be⟩
      obtain ⟨A4, C4, rfl, R4⟩ := RetM.no0 hr
      replace BB := BB.trans (be.mono BB.size)
      replace Mg := Mg.below be
      clear hr be
      go_upto_region 14 with fail
      obtain ⟨wh, hwh⟩ : ∃ W, W = wg.alloc (.cells #[.int .i64 0, .slice A4 0 C4] 25) := ⟨_, rfl⟩
      obtain ⟨Mw, bwh⟩ := Mv.new R4 hwh
      rw [← hwh]
      clear hwh
      replace BB := BB.trans (bwh.mono BB.size)
      replace Mg := Mg.below bwh
      clear bwh R4
      have HEQ := Lib.hid (weEqual_any 0 0 A3 A4 0 C3 0 C4 [] [] wh Mg.2 Mw.2 (by omega) (by omega))
      rw [eq_same] at HEQ
      obtain ⟨g1, g2⟩ := Mg.at_ (Below.refl _ _)
      obtain ⟨q1, q2⟩ := Mw.at_ (Below.refl _ _)
      go_wp2_with fail
      refine HEQ.out.mono ?_
      rintro e wi ⟨rfl, bi⟩
      replace BB := BB.trans (bi.mono BB.size)
      clear bi g1 g2 q1 q2
      go_wp2_with fail
      go_ret
      exact ⟨rfl, BB⟩
    · rw [hp] at HI2 HS2
      have hIy := massB_is rfl hmy
      obtain ⟨m, hmm⟩ : ∃ m, m = ys.length := ⟨_, rfl⟩
      have hm1 : m ≤ 1048576 := by have := hIy.nums; omega
      have HMM := Lib.hid hmm
      have HTT : Hid (T = bs (fmtT u ys)) := by show _ = _; rw [HT.out, hty]
      clear hp hIy hmm hmy hty
      go_wp2_with fail
      refine (HI2.out _ (HEV.out.below BB)).mono ?_
      rintro e we ⟨hr, be⟩
      obtain ⟨A3, C3, rfl, R3⟩ := RetM.yes0 HMM.out.symm hr
      replace BB := BB.trans (be.mono BB.size)
      clear hr be
      go_upto_region 13 with fail
      obtain ⟨wf, hwf⟩ : ∃ W, W = we.alloc (.cells #[.int .i64 u, .slice A3 m C3] 25) := ⟨_, rfl⟩
      obtain ⟨Mg, bwf⟩ := Mv.new R3 hwf
      rw [← hwf]
      clear hwf
      replace BB := BB.trans (bwf.mono BB.size)
      clear bwf R3
      go_wp2_with fail
      refine (HS2.out _).mono ?_
      rintro e wg ⟨hr, be⟩
      obtain ⟨A4, C4, rfl, R4⟩ := RetM.yes0 HMM.out.symm hr
      replace BB := BB.trans (be.mono BB.size)
      replace Mg := Mg.below be
      clear hr be
      go_upto_region 14 with fail
      obtain ⟨wh, hwh⟩ : ∃ W, W = wg.alloc (.cells #[.int .i64 u, .slice A4 m C4] 25) := ⟨_, rfl⟩
      obtain ⟨Mw, bwh⟩ := Mv.new R4 hwh
      rw [← hwh]
      clear hwh
      replace BB := BB.trans (bwh.mono BB.size)
      replace Mg := Mg.below bwh
      clear bwh R4
      have HEQ := Lib.hid (weEqual_any u u A3 A4 m C3 m C4 ys ys wh Mg.2 Mw.2 (by omega) (by omega))
      rw [eq_same] at HEQ
      obtain ⟨g1, g2⟩ := Mg.at_ (Below.refl _ _)
      obtain ⟨q1, q2⟩ := Mw.at_ (Below.refl _ _)
      go_wp2_with fail
      refine HEQ.out.mono ?_
      rintro e wi ⟨rfl, bi⟩
      replace BB := BB.trans (bi.mono BB.size)
      replace Mg := Mg.below bi
      have HF2 := Lib.hid (iFormatMass_any u A3 m C3 ys wi Mg.2 hm1 (HEV.out.below BB).tab)
      rw [← HTT.out] at HF2
      clear bi g1 g2 q1 q2
      obtain ⟨g1, g2⟩ := Mg.at_ (Below.refl _ _)
      go_wp2_with fail
      refine HF2.out.mono ?_
      rintro e wj ⟨rfl, bj⟩
      replace BB := BB.trans (bj.mono BB.size)
      clear bj g1 g2
      go_wp2_with fail
      go_ret
      exact ⟨by simp, BB⟩
  · have hm' : massB s xs = false := by simpa using hm
    rw [hm'] at HIV1 HSV1
    have hFe : (F.toList == ([] : List UInt8)) = true := by rw [eqB_at HF.out, fmtT, if_neg hm]; simp
    clear hm hm'
    go_wp2_with fail
    go_region_held3 (fun W => Below w3.heap.size w3 W ∧ W.cell? ⟨w1.heap.size, 0, none⟩ = some (.int .i64 s) ∧ W.cell? ⟨w1.heap.size, 1, none⟩ = some (.slice A n C))
      (first | with_reducible exact HS0.out | with_reducible assumption | with_reducible exact HK.out _ _ (by assumption) (by assumption) | go_keep)
      (first | (go_at_call 6; refine (HSF1.out _ (And.left (by assumption))).mono ?_; rintro e w9 ⟨rfl, b9⟩) | (go_at_call 7; refine (HIV1.out _ (And.left (by assumption))).mono ?_; rintro e w9 ⟨rfl, b9⟩) | (go_at_call 8; refine (HSV1.out _ (And.left (by assumption))).mono ?_; rintro e w9 ⟨rfl, b9⟩))
    have bx : Below w3.heap.size w3 w9 := And.left (by assumption)
    obtain ⟨w4, hw9⟩ : ∃ W, W = w9 := ⟨_, rfl⟩
    rw [← hw9]
    rw [← hw9] at bx
    have Mm := HMm.out.below bx
    have BB := HB3.out.trans (bx.mono HB3.out.size)
    clear HS0 HK HI hw9 bx HSF HSF1 HIV HIV1 HSV HSV1 HIF HMm HB3
    have HDP := Lib.hid (DrawParseMass_any a2 l2 c2 bl2 w4 (HR2.out.below BB) (.inl hlc2))
    go_wp2_with fail
    refine HDP.out.mono ?_
    rintro e wd ⟨t, rfl, ht, bd⟩
    replace BB := BB.trans (bd.mono BB.size)
    clear bd
    have HI2 := Lib.hid (fun W (h : Env W) => iParseMass_any t W (by omega) h)
    have HS2 := Lib.hid (fun W => sParseMass_any t W (by omega))
    obtain ⟨T, hT⟩ : ∃ T, T = bs t := ⟨_, rfl⟩
    rw [← hT] at HI2 HS2 ⊢
    have HT := Lib.hid hT
    clear hT ht
    rcases parR_cases t with hp | ⟨u, ys, hp, hmy, hty⟩
    · rw [hp] at HI2 HS2
      clear hp
      go_wp2_with fail
      refine (HI2.out _ (HEV.out.below BB)).mono ?_
      rintro e we ⟨hr, be⟩
      obtain ⟨A3, C3, rfl, R3⟩ := RetM.no0 hr
      replace BB := BB.trans (be.mono BB.size)
      clear hr be
      go_upto_region 13 with fail
      obtain ⟨wf, hwf⟩ : ∃ W, W = we.alloc (.cells #[.int .i64 0, .slice A3 0 C3] 25) := ⟨_, rfl⟩
      obtain ⟨Mg, bwf⟩ := Mv.new R3 hwf
      rw [← hwf]
      clear hwf
      replace BB := BB.trans (bwf.mono BB.size)
      clear bwf R3
      go_wp2_with fail
      refine (HS2.out _).mono ?_
      rintro e wg ⟨hr, be⟩
      obtain ⟨A4, C4, rfl, R4⟩ := RetM.no0 hr
      replace BB := BB.trans (be.mono BB.size)
      replace Mg := Mg.below be
      clear hr be
      go_upto_region 14 with fail
      obtain ⟨wh, hwh⟩ : ∃ W, W = wg.alloc (.cells #[.int .i64 0, .slice A4 0 C4] 25) := ⟨_, rfl⟩
      obtain ⟨Mw, bwh⟩ := Mv.new R4 hwh
      rw [← hwh]
      clear hwh
      replace BB := BB.trans (bwh.mono BB.size)
      replace Mg := Mg.below bwh
      clear bwh R4
      have HEQ := Lib.hid (weEqual_any 0 0 A3 A4 0 C3 0 C4 [] [] wh Mg.2 Mw.2 (by omega) (by omega))
      rw [eq_same] at HEQ
      obtain ⟨g1, g2⟩ := Mg.at_ (Below.refl _ _)
      obtain ⟨q1, q2⟩ := Mw.at_ (Below.refl _ _)
      go_wp2_with fail
      refine HEQ.out.mono ?_
      rintro e wi ⟨rfl, bi⟩
      replace BB := BB.trans (bi.mono BB.size)
      clear bi g1 g2 q1 q2
      go_wp2_with fail
      go_ret
      exact ⟨rfl, BB⟩
    · rw [hp] at HI2 HS2
      have hIy := massB_is rfl hmy
      obtain ⟨m, hmm⟩ : ∃ m, m = ys.length := ⟨_, rfl⟩
      have hm1 : m ≤ 1048576 := by have := hIy.nums; omega
      have HMM := Lib.hid hmm
      have HTT : Hid (T = bs (fmtT u ys)) := by show _ = _; rw [HT.out, hty]
      clear hp hIy hmm hmy hty
      go_wp2_with fail
      refine (HI2.out _ (HEV.out.below BB)).mono ?_
      rintro e we ⟨hr, be⟩
      obtain ⟨A3, C3, rfl, R3⟩ := RetM.yes0 HMM.out.symm hr
      replace BB := BB.trans (be.mono BB.size)
      clear hr be
      go_upto_region 13 with fail
      obtain ⟨wf, hwf⟩ : ∃ W, W = we.alloc (.cells #[.int .i64 u, .slice A3 m C3] 25) := ⟨_, rfl⟩
      obtain ⟨Mg, bwf⟩ := Mv.new R3 hwf
      rw [← hwf]
      clear hwf
      replace BB := BB.trans (bwf.mono BB.size)
      clear bwf R3
      go_wp2_with fail
      refine (HS2.out _).mono ?_
      rintro e wg ⟨hr, be⟩
      obtain ⟨A4, C4, rfl, R4⟩ := RetM.yes0 HMM.out.symm hr
      replace BB := BB.trans (be.mono BB.size)
      replace Mg := Mg.below be
      clear hr be
      go_upto_region 14 with fail
      obtain ⟨wh, hwh⟩ : ∃ W, W = wg.alloc (.cells #[.int .i64 u, .slice A4 m C4] 25) := ⟨_, rfl⟩
      obtain ⟨Mw, bwh⟩ := Mv.new R4 hwh
      rw [← hwh]
      clear hwh
      replace BB := BB.trans (bwh.mono BB.size)
      replace Mg := Mg.below bwh
      clear bwh R4
      have HEQ := Lib.hid (weEqual_any u u A3 A4 m C3 m C4 ys ys wh Mg.2 Mw.2 (by omega) (by omega))
      rw [eq_same] at HEQ
      obtain ⟨g1, g2⟩ := Mg.at_ (Below.refl _ _)
      obtain ⟨q1, q2⟩ := Mw.at_ (Below.refl _ _)
      go_wp2_with fail
      refine HEQ.out.mono ?_
      rintro e wi ⟨rfl, bi⟩
      replace BB := BB.trans (bi.mono BB.size)
      replace Mg := Mg.below bi
      have HF2 := Lib.hid (iFormatMass_any u A3 m C3 ys wi Mg.2 hm1 (HEV.out.below BB).tab)
      rw [← HTT.out] at HF2
      clear bi g1 g2 q1 q2
      obtain ⟨g1, g2⟩ := Mg.at_ (Below.refl _ _)
      go_wp2_with fail
      refine HF2.out.mono ?_
      rintro e wj ⟨rfl, bj⟩
      replace BB := BB.trans (bj.mono BB.size)
      clear bj g1 g2
      go_wp2_with fail
      go_ret
      exact ⟨by simp, BB⟩
end Go.Proofs.YtlfajalhoifliaaGreatDoor
