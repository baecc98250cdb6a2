/- The walk of the law FnMeanSize. -/
import Derived.Test.YtapkppnjgbcklaaBase7
import Derived.Test.YtapkppnjgbcklaaLaw
import Derived.Test.YtapkppnjgbcklaaW16
import Derived.Test.YtapkppnjgbcklaaW26
import Derived.Deep.RegionHeld3
import Derived.Deep.QuietTactic
import Derived.BigQuiet
namespace Go.Proofs.Ytapkppnjgbcklaa
open Go.RowKit

set_option maxHeartbeats 6400000 in
set_option maxRecDepth 100000 in
theorem walkMeanSize (a : Option Addr) (l c : Nat) (bs : List Int) (w : World) (hr : BRow w a l bs) (hlc : l ≤ c) :
    Calls Try.prog 12 #[.slice a l c] w fun e w' => e = .returned (.bool true) ∧ Below w.heap.size w w' := by
  by_cases hl : 1048576 < (l : Int)
  · clear hr
    go_enter Try.func12, Try.ntmps12
    go_wp2_with fail
    go_ret
    exact ⟨rfl, Below.refl _ _⟩
  have HD := Lib.hid (DrawMeanSize_any a l c bs w hr (.inl hlc))
  clear hr
  go_enter Try.func12, Try.ntmps12
  go_wp2_with fail
  refine HD.out.mono ?_
  rintro e w1 ⟨s, A, n, C, xs, rfl, hn17, Rm, b1⟩
  have BB := b1
  have hn : n ≤ 1048576 := by omega
  go_upto_region 4 with fail
  obtain ⟨w2, hw2⟩ : ∃ W, W = w1.alloc (.cells #[.int .i64 s, .slice A n C] 30) := ⟨_, rfl⟩
  obtain ⟨Mm, b2⟩ := Mv.new Rm hw2
  rw [← hw2]
  clear hw2
  replace BB := BB.trans (b2.mono BB.size)
  cases hr1 : meanR s xs with
  | none =>
    have HR1 := Lib.hid hr1
    clear hr1
    have HN := Lib.hid (fun W (h : Row W A n xs) => (iMeanSize_any s A n C xs W h hn).mono (fun e w' h => And.intro (RetF.no HR1.out h.1) h.2))
    have HN2 := Lib.hid (fun W (h : Row W A n xs) => (sMeanSize_any s A n C xs W h hn).mono (fun e w' h => And.intro (RetF.no HR1.out h.1) h.2))
    obtain ⟨m1, m2⟩ := Mm.at_ (Below.refl _ _)
    go_wp2_with fail
    clear m1 m2
    refine (HN.out _ Mm.2).mono ?_
    rintro e w3 ⟨rfl, b3⟩
    replace Mm := Mm.below b3
    replace BB := BB.trans (b3.mono BB.size)
    go_upto_region 5 with fail
    obtain ⟨w4, hw4⟩ : ∃ W, W = w3.alloc (.cells #[.int .i64 0, .int .i64 0] 27) := ⟨_, rfl⟩
    obtain ⟨Mf, b4⟩ := Fv.new w3 (0) (0) hw4
    rw [← hw4]
    clear hw4
    replace Mm := Mm.below b4
    replace BB := BB.trans (b4.mono BB.size)
    obtain ⟨m1, m2⟩ := Mm.at_ (Below.refl _ _)
    go_wp2_with fail
    clear m1 m2
    refine (HN2.out _ Mm.2).mono ?_
    rintro e w5 ⟨rfl, b5⟩
    replace Mm := Mm.below b5
    replace Mf := Mf.below b5
    replace BB := BB.trans (b5.mono BB.size)
    go_upto_region 6 with fail
    obtain ⟨w6, hw6⟩ : ∃ W, W = w5.alloc (.cells #[.int .i64 0, .int .i64 0] 27) := ⟨_, rfl⟩
    obtain ⟨Mv, b6⟩ := Fv.new w5 (0) (0) hw6
    rw [← hw6]
    clear hw6
    replace Mm := Mm.below b6
    replace Mf := Mf.below b6
    replace BB := BB.trans (b6.mono BB.size)
    obtain ⟨f1, f2⟩ := Mf.at_ (Below.refl _ _)
    obtain ⟨v1, v2⟩ := Mv.at_ (Below.refl _ _)
    go_wp2_with fail
    go_ret
    exact ⟨rfl, BB⟩
  | some r =>
    obtain ⟨p, q⟩ := r
    have hm : massB s xs = true := by
      cases h : massB s xs with
      | true => rfl
      | false => unfold meanR fracM at hr1; rw [if_neg (by simp [h])] at hr1; cases hr1
    obtain ⟨k, z, hM⟩ := mean_some Rm.1 hm hr1
    have hI := massB_is Rm.1 hm
    obtain ⟨d, hd⟩ : ∃ d, d = sumL xs := ⟨_, rfl⟩
    have HW : Hid (wholeR s xs = d) := by show _ = _; rw [wholeR_yes hm, hd]
    rw [← hd] at hM
    have hcn : contourN s xs = k := by unfold contourN; rw [if_pos hm, hM.size, Int.toNat_natCast]
    have hct : contourT s xs = contour k xs := by unfold contourT; rw [if_pos hm, hM.size, Int.toNat_natCast]
    have hk4 := hM.m4
    have hpqb : -1000000000 ≤ p ∧ p ≤ 1000000000 ∧ 1 ≤ q ∧ q ≤ 1000000000 := by
      have := hM.valid
      simp [fracB, isPartB] at this
      omega
    have HR1 := Lib.hid hr1
    have HM := Lib.hid hM
    have HCN := Lib.hid hcn
    have HCT := Lib.hid hct
    have hs4 : 1 ≤ s ∧ s ≤ 4 := by rw [hM.size]; omega
    clear hr1 hm hI hd hcn hct hM
    have HN := Lib.hid (fun W (h : Row W A n xs) => (iMeanSize_any s A n C xs W h hn).mono (fun e w' h => And.intro (RetF.yes HR1.out h.1) h.2))
    have HN2 := Lib.hid (fun W (h : Row W A n xs) => (sMeanSize_any s A n C xs W h hn).mono (fun e w' h => And.intro (RetF.yes HR1.out h.1) h.2))
    obtain ⟨m1, m2⟩ := Mm.at_ (Below.refl _ _)
    go_wp2_with fail
    clear m1 m2
    refine (HN.out _ Mm.2).mono ?_
    rintro e w3 ⟨rfl, b3⟩
    replace Mm := Mm.below b3
    replace BB := BB.trans (b3.mono BB.size)
    go_upto_region 5 with fail
    obtain ⟨w4, hw4⟩ : ∃ W, W = w3.alloc (.cells #[.int .i64 p, .int .i64 q] 27) := ⟨_, rfl⟩
    obtain ⟨Mf, b4⟩ := Fv.new w3 (p) (q) hw4
    rw [← hw4]
    clear hw4
    replace Mm := Mm.below b4
    replace BB := BB.trans (b4.mono BB.size)
    obtain ⟨m1, m2⟩ := Mm.at_ (Below.refl _ _)
    go_wp2_with fail
    clear m1 m2
    refine (HN2.out _ Mm.2).mono ?_
    rintro e w5 ⟨rfl, b5⟩
    replace Mm := Mm.below b5
    replace Mf := Mf.below b5
    replace BB := BB.trans (b5.mono BB.size)
    go_upto_region 6 with fail
    obtain ⟨w6, hw6⟩ : ∃ W, W = w5.alloc (.cells #[.int .i64 p, .int .i64 q] 27) := ⟨_, rfl⟩
    obtain ⟨Mv, b6⟩ := Fv.new w5 (p) (q) hw6
    rw [← hw6]
    clear hw6
    replace Mm := Mm.below b6
    replace Mf := Mf.below b6
    replace BB := BB.trans (b6.mono BB.size)
    have HCO := Lib.hid (fun W (h : Row W A n xs) => iContourOf_any s A n C xs W h hn)
    rw [HCN.out, HCT.out] at HCO
    obtain ⟨f1, f2⟩ := Mf.at_ (Below.refl _ _)
    obtain ⟨v1, v2⟩ := Mv.at_ (Below.refl _ _)
    go_upto_region 8 with fail
    clear f1 f2
    clear v1 v2
    obtain ⟨m1, m2⟩ := Mm.at_ (Below.refl _ _)
    go_wp2_with fail
    clear m1 m2
    refine (HCO.out _ Mm.2).mono ?_
    rintro e w7 ⟨Ac, Cc, rfl, Rc, b7⟩
    replace Mm := Mm.below b7
    replace Mf := Mf.below b7
    replace Mv := Mv.below b7
    replace BB := BB.trans (b7.mono BB.size)
    have Hm := Lib.hid Mm
    have Hf := Lib.hid Mf
    have HBB := Lib.hid BB
    clear BB Mm Mf
    have HRC := Lib.hid Rc.row
    go_wp2_with fail
    go_loopw [9, 10] (fun y i wr => ∃ (j : Nat) (u : Int), j ≤ k ∧ i = .int .i64 j ∧ y = .int .i64 u ∧ 0 ≤ u ∧ u ≤ 16000000 * (j : Int) ∧ Hid (u = sumTo (fun k => partOf (fun j => meetB (2 ^ k) j) xs) j) ∧ Hid (Below w7.heap.size w7 wr)) (fun _ i _ => k - (intOf i).toNat)
    case atStart => exact ⟨0, 0, Nat.zero_le _, rfl, rfl, by omega, by omega, rfl, Lib.hid (Below.refl _ _)⟩
    case round =>
      obtain ⟨j, u, hj, rfl, rfl, hu0, hu1, HU, HB⟩ := hrel
      by_cases hlt : j < k
      · obtain ⟨cb, co, x, rfl, hx, hc⟩ := (HRC.out.below HB.out).at_ hlt
        rw [contour, tab_getD _ _ _ hlt] at hx
        have hxb := HM.out.part j
        rw [← hx] at hxb
        have HN3 : Hid (u + x = sumTo (fun k => partOf (fun j => meetB (2 ^ k) j) xs) (j + 1)) := by show _ = _; simp only [sumTo]; rw [← HU.out, hx]
        clear hx
        go_wp2_with fail
        go_roundw
        case rel => exact ⟨j + 1, u + x, by omega, by go_num, rfl, by omega, by omega, HN3, HB⟩
        case measure => simp [intOf]; omega
      · obtain rfl : k = j := by omega
        have huz : u = z := by rw [HU.out]; exact HM.out.sum
        subst huz
        have HFR := Lib.hid HM.out.frac
        have hzb := HM.out.zb
        have hdb := HM.out.db
        have HWH := Lib.hid (fun W (h : Row W A n xs) => WholeOf_any s A n C xs W h hn)
        rw [HW.out] at HWH
        have HFC := Lib.hid (fun W => (Fractional_any u d W (by simp [isPartB]; omega) (by simp [isPartB]; omega) hdb.1).mono (fun e w' h => And.intro (RetF.yes HFR.out h.1) h.2))
        have BB := HB.out
        have Mm := Hm.out.below BB
        have Mf := Hf.out.below BB
        obtain ⟨m1, m2⟩ := Mm.at_ (Below.refl _ _)
        go_wp2_with fail
        clear m1 m2
        refine (HWH.out _ Mm.2).mono ?_
        rintro e w8 ⟨rfl, b8⟩
        replace Mm := Mm.below b8
        replace Mf := Mf.below b8
        replace BB := BB.trans (b8.mono BB.size)
        go_wp2_with fail
        refine (HFC.out _).mono ?_
        rintro e w9 ⟨rfl, b9⟩
        replace Mm := Mm.below b9
        replace Mf := Mf.below b9
        replace BB := BB.trans (b9.mono BB.size)
        go_upto_region 15 with fail
        obtain ⟨w10, hw10⟩ : ∃ W, W = w9.alloc (.cells #[.int .i64 p, .int .i64 q] 27) := ⟨_, rfl⟩
        obtain ⟨Mg, b10⟩ := Fv.new w9 (p) (q) hw10
        rw [← hw10]
        clear hw10
        replace Mm := Mm.below b10
        replace Mf := Mf.below b10
        replace BB := BB.trans (b10.mono BB.size)
        have hle := HM.out.le
        obtain ⟨y, hy⟩ : ∃ y, y = s * q := ⟨_, rfl⟩
        have hyb : 1 ≤ y ∧ y ≤ 4000000000 := by
          have h1 := mul_bound (a := s) (b := q) (A := 4) (B := 1000000000) ⟨by omega, by omega⟩ ⟨by omega, by omega⟩
          have h2 : 1 * 1 ≤ s * q := Int.mul_le_mul hs4.1 (by omega) (by omega) (by omega)
          omega
        have e1 : wrap64 (s * q) = y := by rw [← hy]; exact IntWalk.wrap64_in _ (by omega)
        rw [← hy] at hle
        clear hy
        have HCH := Lib.hid (fun W (h : Row W A n xs) => IsChance_any s A n C xs W h hn)
        obtain ⟨m1, m2⟩ := Mm.at_ (Below.refl _ _)
        obtain ⟨f1, f2⟩ := Mf.at_ (Below.refl _ _)
        obtain ⟨g1, g2⟩ := Mg.at_ (Below.refl _ _)
        by_cases hc : chanB s xs = true
        · rw [hc] at HCH
          obtain ⟨rfl, rfl⟩ := HM.out.one hc
          clear hc
          go_wp2_with fail
          refine (HCH.out _ Mm.2).mono ?_
          rintro e w12 ⟨rfl, b12⟩
          clear m1 m2 f1 f2 g1 g2
          replace Mm := Mm.below b12
          replace Mf := Mf.below b12
          replace Mg := Mg.below b12
          replace BB := BB.trans (b12.mono BB.size)
          obtain ⟨m1, m2⟩ := Mm.at_ (Below.refl _ _)
          obtain ⟨f1, f2⟩ := Mf.at_ (Below.refl _ _)
          obtain ⟨g1, g2⟩ := Mg.at_ (Below.refl _ _)
          go_wp2_with fail
          go_ret
          exact ⟨rfl, HBB.out.trans (BB.mono HBB.out.size)⟩
        · have hc' : chanB s xs = false := by simpa using hc
          rw [hc'] at HCH
          clear hc hc'
          go_wp2_with fail
          refine (HCH.out _ Mm.2).mono ?_
          rintro e w12 ⟨rfl, b12⟩
          clear m1 m2 f1 f2 g1 g2
          replace Mm := Mm.below b12
          replace Mf := Mf.below b12
          replace Mg := Mg.below b12
          replace BB := BB.trans (b12.mono BB.size)
          obtain ⟨m1, m2⟩ := Mm.at_ (Below.refl _ _)
          obtain ⟨f1, f2⟩ := Mf.at_ (Below.refl _ _)
          obtain ⟨g1, g2⟩ := Mg.at_ (Below.refl _ _)
          go_wp2_with fail
          go_ret
          exact ⟨rfl, HBB.out.trans (BB.mono HBB.out.size)⟩
end Go.Proofs.Ytapkppnjgbcklaa
