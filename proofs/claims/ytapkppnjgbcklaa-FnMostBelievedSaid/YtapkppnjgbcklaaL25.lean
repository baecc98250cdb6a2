/- The walk of the law FnMostBelieved. -/
import Derived.Test.YtapkppnjgbcklaaBase7
import Derived.Test.YtapkppnjgbcklaaLaw
import Derived.Test.YtapkppnjgbcklaaW21
import Derived.Test.YtapkppnjgbcklaaW35
import Derived.Test.YtapkppnjgbcklaaW47
import Derived.Deep.RegionHeld3
import Derived.Deep.QuietTactic
import Derived.BigQuiet
namespace Go.Proofs.Ytapkppnjgbcklaa
open Go.RowKit

set_option maxHeartbeats 6400000 in
set_option maxRecDepth 100000 in
theorem walkMostBelieved (a : Option Addr) (l c : Nat) (bs : List Int) (w : World) (hr : BRow w a l bs) (hlc : l ≤ c) :
    Calls Try.prog 11 #[.slice a l c] w fun e w' => e = .returned (.bool true) ∧ Below w.heap.size w w' := by
  by_cases hl : 1048576 < (l : Int)
  · clear hr
    go_enter Try.func11, Try.ntmps11
    go_wp2_with fail
    go_ret
    exact ⟨rfl, Below.refl _ _⟩
  have HD := Lib.hid (DrawMostBelieved_any a l c bs w hr (.inl hlc))
  clear hr
  go_enter Try.func11, Try.ntmps11
  go_wp2_with fail
  refine HD.out.mono ?_
  rintro e w1 ⟨s, A, n, C, xs, rfl, hn17, Rm, b1⟩
  have BB := b1
  have hn : n ≤ 1048576 := by omega
  go_upto_region 4 with fail
  obtain ⟨w2, hw2⟩ : ∃ W, W = w1.alloc (.cells #[.int .i64 s, .slice A n C] 30) := ⟨_, rfl⟩
  obtain ⟨Mm, b2⟩ := Mv.new Rm hw2
  rw [← hw2]
  clear hw2
  replace BB := BB.trans (b2.mono BB.size)
  have HN := Lib.hid (fun W (h : Row W A n xs) => iMostBelieved_any s A n C xs W h hn)
  have HN2 := Lib.hid (fun W (h : Row W A n xs) => sMostBelieved_any s A n C xs W h hn)
  by_cases hm : massB s xs = true ∧ ¬ sumL xs = xs.getD 0 0
  · obtain ⟨m, b, hB⟩ := best_some Rm.1 hm.1 hm.2
    rw [hB.most] at HN HN2
    obtain ⟨p, q, hf⟩ := hB.some b hB.bm
    have HB := Lib.hid hB
    have HF := Lib.hid hf
    obtain ⟨y, hy⟩ : ∃ y, y = 2 ^ b := ⟨_, rfl⟩
    have hm4 := hB.m4
    have hbm := hB.bm
    have hsm := hB.size
    have hsy : wrap64 (2 ^ b) = (y : Int) := shl_nat (by omega) hy
    have HCF := Lib.hid (fun W (h : Row W A n xs) => (iChanceOf_any s (y : Int) A n C xs W h hn).mono (fun e w' h => And.intro (RetF.yes (by rw [hy]; exact hf) h.1) h.2))
    clear hm hB hf hy
    subst hsm
    obtain ⟨m1, m2⟩ := Mm.at_ (Below.refl _ _)
    go_wp2_with fail
    clear m1 m2
    refine (HN.out _ Mm.2).mono ?_
    rintro e w3 ⟨rfl, b3⟩
    replace Mm := Mm.below b3
    replace BB := BB.trans (b3.mono BB.size)
    obtain ⟨m1, m2⟩ := Mm.at_ (Below.refl _ _)
    go_wp2_with fail
    clear m1 m2
    refine (HN2.out _ Mm.2).mono ?_
    rintro e w4 ⟨rfl, b4⟩
    replace Mm := Mm.below b4
    replace BB := BB.trans (b4.mono BB.size)
    obtain ⟨m1, m2⟩ := Mm.at_ (Below.refl _ _)
    go_wp2_with fail
    clear m1 m2
    refine (HCF.out _ Mm.2).mono ?_
    rintro e w5 ⟨rfl, b5⟩
    replace Mm := Mm.below b5
    replace BB := BB.trans (b5.mono BB.size)
    clear hsy
    go_upto_region 8 with fail
    obtain ⟨w6, hw6⟩ : ∃ W, W = w5.alloc (.cells #[.int .i64 p, .int .i64 q] 27) := ⟨_, rfl⟩
    obtain ⟨Mf, b6⟩ := Fv.new w5 (p) (q) hw6
    rw [← hw6]
    clear hw6
    replace Mm := Mm.below b6
    replace BB := BB.trans (b6.mono BB.size)
    have Hm := Lib.hid Mm
    have Hf := Lib.hid Mf
    have HBB := Lib.hid BB
    clear BB Mm Mf
    obtain ⟨m1, m2⟩ := Hm.out.at_ (Below.refl _ _)
    go_wp2_with fail
    clear m1 m2
    go_loopw [7] (fun i wr => ∃ j : Nat, j ≤ m ∧ i = .int .i64 j ∧ Hid (Below w6.heap.size w6 wr)) (fun i _ => m - (intOf i).toNat)
    case atStart => exact ⟨0, Nat.zero_le _, rfl, Lib.hid (Below.refl _ _)⟩
    case round =>
      obtain ⟨j, hj, rfl, HR⟩ := hrel
      by_cases hlt : j < m
      · obtain ⟨p2, q2, hg⟩ := HB.out.some j hlt
        obtain ⟨v1, v2, hnl, hne⟩ := HB.out.cmp j p q p2 q2 hlt HF.out hg
        obtain ⟨z, hz⟩ : ∃ z, z = 2 ^ j := ⟨_, rfl⟩
        have hsz : wrap64 (2 ^ j) = (z : Int) := shl_nat (by omega) hz
        have HCG := Lib.hid (fun W (h : Row W A n xs) => (iChanceOf_any m (z : Int) A n C xs W h hn).mono (fun e w' h => And.intro (RetF.yes (by rw [hz]; exact hg) h.1) h.2))
        have HLT := Lib.hid (fun W => LessFraction_any p q p2 q2 W v1 v2)
        rw [decide_eq_false hnl] at HLT
        have HNE := Lib.hid hne
        have hlti : (j : Int) < (m : Int) := by omega
        have BB := HR.out
        have Mm := Hm.out.below BB
        have Mf := Hf.out.below BB
        clear hg v1 v2 hnl hz hne
        obtain ⟨m1, m2⟩ := Mm.at_ (Below.refl _ _)
        go_wp2_with fail
        clear m1 m2
        refine (HCG.out _ Mm.2).mono ?_
        rintro e w7 ⟨rfl, b7⟩
        replace Mm := Mm.below b7
        replace Mf := Mf.below b7
        replace BB := BB.trans (b7.mono BB.size)
        clear hsz
        go_upto_region 12 with fail
        obtain ⟨w8, hw8⟩ : ∃ W, W = w7.alloc (.cells #[.int .i64 p2, .int .i64 q2] 27) := ⟨_, rfl⟩
        obtain ⟨Mg, b8⟩ := Fv.new w7 (p2) (q2) hw8
        rw [← hw8]
        clear hw8
        replace Mm := Mm.below b8
        replace Mf := Mf.below b8
        replace BB := BB.trans (b8.mono BB.size)
        obtain ⟨f1, f2⟩ := Mf.at_ (Below.refl _ _)
        obtain ⟨g1, g2⟩ := Mg.at_ (Below.refl _ _)
        go_wp2_with fail
        clear f1 f2
        clear g1 g2
        refine (HLT.out _).mono ?_
        rintro e w9 ⟨rfl, b9⟩
        replace Mm := Mm.below b9
        replace Mf := Mf.below b9
        replace Mg := Mg.below b9
        replace BB := BB.trans (b9.mono BB.size)
        have HBE := Lib.hid BB
        obtain ⟨f1, f2⟩ := Mf.at_ (Below.refl _ _)
        obtain ⟨g1, g2⟩ := Mg.at_ (Below.refl _ _)
        by_cases hjb : j < b
        · have hne := HNE.out hjb
          have hjbi : (j : Int) < (b : Int) := by omega
          by_cases hpp : p2 = p
          · have hqq : ¬ q2 = q := fun e => hne ⟨hpp, e⟩
            subst hpp
            have hqb : (q2 == q) = false := by simpa using hqq
            clear hne hqq
            go_wp2_with fail
            go_roundw
            case rel => exact ⟨j + 1, by omega, by go_num, HBE⟩
            case measure => simp [intOf]; omega
          · have hpb : (p2 == p) = false := by simpa using hpp
            clear hne hpp
            go_wp2_with fail
            go_roundw
            case rel => exact ⟨j + 1, by omega, by go_num, HBE⟩
            case measure => simp [intOf]; omega
        · have hjbi : ¬ (j : Int) < (b : Int) := by omega
          go_wp2_with fail
          go_roundw
          case rel => exact ⟨j + 1, by omega, by go_num, HBE⟩
          case measure => simp [intOf]; omega
      · obtain rfl : m = j := by omega
        have BB := HR.out
        obtain ⟨m1, m2⟩ := Hm.out.at_ BB
        have hbmi : (b : Int) < (m : Int) := by omega
        go_wp2_with fail
        go_ret
        exact ⟨rfl, HBB.out.trans (BB.mono HBB.out.size)⟩
  · have hv : mostOf s xs = -1 := by
      cases h : massB s xs with
      | false => exact mostOf_no h
      | true => exact mostOf_all h (by
          by_cases e : sumL xs = xs.getD 0 0
          · exact e
          · exact absurd ⟨h, e⟩ hm)
    rw [hv] at HN HN2
    clear hv hm
    obtain ⟨m1, m2⟩ := Mm.at_ (Below.refl _ _)
    go_wp2_with fail
    clear m1 m2
    refine (HN.out _ Mm.2).mono ?_
    rintro e w3 ⟨rfl, b3⟩
    replace Mm := Mm.below b3
    replace BB := BB.trans (b3.mono BB.size)
    obtain ⟨m1, m2⟩ := Mm.at_ (Below.refl _ _)
    go_wp2_with fail
    clear m1 m2
    refine (HN2.out _ Mm.2).mono ?_
    rintro e w4 ⟨rfl, b4⟩
    replace Mm := Mm.below b4
    replace BB := BB.trans (b4.mono BB.size)
    obtain ⟨m1, m2⟩ := Mm.at_ (Below.refl _ _)
    go_wp2_with fail
    clear m1 m2
    refine (HN2.out _ Mm.2).mono ?_
    rintro e w5 ⟨rfl, b5⟩
    replace Mm := Mm.below b5
    replace BB := BB.trans (b5.mono BB.size)
    go_wp2_with fail
    go_ret
    exact ⟨rfl, BB⟩
end Go.Proofs.Ytapkppnjgbcklaa
