/- The walk of the law FnMassOfTable. -/
import Derived.Test.YtlfajalhoifliaaBase7
import Derived.Test.YtlfajalhoifliaaLaw
import Derived.Test.YtlfajalhoifliaaLaw16
import Derived.Test.YtlfajalhoifliaaW10
import Derived.Test.YtlfajalhoifliaaW41
import Derived.Test.YtlfajalhoifliaaW43
import Derived.Test.YtlfajalhoifliaaW44
import Derived.Test.YtlfajalhoifliaaW53
import Derived.Test.YtlfajalhoifliaaW62
import Derived.Deep.RegionHeld3
import Derived.Deep.QuietTactic
import Derived.BigQuiet
namespace Go.Proofs.Ytlfajalhoifliaa
open Go.RowKit

set_option maxHeartbeats 6400000 in
set_option maxRecDepth 100000 in
theorem walkMassOfTable (a : Option Addr) (l c : Nat) (bs : List Int) (w : World) (hr : BRow w a l bs) (hlc : l ≤ c) :
    Calls Try.prog 4 #[.slice a l c] w fun e w' => e = .returned (.bool true) ∧ Below w.heap.size w w' := by
  by_cases hl : 1048576 < (l : Int)
  · clear hr
    go_enter Try.func4, Try.ntmps4
    go_wp2_with fail
    go_ret
    exact ⟨rfl, Below.refl _ _⟩
  have HD := Lib.hid (DrawMassOfTable_any a l c bs w hr (.inl hlc))
  clear hr
  go_enter Try.func4, Try.ntmps4
  go_wp2_with fail
  refine HD.out.mono ?_
  rintro e w1 ⟨s, A, n, C, xs, kd, rfl, hn17, Rl, b1⟩
  have BB := b1
  have hn : n ≤ 1048576 := by omega
  have hlx := Rl.1
  cases hr1 : motR s xs kd with
  | none =>
    have HR1 := Lib.hid hr1
    clear hr1 hlx
    have HN := Lib.hid (fun W (h : Row W A n xs) => (iMassOfTable_any s kd A n C xs W h hn).mono (fun e w' h => And.intro (RetM.no HR1.out h.1) h.2))
    have HN2 := Lib.hid (fun W (h : Row W A n xs) => (sMassOfTable_any s kd A n C xs W h hn).mono (fun e w' h => And.intro (RetM.no HR1.out h.1) h.2))
    go_wp2_with fail
    refine (HN.out _ Rl).mono ?_
    rintro e w2 ⟨⟨Ak, Ck, rfl, Rk⟩, b2⟩
    replace Rl := Rl.below b2
    replace BB := BB.trans (b2.mono BB.size)
    go_upto_region 5 with fail
    obtain ⟨w3, hw3⟩ : ∃ W, W = w2.alloc (.cells #[.int .i64 0, .slice Ak 0 Ck] 25) := ⟨_, rfl⟩
    obtain ⟨Mk, b3⟩ := Mv.new Rk hw3
    rw [← hw3]
    clear hw3
    replace Rl := Rl.below b3
    replace BB := BB.trans (b3.mono BB.size)
    go_wp2_with fail
    refine (HN2.out _ Rl).mono ?_
    rintro e w4 ⟨⟨Aq, Cq, rfl, Rq⟩, b4⟩
    replace Mk := Mk.below b4
    replace Rl := Rl.below b4
    replace BB := BB.trans (b4.mono BB.size)
    go_upto_region 6 with fail
    obtain ⟨w5, hw5⟩ : ∃ W, W = w4.alloc (.cells #[.int .i64 0, .slice Aq 0 Cq] 25) := ⟨_, rfl⟩
    obtain ⟨Mq, b5⟩ := Mv.new Rq hw5
    rw [← hw5]
    clear hw5
    replace Mk := Mk.below b5
    replace Rl := Rl.below b5
    replace BB := BB.trans (b5.mono BB.size)
    have HE := Lib.hid (fun W (h : Row W Ak 0 []) (h2 : Row W Aq 0 []) => weEqual_any 0 0 Ak Aq 0 Ck 0 Cq [] [] W h h2 (by omega) (by omega))
    rw [eq_self2] at HE
    obtain ⟨k1, k2⟩ := Mk.at_ (Below.refl _ _)
    obtain ⟨q1, q2⟩ := Mq.at_ (Below.refl _ _)
    go_wp2_with fail
    clear k1 k2
    clear q1 q2
    refine (HE.out _ Mk.2 Mq.2).mono ?_
    rintro e w6 ⟨rfl, b6⟩
    replace Mk := Mk.below b6
    replace Mq := Mq.below b6
    replace Rl := Rl.below b6
    replace BB := BB.trans (b6.mono BB.size)
    obtain ⟨k1, k2⟩ := Mk.at_ (Below.refl _ _)
    obtain ⟨q1, q2⟩ := Mq.at_ (Below.refl _ _)
    go_wp2_with fail
    clear k1 k2
    clear q1 q2
    refine (HE.out _ Mk.2 Mq.2).mono ?_
    rintro e w7 ⟨rfl, b7⟩
    replace Mk := Mk.below b7
    replace Mq := Mq.below b7
    replace Rl := Rl.below b7
    replace BB := BB.trans (b7.mono BB.size)
    go_wp2_with fail
    go_ret
    exact ⟨rfl, BB⟩
  | some p =>
    obtain ⟨t0, ms⟩ := p
    obtain ⟨rfl, h4, hsz, hft, htb, j, hj, hjk, hF⟩ := mot_found hlx hr1
    have HR1 := Lib.hid hr1
    have HF := Lib.hid hF
    have HLM := Lib.hid hF.len
    have HTB := Lib.hid htb
    have HLX := Lib.hid hlx
    have hn2 : 2 ≤ n := by omega
    have hn16 : n ≤ 16 := by omega
    clear hr1 hF htb hlx h4
    obtain ⟨s, rfl⟩ : ∃ s, s = t0 := ⟨_, rfl⟩
    have HN := Lib.hid (fun W (h : Row W A n xs) => (iMassOfTable_any s kd A n C xs W h hn).mono (fun e w' h => And.intro (RetM.yes HR1.out HLM.out h.1) h.2))
    have HN2 := Lib.hid (fun W (h : Row W A n xs) => (sMassOfTable_any s kd A n C xs W h hn).mono (fun e w' h => And.intro (RetM.yes HR1.out HLM.out h.1) h.2))
    go_wp2_with fail
    refine (HN.out _ Rl).mono ?_
    rintro e w2 ⟨⟨Ak, Ck, rfl, Rk⟩, b2⟩
    replace Rl := Rl.below b2
    replace BB := BB.trans (b2.mono BB.size)
    go_upto_region 5 with fail
    obtain ⟨w3, hw3⟩ : ∃ W, W = w2.alloc (.cells #[.int .i64 s, .slice Ak n Ck] 25) := ⟨_, rfl⟩
    obtain ⟨Mk, b3⟩ := Mv.new Rk hw3
    rw [← hw3]
    clear hw3
    replace Rl := Rl.below b3
    replace BB := BB.trans (b3.mono BB.size)
    go_wp2_with fail
    refine (HN2.out _ Rl).mono ?_
    rintro e w4 ⟨⟨Aq, Cq, rfl, Rq⟩, b4⟩
    replace Mk := Mk.below b4
    replace Rl := Rl.below b4
    replace BB := BB.trans (b4.mono BB.size)
    go_upto_region 6 with fail
    obtain ⟨w5, hw5⟩ : ∃ W, W = w4.alloc (.cells #[.int .i64 s, .slice Aq n Cq] 25) := ⟨_, rfl⟩
    obtain ⟨Mq, b5⟩ := Mv.new Rq hw5
    rw [← hw5]
    clear hw5
    replace Mk := Mk.below b5
    replace Rl := Rl.below b5
    replace BB := BB.trans (b5.mono BB.size)
    have HE := Lib.hid (fun W (h : Row W Ak n ms) (h2 : Row W Aq n ms) => weEqual_any s s Ak Aq n Ck n Cq ms ms W h h2 (by omega) (by omega))
    rw [eq_self2] at HE
    obtain ⟨k1, k2⟩ := Mk.at_ (Below.refl _ _)
    obtain ⟨q1, q2⟩ := Mq.at_ (Below.refl _ _)
    go_wp2_with fail
    clear k1 k2
    clear q1 q2
    refine (HE.out _ Mk.2 Mq.2).mono ?_
    rintro e w6 ⟨rfl, b6⟩
    replace Mk := Mk.below b6
    replace Mq := Mq.below b6
    replace Rl := Rl.below b6
    replace BB := BB.trans (b6.mono BB.size)
    clear HN HN2 HE HR1 Mq Rq Rk
    rcases kind_cases kd with hkd | hkd | hkd | hkd | ⟨e0, e1, e2, e3⟩
    · have hzz : True := trivial
      obtain rfl : j = 0 := by rw [← hjk]; exact kind0 hkd
      obtain ⟨hN, hT⟩ := tab_yes HLM.out HF.out.mass hjk hj
      obtain ⟨ts, hts⟩ : ∃ l, l = tab n (measK 0 ms) := ⟨_, rfl⟩
      have hcr := HF.out.cross
      have hpo := HF.out.pos
      rw [if_neg (by decide)] at hpo
      simp only [if_neg (show ¬ (0 : Nat) = 3 by decide)] at hcr
      obtain ⟨m, hmn⟩ : ∃ m : Nat, m = n - 1 := ⟨_, rfl⟩
      rw [← hmn] at hcr hpo
      have hm1 : IntKind.i64.wrap ((n : Int) - 1) = (m : Int) := by rw [show (n : Int) - 1 = (m : Int) by omega]; exact IntWalk.i64_in _ (by omega)
      have htn : m < n := by omega
      have hti : ((m : Nat) : Int) < (n : Int) := by omega
      have hcr2 : ∀ a, a < n → ts.getD a 0 * xs.getD m 0 = xs.getD a 0 * ts.getD m 0 := fun a ha => by rw [hts, tab_getD _ _ _ ha, tab_getD _ _ _ htn]; exact hcr a ha
      obtain ⟨vx, hvx⟩ : ∃ v, v = xs.getD m 0 := ⟨_, rfl⟩
      obtain ⟨vt, hvt⟩ : ∃ v, v = ts.getD m 0 := ⟨_, rfl⟩
      rw [← hvx] at hpo hcr2
      rw [← hvt] at hcr2
      rw [← hts] at hT
      have HN := Lib.hid hN
      have HT := Lib.hid hT
      have HCR := Lib.hid hcr2
      have HVX := Lib.hid hvx
      have HVT := Lib.hid hvt
      have HXt := Lib.hid (fun W (h : Row W Ak n ms) => iTableOf_any s kd Ak n Ck ms W h hn)
      rw [HN.out, HT.out] at HXt
      have hpod : decide (0 < vx) = true := decide_eq_true hpo
      clear hN hT hts hcr hcr2 hvx hvt hmn
      have hq1 : (kd.toList == [98, 101, 108, 105, 101, 118, 101, 100]) = false := by rw [hkd]; decide
      have hq2 : (kd.toList == [112, 111, 115, 115, 105, 98, 108, 101]) = false := by rw [hkd]; decide
      have hq3 : (kd.toList == [99, 111, 109, 109, 111, 110]) = false := by rw [hkd]; decide
      obtain ⟨k1, k2⟩ := Mk.at_ (Below.refl _ _)
      go_wp2_with fail
      clear k1 k2
      refine (HXt.out _ Mk.2).mono ?_
      rintro e w7 ⟨At, Ct, rfl, Ot, b7⟩
      replace Mk := Mk.below b7
      replace Rl := Rl.below b7
      replace BB := BB.trans (b7.mono BB.size)
      have Rt := Ot.row
      clear Ot HXt
      obtain ⟨bt, offt, rfl⟩ := Rt.form (by omega)
      obtain ⟨bl, offl, rfl⟩ := Rl.form (by omega)
      have Hk := Lib.hid Mk
      have HBB := Lib.hid BB
      clear BB Mk
      have HRt := Lib.hid Rt
      have HRl := Lib.hid Rl
      clear Rt Rl
      go_wp2_with fail
      go_loopw [12] (fun v wr => ∃ i : Nat, i ≤ n ∧ v = .int .i64 i ∧ Hid (Below w7.heap.size w7 wr)) (fun v _ => n - (intOf v).toNat)
      case atStart => exact ⟨0, Nat.zero_le _, rfl, Lib.hid (Below.refl _ _)⟩
      case round =>
        obtain ⟨i, hi, rfl, HB⟩ := hrel
        by_cases hlt : i < n
        · have hii : (i : Int) < (n : Int) := by omega
          have hc := HCR.out i hlt
          obtain ⟨v1, hv1⟩ : ∃ v, v = ts.getD i 0 := ⟨_, rfl⟩
          obtain ⟨v2, hv2⟩ : ∃ v, v = xs.getD i 0 := ⟨_, rfl⟩
          rw [← hv1, ← hv2] at hc
          have c1 := HRt.out.cellAt HB.out hlt
          have c2 := HRl.out.cellAt HB.out hlt
          have c3 : wr.cell? ⟨bt, offt + m, none⟩ = some (.int .i64 vt) := by rw [HVT.out]; exact HRt.out.cellAt HB.out htn
          have c4 : wr.cell? ⟨bl, offl + m, none⟩ = some (.int .i64 vx) := by rw [HVX.out]; exact HRl.out.cellAt HB.out htn
          rw [← hv1] at c1
          rw [← hv2] at c2
          obtain ⟨u, hu⟩ : ∃ u, u = IntKind.i64.wrap (v1 * vx) := ⟨_, rfl⟩
          have k1 : IntKind.i64.wrap (v1 * vx) = u := hu.symm
          have k2 : IntKind.i64.wrap (v2 * vt) = u := by rw [← hc]; exact hu.symm
          have hneq : (u != u) = false := by simp
          clear hc hv1 hv2 hu
          go_wp2_with fail
          go_quiet (fail)
          go_wp2_with fail
          go_roundw
          case rel => exact ⟨i + 1, by omega, by go_num, Lib.hid (below_drewN HB.out _)⟩
          case measure => simp [intOf]; omega
        · obtain rfl : n = i := by omega
          clear hlt
          obtain ⟨w9, rfl⟩ : ∃ X, X = wr := ⟨_, rfl⟩
          have BB := HBB.out.trans (HB.out.mono HBB.out.size)
          have Mk := Hk.out.below HB.out
          have Rl := HRl.out.below HB.out
          clear HRt HRl HB HBB Hk
          have HMV := Lib.hid (fun W (h : Row W Ak n ms) => iMassValid_any s Ak n Ck ms W h hn)
          rw [HF.out.mass] at HMV
          obtain ⟨k1, k2⟩ := Mk.at_ (Below.refl _ _)
          go_wp2_with fail
          clear k1 k2
          refine (HMV.out _ Mk.2).mono ?_
          rintro e w21 ⟨rfl, b21⟩
          replace Mk := Mk.below b21
          replace Rl := Rl.below b21
          replace BB := BB.trans (b21.mono BB.size)
          have c4 : w21.cell? ⟨bl, offl + m, none⟩ = some (.int .i64 vx) := by rw [HVX.out]; exact Rl.cellAt (Below.refl _ _) htn
          have HIB := Lib.hid (fun W (h : Row W (some ⟨bl, offl, none⟩) n xs) => iIsBeliefTable_any (some ⟨bl, offl, none⟩) n C xs W h hn)
          rw [HF.out.belief rfl] at HIB
          go_wp2_with fail
          refine (HIB.out _ Rl).mono ?_
          rintro e w22 ⟨rfl, b22⟩
          replace Mk := Mk.below b22
          replace Rl := Rl.below b22
          replace BB := BB.trans (b22.mono BB.size)
          go_wp2_with fail
          go_ret
          exact ⟨by simp, BB⟩
    · have hzz : True := trivial
      obtain rfl : j = 1 := by rw [← hjk]; exact kind1 hkd
      obtain ⟨hN, hT⟩ := tab_yes HLM.out HF.out.mass hjk hj
      obtain ⟨ts, hts⟩ : ∃ l, l = tab n (measK 1 ms) := ⟨_, rfl⟩
      have hcr := HF.out.cross
      have hpo := HF.out.pos
      rw [if_neg (by decide)] at hpo
      simp only [if_neg (show ¬ (1 : Nat) = 3 by decide)] at hcr
      obtain ⟨m, hmn⟩ : ∃ m : Nat, m = n - 1 := ⟨_, rfl⟩
      rw [← hmn] at hcr hpo
      have hm1 : IntKind.i64.wrap ((n : Int) - 1) = (m : Int) := by rw [show (n : Int) - 1 = (m : Int) by omega]; exact IntWalk.i64_in _ (by omega)
      have htn : m < n := by omega
      have hti : ((m : Nat) : Int) < (n : Int) := by omega
      have hcr2 : ∀ a, a < n → ts.getD a 0 * xs.getD m 0 = xs.getD a 0 * ts.getD m 0 := fun a ha => by rw [hts, tab_getD _ _ _ ha, tab_getD _ _ _ htn]; exact hcr a ha
      obtain ⟨vx, hvx⟩ : ∃ v, v = xs.getD m 0 := ⟨_, rfl⟩
      obtain ⟨vt, hvt⟩ : ∃ v, v = ts.getD m 0 := ⟨_, rfl⟩
      rw [← hvx] at hpo hcr2
      rw [← hvt] at hcr2
      rw [← hts] at hT
      have HN := Lib.hid hN
      have HT := Lib.hid hT
      have HCR := Lib.hid hcr2
      have HVX := Lib.hid hvx
      have HVT := Lib.hid hvt
      have HXt := Lib.hid (fun W (h : Row W Ak n ms) => iTableOf_any s kd Ak n Ck ms W h hn)
      rw [HN.out, HT.out] at HXt
      have hpod : decide (0 < vx) = true := decide_eq_true hpo
      clear hN hT hts hcr hcr2 hvx hvt hmn
      have hq0 : (kd.toList == [105, 109, 112, 108, 105, 101, 100]) = false := by rw [hkd]; decide
      have hq2 : (kd.toList == [112, 111, 115, 115, 105, 98, 108, 101]) = false := by rw [hkd]; decide
      have hq3 : (kd.toList == [99, 111, 109, 109, 111, 110]) = false := by rw [hkd]; decide
      obtain ⟨k1, k2⟩ := Mk.at_ (Below.refl _ _)
      go_wp2_with fail
      clear k1 k2
      refine (HXt.out _ Mk.2).mono ?_
      rintro e w7 ⟨At, Ct, rfl, Ot, b7⟩
      replace Mk := Mk.below b7
      replace Rl := Rl.below b7
      replace BB := BB.trans (b7.mono BB.size)
      have Rt := Ot.row
      clear Ot HXt
      obtain ⟨bt, offt, rfl⟩ := Rt.form (by omega)
      obtain ⟨bl, offl, rfl⟩ := Rl.form (by omega)
      have Hk := Lib.hid Mk
      have HBB := Lib.hid BB
      clear BB Mk
      have HRt := Lib.hid Rt
      have HRl := Lib.hid Rl
      clear Rt Rl
      go_wp2_with fail
      go_loopw [12] (fun v wr => ∃ i : Nat, i ≤ n ∧ v = .int .i64 i ∧ Hid (Below w7.heap.size w7 wr)) (fun v _ => n - (intOf v).toNat)
      case atStart => exact ⟨0, Nat.zero_le _, rfl, Lib.hid (Below.refl _ _)⟩
      case round =>
        obtain ⟨i, hi, rfl, HB⟩ := hrel
        by_cases hlt : i < n
        · have hii : (i : Int) < (n : Int) := by omega
          have hc := HCR.out i hlt
          obtain ⟨v1, hv1⟩ : ∃ v, v = ts.getD i 0 := ⟨_, rfl⟩
          obtain ⟨v2, hv2⟩ : ∃ v, v = xs.getD i 0 := ⟨_, rfl⟩
          rw [← hv1, ← hv2] at hc
          have c1 := HRt.out.cellAt HB.out hlt
          have c2 := HRl.out.cellAt HB.out hlt
          have c3 : wr.cell? ⟨bt, offt + m, none⟩ = some (.int .i64 vt) := by rw [HVT.out]; exact HRt.out.cellAt HB.out htn
          have c4 : wr.cell? ⟨bl, offl + m, none⟩ = some (.int .i64 vx) := by rw [HVX.out]; exact HRl.out.cellAt HB.out htn
          rw [← hv1] at c1
          rw [← hv2] at c2
          obtain ⟨u, hu⟩ : ∃ u, u = IntKind.i64.wrap (v1 * vx) := ⟨_, rfl⟩
          have k1 : IntKind.i64.wrap (v1 * vx) = u := hu.symm
          have k2 : IntKind.i64.wrap (v2 * vt) = u := by rw [← hc]; exact hu.symm
          have hneq : (u != u) = false := by simp
          clear hc hv1 hv2 hu
          go_wp2_with fail
          go_quiet (fail)
          go_wp2_with fail
          go_roundw
          case rel => exact ⟨i + 1, by omega, by go_num, Lib.hid (below_drewN HB.out _)⟩
          case measure => simp [intOf]; omega
        · obtain rfl : n = i := by omega
          clear hlt
          obtain ⟨w9, rfl⟩ : ∃ X, X = wr := ⟨_, rfl⟩
          have BB := HBB.out.trans (HB.out.mono HBB.out.size)
          have Mk := Hk.out.below HB.out
          have Rl := HRl.out.below HB.out
          clear HRt HRl HB HBB Hk
          have HMV := Lib.hid (fun W (h : Row W Ak n ms) => iMassValid_any s Ak n Ck ms W h hn)
          rw [HF.out.mass] at HMV
          obtain ⟨k1, k2⟩ := Mk.at_ (Below.refl _ _)
          go_wp2_with fail
          clear k1 k2
          refine (HMV.out _ Mk.2).mono ?_
          rintro e w21 ⟨rfl, b21⟩
          replace Mk := Mk.below b21
          replace Rl := Rl.below b21
          replace BB := BB.trans (b21.mono BB.size)
          have c4 : w21.cell? ⟨bl, offl + m, none⟩ = some (.int .i64 vx) := by rw [HVX.out]; exact Rl.cellAt (Below.refl _ _) htn
          have hnv : normB s ms = true := by unfold normB; rw [HF.out.mass, HF.out.norm (by omega)]; rfl
          have HIN := Lib.hid (fun W (h : Row W Ak n ms) => IsNormal_any s Ak n Ck ms W h hn)
          rw [hnv] at HIN
          clear hnv
          obtain ⟨k1, k2⟩ := Mk.at_ (Below.refl _ _)
          go_wp2_with fail
          clear k1 k2
          refine (HIN.out _ Mk.2).mono ?_
          rintro e w22 ⟨rfl, b22⟩
          replace Mk := Mk.below b22
          replace Rl := Rl.below b22
          replace BB := BB.trans (b22.mono BB.size)
          go_wp2_with fail
          go_ret
          exact ⟨by simp, BB⟩
    · have hzz : True := trivial
      obtain rfl : j = 2 := by rw [← hjk]; exact kind2 hkd
      obtain ⟨hN, hT⟩ := tab_yes HLM.out HF.out.mass hjk hj
      obtain ⟨ts, hts⟩ : ∃ l, l = tab n (measK 2 ms) := ⟨_, rfl⟩
      have hcr := HF.out.cross
      have hpo := HF.out.pos
      rw [if_neg (by decide)] at hpo
      simp only [if_neg (show ¬ (2 : Nat) = 3 by decide)] at hcr
      obtain ⟨m, hmn⟩ : ∃ m : Nat, m = n - 1 := ⟨_, rfl⟩
      rw [← hmn] at hcr hpo
      have hm1 : IntKind.i64.wrap ((n : Int) - 1) = (m : Int) := by rw [show (n : Int) - 1 = (m : Int) by omega]; exact IntWalk.i64_in _ (by omega)
      have htn : m < n := by omega
      have hti : ((m : Nat) : Int) < (n : Int) := by omega
      have hcr2 : ∀ a, a < n → ts.getD a 0 * xs.getD m 0 = xs.getD a 0 * ts.getD m 0 := fun a ha => by rw [hts, tab_getD _ _ _ ha, tab_getD _ _ _ htn]; exact hcr a ha
      obtain ⟨vx, hvx⟩ : ∃ v, v = xs.getD m 0 := ⟨_, rfl⟩
      obtain ⟨vt, hvt⟩ : ∃ v, v = ts.getD m 0 := ⟨_, rfl⟩
      rw [← hvx] at hpo hcr2
      rw [← hvt] at hcr2
      rw [← hts] at hT
      have HN := Lib.hid hN
      have HT := Lib.hid hT
      have HCR := Lib.hid hcr2
      have HVX := Lib.hid hvx
      have HVT := Lib.hid hvt
      have HXt := Lib.hid (fun W (h : Row W Ak n ms) => iTableOf_any s kd Ak n Ck ms W h hn)
      rw [HN.out, HT.out] at HXt
      have hpod : decide (0 < vx) = true := decide_eq_true hpo
      clear hN hT hts hcr hcr2 hvx hvt hmn
      have hq0 : (kd.toList == [105, 109, 112, 108, 105, 101, 100]) = false := by rw [hkd]; decide
      have hq1 : (kd.toList == [98, 101, 108, 105, 101, 118, 101, 100]) = false := by rw [hkd]; decide
      have hq3 : (kd.toList == [99, 111, 109, 109, 111, 110]) = false := by rw [hkd]; decide
      obtain ⟨k1, k2⟩ := Mk.at_ (Below.refl _ _)
      go_wp2_with fail
      clear k1 k2
      refine (HXt.out _ Mk.2).mono ?_
      rintro e w7 ⟨At, Ct, rfl, Ot, b7⟩
      replace Mk := Mk.below b7
      replace Rl := Rl.below b7
      replace BB := BB.trans (b7.mono BB.size)
      have Rt := Ot.row
      clear Ot HXt
      obtain ⟨bt, offt, rfl⟩ := Rt.form (by omega)
      obtain ⟨bl, offl, rfl⟩ := Rl.form (by omega)
      have Hk := Lib.hid Mk
      have HBB := Lib.hid BB
      clear BB Mk
      have HRt := Lib.hid Rt
      have HRl := Lib.hid Rl
      clear Rt Rl
      go_wp2_with fail
      go_loopw [12] (fun v wr => ∃ i : Nat, i ≤ n ∧ v = .int .i64 i ∧ Hid (Below w7.heap.size w7 wr)) (fun v _ => n - (intOf v).toNat)
      case atStart => exact ⟨0, Nat.zero_le _, rfl, Lib.hid (Below.refl _ _)⟩
      case round =>
        obtain ⟨i, hi, rfl, HB⟩ := hrel
        by_cases hlt : i < n
        · have hii : (i : Int) < (n : Int) := by omega
          have hc := HCR.out i hlt
          obtain ⟨v1, hv1⟩ : ∃ v, v = ts.getD i 0 := ⟨_, rfl⟩
          obtain ⟨v2, hv2⟩ : ∃ v, v = xs.getD i 0 := ⟨_, rfl⟩
          rw [← hv1, ← hv2] at hc
          have c1 := HRt.out.cellAt HB.out hlt
          have c2 := HRl.out.cellAt HB.out hlt
          have c3 : wr.cell? ⟨bt, offt + m, none⟩ = some (.int .i64 vt) := by rw [HVT.out]; exact HRt.out.cellAt HB.out htn
          have c4 : wr.cell? ⟨bl, offl + m, none⟩ = some (.int .i64 vx) := by rw [HVX.out]; exact HRl.out.cellAt HB.out htn
          rw [← hv1] at c1
          rw [← hv2] at c2
          obtain ⟨u, hu⟩ : ∃ u, u = IntKind.i64.wrap (v1 * vx) := ⟨_, rfl⟩
          have k1 : IntKind.i64.wrap (v1 * vx) = u := hu.symm
          have k2 : IntKind.i64.wrap (v2 * vt) = u := by rw [← hc]; exact hu.symm
          have hneq : (u != u) = false := by simp
          clear hc hv1 hv2 hu
          go_wp2_with fail
          go_quiet (fail)
          go_wp2_with fail
          go_roundw
          case rel => exact ⟨i + 1, by omega, by go_num, Lib.hid (below_drewN HB.out _)⟩
          case measure => simp [intOf]; omega
        · obtain rfl : n = i := by omega
          clear hlt
          obtain ⟨w9, rfl⟩ : ∃ X, X = wr := ⟨_, rfl⟩
          have BB := HBB.out.trans (HB.out.mono HBB.out.size)
          have Mk := Hk.out.below HB.out
          have Rl := HRl.out.below HB.out
          clear HRt HRl HB HBB Hk
          have HMV := Lib.hid (fun W (h : Row W Ak n ms) => iMassValid_any s Ak n Ck ms W h hn)
          rw [HF.out.mass] at HMV
          obtain ⟨k1, k2⟩ := Mk.at_ (Below.refl _ _)
          go_wp2_with fail
          clear k1 k2
          refine (HMV.out _ Mk.2).mono ?_
          rintro e w21 ⟨rfl, b21⟩
          replace Mk := Mk.below b21
          replace Rl := Rl.below b21
          replace BB := BB.trans (b21.mono BB.size)
          have c4 : w21.cell? ⟨bl, offl + m, none⟩ = some (.int .i64 vx) := by rw [HVX.out]; exact Rl.cellAt (Below.refl _ _) htn
          have hnv : normB s ms = true := by unfold normB; rw [HF.out.mass, HF.out.norm (by omega)]; rfl
          have HIN := Lib.hid (fun W (h : Row W Ak n ms) => IsNormal_any s Ak n Ck ms W h hn)
          rw [hnv] at HIN
          clear hnv
          obtain ⟨k1, k2⟩ := Mk.at_ (Below.refl _ _)
          go_wp2_with fail
          clear k1 k2
          refine (HIN.out _ Mk.2).mono ?_
          rintro e w22 ⟨rfl, b22⟩
          replace Mk := Mk.below b22
          replace Rl := Rl.below b22
          replace BB := BB.trans (b22.mono BB.size)
          go_wp2_with fail
          go_ret
          exact ⟨by simp, BB⟩
    · have hzz : True := trivial
      obtain rfl : j = 3 := by rw [← hjk]; exact kind3 hkd
      obtain ⟨hN, hT⟩ := tab_yes HLM.out HF.out.mass hjk hj
      obtain ⟨ts, hts⟩ : ∃ l, l = tab n (measK 3 ms) := ⟨_, rfl⟩
      have hcr := HF.out.cross
      have hpo := HF.out.pos
      rw [if_pos rfl] at hpo
      simp only [if_pos] at hcr
      have htn : 0 < n := by omega
      have hti : ((0 : Nat) : Int) < (n : Int) := by omega
      have hcr2 : ∀ a, a < n → ts.getD a 0 * xs.getD 0 0 = xs.getD a 0 * ts.getD 0 0 := fun a ha => by rw [hts, tab_getD _ _ _ ha, tab_getD _ _ _ htn]; exact hcr a ha
      obtain ⟨vx, hvx⟩ : ∃ v, v = xs.getD 0 0 := ⟨_, rfl⟩
      obtain ⟨vt, hvt⟩ : ∃ v, v = ts.getD 0 0 := ⟨_, rfl⟩
      rw [← hvx] at hpo hcr2
      rw [← hvt] at hcr2
      rw [← hts] at hT
      have HN := Lib.hid hN
      have HT := Lib.hid hT
      have HCR := Lib.hid hcr2
      have HVX := Lib.hid hvx
      have HVT := Lib.hid hvt
      have HXt := Lib.hid (fun W (h : Row W Ak n ms) => iTableOf_any s kd Ak n Ck ms W h hn)
      rw [HN.out, HT.out] at HXt
      have hpod : decide (0 < vx) = true := decide_eq_true hpo
      clear hN hT hts hcr hcr2 hvx hvt
      have hq0 : (kd.toList == [105, 109, 112, 108, 105, 101, 100]) = false := by rw [hkd]; decide
      have hq1 : (kd.toList == [98, 101, 108, 105, 101, 118, 101, 100]) = false := by rw [hkd]; decide
      have hq2 : (kd.toList == [112, 111, 115, 115, 105, 98, 108, 101]) = false := by rw [hkd]; decide
      obtain ⟨k1, k2⟩ := Mk.at_ (Below.refl _ _)
      go_wp2_with fail
      clear k1 k2
      refine (HXt.out _ Mk.2).mono ?_
      rintro e w7 ⟨At, Ct, rfl, Ot, b7⟩
      replace Mk := Mk.below b7
      replace Rl := Rl.below b7
      replace BB := BB.trans (b7.mono BB.size)
      have Rt := Ot.row
      clear Ot HXt
      obtain ⟨bt, offt, rfl⟩ := Rt.form (by omega)
      obtain ⟨bl, offl, rfl⟩ := Rl.form (by omega)
      have Hk := Lib.hid Mk
      have HBB := Lib.hid BB
      clear BB Mk
      have HRt := Lib.hid Rt
      have HRl := Lib.hid Rl
      clear Rt Rl
      go_wp2_with fail
      go_loopw [12] (fun v wr => ∃ i : Nat, i ≤ n ∧ v = .int .i64 i ∧ Hid (Below w7.heap.size w7 wr)) (fun v _ => n - (intOf v).toNat)
      case atStart => exact ⟨0, Nat.zero_le _, rfl, Lib.hid (Below.refl _ _)⟩
      case round =>
        obtain ⟨i, hi, rfl, HB⟩ := hrel
        by_cases hlt : i < n
        · have hii : (i : Int) < (n : Int) := by omega
          have hc := HCR.out i hlt
          obtain ⟨v1, hv1⟩ : ∃ v, v = ts.getD i 0 := ⟨_, rfl⟩
          obtain ⟨v2, hv2⟩ : ∃ v, v = xs.getD i 0 := ⟨_, rfl⟩
          rw [← hv1, ← hv2] at hc
          have c1 := HRt.out.cellAt HB.out hlt
          have c2 := HRl.out.cellAt HB.out hlt
          have c3 : wr.cell? ⟨bt, offt, none⟩ = some (.int .i64 vt) := by rw [HVT.out]; exact HRt.out.cellAt HB.out htn
          have c4 : wr.cell? ⟨bl, offl, none⟩ = some (.int .i64 vx) := by rw [HVX.out]; exact HRl.out.cellAt HB.out htn
          rw [← hv1] at c1
          rw [← hv2] at c2
          obtain ⟨u, hu⟩ : ∃ u, u = IntKind.i64.wrap (v1 * vx) := ⟨_, rfl⟩
          have k1 : IntKind.i64.wrap (v1 * vx) = u := hu.symm
          have k2 : IntKind.i64.wrap (v2 * vt) = u := by rw [← hc]; exact hu.symm
          have hneq : (u != u) = false := by simp
          clear hc hv1 hv2 hu
          go_wp2_with fail
          go_quiet (fail)
          go_wp2_with fail
          go_roundw
          case rel => exact ⟨i + 1, by omega, by go_num, Lib.hid (below_drewN HB.out _)⟩
          case measure => simp [intOf]; omega
        · obtain rfl : n = i := by omega
          clear hlt
          obtain ⟨w9, rfl⟩ : ∃ X, X = wr := ⟨_, rfl⟩
          have BB := HBB.out.trans (HB.out.mono HBB.out.size)
          have Mk := Hk.out.below HB.out
          have Rl := HRl.out.below HB.out
          clear HRt HRl HB HBB Hk
          have HMV := Lib.hid (fun W (h : Row W Ak n ms) => iMassValid_any s Ak n Ck ms W h hn)
          rw [HF.out.mass] at HMV
          obtain ⟨k1, k2⟩ := Mk.at_ (Below.refl _ _)
          go_wp2_with fail
          clear k1 k2
          refine (HMV.out _ Mk.2).mono ?_
          rintro e w21 ⟨rfl, b21⟩
          replace Mk := Mk.below b21
          replace Rl := Rl.below b21
          replace BB := BB.trans (b21.mono BB.size)
          have c4 : w21.cell? ⟨bl, offl, none⟩ = some (.int .i64 vx) := by rw [HVX.out]; exact Rl.cellAt (Below.refl _ _) htn
          go_wp2_with fail
          go_ret
          exact ⟨by simp, BB⟩
    · have := kind4 e0 e1 e2 e3
      omega
end Go.Proofs.Ytlfajalhoifliaa
