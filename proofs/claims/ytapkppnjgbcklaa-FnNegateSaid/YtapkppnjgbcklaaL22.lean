/- The walk of the law FnNegate. -/
import Derived.Test.YtapkppnjgbcklaaBase7
import Derived.Test.YtapkppnjgbcklaaLaw8
import Derived.Test.YtapkppnjgbcklaaW15
import Derived.Deep.RegionHeld3
namespace Go.Proofs.Ytapkppnjgbcklaa
open Go.RowKit

set_option maxHeartbeats 6400000 in
set_option maxRecDepth 100000 in
theorem walkNegate (a : Option Addr) (l c : Nat) (bs : List Int) (w : World) (hr : BRow w a l bs) (hlc : l ≤ c) :
    Calls Try.prog 10 #[.slice a l c] w fun e w' => e = .returned (.bool true) ∧ Below w.heap.size w w' := by
  by_cases hl : 1048576 < (l : Int)
  · clear hr
    go_enter Try.func10, Try.ntmps10
    go_wp2_with fail
    go_ret
    exact ⟨rfl, Below.refl _ _⟩
  have HD := Lib.hid (DrawNegateMass_any a l c bs w hr (.inl hlc))
  clear hr
  go_enter Try.func10, Try.ntmps10
  go_wp2_with fail
  refine HD.out.mono ?_
  rintro e w1 ⟨s, A, n, C, xs, rfl, hn17, Rm, b1⟩
  have BB := b1
  have hn : n ≤ 1048576 := by omega
  go_upto_region 4 with fail
  obtain ⟨w2, hw2⟩ : ∃ W, W = w1.alloc (.cells #[.int .i64 s, .slice A n C] 30) := ⟨_, rfl⟩
  obtain ⟨Mm, b2⟩ := Mv.new Rm hw2
  rw [← hw2]
  clear hw2
  replace BB := BB.trans (b2.mono BB.size)
  by_cases hm : massB s xs = true
  · have hI := massB_is Rm.1 hm
    obtain ⟨ys, hys⟩ : ∃ ys, ys = turned xs := ⟨_, rfl⟩
    have hlen : ys.length = n := by rw [hys, turned_length, Rm.1]
    have hmk : massB s ys = true := by rw [hys]; exact turned_mass hm
    have hr1 : negR s xs = some (s, ys) := by rw [hys]; exact if_pos hm
    have hr2 : negR s ys = some (s, xs) := by
      have h1 : negR s ys = some (s, turned ys) := if_pos hmk
      rw [h1, hys, turned_turned]
    have HV := Lib.hid (fun (j : Nat) (hj : j < n) => implied_turned Rm.1 hI.nums hj)
    rw [← hys] at HV
    have HWH : Hid (wholeR s ys = wholeR s xs) := by show _ = _; rw [wholeR_yes hm, wholeR_yes hmk, hys, sumL_turned]
    have HNE : Hid (nestB s ys = nestB s xs) := by show _ = _; rw [hys]; exact nest_turned hm
    have hlx := Rm.1
    have HI := Lib.hid hI
    have HM1 := Lib.hid hm
    have HMK := Lib.hid hmk
    have HR2 := Lib.hid hr2
    have HR1 := Lib.hid hr1
    have HL := Lib.hid hlen
    have HLX := Lib.hid hlx
    clear hys hI hm hmk hr1 hr2 hlen hlx
    have HN := Lib.hid (fun W (h : Row W A n xs) => (iNegateMass_any s A n C xs W h hn).mono (fun e w' h => And.intro (RetM.yes HR1.out HL.out h.1) h.2))
    have HN2 := Lib.hid (fun W (h : Row W A n xs) => (sNegateMass_any s A n C xs W h hn).mono (fun e w' h => And.intro (RetM.yes HR1.out HL.out h.1) h.2))
    obtain ⟨m1, m2⟩ := Mm.at_ (Below.refl _ _)
    go_wp2_with fail
    clear m1 m2
    refine (HN.out _ Mm.2).mono ?_
    rintro e w3 ⟨⟨Ak, Ck, rfl, Rk⟩, b3⟩
    replace Mm := Mm.below b3
    replace BB := BB.trans (b3.mono BB.size)
    go_upto_region 5 with fail
    obtain ⟨w4, hw4⟩ : ∃ W, W = w3.alloc (.cells #[.int .i64 s, .slice Ak n Ck] 30) := ⟨_, rfl⟩
    obtain ⟨Mk, b4⟩ := Mv.new Rk hw4
    rw [← hw4]
    clear hw4
    replace Mm := Mm.below b4
    replace BB := BB.trans (b4.mono BB.size)
    obtain ⟨m1, m2⟩ := Mm.at_ (Below.refl _ _)
    go_wp2_with fail
    clear m1 m2
    refine (HN2.out _ Mm.2).mono ?_
    rintro e w5 ⟨⟨Aq, Cq, rfl, Rq⟩, b5⟩
    replace Mm := Mm.below b5
    replace Mk := Mk.below b5
    replace BB := BB.trans (b5.mono BB.size)
    go_upto_region 6 with fail
    obtain ⟨w6, hw6⟩ : ∃ W, W = w5.alloc (.cells #[.int .i64 s, .slice Aq n Cq] 30) := ⟨_, rfl⟩
    obtain ⟨Mq, b6⟩ := Mv.new Rq hw6
    rw [← hw6]
    clear hw6
    replace Mm := Mm.below b6
    replace Mk := Mk.below b6
    replace BB := BB.trans (b6.mono BB.size)
    have HE := Lib.hid (weEqual_any s s Ak Aq n Ck n Cq ys ys w6 Mk.2 Mq.2 (by omega) (by omega))
    rw [eq_self2] at HE
    obtain ⟨k1, k2⟩ := Mk.at_ (Below.refl _ _)
    obtain ⟨q1, q2⟩ := Mq.at_ (Below.refl _ _)
    go_wp2_with fail
    clear k1 k2
    clear q1 q2
    refine (HE.out).mono ?_
    rintro e w7 ⟨rfl, b7⟩
    replace Mm := Mm.below b7
    replace Mk := Mk.below b7
    replace Mq := Mq.below b7
    replace BB := BB.trans (b7.mono BB.size)
    have Hm := Lib.hid Mm
    have Hk := Lib.hid Mk
    have Hq := Lib.hid Mq
    have HBB := Lib.hid BB
    clear BB Mm Mk Mq
    have HSM := Lib.hid (fun (x : Nat) (hx : x < n) => set_mk HI.out.fit hx)
    have HIS : Hid (∀ W, Below w7.heap.size w7 W → Below w7.heap.size w7 W ∧ W.cell? ⟨w1.heap.size, 0, none⟩ = some (.int .i64 s) ∧ W.cell? ⟨w1.heap.size, 1, none⟩ = some (.slice A n C) ∧ W.cell? ⟨w3.heap.size, 0, none⟩ = some (.int .i64 s) ∧ W.cell? ⟨w3.heap.size, 1, none⟩ = some (.slice Ak n Ck)) := fun W h => ⟨h, (Hm.out.at_ h).1, (Hm.out.at_ h).2, (Hk.out.at_ h).1, (Hk.out.at_ h).2⟩
    have HKS : Hid (∀ W W', Below W.heap.size W W' → (Below w7.heap.size w7 W ∧ W.cell? ⟨w1.heap.size, 0, none⟩ = some (.int .i64 s) ∧ W.cell? ⟨w1.heap.size, 1, none⟩ = some (.slice A n C) ∧ W.cell? ⟨w3.heap.size, 0, none⟩ = some (.int .i64 s) ∧ W.cell? ⟨w3.heap.size, 1, none⟩ = some (.slice Ak n Ck)) → Below w7.heap.size w7 W' ∧ W'.cell? ⟨w1.heap.size, 0, none⟩ = some (.int .i64 s) ∧ W'.cell? ⟨w1.heap.size, 1, none⟩ = some (.slice A n C) ∧ W'.cell? ⟨w3.heap.size, 0, none⟩ = some (.int .i64 s) ∧ W'.cell? ⟨w3.heap.size, 1, none⟩ = some (.slice Ak n Ck)) := fun W W' b h => HIS.out W' (h.1.trans (b.mono h.1.size))
    obtain ⟨m1, m2⟩ := Hm.out.at_ (Below.refl _ _)
    go_wp2_with fail
    clear m1 m2
    go_loopw [8] (fun i wr => ∃ j : Nat, j ≤ n ∧ i = .int .i64 j ∧ Hid (Below w7.heap.size w7 wr)) (fun i _ => n - (intOf i).toNat)
    case atStart => exact ⟨0, Nat.zero_le _, rfl, Lib.hid (Below.refl _ _)⟩
    case round =>
      obtain ⟨j, hj, rfl, HB⟩ := hrel
      obtain ⟨m1, m2⟩ := Hm.out.at_ HB.out
      by_cases hlt : j < n
      · obtain ⟨z, hz⟩ : ∃ z, z = n - 1 - j := ⟨_, rfl⟩
        have hzn : z < n := by omega
        obtain ⟨v, hv⟩ : ∃ v, v = partOf (fun i => subB i j) ys := ⟨_, rfl⟩
        have hv2 : v = partOf (fun i => subB z i) xs := by rw [hv, hz]; exact HV.out j hlt
        have HIP := Lib.hid (fun W (h : Below w7.heap.size w7 W) => iImpliedPart_any s j Ak n Ck ys W (Hk.out.2.below h) hn)
        rw [measure_yes HMK.out (HSM.out j hlt), Int.toNat_natCast, ← hv] at HIP
        have HCP := Lib.hid (fun W (h : Below w7.heap.size w7 W) => iCommonPart_any s z A n C xs W (Hm.out.2.below h) hn)
        rw [measure_yes HM1.out (HSM.out z hzn), Int.toNat_natCast, ← hv2] at HCP
        have HOS := Lib.hid (fun W => OtherSet_any s n j W HI.out.size HI.out.fit hlt)
        rw [← hz] at HOS
        clear hz hv hv2
        go_wp2_with fail
        clear m1 m2
        have HS0 := Lib.hid (HIS.out _ (HB.out.drew))
        go_wp2_with fail
        go_region_held3 (fun W => Below w7.heap.size w7 W ∧ W.cell? ⟨w1.heap.size, 0, none⟩ = some (.int .i64 s) ∧ W.cell? ⟨w1.heap.size, 1, none⟩ = some (.slice A n C) ∧ W.cell? ⟨w3.heap.size, 0, none⟩ = some (.int .i64 s) ∧ W.cell? ⟨w3.heap.size, 1, none⟩ = some (.slice Ak n Ck))
          (first | exact HS0.out | assumption | exact HKS.out _ _ (by assumption) (by assumption) | go_keep)
          (first | (go_at_call 35; (first | ((with_reducible refine (HIP.out _ (And.left (by assumption))).mono ?_); rintro e w9 ⟨rfl, b9⟩))) | (go_at_call 50; (first | ((with_reducible refine (HOS.out _).mono ?_); rintro e w9 ⟨rfl, rfl⟩))) | (go_at_call 38; (first | ((with_reducible refine (HCP.out _ (And.left (by assumption))).mono ?_); rintro e w9 ⟨rfl, b9⟩))))
        clear HS0
        go_wp2_with fail
        go_roundw
        case rel => exact ⟨j + 1, by omega, by go_num, Lib.hid (And.left (by assumption))⟩
        case measure => simp [intOf]; omega
      · have hj' : j = n := by omega
        have HN3 := Lib.hid (fun W (h : Below w7.heap.size w7 W) => (iNegateMass_any s Ak n Ck ys W (Hk.out.2.below h) hn).mono (fun e w' h => And.intro (RetM.yes HR2.out HLX.out h.1) h.2))
        have BB := HB.out
        have Mm := Hm.out.below BB
        have Mk := Hk.out.below BB
        obtain rfl : n = j := by omega
        clear hj'
        obtain ⟨k1, k2⟩ := Mk.at_ (Below.refl _ _)
        go_wp2_with fail
        clear k1 k2
        refine (HN3.out _ BB).mono ?_
        rintro e w8 ⟨⟨Ar, Cr, rfl, Rr⟩, b8⟩
        replace Mm := Mm.below b8
        replace Mk := Mk.below b8
        replace BB := BB.trans (b8.mono BB.size)
        go_upto_region 14 with fail
        obtain ⟨w9, hw9⟩ : ∃ W, W = w8.alloc (.cells #[.int .i64 s, .slice Ar n Cr] 30) := ⟨_, rfl⟩
        obtain ⟨Mr, b9⟩ := Mv.new Rr hw9
        rw [← hw9]
        clear hw9
        replace Mm := Mm.below b9
        replace Mk := Mk.below b9
        replace BB := BB.trans (b9.mono BB.size)
        have HB2 := Lib.hid BB
        replace Hm := Lib.hid Mm
        replace Hk := Lib.hid Mk
        have Hr := Lib.hid Mr
        clear BB Mm Mk Mr
        clear HIS HKS
        have HIS : Hid (∀ W, Below w9.heap.size w9 W → Below w9.heap.size w9 W ∧ W.cell? ⟨w1.heap.size, 0, none⟩ = some (.int .i64 s) ∧ W.cell? ⟨w1.heap.size, 1, none⟩ = some (.slice A n C) ∧ W.cell? ⟨w3.heap.size, 0, none⟩ = some (.int .i64 s) ∧ W.cell? ⟨w3.heap.size, 1, none⟩ = some (.slice Ak n Ck) ∧ W.cell? ⟨w8.heap.size, 0, none⟩ = some (.int .i64 s) ∧ W.cell? ⟨w8.heap.size, 1, none⟩ = some (.slice Ar n Cr)) := fun W h => ⟨h, (Hm.out.at_ h).1, (Hm.out.at_ h).2, (Hk.out.at_ h).1, (Hk.out.at_ h).2, (Hr.out.at_ h).1, (Hr.out.at_ h).2⟩
        have HKS : Hid (∀ W W', Below W.heap.size W W' → (Below w9.heap.size w9 W ∧ W.cell? ⟨w1.heap.size, 0, none⟩ = some (.int .i64 s) ∧ W.cell? ⟨w1.heap.size, 1, none⟩ = some (.slice A n C) ∧ W.cell? ⟨w3.heap.size, 0, none⟩ = some (.int .i64 s) ∧ W.cell? ⟨w3.heap.size, 1, none⟩ = some (.slice Ak n Ck) ∧ W.cell? ⟨w8.heap.size, 0, none⟩ = some (.int .i64 s) ∧ W.cell? ⟨w8.heap.size, 1, none⟩ = some (.slice Ar n Cr)) → Below w9.heap.size w9 W' ∧ W'.cell? ⟨w1.heap.size, 0, none⟩ = some (.int .i64 s) ∧ W'.cell? ⟨w1.heap.size, 1, none⟩ = some (.slice A n C) ∧ W'.cell? ⟨w3.heap.size, 0, none⟩ = some (.int .i64 s) ∧ W'.cell? ⟨w3.heap.size, 1, none⟩ = some (.slice Ak n Ck) ∧ W'.cell? ⟨w8.heap.size, 0, none⟩ = some (.int .i64 s) ∧ W'.cell? ⟨w8.heap.size, 1, none⟩ = some (.slice Ar n Cr)) := fun W W' b h => HIS.out W' (h.1.trans (b.mono h.1.size))
        have HE1 := Lib.hid (fun W (h : Below w9.heap.size w9 W) => weEqual_any s s Ar A n Cr n C xs xs W (Hr.out.2.below h) (Hm.out.2.below h) hn hn)
        rw [eq_self2] at HE1
        have HW1 := Lib.hid (fun W (h : Below w9.heap.size w9 W) => WholeOf_any s Ak n Ck ys W (Hk.out.2.below h) hn)
        have HW2 := Lib.hid (fun W (h : Below w9.heap.size w9 W) => WholeOf_any s A n C xs W (Hm.out.2.below h) hn)
        rw [HWH.out] at HW1
        have HT1 := Lib.hid (fun W (h : Below w9.heap.size w9 W) => IsNested_any s Ak n Ck ys W (Hk.out.2.below h) hn)
        have HT2 := Lib.hid (fun W (h : Below w9.heap.size w9 W) => IsNested_any s A n C xs W (Hm.out.2.below h) hn)
        rw [HNE.out] at HT1
        obtain ⟨u, hu⟩ : ∃ u, u = wholeR s xs := ⟨_, rfl⟩
        obtain ⟨p, hp⟩ : ∃ p, p = nestB s xs := ⟨_, rfl⟩
        rw [← hu] at HW1 HW2
        rw [← hp] at HT1 HT2
        clear hu hp
        have HS0 := Lib.hid (HIS.out _ ((Below.refl _ _).drew))
        go_wp2_with fail
        go_region_held3 (fun W => Below w9.heap.size w9 W ∧ W.cell? ⟨w1.heap.size, 0, none⟩ = some (.int .i64 s) ∧ W.cell? ⟨w1.heap.size, 1, none⟩ = some (.slice A n C) ∧ W.cell? ⟨w3.heap.size, 0, none⟩ = some (.int .i64 s) ∧ W.cell? ⟨w3.heap.size, 1, none⟩ = some (.slice Ak n Ck) ∧ W.cell? ⟨w8.heap.size, 0, none⟩ = some (.int .i64 s) ∧ W.cell? ⟨w8.heap.size, 1, none⟩ = some (.slice Ar n Cr))
          (first | exact HS0.out | assumption | exact HKS.out _ _ (by assumption) (by assumption) | go_keep)
          (first | (go_at_call 43; (first | ((with_reducible refine (HE1.out _ (And.left (by assumption))).mono ?_); rintro e w9 ⟨rfl, b9⟩))) | (go_at_call 39; (first | ((with_reducible refine (HW1.out _ (And.left (by assumption))).mono ?_); rintro e w9 ⟨rfl, b9⟩) | ((with_reducible refine (HW2.out _ (And.left (by assumption))).mono ?_); rintro e w9 ⟨rfl, b9⟩))) | (go_at_call 51; (first | ((with_reducible refine (HT1.out _ (And.left (by assumption))).mono ?_); rintro e w9 ⟨rfl, b9⟩) | ((with_reducible refine (HT2.out _ (And.left (by assumption))).mono ?_); rintro e w9 ⟨rfl, b9⟩))))
        clear HS0
        go_wp2_with fail
        go_ret
        exact ⟨by simp, HBB.out.trans ((HB2.out.trans (Below.mono (And.left (by assumption)) HB2.out.size)).mono HBB.out.size)⟩
  · have hm' : massB s xs = false := by simpa using hm
    have HR1 : Hid (negR s xs = none) := if_neg hm
    clear hm hm'
    have HN := Lib.hid (fun W (h : Row W A n xs) => (iNegateMass_any s A n C xs W h hn).mono (fun e w' h => And.intro (RetM.no HR1.out h.1) h.2))
    have HN2 := Lib.hid (fun W (h : Row W A n xs) => (sNegateMass_any s A n C xs W h hn).mono (fun e w' h => And.intro (RetM.no HR1.out h.1) h.2))
    obtain ⟨m1, m2⟩ := Mm.at_ (Below.refl _ _)
    go_wp2_with fail
    clear m1 m2
    refine (HN.out _ Mm.2).mono ?_
    rintro e w3 ⟨⟨Ak, Ck, rfl, Rk⟩, b3⟩
    replace Mm := Mm.below b3
    replace BB := BB.trans (b3.mono BB.size)
    go_upto_region 5 with fail
    obtain ⟨w4, hw4⟩ : ∃ W, W = w3.alloc (.cells #[.int .i64 0, .slice Ak 0 Ck] 30) := ⟨_, rfl⟩
    obtain ⟨Mk, b4⟩ := Mv.new Rk hw4
    rw [← hw4]
    clear hw4
    replace Mm := Mm.below b4
    replace BB := BB.trans (b4.mono BB.size)
    obtain ⟨m1, m2⟩ := Mm.at_ (Below.refl _ _)
    go_wp2_with fail
    clear m1 m2
    refine (HN2.out _ Mm.2).mono ?_
    rintro e w5 ⟨⟨Aq, Cq, rfl, Rq⟩, b5⟩
    replace Mm := Mm.below b5
    replace Mk := Mk.below b5
    replace BB := BB.trans (b5.mono BB.size)
    go_upto_region 6 with fail
    obtain ⟨w6, hw6⟩ : ∃ W, W = w5.alloc (.cells #[.int .i64 0, .slice Aq 0 Cq] 30) := ⟨_, rfl⟩
    obtain ⟨Mq, b6⟩ := Mv.new Rq hw6
    rw [← hw6]
    clear hw6
    replace Mm := Mm.below b6
    replace Mk := Mk.below b6
    replace BB := BB.trans (b6.mono BB.size)
    have HE := Lib.hid (weEqual_any 0 0 Ak Aq 0 Ck 0 Cq [] [] w6 Mk.2 Mq.2 (by omega) (by omega))
    rw [eq_self2] at HE
    obtain ⟨k1, k2⟩ := Mk.at_ (Below.refl _ _)
    obtain ⟨q1, q2⟩ := Mq.at_ (Below.refl _ _)
    go_wp2_with fail
    clear k1 k2
    clear q1 q2
    refine (HE.out).mono ?_
    rintro e w7 ⟨rfl, b7⟩
    replace Mm := Mm.below b7
    replace Mk := Mk.below b7
    replace Mq := Mq.below b7
    replace BB := BB.trans (b7.mono BB.size)
    have HE2 := Lib.hid (fun W (h : Row W Ak 0 []) (h2 : Row W Aq 0 []) => weEqual_any 0 0 Ak Aq 0 Ck 0 Cq [] [] W h h2 (by omega) (by omega))
    rw [eq_self2] at HE2
    obtain ⟨k1, k2⟩ := Mk.at_ (Below.refl _ _)
    obtain ⟨q1, q2⟩ := Mq.at_ (Below.refl _ _)
    go_wp2_with fail
    clear k1 k2
    clear q1 q2
    refine (HE2.out _ Mk.2 Mq.2).mono ?_
    rintro e w8 ⟨rfl, b8⟩
    replace Mm := Mm.below b8
    replace Mk := Mk.below b8
    replace Mq := Mq.below b8
    replace BB := BB.trans (b8.mono BB.size)
    go_wp2_with fail
    go_ret
    exact ⟨rfl, BB⟩
end Go.Proofs.Ytapkppnjgbcklaa
