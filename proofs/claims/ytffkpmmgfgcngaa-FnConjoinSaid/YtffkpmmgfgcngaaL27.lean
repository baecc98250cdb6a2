/- The walk of the law FnConjoin. -/
import Derived.Test.YtffkpmmgfgcngaaBase7
import Derived.Test.YtffkpmmgfgcngaaLaw
import Derived.Test.YtffkpmmgfgcngaaW55
import Derived.Test.YtffkpmmgfgcngaaW56
import Derived.Test.YtffkpmmgfgcngaaW31
import Derived.Test.YtffkpmmgfgcngaaW30
import Derived.Test.YtffkpmmgfgcngaaW19
import Derived.Test.YtffkpmmgfgcngaaW15
import Derived.Deep.RegionHeld3
import Derived.Deep.QuietTactic
import Derived.BigQuiet
namespace Go.Proofs.Ytffkpmmgfgcngaa
open Go.RowKit

set_option maxHeartbeats 6400000 in
set_option maxRecDepth 100000 in
theorem walkConjoin (a : Option Addr) (l c : Nat) (bs : List Int) (a2 : Option Addr) (l2 c2 : Nat) (bs2 : List Int) (w : World) (hr : BRow w a l bs) (hlc : l ≤ c) (hr2 : BRow w a2 l2 bs2) (hlc2 : l2 ≤ c2) :
    Calls Try.prog 3 #[.slice a l c, .slice a2 l2 c2] w fun e w' => e = .returned (.bool true) ∧ Below w.heap.size w w' := by
  by_cases hl : 1048576 < (l : Int)
  · clear hr hr2
    go_enter Try.func3, Try.ntmps3
    go_wp2_with fail
    go_ret
    exact ⟨rfl, Below.refl _ _⟩
  by_cases hl2 : 1048576 < (l2 : Int)
  · clear hr hr2
    go_enter Try.func3, Try.ntmps3
    go_wp2_with fail
    go_ret
    exact ⟨rfl, Below.refl _ _⟩
  have HD := Lib.hid (DrawConjoinMasses_any a l c bs w hr (.inl hlc))
  have HR2 := Lib.hid hr2
  clear hr hr2
  go_enter Try.func3, Try.ntmps3
  go_wp2_with fail
  refine HD.out.mono ?_
  rintro e w1 ⟨s, A, n, C, xs, t, B, m, D, ys, rfl, hn17, hm17, Rm, Rn, b1⟩
  have BB := b1
  have hn : n ≤ 1048576 := by omega
  have hm : m ≤ 1048576 := by omega
  go_upto_region 4 with fail
  obtain ⟨w2, hw2⟩ : ∃ W, W = (w1.alloc (.cells #[.int .i64 s, .slice A n C] 25)).alloc (.cells #[.int .i64 t, .slice B m D] 25) := ⟨_, rfl⟩
  obtain ⟨Mm, Mn, b2⟩ := Mv.new2 Rm Rn hw2
  rw [← hw2]
  clear hw2
  replace BB := BB.trans (b2.mono BB.size)
  cases hr1 : conjR s xs t ys with
  | none =>
    have HR1 := Lib.hid hr1
    clear hr1
    have HN := Lib.hid (fun W (h : Row W A n xs) (h2 : Row W B m ys) => (iConjoinMasses_any s t A B n m C D xs ys W h h2 (by omega) (by omega)).mono (fun e w' h => And.intro (RetM.no HR1.out h.1) h.2))
    have HN2 := Lib.hid (fun W (h : Row W A n xs) (h2 : Row W B m ys) => (sConjoinMasses_any s t A B n m C D xs ys W h h2 (by omega) (by omega)).mono (fun e w' h => And.intro (RetM.no HR1.out h.1) h.2))
    obtain ⟨m1, m2⟩ := Mm.at_ (Below.refl _ _)
    obtain ⟨n1, n2⟩ := Mn.at_ (Below.refl _ _)
    go_wp2_with fail
    clear m1 m2
    clear n1 n2
    refine (HN.out _ Mm.2 Mn.2).mono ?_
    rintro e w3 ⟨⟨Ak, Ck, rfl, Rk⟩, b3⟩
    replace Mm := Mm.below b3
    replace Mn := Mn.below b3
    replace BB := BB.trans (b3.mono BB.size)
    go_upto_region 5 with fail
    obtain ⟨w4, hw4⟩ : ∃ W, W = w3.alloc (.cells #[.int .i64 0, .slice Ak 0 Ck] 25) := ⟨_, rfl⟩
    obtain ⟨Mk, b4⟩ := Mv.new Rk hw4
    rw [← hw4]
    clear hw4
    replace Mm := Mm.below b4
    replace Mn := Mn.below b4
    replace BB := BB.trans (b4.mono BB.size)
    obtain ⟨m1, m2⟩ := Mm.at_ (Below.refl _ _)
    obtain ⟨n1, n2⟩ := Mn.at_ (Below.refl _ _)
    go_wp2_with fail
    clear m1 m2
    clear n1 n2
    refine (HN2.out _ Mm.2 Mn.2).mono ?_
    rintro e w5 ⟨⟨Aq, Cq, rfl, Rq⟩, b5⟩
    replace Mm := Mm.below b5
    replace Mn := Mn.below b5
    replace Mk := Mk.below b5
    replace BB := BB.trans (b5.mono BB.size)
    go_upto_region 6 with fail
    obtain ⟨w6, hw6⟩ : ∃ W, W = w5.alloc (.cells #[.int .i64 0, .slice Aq 0 Cq] 25) := ⟨_, rfl⟩
    obtain ⟨Mq, b6⟩ := Mv.new Rq hw6
    rw [← hw6]
    clear hw6
    replace Mm := Mm.below b6
    replace Mn := Mn.below b6
    replace Mk := Mk.below b6
    replace BB := BB.trans (b6.mono BB.size)
    have HE := Lib.hid (weEqual_any 0 0 Ak Aq 0 Ck 0 Cq [] [] w6 Mk.2 Mq.2 (by omega) (by omega))
    rw [eq_self2] at HE
    obtain ⟨k1, k2⟩ := Mk.at_ (Below.refl _ _)
    obtain ⟨q1, q2⟩ := Mq.at_ (Below.refl _ _)
    go_wp2_with fail
    clear k1 k2
    clear q1 q2
    refine (HE.out).mono ?_
    rintro e w7 ⟨rfl, b7⟩
    replace Mm := Mm.below b7
    replace Mn := Mn.below b7
    replace Mk := Mk.below b7
    replace Mq := Mq.below b7
    replace BB := BB.trans (b7.mono BB.size)
    have HE2 := Lib.hid (fun W (h : Row W Ak 0 []) (h2 : Row W Aq 0 []) => weEqual_any 0 0 Ak Aq 0 Ck 0 Cq [] [] W h h2 (by omega) (by omega))
    rw [eq_self2] at HE2
    obtain ⟨k1, k2⟩ := Mk.at_ (Below.refl _ _)
    obtain ⟨q1, q2⟩ := Mq.at_ (Below.refl _ _)
    go_wp2_with fail
    clear k1 k2
    clear q1 q2
    refine (HE2.out _ Mk.2 Mq.2).mono ?_
    rintro e w8 ⟨rfl, b8⟩
    replace Mm := Mm.below b8
    replace Mn := Mn.below b8
    replace Mk := Mk.below b8
    replace Mq := Mq.below b8
    replace BB := BB.trans (b8.mono BB.size)
    go_wp2_with fail
    go_ret
    exact ⟨rfl, BB⟩
  | some p =>
    obtain ⟨t', zs⟩ := p
    obtain ⟨e1, e2, e3, hT⟩ := told_some hr1
    rw [Rm.1] at hT
    have hmn : m = n := by have h1 := Rm.1; have h2 := Rn.1; omega
    obtain rfl : s = t := e1.symm
    obtain rfl : s = t' := e2.symm
    obtain rfl : n = m := hmn.symm
    have hn16 := hT.nums
    have HR1 := Lib.hid hr1
    have HLZ := Lib.hid hT.lz
    have HLX := Lib.hid hT.lx
    have HLY := Lib.hid hT.ly
    have HMX := Lib.hid hT.mx
    have HMY := Lib.hid hT.my
    have HMZ := Lib.hid hT.mass
    have HT := Lib.hid hT
    have hI := massB_is hT.lx hT.mx
    have HSZ := Lib.hid hI.size
    have HFT := Lib.hid hI.fit
    have HNN := Lib.hid hn16
    have hn2 : 2 ≤ n := by omega
    have hS : conjR s xs s (sureL n (n - 1)) = some (s, xs) := hT.same (by omega) (and_full hT.lx hn16)
    have hU : conjR s ys s xs = some (s, zs) := hT.turn (fun i j => Nat.and_comm i j)
    have HSS := Lib.hid hS
    have HUU := Lib.hid hU
    clear hS hU
    clear hr1 hT hI hn16
    have HN := Lib.hid (fun W (h : Row W A n xs) (h2 : Row W B n ys) => (iConjoinMasses_any s s A B n n C D xs ys W h h2 (by omega) (by omega)).mono (fun e w' h => And.intro (RetM.yes HR1.out HLZ.out h.1) h.2))
    have HN2 := Lib.hid (fun W (h : Row W A n xs) (h2 : Row W B n ys) => (sConjoinMasses_any s s A B n n C D xs ys W h h2 (by omega) (by omega)).mono (fun e w' h => And.intro (RetM.yes HR1.out HLZ.out h.1) h.2))
    obtain ⟨m1, m2⟩ := Mm.at_ (Below.refl _ _)
    obtain ⟨n1, n2⟩ := Mn.at_ (Below.refl _ _)
    go_wp2_with fail
    clear m1 m2
    clear n1 n2
    refine (HN.out _ Mm.2 Mn.2).mono ?_
    rintro e w3 ⟨⟨Ak, Ck, rfl, Rk⟩, b3⟩
    replace Mm := Mm.below b3
    replace Mn := Mn.below b3
    replace BB := BB.trans (b3.mono BB.size)
    go_upto_region 5 with fail
    obtain ⟨w4, hw4⟩ : ∃ W, W = w3.alloc (.cells #[.int .i64 s, .slice Ak n Ck] 25) := ⟨_, rfl⟩
    obtain ⟨Mk, b4⟩ := Mv.new Rk hw4
    rw [← hw4]
    clear hw4
    replace Mm := Mm.below b4
    replace Mn := Mn.below b4
    replace BB := BB.trans (b4.mono BB.size)
    obtain ⟨m1, m2⟩ := Mm.at_ (Below.refl _ _)
    obtain ⟨n1, n2⟩ := Mn.at_ (Below.refl _ _)
    go_wp2_with fail
    clear m1 m2
    clear n1 n2
    refine (HN2.out _ Mm.2 Mn.2).mono ?_
    rintro e w5 ⟨⟨Aq, Cq, rfl, Rq⟩, b5⟩
    replace Mm := Mm.below b5
    replace Mn := Mn.below b5
    replace Mk := Mk.below b5
    replace BB := BB.trans (b5.mono BB.size)
    go_upto_region 6 with fail
    obtain ⟨w6, hw6⟩ : ∃ W, W = w5.alloc (.cells #[.int .i64 s, .slice Aq n Cq] 25) := ⟨_, rfl⟩
    obtain ⟨Mq, b6⟩ := Mv.new Rq hw6
    rw [← hw6]
    clear hw6
    replace Mm := Mm.below b6
    replace Mn := Mn.below b6
    replace Mk := Mk.below b6
    replace BB := BB.trans (b6.mono BB.size)
    have HE := Lib.hid (weEqual_any s s Ak Aq n Ck n Cq zs zs w6 Mk.2 Mq.2 (by omega) (by omega))
    rw [eq_self2] at HE
    obtain ⟨k1, k2⟩ := Mk.at_ (Below.refl _ _)
    obtain ⟨q1, q2⟩ := Mq.at_ (Below.refl _ _)
    go_wp2_with fail
    clear k1 k2
    clear q1 q2
    refine (HE.out).mono ?_
    rintro e w7 ⟨rfl, b7⟩
    replace Mm := Mm.below b7
    replace Mn := Mn.below b7
    replace Mk := Mk.below b7
    replace Mq := Mq.below b7
    replace BB := BB.trans (b7.mono BB.size)
    clear HN HN2 HE Mq Rq
    have Hm := Lib.hid Mm
    have Hn := Lib.hid Mn
    have Hk := Lib.hid Mk
    have HBB := Lib.hid BB
    clear BB Mm Mn Mk
    have HSM := Lib.hid (fun (x : Nat) (hx : x < n) => set_mk HFT.out hx)
    have HIS : Hid (∀ W, Below w7.heap.size w7 W → Below w7.heap.size w7 W ∧ W.cell? ⟨w1.heap.size, 0, none⟩ = some (.int .i64 s) ∧ W.cell? ⟨w1.heap.size, 1, none⟩ = some (.slice A n C) ∧ W.cell? ⟨w1.heap.size + 1, 0, none⟩ = some (.int .i64 s) ∧ W.cell? ⟨w1.heap.size + 1, 1, none⟩ = some (.slice B n D) ∧ W.cell? ⟨w3.heap.size, 0, none⟩ = some (.int .i64 s) ∧ W.cell? ⟨w3.heap.size, 1, none⟩ = some (.slice Ak n Ck)) := fun W h => ⟨h, (Hm.out.at_ h).1, (Hm.out.at_ h).2, (Hn.out.at_ h).1, (Hn.out.at_ h).2, (Hk.out.at_ h).1, (Hk.out.at_ h).2⟩
    have HKS : Hid (∀ W W', Below W.heap.size W W' → (Below w7.heap.size w7 W ∧ W.cell? ⟨w1.heap.size, 0, none⟩ = some (.int .i64 s) ∧ W.cell? ⟨w1.heap.size, 1, none⟩ = some (.slice A n C) ∧ W.cell? ⟨w1.heap.size + 1, 0, none⟩ = some (.int .i64 s) ∧ W.cell? ⟨w1.heap.size + 1, 1, none⟩ = some (.slice B n D) ∧ W.cell? ⟨w3.heap.size, 0, none⟩ = some (.int .i64 s) ∧ W.cell? ⟨w3.heap.size, 1, none⟩ = some (.slice Ak n Ck)) → Below w7.heap.size w7 W' ∧ W'.cell? ⟨w1.heap.size, 0, none⟩ = some (.int .i64 s) ∧ W'.cell? ⟨w1.heap.size, 1, none⟩ = some (.slice A n C) ∧ W'.cell? ⟨w1.heap.size + 1, 0, none⟩ = some (.int .i64 s) ∧ W'.cell? ⟨w1.heap.size + 1, 1, none⟩ = some (.slice B n D) ∧ W'.cell? ⟨w3.heap.size, 0, none⟩ = some (.int .i64 s) ∧ W'.cell? ⟨w3.heap.size, 1, none⟩ = some (.slice Ak n Ck)) := fun W W' b h => HIS.out W' (h.1.trans (b.mono h.1.size))
    obtain ⟨m1, m2⟩ := Hm.out.at_ (Below.refl _ _)
    obtain ⟨k1, k2⟩ := Hk.out.at_ (Below.refl _ _)
    go_wp2_with fail
    clear m1 m2 k1 k2
    go_loopw [11] (fun v wr => ∃ j : Nat, j ≤ n ∧ v = .int .i64 j ∧ Hid (Below w7.heap.size w7 wr)) (fun v _ => n - (intOf v).toNat)
    case atStart => exact ⟨0, Nat.zero_le _, rfl, Lib.hid (Below.refl _ _)⟩
    case round =>
      obtain ⟨j, hj, rfl, HB⟩ := hrel
      obtain ⟨m1, m2⟩ := Hm.out.at_ HB.out
      by_cases hlt : j < n
      · have hfa := HT.out.common hlt
        have HPk := Lib.hid (fun W (h : Below w7.heap.size w7 W) => iCommonPart_any s (j : Nat) Ak n Ck zs W (Hk.out.2.below h) hn)
        rw [measure_yes HMZ.out (HSM.out j hlt), Int.toNat_natCast] at HPk
        have HWk := Lib.hid (fun W (h : Below w7.heap.size w7 W) => WholeOf_any s Ak n Ck zs W (Hk.out.2.below h) hn)
        rw [wholeR_yes HMZ.out] at HWk
        have bpk := part_mass (pr := fun i => subB j i) HMZ.out
        have bwk := (massB_is rfl HMZ.out).whole
        obtain ⟨pk, hpk⟩ : ∃ v, v = partOf (fun i => subB j i) zs := ⟨_, rfl⟩
        obtain ⟨wk, hwk⟩ : ∃ v, v = sumL zs := ⟨_, rfl⟩
        rw [← hpk] at HPk bpk hfa
        rw [← hwk] at HWk bwk hfa
        clear hpk hwk
        have HPm := Lib.hid (fun W (h : Below w7.heap.size w7 W) => iCommonPart_any s (j : Nat) A n C xs W (Hm.out.2.below h) hn)
        rw [measure_yes HMX.out (HSM.out j hlt), Int.toNat_natCast] at HPm
        have HWm := Lib.hid (fun W (h : Below w7.heap.size w7 W) => WholeOf_any s A n C xs W (Hm.out.2.below h) hn)
        rw [wholeR_yes HMX.out] at HWm
        have bpm := part_mass (pr := fun i => subB j i) HMX.out
        have bwm := (massB_is rfl HMX.out).whole
        obtain ⟨pm, hpm⟩ : ∃ v, v = partOf (fun i => subB j i) xs := ⟨_, rfl⟩
        obtain ⟨wm, hwm⟩ : ∃ v, v = sumL xs := ⟨_, rfl⟩
        rw [← hpm] at HPm bpm hfa
        rw [← hwm] at HWm bwm hfa
        clear hpm hwm
        have HPn := Lib.hid (fun W (h : Below w7.heap.size w7 W) => iCommonPart_any s (j : Nat) B n D ys W (Hn.out.2.below h) hn)
        rw [measure_yes HMY.out (HSM.out j hlt), Int.toNat_natCast] at HPn
        have HWn := Lib.hid (fun W (h : Below w7.heap.size w7 W) => WholeOf_any s B n D ys W (Hn.out.2.below h) hn)
        rw [wholeR_yes HMY.out] at HWn
        have bpn := part_mass (pr := fun i => subB j i) HMY.out
        have bwn := (massB_is rfl HMY.out).whole
        obtain ⟨pn, hpn⟩ : ∃ v, v = partOf (fun i => subB j i) ys := ⟨_, rfl⟩
        obtain ⟨wn, hwn⟩ : ∃ v, v = sumL ys := ⟨_, rfl⟩
        rw [← hpn] at HPn bpn hfa
        rw [← hwn] at HWn bwn hfa
        clear hpn hwn
        have b1 := mul_bound bpk (show 0 ≤ wm ∧ wm ≤ 1000000 by omega)
        obtain ⟨u1, hu1⟩ : ∃ v, v = pk * wm := ⟨_, rfl⟩
        rw [← hu1] at b1 hfa
        have b2 := mul_bound b1 (show 0 ≤ wn ∧ wn ≤ 1000000 by omega)
        obtain ⟨u2, hu2⟩ : ∃ v, v = u1 * wn := ⟨_, rfl⟩
        rw [← hu2] at b2 hfa
        have b3 := mul_bound bpm bpn
        obtain ⟨v1, hv1⟩ : ∃ v, v = pm * pn := ⟨_, rfl⟩
        rw [← hv1] at b3 hfa
        have q1 : IntKind.i64.wrap (pk * wm) = u1 := by rw [← hu1]; exact IntWalk.i64_in _ (by omega)
        have q2 : IntKind.i64.wrap (u1 * wn) = u2 := by rw [← hu2]; exact IntWalk.i64_in _ (by omega)
        have q3 : IntKind.i64.wrap (pm * pn) = v1 := by rw [← hv1]; exact IntWalk.i64_in _ (by omega)
        have q4 : IntKind.i64.wrap (v1 * wk) = u2 := by rw [← hfa]; exact IntWalk.i64_in _ (by omega)
        clear hfa hu1 hu2 hv1 b1 b2 b3 bpk bpm bpn bwk bwm bwn
        go_wp2_with fail
        clear m1 m2
        have HS0 := Lib.hid (HIS.out _ (HB.out.drew))
        go_wp2_with fail
        go_region_held3 (fun W => Below w7.heap.size w7 W ∧ W.cell? ⟨w1.heap.size, 0, none⟩ = some (.int .i64 s) ∧ W.cell? ⟨w1.heap.size, 1, none⟩ = some (.slice A n C) ∧ W.cell? ⟨w1.heap.size + 1, 0, none⟩ = some (.int .i64 s) ∧ W.cell? ⟨w1.heap.size + 1, 1, none⟩ = some (.slice B n D) ∧ W.cell? ⟨w3.heap.size, 0, none⟩ = some (.int .i64 s) ∧ W.cell? ⟨w3.heap.size, 1, none⟩ = some (.slice Ak n Ck))
          (first | exact HS0.out | assumption | exact HKS.out _ _ (by assumption) (by assumption) | go_keep)
          (first | (go_at_call 19; (first | ((with_reducible refine (HPk.out _ (And.left (by assumption))).mono ?_); rintro e w9 ⟨rfl, b9⟩) | ((with_reducible refine (HPm.out _ (And.left (by assumption))).mono ?_); rintro e w9 ⟨rfl, b9⟩) | ((with_reducible refine (HPn.out _ (And.left (by assumption))).mono ?_); rintro e w9 ⟨rfl, b9⟩))) | (go_at_call 20; (first | ((with_reducible refine (HWm.out _ (And.left (by assumption))).mono ?_); rintro e w9 ⟨rfl, b9⟩) | ((with_reducible refine (HWn.out _ (And.left (by assumption))).mono ?_); rintro e w9 ⟨rfl, b9⟩) | ((with_reducible refine (HWk.out _ (And.left (by assumption))).mono ?_); rintro e w9 ⟨rfl, b9⟩))))
        clear HS0
        go_wp2_with fail
        go_roundw
        case rel => exact ⟨j + 1, by omega, by go_num, Lib.hid (And.left (by assumption))⟩
        case measure => simp [intOf]; omega
      · obtain rfl : n = j := by omega
        clear m1 m2 hlt
        have BB := HB.out
        have Mm := Hm.out.below BB
        have Mn := Hn.out.below BB
        have Mk := Hk.out.below BB
        have HDR := Lib.hid (DrawConjoinMasses_any a2 l2 c2 bs2 wr (HR2.out.below (HBB.out.trans (BB.mono HBB.out.size))) (.inl hlc2))
        obtain ⟨m1, m2⟩ := Mm.at_ (Below.refl _ _)
        obtain ⟨k1, k2⟩ := Mk.at_ (Below.refl _ _)
        go_wp2_with fail
        clear m1 m2
        clear k1 k2
        refine HDR.out.mono ?_
        rintro e w8 ⟨s3, A3, n3, C3, hs, s4, A4, n4, C4, hs4, rfl, hn3, hn4, R3, R4, b8⟩
        replace Mm := Mm.below b8
        replace Mn := Mn.below b8
        replace Mk := Mk.below b8
        replace BB := BB.trans (b8.mono BB.size)
        go_upto_region 14 with fail
        obtain ⟨w9, hw9⟩ : ∃ W, W = (w8.alloc (.cells #[.int .i64 s3, .slice A3 n3 C3] 25)).alloc (.cells #[.int .i64 s4, .slice A4 n4 C4] 25) := ⟨_, rfl⟩
        obtain ⟨Mh, Mi, b9⟩ := Mv.new2 R3 R4 hw9
        rw [← hw9]
        clear hw9
        replace Mm := Mm.below b9
        replace Mn := Mn.below b9
        replace Mk := Mk.below b9
        replace BB := BB.trans (b9.mono BB.size)
        clear Mi
        obtain ⟨rx, hrx⟩ : ∃ r, r = conjR s zs s3 hs := ⟨_, rfl⟩
        have HCx := Lib.hid (iConjoinMasses_any s s3 Ak A3 n n3 Ck C3 zs hs w9 Mk.2 Mh.2 (by omega) (by omega))
        rw [← hrx] at HCx
        have Hrx := Lib.hid hrx
        have hlerx : rN rx ≤ 1048576 := by have h := (conjR_len (sM := s) (sN := s3) (xsM := zs) (xsN := hs) (n := n) (m := n3) (by have := Mk.2.1; omega) (by have := Mh.2.1; omega)); rw [← hrx] at h; omega
        clear hrx
        obtain ⟨k1, k2⟩ := Mk.at_ (Below.refl _ _)
        obtain ⟨h1, h2⟩ := Mh.at_ (Below.refl _ _)
        go_wp2_with fail
        clear k1 k2
        clear h1 h2
        refine (HCx.out).mono ?_
        rintro e w10 ⟨⟨Ax, Cx, rfl, Ox⟩, b10⟩
        replace Mm := Mm.below b10
        replace Mn := Mn.below b10
        replace Mk := Mk.below b10
        replace Mh := Mh.below b10
        replace BB := BB.trans (b10.mono BB.size)
        have Rx := Ox.row
        clear Ox HCx
        go_upto_region 15 with fail
        obtain ⟨w11, hw11⟩ : ∃ W, W = w10.alloc (.cells #[.int .i64 (rS rx), .slice Ax (rN rx) Cx] 25) := ⟨_, rfl⟩
        obtain ⟨Mx, b11⟩ := Mv.new Rx hw11
        rw [← hw11]
        clear hw11
        replace Mm := Mm.below b11
        replace Mn := Mn.below b11
        replace Mk := Mk.below b11
        replace Mh := Mh.below b11
        replace BB := BB.trans (b11.mono BB.size)
        obtain ⟨ry, hry⟩ : ∃ r, r = conjR s ys s3 hs := ⟨_, rfl⟩
        have HCy := Lib.hid (iConjoinMasses_any s s3 B A3 n n3 D C3 ys hs w11 Mn.2 Mh.2 (by omega) (by omega))
        rw [← hry] at HCy
        have Hry := Lib.hid hry
        have hlery : rN ry ≤ 1048576 := by have h := (conjR_len (sM := s) (sN := s3) (xsM := ys) (xsN := hs) (n := n) (m := n3) (by have := Mn.2.1; omega) (by have := Mh.2.1; omega)); rw [← hry] at h; omega
        clear hry
        obtain ⟨n1, n2⟩ := Mn.at_ (Below.refl _ _)
        obtain ⟨h1, h2⟩ := Mh.at_ (Below.refl _ _)
        go_wp2_with fail
        clear n1 n2
        clear h1 h2
        refine (HCy.out).mono ?_
        rintro e w12 ⟨⟨Ay, Cy, rfl, Oy⟩, b12⟩
        replace Mm := Mm.below b12
        replace Mn := Mn.below b12
        replace Mk := Mk.below b12
        replace Mh := Mh.below b12
        replace Mx := Mx.below b12
        replace BB := BB.trans (b12.mono BB.size)
        have Ry := Oy.row
        clear Oy HCy
        go_upto_region 16 with fail
        obtain ⟨w13, hw13⟩ : ∃ W, W = w12.alloc (.cells #[.int .i64 (rS ry), .slice Ay (rN ry) Cy] 25) := ⟨_, rfl⟩
        obtain ⟨My, b13⟩ := Mv.new Ry hw13
        rw [← hw13]
        clear hw13
        replace Mm := Mm.below b13
        replace Mn := Mn.below b13
        replace Mk := Mk.below b13
        replace Mh := Mh.below b13
        replace Mx := Mx.below b13
        replace BB := BB.trans (b13.mono BB.size)
        obtain ⟨rz, hrz⟩ : ∃ r, r = conjR s xs (rS ry) (rL ry) := ⟨_, rfl⟩
        have HCz := Lib.hid (iConjoinMasses_any s (rS ry) A Ay n (rN ry) C Cy xs (rL ry) w13 Mm.2 My.2 (by omega) (by omega))
        rw [← hrz] at HCz
        have Hrz := Lib.hid hrz
        have hlerz : rN rz ≤ 1048576 := by have h := (conjR_len (sM := s) (sN := (rS ry)) (xsM := xs) (xsN := (rL ry)) (n := n) (m := (rN ry)) (by have := Mm.2.1; omega) (by have := My.2.1; omega)); rw [← hrz] at h; omega
        clear hrz
        obtain ⟨m1, m2⟩ := Mm.at_ (Below.refl _ _)
        obtain ⟨y1, y2⟩ := My.at_ (Below.refl _ _)
        go_wp2_with fail
        clear m1 m2
        clear y1 y2
        refine (HCz.out).mono ?_
        rintro e w14 ⟨⟨Az, Cz, rfl, Oz⟩, b14⟩
        replace Mm := Mm.below b14
        replace Mn := Mn.below b14
        replace Mk := Mk.below b14
        replace Mh := Mh.below b14
        replace Mx := Mx.below b14
        replace My := My.below b14
        replace BB := BB.trans (b14.mono BB.size)
        have Rz := Oz.row
        clear Oz HCz
        go_upto_region 17 with fail
        obtain ⟨w15, hw15⟩ : ∃ W, W = w14.alloc (.cells #[.int .i64 (rS rz), .slice Az (rN rz) Cz] 25) := ⟨_, rfl⟩
        obtain ⟨Mz, b15⟩ := Mv.new Rz hw15
        rw [← hw15]
        clear hw15
        replace Mm := Mm.below b15
        replace Mn := Mn.below b15
        replace Mk := Mk.below b15
        replace Mh := Mh.below b15
        replace Mx := Mx.below b15
        replace My := My.below b15
        replace BB := BB.trans (b15.mono BB.size)
        have HCe := Lib.hid (NoEvidence_any s n w15 HSZ.out HFT.out (by omega))
        obtain ⟨m1, m2⟩ := Mm.at_ (Below.refl _ _)
        go_wp2_with fail
        clear m1 m2
        refine (HCe.out).mono ?_
        rintro e w16 ⟨⟨Ae, Ce, rfl, Re⟩, b16⟩
        replace Mm := Mm.below b16
        replace Mn := Mn.below b16
        replace Mk := Mk.below b16
        replace Mh := Mh.below b16
        replace Mx := Mx.below b16
        replace My := My.below b16
        replace Mz := Mz.below b16
        replace BB := BB.trans (b16.mono BB.size)
        go_upto_region 18 with fail
        obtain ⟨w17, hw17⟩ : ∃ W, W = w16.alloc (.cells #[.int .i64 s, .slice Ae n Ce] 25) := ⟨_, rfl⟩
        obtain ⟨Me, b17⟩ := Mv.new Re hw17
        rw [← hw17]
        clear hw17
        replace Mm := Mm.below b17
        replace Mn := Mn.below b17
        replace Mk := Mk.below b17
        replace Mh := Mh.below b17
        replace Mx := Mx.below b17
        replace My := My.below b17
        replace Mz := Mz.below b17
        replace BB := BB.trans (b17.mono BB.size)
        clear HCe
        have HCp := Lib.hid ((iConjoinMasses_any s s A Ae n n C Ce xs (sureL n (n - 1)) w17 Mm.2 Me.2 (by omega) (by omega)).mono (fun e w' h => And.intro (RetM.yes HSS.out HLX.out h.1) h.2))
        obtain ⟨m1, m2⟩ := Mm.at_ (Below.refl _ _)
        obtain ⟨e1, e2⟩ := Me.at_ (Below.refl _ _)
        go_wp2_with fail
        clear m1 m2
        clear e1 e2
        refine (HCp.out).mono ?_
        rintro e w18 ⟨⟨Ap, Cp, rfl, Rp⟩, b18⟩
        replace Mm := Mm.below b18
        replace Mn := Mn.below b18
        replace Mk := Mk.below b18
        replace Mh := Mh.below b18
        replace Mx := Mx.below b18
        replace My := My.below b18
        replace Mz := Mz.below b18
        replace Me := Me.below b18
        replace BB := BB.trans (b18.mono BB.size)
        go_upto_region 19 with fail
        obtain ⟨w19, hw19⟩ : ∃ W, W = w18.alloc (.cells #[.int .i64 s, .slice Ap n Cp] 25) := ⟨_, rfl⟩
        obtain ⟨Mp, b19⟩ := Mv.new Rp hw19
        rw [← hw19]
        clear hw19
        replace Mm := Mm.below b19
        replace Mn := Mn.below b19
        replace Mk := Mk.below b19
        replace Mh := Mh.below b19
        replace Mx := Mx.below b19
        replace My := My.below b19
        replace Mz := Mz.below b19
        replace Me := Me.below b19
        replace BB := BB.trans (b19.mono BB.size)
        clear HCp
        have HCu := Lib.hid ((iConjoinMasses_any s s B A n n D C ys xs w19 Mn.2 Mm.2 (by omega) (by omega)).mono (fun e w' h => And.intro (RetM.yes HUU.out HLZ.out h.1) h.2))
        obtain ⟨n1, n2⟩ := Mn.at_ (Below.refl _ _)
        obtain ⟨m1, m2⟩ := Mm.at_ (Below.refl _ _)
        go_wp2_with fail
        clear n1 n2
        clear m1 m2
        refine (HCu.out).mono ?_
        rintro e w20 ⟨⟨Au, Cu, rfl, Ru⟩, b20⟩
        replace Mm := Mm.below b20
        replace Mn := Mn.below b20
        replace Mk := Mk.below b20
        replace Mh := Mh.below b20
        replace Mx := Mx.below b20
        replace My := My.below b20
        replace Mz := Mz.below b20
        replace Me := Me.below b20
        replace Mp := Mp.below b20
        replace BB := BB.trans (b20.mono BB.size)
        go_upto_region 20 with fail
        obtain ⟨w21, hw21⟩ : ∃ W, W = w20.alloc (.cells #[.int .i64 s, .slice Au n Cu] 25) := ⟨_, rfl⟩
        obtain ⟨Mu, b21⟩ := Mv.new Ru hw21
        rw [← hw21]
        clear hw21
        replace Mm := Mm.below b21
        replace Mn := Mn.below b21
        replace Mk := Mk.below b21
        replace Mh := Mh.below b21
        replace Mx := Mx.below b21
        replace My := My.below b21
        replace Mz := Mz.below b21
        replace Me := Me.below b21
        replace Mp := Mp.below b21
        replace BB := BB.trans (b21.mono BB.size)
        clear HCu
        obtain ⟨bx, hbx⟩ : ∃ b, b = rB rx := ⟨_, rfl⟩
        obtain ⟨by_, hby⟩ : ∃ b, b = rB ry := ⟨_, rfl⟩
        obtain ⟨bz, hbz⟩ : ∃ b, b = rB rz := ⟨_, rfl⟩
        rw [← hbx, ← hby, ← hbz]
        have HBX := Lib.hid hbx
        have HBY := Lib.hid hby
        have HBZ := Lib.hid hbz
        clear hbx hby hbz
        cases bx with
        | false =>
          have HQpm := Lib.hid (weEqual_any s s Ap A n Cp n C xs xs w21 Mp.2 Mm.2 (by omega) (by omega))
          rw [eq_self2] at HQpm
          obtain ⟨p1, p2⟩ := Mp.at_ (Below.refl _ _)
          obtain ⟨m1, m2⟩ := Mm.at_ (Below.refl _ _)
          go_wp2_with fail
          clear p1 p2
          clear m1 m2
          refine (HQpm.out).mono ?_
          rintro e w22 ⟨rfl, b22⟩
          replace Mm := Mm.below b22
          replace Mn := Mn.below b22
          replace Mk := Mk.below b22
          replace Mh := Mh.below b22
          replace Mx := Mx.below b22
          replace My := My.below b22
          replace Mz := Mz.below b22
          replace Me := Me.below b22
          replace Mp := Mp.below b22
          replace Mu := Mu.below b22
          replace BB := BB.trans (b22.mono BB.size)
          clear HQpm
          have HQuk := Lib.hid (weEqual_any s s Au Ak n Cu n Ck zs zs w22 Mu.2 Mk.2 (by omega) (by omega))
          rw [eq_self2] at HQuk
          obtain ⟨u1, u2⟩ := Mu.at_ (Below.refl _ _)
          obtain ⟨k1, k2⟩ := Mk.at_ (Below.refl _ _)
          go_wp2_with fail
          clear u1 u2
          clear k1 k2
          refine (HQuk.out).mono ?_
          rintro e w23 ⟨rfl, b23⟩
          replace Mm := Mm.below b23
          replace Mn := Mn.below b23
          replace Mk := Mk.below b23
          replace Mh := Mh.below b23
          replace Mx := Mx.below b23
          replace My := My.below b23
          replace Mz := Mz.below b23
          replace Me := Me.below b23
          replace Mp := Mp.below b23
          replace Mu := Mu.below b23
          replace BB := BB.trans (b23.mono BB.size)
          clear HQuk
          go_wp2_with fail
          go_ret
          exact ⟨rfl, HBB.out.trans (BB.mono HBB.out.size)⟩
        | true =>
          cases by_ with
          | false =>
            have HQpm := Lib.hid (weEqual_any s s Ap A n Cp n C xs xs w21 Mp.2 Mm.2 (by omega) (by omega))
            rw [eq_self2] at HQpm
            obtain ⟨p1, p2⟩ := Mp.at_ (Below.refl _ _)
            obtain ⟨m1, m2⟩ := Mm.at_ (Below.refl _ _)
            go_wp2_with fail
            clear p1 p2
            clear m1 m2
            refine (HQpm.out).mono ?_
            rintro e w22 ⟨rfl, b22⟩
            replace Mm := Mm.below b22
            replace Mn := Mn.below b22
            replace Mk := Mk.below b22
            replace Mh := Mh.below b22
            replace Mx := Mx.below b22
            replace My := My.below b22
            replace Mz := Mz.below b22
            replace Me := Me.below b22
            replace Mp := Mp.below b22
            replace Mu := Mu.below b22
            replace BB := BB.trans (b22.mono BB.size)
            clear HQpm
            have HQuk := Lib.hid (weEqual_any s s Au Ak n Cu n Ck zs zs w22 Mu.2 Mk.2 (by omega) (by omega))
            rw [eq_self2] at HQuk
            obtain ⟨u1, u2⟩ := Mu.at_ (Below.refl _ _)
            obtain ⟨k1, k2⟩ := Mk.at_ (Below.refl _ _)
            go_wp2_with fail
            clear u1 u2
            clear k1 k2
            refine (HQuk.out).mono ?_
            rintro e w23 ⟨rfl, b23⟩
            replace Mm := Mm.below b23
            replace Mn := Mn.below b23
            replace Mk := Mk.below b23
            replace Mh := Mh.below b23
            replace Mx := Mx.below b23
            replace My := My.below b23
            replace Mz := Mz.below b23
            replace Me := Me.below b23
            replace Mp := Mp.below b23
            replace Mu := Mu.below b23
            replace BB := BB.trans (b23.mono BB.size)
            clear HQuk
            go_wp2_with fail
            go_ret
            exact ⟨rfl, HBB.out.trans (BB.mono HBB.out.size)⟩
          | true =>
            cases bz with
            | false =>
              have HQpm := Lib.hid (weEqual_any s s Ap A n Cp n C xs xs w21 Mp.2 Mm.2 (by omega) (by omega))
              rw [eq_self2] at HQpm
              obtain ⟨p1, p2⟩ := Mp.at_ (Below.refl _ _)
              obtain ⟨m1, m2⟩ := Mm.at_ (Below.refl _ _)
              go_wp2_with fail
              clear p1 p2
              clear m1 m2
              refine (HQpm.out).mono ?_
              rintro e w22 ⟨rfl, b22⟩
              replace Mm := Mm.below b22
              replace Mn := Mn.below b22
              replace Mk := Mk.below b22
              replace Mh := Mh.below b22
              replace Mx := Mx.below b22
              replace My := My.below b22
              replace Mz := Mz.below b22
              replace Me := Me.below b22
              replace Mp := Mp.below b22
              replace Mu := Mu.below b22
              replace BB := BB.trans (b22.mono BB.size)
              clear HQpm
              have HQuk := Lib.hid (weEqual_any s s Au Ak n Cu n Ck zs zs w22 Mu.2 Mk.2 (by omega) (by omega))
              rw [eq_self2] at HQuk
              obtain ⟨u1, u2⟩ := Mu.at_ (Below.refl _ _)
              obtain ⟨k1, k2⟩ := Mk.at_ (Below.refl _ _)
              go_wp2_with fail
              clear u1 u2
              clear k1 k2
              refine (HQuk.out).mono ?_
              rintro e w23 ⟨rfl, b23⟩
              replace Mm := Mm.below b23
              replace Mn := Mn.below b23
              replace Mk := Mk.below b23
              replace Mh := Mh.below b23
              replace Mx := Mx.below b23
              replace My := My.below b23
              replace Mz := Mz.below b23
              replace Me := Me.below b23
              replace Mp := Mp.below b23
              replace Mu := Mu.below b23
              replace BB := BB.trans (b23.mono BB.size)
              clear HQuk
              go_wp2_with fail
              go_ret
              exact ⟨rfl, HBB.out.trans (BB.mono HBB.out.size)⟩
            | true =>
              have heq : rS rz = rS rx ∧ rL rz = rL rx := by
                have h1 := Hrx.out
                have h2 := Hry.out
                have h3 := Hrz.out
                have k1 := HBX.out
                have k2 := HBY.out
                have k3 := HBZ.out
                cases rx with
                | none => cases k1
                | some px =>
                  obtain ⟨sx, us⟩ := px
                  cases ry with
                  | none => cases k2
                  | some py =>
                    obtain ⟨sy, vs⟩ := py
                    cases rz with
                    | none => cases k3
                    | some pz =>
                      obtain ⟨sz, az⟩ := pz
                      obtain ⟨a1, a2, a3, T2⟩ := told_some h1.symm
                      obtain ⟨b1', b2', b3', T3⟩ := told_some h2.symm
                      subst a1
                      subst a2
                      subst b2'
                      obtain ⟨c1', c2', c3', T4⟩ := told_some h3.symm
                      subst c2'
                      rw [HLZ.out] at T2
                      rw [HLY.out] at T3
                      have hlx2 := HLX.out
                      rw [hlx2] at T4
                      exact ⟨rfl, (Told.group (fun i j => Nat.and_comm i j) (fun i j hi _ => and_lt hi) (fun i j k => Nat.and_assoc i j k) HT.out T2 T3 T4).symm⟩
              have HQXZ := Lib.hid (weEqual_any (rS rx) (rS rz) Ax Az (rN rx) Cx (rN rz) Cz (rL rx) (rL rz) w21 Mx.2 Mz.2 (by omega) (by omega))
              have hbq : ((rS rx == rS rz) && eqB (rL rx) (rL rz)) = true := by rw [heq.1, heq.2]; exact eq_self2 _ _
              rw [hbq] at HQXZ
              clear heq hbq
              obtain ⟨x1, x2⟩ := Mx.at_ (Below.refl _ _)
              obtain ⟨z1, z2⟩ := Mz.at_ (Below.refl _ _)
              go_wp2_with fail
              clear x1 x2
              clear z1 z2
              refine (HQXZ.out).mono ?_
              rintro e w22 ⟨rfl, b22⟩
              replace Mm := Mm.below b22
              replace Mn := Mn.below b22
              replace Mk := Mk.below b22
              replace Mh := Mh.below b22
              replace Mx := Mx.below b22
              replace My := My.below b22
              replace Mz := Mz.below b22
              replace Me := Me.below b22
              replace Mp := Mp.below b22
              replace Mu := Mu.below b22
              replace BB := BB.trans (b22.mono BB.size)
              have HQpm := Lib.hid (weEqual_any s s Ap A n Cp n C xs xs w22 Mp.2 Mm.2 (by omega) (by omega))
              rw [eq_self2] at HQpm
              obtain ⟨p1, p2⟩ := Mp.at_ (Below.refl _ _)
              obtain ⟨m1, m2⟩ := Mm.at_ (Below.refl _ _)
              go_wp2_with fail
              clear p1 p2
              clear m1 m2
              refine (HQpm.out).mono ?_
              rintro e w23 ⟨rfl, b23⟩
              replace Mm := Mm.below b23
              replace Mn := Mn.below b23
              replace Mk := Mk.below b23
              replace Mh := Mh.below b23
              replace Mx := Mx.below b23
              replace My := My.below b23
              replace Mz := Mz.below b23
              replace Me := Me.below b23
              replace Mp := Mp.below b23
              replace Mu := Mu.below b23
              replace BB := BB.trans (b23.mono BB.size)
              clear HQpm
              have HQuk := Lib.hid (weEqual_any s s Au Ak n Cu n Ck zs zs w23 Mu.2 Mk.2 (by omega) (by omega))
              rw [eq_self2] at HQuk
              obtain ⟨u1, u2⟩ := Mu.at_ (Below.refl _ _)
              obtain ⟨k1, k2⟩ := Mk.at_ (Below.refl _ _)
              go_wp2_with fail
              clear u1 u2
              clear k1 k2
              refine (HQuk.out).mono ?_
              rintro e w24 ⟨rfl, b24⟩
              replace Mm := Mm.below b24
              replace Mn := Mn.below b24
              replace Mk := Mk.below b24
              replace Mh := Mh.below b24
              replace Mx := Mx.below b24
              replace My := My.below b24
              replace Mz := Mz.below b24
              replace Me := Me.below b24
              replace Mp := Mp.below b24
              replace Mu := Mu.below b24
              replace BB := BB.trans (b24.mono BB.size)
              clear HQuk
              go_wp2_with fail
              go_ret
              exact ⟨rfl, HBB.out.trans (BB.mono HBB.out.size)⟩
end Go.Proofs.Ytffkpmmgfgcngaa
