/- The walk of the law FnDisjoin. -/
import Derived.Test.YtffkpmmgfgcngaaBase7
import Derived.Test.YtffkpmmgfgcngaaLaw
import Derived.Test.YtffkpmmgfgcngaaW55
import Derived.Test.YtffkpmmgfgcngaaW56
import Derived.Test.YtffkpmmgfgcngaaW31
import Derived.Test.YtffkpmmgfgcngaaW30
import Derived.Test.YtffkpmmgfgcngaaW19
import Derived.Test.YtffkpmmgfgcngaaW15
import Derived.Deep.RegionHeld3
import Derived.Deep.QuietTactic
import Derived.BigQuiet
namespace Go.Proofs.Ytffkpmmgfgcngaa
open Go.RowKit

set_option maxHeartbeats 6400000 in
set_option maxRecDepth 100000 in
theorem walkDisjoin (a : Option Addr) (l c : Nat) (bs : List Int) (w : World) (hr : BRow w a l bs) (hlc : l ≤ c) :
    Calls Try.prog 4 #[.slice a l c] w fun e w' => e = .returned (.bool true) ∧ Below w.heap.size w w' := by
  by_cases hl : 1048576 < (l : Int)
  · clear hr
    go_enter Try.func4, Try.ntmps4
    go_wp2_with fail
    go_ret
    exact ⟨rfl, Below.refl _ _⟩
  have HD := Lib.hid (DrawDisjoinMasses_any a l c bs w hr (.inl hlc))
  clear hr
  go_enter Try.func4, Try.ntmps4
  go_wp2_with fail
  refine HD.out.mono ?_
  rintro e w1 ⟨s, A, n, C, xs, t, B, m, D, ys, rfl, hn17, hm17, Rm, Rn, b1⟩
  have BB := b1
  have hn : n ≤ 1048576 := by omega
  have hm : m ≤ 1048576 := by omega
  go_upto_region 4 with fail
  obtain ⟨w2, hw2⟩ : ∃ W, W = (w1.alloc (.cells #[.int .i64 s, .slice A n C] 25)).alloc (.cells #[.int .i64 t, .slice B m D] 25) := ⟨_, rfl⟩
  obtain ⟨Mm, Mn, b2⟩ := Mv.new2 Rm Rn hw2
  rw [← hw2]
  clear hw2
  replace BB := BB.trans (b2.mono BB.size)
  cases hr1 : disjR s xs t ys with
  | none =>
    have HR1 := Lib.hid hr1
    clear hr1
    have HN := Lib.hid (fun W (h : Row W A n xs) (h2 : Row W B m ys) => (iDisjoinMasses_any s t A B n m C D xs ys W h h2 (by omega) (by omega)).mono (fun e w' h => And.intro (RetM.no HR1.out h.1) h.2))
    have HN2 := Lib.hid (fun W (h : Row W A n xs) (h2 : Row W B m ys) => (sDisjoinMasses_any s t A B n m C D xs ys W h h2 (by omega) (by omega)).mono (fun e w' h => And.intro (RetM.no HR1.out h.1) h.2))
    obtain ⟨m1, m2⟩ := Mm.at_ (Below.refl _ _)
    obtain ⟨n1, n2⟩ := Mn.at_ (Below.refl _ _)
    go_wp2_with fail
    clear m1 m2
    clear n1 n2
    refine (HN.out _ Mm.2 Mn.2).mono ?_
    rintro e w3 ⟨⟨Ak, Ck, rfl, Rk⟩, b3⟩
    replace Mm := Mm.below b3
    replace Mn := Mn.below b3
    replace BB := BB.trans (b3.mono BB.size)
    go_upto_region 5 with fail
    obtain ⟨w4, hw4⟩ : ∃ W, W = w3.alloc (.cells #[.int .i64 0, .slice Ak 0 Ck] 25) := ⟨_, rfl⟩
    obtain ⟨Mk, b4⟩ := Mv.new Rk hw4
    rw [← hw4]
    clear hw4
    replace Mm := Mm.below b4
    replace Mn := Mn.below b4
    replace BB := BB.trans (b4.mono BB.size)
    obtain ⟨m1, m2⟩ := Mm.at_ (Below.refl _ _)
    obtain ⟨n1, n2⟩ := Mn.at_ (Below.refl _ _)
    go_wp2_with fail
    clear m1 m2
    clear n1 n2
    refine (HN2.out _ Mm.2 Mn.2).mono ?_
    rintro e w5 ⟨⟨Aq, Cq, rfl, Rq⟩, b5⟩
    replace Mm := Mm.below b5
    replace Mn := Mn.below b5
    replace Mk := Mk.below b5
    replace BB := BB.trans (b5.mono BB.size)
    go_upto_region 6 with fail
    obtain ⟨w6, hw6⟩ : ∃ W, W = w5.alloc (.cells #[.int .i64 0, .slice Aq 0 Cq] 25) := ⟨_, rfl⟩
    obtain ⟨Mq, b6⟩ := Mv.new Rq hw6
    rw [← hw6]
    clear hw6
    replace Mm := Mm.below b6
    replace Mn := Mn.below b6
    replace Mk := Mk.below b6
    replace BB := BB.trans (b6.mono BB.size)
    have HE := Lib.hid (weEqual_any 0 0 Ak Aq 0 Ck 0 Cq [] [] w6 Mk.2 Mq.2 (by omega) (by omega))
    rw [eq_self2] at HE
    obtain ⟨k1, k2⟩ := Mk.at_ (Below.refl _ _)
    obtain ⟨q1, q2⟩ := Mq.at_ (Below.refl _ _)
    go_wp2_with fail
    clear k1 k2
    clear q1 q2
    refine (HE.out).mono ?_
    rintro e w7 ⟨rfl, b7⟩
    replace Mm := Mm.below b7
    replace Mn := Mn.below b7
    replace Mk := Mk.below b7
    replace Mq := Mq.below b7
    replace BB := BB.trans (b7.mono BB.size)
    have HE2 := Lib.hid (fun W (h : Row W Ak 0 []) (h2 : Row W Aq 0 []) => weEqual_any 0 0 Ak Aq 0 Ck 0 Cq [] [] W h h2 (by omega) (by omega))
    rw [eq_self2] at HE2
    obtain ⟨k1, k2⟩ := Mk.at_ (Below.refl _ _)
    obtain ⟨q1, q2⟩ := Mq.at_ (Below.refl _ _)
    go_wp2_with fail
    clear k1 k2
    clear q1 q2
    refine (HE2.out _ Mk.2 Mq.2).mono ?_
    rintro e w8 ⟨rfl, b8⟩
    replace Mm := Mm.below b8
    replace Mn := Mn.below b8
    replace Mk := Mk.below b8
    replace Mq := Mq.below b8
    replace BB := BB.trans (b8.mono BB.size)
    go_wp2_with fail
    go_ret
    exact ⟨rfl, BB⟩
  | some p =>
    obtain ⟨t', zs⟩ := p
    obtain ⟨e1, e2, e3, hT⟩ := told_some hr1
    rw [Rm.1] at hT
    have hmn : m = n := by have h1 := Rm.1; have h2 := Rn.1; omega
    obtain rfl : s = t := e1.symm
    obtain rfl : s = t' := e2.symm
    obtain rfl : n = m := hmn.symm
    have hn16 := hT.nums
    have HR1 := Lib.hid hr1
    have HLZ := Lib.hid hT.lz
    have HLX := Lib.hid hT.lx
    have HLY := Lib.hid hT.ly
    have HMX := Lib.hid hT.mx
    have HMY := Lib.hid hT.my
    have HMZ := Lib.hid hT.mass
    have HT := Lib.hid hT
    have hI := massB_is hT.lx hT.mx
    have HSZ := Lib.hid hI.size
    have HFT := Lib.hid hI.fit
    have HNN := Lib.hid hn16
    have hn2 : 2 ≤ n := by omega
    have hX : negR s xs = some (s, turned xs) := if_pos hT.mx
    have hY : negR s ys = some (s, turned ys) := if_pos hT.my
    have hZ : negR s zs = some (s, turned zs) := if_pos hT.mass
    have hmx := turned_mass hT.mx
    have hmy := turned_mass hT.my
    have hC : conjR s (turned xs) s (turned ys) = some (s, turned zs) := by
      show toldR _ _ _ _ _ = _
      rw [told_mk hmx hmy, turned_or hT.lx hT.ly hn16]
      exact makeM_turned hT.make
    have hS : disjR s xs s (sureL n 0) = some (s, xs) := hT.same (by omega) (or_none hT.lx hn16)
    obtain ⟨tx, htx⟩ : ∃ z, z = turned xs := ⟨_, rfl⟩
    obtain ⟨ty, hty⟩ : ∃ z, z = turned ys := ⟨_, rfl⟩
    obtain ⟨tz, htz⟩ : ∃ z, z = turned zs := ⟨_, rfl⟩
    have HLTX : Hid (tx.length = n) := by show _ = _; rw [htx, turned_length, hT.lx]
    have HLTY : Hid (ty.length = n) := by show _ = _; rw [hty, turned_length, hT.ly]
    have HLTZ : Hid (tz.length = n) := by show _ = _; rw [htz, turned_length, hT.lz]
    rw [← htx] at hX hC
    rw [← hty] at hY hC
    rw [← htz] at hZ hC
    have HXX := Lib.hid hX
    have HYY := Lib.hid hY
    have HZZ := Lib.hid hZ
    have HCC := Lib.hid hC
    have HSS := Lib.hid hS
    clear hX hY hZ hmx hmy hC hS htx hty htz
    clear hr1 hT hI hn16
    have HN := Lib.hid (fun W (h : Row W A n xs) (h2 : Row W B n ys) => (iDisjoinMasses_any s s A B n n C D xs ys W h h2 (by omega) (by omega)).mono (fun e w' h => And.intro (RetM.yes HR1.out HLZ.out h.1) h.2))
    have HN2 := Lib.hid (fun W (h : Row W A n xs) (h2 : Row W B n ys) => (sDisjoinMasses_any s s A B n n C D xs ys W h h2 (by omega) (by omega)).mono (fun e w' h => And.intro (RetM.yes HR1.out HLZ.out h.1) h.2))
    obtain ⟨m1, m2⟩ := Mm.at_ (Below.refl _ _)
    obtain ⟨n1, n2⟩ := Mn.at_ (Below.refl _ _)
    go_wp2_with fail
    clear m1 m2
    clear n1 n2
    refine (HN.out _ Mm.2 Mn.2).mono ?_
    rintro e w3 ⟨⟨Ak, Ck, rfl, Rk⟩, b3⟩
    replace Mm := Mm.below b3
    replace Mn := Mn.below b3
    replace BB := BB.trans (b3.mono BB.size)
    go_upto_region 5 with fail
    obtain ⟨w4, hw4⟩ : ∃ W, W = w3.alloc (.cells #[.int .i64 s, .slice Ak n Ck] 25) := ⟨_, rfl⟩
    obtain ⟨Mk, b4⟩ := Mv.new Rk hw4
    rw [← hw4]
    clear hw4
    replace Mm := Mm.below b4
    replace Mn := Mn.below b4
    replace BB := BB.trans (b4.mono BB.size)
    obtain ⟨m1, m2⟩ := Mm.at_ (Below.refl _ _)
    obtain ⟨n1, n2⟩ := Mn.at_ (Below.refl _ _)
    go_wp2_with fail
    clear m1 m2
    clear n1 n2
    refine (HN2.out _ Mm.2 Mn.2).mono ?_
    rintro e w5 ⟨⟨Aq, Cq, rfl, Rq⟩, b5⟩
    replace Mm := Mm.below b5
    replace Mn := Mn.below b5
    replace Mk := Mk.below b5
    replace BB := BB.trans (b5.mono BB.size)
    go_upto_region 6 with fail
    obtain ⟨w6, hw6⟩ : ∃ W, W = w5.alloc (.cells #[.int .i64 s, .slice Aq n Cq] 25) := ⟨_, rfl⟩
    obtain ⟨Mq, b6⟩ := Mv.new Rq hw6
    rw [← hw6]
    clear hw6
    replace Mm := Mm.below b6
    replace Mn := Mn.below b6
    replace Mk := Mk.below b6
    replace BB := BB.trans (b6.mono BB.size)
    have HE := Lib.hid (weEqual_any s s Ak Aq n Ck n Cq zs zs w6 Mk.2 Mq.2 (by omega) (by omega))
    rw [eq_self2] at HE
    obtain ⟨k1, k2⟩ := Mk.at_ (Below.refl _ _)
    obtain ⟨q1, q2⟩ := Mq.at_ (Below.refl _ _)
    go_wp2_with fail
    clear k1 k2
    clear q1 q2
    refine (HE.out).mono ?_
    rintro e w7 ⟨rfl, b7⟩
    replace Mm := Mm.below b7
    replace Mn := Mn.below b7
    replace Mk := Mk.below b7
    replace Mq := Mq.below b7
    replace BB := BB.trans (b7.mono BB.size)
    clear HN HN2 HE Mq Rq
    have Hm := Lib.hid Mm
    have Hn := Lib.hid Mn
    have Hk := Lib.hid Mk
    have HBB := Lib.hid BB
    clear BB Mm Mn Mk
    have HSM := Lib.hid (fun (x : Nat) (hx : x < n) => set_mk HFT.out hx)
    have HIS : Hid (∀ W, Below w7.heap.size w7 W → Below w7.heap.size w7 W ∧ W.cell? ⟨w1.heap.size, 0, none⟩ = some (.int .i64 s) ∧ W.cell? ⟨w1.heap.size, 1, none⟩ = some (.slice A n C) ∧ W.cell? ⟨w1.heap.size + 1, 0, none⟩ = some (.int .i64 s) ∧ W.cell? ⟨w1.heap.size + 1, 1, none⟩ = some (.slice B n D) ∧ W.cell? ⟨w3.heap.size, 0, none⟩ = some (.int .i64 s) ∧ W.cell? ⟨w3.heap.size, 1, none⟩ = some (.slice Ak n Ck)) := fun W h => ⟨h, (Hm.out.at_ h).1, (Hm.out.at_ h).2, (Hn.out.at_ h).1, (Hn.out.at_ h).2, (Hk.out.at_ h).1, (Hk.out.at_ h).2⟩
    have HKS : Hid (∀ W W', Below W.heap.size W W' → (Below w7.heap.size w7 W ∧ W.cell? ⟨w1.heap.size, 0, none⟩ = some (.int .i64 s) ∧ W.cell? ⟨w1.heap.size, 1, none⟩ = some (.slice A n C) ∧ W.cell? ⟨w1.heap.size + 1, 0, none⟩ = some (.int .i64 s) ∧ W.cell? ⟨w1.heap.size + 1, 1, none⟩ = some (.slice B n D) ∧ W.cell? ⟨w3.heap.size, 0, none⟩ = some (.int .i64 s) ∧ W.cell? ⟨w3.heap.size, 1, none⟩ = some (.slice Ak n Ck)) → Below w7.heap.size w7 W' ∧ W'.cell? ⟨w1.heap.size, 0, none⟩ = some (.int .i64 s) ∧ W'.cell? ⟨w1.heap.size, 1, none⟩ = some (.slice A n C) ∧ W'.cell? ⟨w1.heap.size + 1, 0, none⟩ = some (.int .i64 s) ∧ W'.cell? ⟨w1.heap.size + 1, 1, none⟩ = some (.slice B n D) ∧ W'.cell? ⟨w3.heap.size, 0, none⟩ = some (.int .i64 s) ∧ W'.cell? ⟨w3.heap.size, 1, none⟩ = some (.slice Ak n Ck)) := fun W W' b h => HIS.out W' (h.1.trans (b.mono h.1.size))
    obtain ⟨m1, m2⟩ := Hm.out.at_ (Below.refl _ _)
    obtain ⟨k1, k2⟩ := Hk.out.at_ (Below.refl _ _)
    go_wp2_with fail
    clear m1 m2 k1 k2
    go_loopw [9] (fun v wr => ∃ j : Nat, j ≤ n ∧ v = .int .i64 j ∧ Hid (Below w7.heap.size w7 wr)) (fun v _ => n - (intOf v).toNat)
    case atStart => exact ⟨0, Nat.zero_le _, rfl, Lib.hid (Below.refl _ _)⟩
    case round =>
      obtain ⟨j, hj, rfl, HB⟩ := hrel
      obtain ⟨m1, m2⟩ := Hm.out.at_ HB.out
      by_cases hlt : j < n
      · have hfa := HT.out.implied hlt
        have HPk := Lib.hid (fun W (h : Below w7.heap.size w7 W) => iImpliedPart_any s (j : Nat) Ak n Ck zs W (Hk.out.2.below h) hn)
        rw [measure_yes HMZ.out (HSM.out j hlt), Int.toNat_natCast] at HPk
        have HWk := Lib.hid (fun W (h : Below w7.heap.size w7 W) => WholeOf_any s Ak n Ck zs W (Hk.out.2.below h) hn)
        rw [wholeR_yes HMZ.out] at HWk
        have bpk := part_mass (pr := fun i => subB i j) HMZ.out
        have bwk := (massB_is rfl HMZ.out).whole
        obtain ⟨pk, hpk⟩ : ∃ v, v = partOf (fun i => subB i j) zs := ⟨_, rfl⟩
        obtain ⟨wk, hwk⟩ : ∃ v, v = sumL zs := ⟨_, rfl⟩
        rw [← hpk] at HPk bpk hfa
        rw [← hwk] at HWk bwk hfa
        clear hpk hwk
        have HPm := Lib.hid (fun W (h : Below w7.heap.size w7 W) => iImpliedPart_any s (j : Nat) A n C xs W (Hm.out.2.below h) hn)
        rw [measure_yes HMX.out (HSM.out j hlt), Int.toNat_natCast] at HPm
        have HWm := Lib.hid (fun W (h : Below w7.heap.size w7 W) => WholeOf_any s A n C xs W (Hm.out.2.below h) hn)
        rw [wholeR_yes HMX.out] at HWm
        have bpm := part_mass (pr := fun i => subB i j) HMX.out
        have bwm := (massB_is rfl HMX.out).whole
        obtain ⟨pm, hpm⟩ : ∃ v, v = partOf (fun i => subB i j) xs := ⟨_, rfl⟩
        obtain ⟨wm, hwm⟩ : ∃ v, v = sumL xs := ⟨_, rfl⟩
        rw [← hpm] at HPm bpm hfa
        rw [← hwm] at HWm bwm hfa
        clear hpm hwm
        have HPn := Lib.hid (fun W (h : Below w7.heap.size w7 W) => iImpliedPart_any s (j : Nat) B n D ys W (Hn.out.2.below h) hn)
        rw [measure_yes HMY.out (HSM.out j hlt), Int.toNat_natCast] at HPn
        have HWn := Lib.hid (fun W (h : Below w7.heap.size w7 W) => WholeOf_any s B n D ys W (Hn.out.2.below h) hn)
        rw [wholeR_yes HMY.out] at HWn
        have bpn := part_mass (pr := fun i => subB i j) HMY.out
        have bwn := (massB_is rfl HMY.out).whole
        obtain ⟨pn, hpn⟩ : ∃ v, v = partOf (fun i => subB i j) ys := ⟨_, rfl⟩
        obtain ⟨wn, hwn⟩ : ∃ v, v = sumL ys := ⟨_, rfl⟩
        rw [← hpn] at HPn bpn hfa
        rw [← hwn] at HWn bwn hfa
        clear hpn hwn
        have b1 := mul_bound bpk (show 0 ≤ wm ∧ wm ≤ 1000000 by omega)
        obtain ⟨u1, hu1⟩ : ∃ v, v = pk * wm := ⟨_, rfl⟩
        rw [← hu1] at b1 hfa
        have b2 := mul_bound b1 (show 0 ≤ wn ∧ wn ≤ 1000000 by omega)
        obtain ⟨u2, hu2⟩ : ∃ v, v = u1 * wn := ⟨_, rfl⟩
        rw [← hu2] at b2 hfa
        have b3 := mul_bound bpm bpn
        obtain ⟨v1, hv1⟩ : ∃ v, v = pm * pn := ⟨_, rfl⟩
        rw [← hv1] at b3 hfa
        have q1 : IntKind.i64.wrap (pk * wm) = u1 := by rw [← hu1]; exact IntWalk.i64_in _ (by omega)
        have q2 : IntKind.i64.wrap (u1 * wn) = u2 := by rw [← hu2]; exact IntWalk.i64_in _ (by omega)
        have q3 : IntKind.i64.wrap (pm * pn) = v1 := by rw [← hv1]; exact IntWalk.i64_in _ (by omega)
        have q4 : IntKind.i64.wrap (v1 * wk) = u2 := by rw [← hfa]; exact IntWalk.i64_in _ (by omega)
        clear hfa hu1 hu2 hv1 b1 b2 b3 bpk bpm bpn bwk bwm bwn
        go_wp2_with fail
        clear m1 m2
        have HS0 := Lib.hid (HIS.out _ (HB.out.drew))
        go_wp2_with fail
        go_region_held3 (fun W => Below w7.heap.size w7 W ∧ W.cell? ⟨w1.heap.size, 0, none⟩ = some (.int .i64 s) ∧ W.cell? ⟨w1.heap.size, 1, none⟩ = some (.slice A n C) ∧ W.cell? ⟨w1.heap.size + 1, 0, none⟩ = some (.int .i64 s) ∧ W.cell? ⟨w1.heap.size + 1, 1, none⟩ = some (.slice B n D) ∧ W.cell? ⟨w3.heap.size, 0, none⟩ = some (.int .i64 s) ∧ W.cell? ⟨w3.heap.size, 1, none⟩ = some (.slice Ak n Ck))
          (first | exact HS0.out | assumption | exact HKS.out _ _ (by assumption) (by assumption) | go_keep)
          (first | (go_at_call 25; (first | ((with_reducible refine (HPk.out _ (And.left (by assumption))).mono ?_); rintro e w9 ⟨rfl, b9⟩) | ((with_reducible refine (HPm.out _ (And.left (by assumption))).mono ?_); rintro e w9 ⟨rfl, b9⟩) | ((with_reducible refine (HPn.out _ (And.left (by assumption))).mono ?_); rintro e w9 ⟨rfl, b9⟩))) | (go_at_call 20; (first | ((with_reducible refine (HWm.out _ (And.left (by assumption))).mono ?_); rintro e w9 ⟨rfl, b9⟩) | ((with_reducible refine (HWn.out _ (And.left (by assumption))).mono ?_); rintro e w9 ⟨rfl, b9⟩) | ((with_reducible refine (HWk.out _ (And.left (by assumption))).mono ?_); rintro e w9 ⟨rfl, b9⟩))))
        clear HS0
        go_wp2_with fail
        go_roundw
        case rel => exact ⟨j + 1, by omega, by go_num, Lib.hid (And.left (by assumption))⟩
        case measure => simp [intOf]; omega
      · obtain rfl : n = j := by omega
        clear m1 m2 hlt
        have BB := HB.out
        have Mm := Hm.out.below BB
        have Mn := Hn.out.below BB
        have Mk := Hk.out.below BB
        have HCx := Lib.hid ((iNegateMass_any s A n C xs wr Mm.2 (by omega)).mono (fun e w' h => And.intro (RetM.yes HXX.out HLTX.out h.1) h.2))
        obtain ⟨m1, m2⟩ := Mm.at_ (Below.refl _ _)
        go_wp2_with fail
        clear m1 m2
        refine (HCx.out).mono ?_
        rintro e w8 ⟨⟨Ax, Cx, rfl, Rx⟩, b8⟩
        replace Mm := Mm.below b8
        replace Mn := Mn.below b8
        replace Mk := Mk.below b8
        replace BB := BB.trans (b8.mono BB.size)
        go_upto_region 14 with fail
        obtain ⟨w9, hw9⟩ : ∃ W, W = w8.alloc (.cells #[.int .i64 s, .slice Ax n Cx] 25) := ⟨_, rfl⟩
        obtain ⟨Mx, b9⟩ := Mv.new Rx hw9
        rw [← hw9]
        clear hw9
        replace Mm := Mm.below b9
        replace Mn := Mn.below b9
        replace Mk := Mk.below b9
        replace BB := BB.trans (b9.mono BB.size)
        clear HCx
        have HCy := Lib.hid ((iNegateMass_any s B n D ys w9 Mn.2 (by omega)).mono (fun e w' h => And.intro (RetM.yes HYY.out HLTY.out h.1) h.2))
        obtain ⟨n1, n2⟩ := Mn.at_ (Below.refl _ _)
        go_wp2_with fail
        clear n1 n2
        refine (HCy.out).mono ?_
        rintro e w10 ⟨⟨Ay, Cy, rfl, Ry⟩, b10⟩
        replace Mm := Mm.below b10
        replace Mn := Mn.below b10
        replace Mk := Mk.below b10
        replace Mx := Mx.below b10
        replace BB := BB.trans (b10.mono BB.size)
        go_upto_region 15 with fail
        obtain ⟨w11, hw11⟩ : ∃ W, W = w10.alloc (.cells #[.int .i64 s, .slice Ay n Cy] 25) := ⟨_, rfl⟩
        obtain ⟨My, b11⟩ := Mv.new Ry hw11
        rw [← hw11]
        clear hw11
        replace Mm := Mm.below b11
        replace Mn := Mn.below b11
        replace Mk := Mk.below b11
        replace Mx := Mx.below b11
        replace BB := BB.trans (b11.mono BB.size)
        clear HCy
        have HCb := Lib.hid ((iConjoinMasses_any s s Ax Ay n n Cx Cy tx ty w11 Mx.2 My.2 (by omega) (by omega)).mono (fun e w' h => And.intro (RetM.yes HCC.out HLTZ.out h.1) h.2))
        obtain ⟨x1, x2⟩ := Mx.at_ (Below.refl _ _)
        obtain ⟨y1, y2⟩ := My.at_ (Below.refl _ _)
        go_wp2_with fail
        clear x1 x2
        clear y1 y2
        refine (HCb.out).mono ?_
        rintro e w12 ⟨⟨Ab, Cb, rfl, Rb⟩, b12⟩
        replace Mm := Mm.below b12
        replace Mn := Mn.below b12
        replace Mk := Mk.below b12
        replace Mx := Mx.below b12
        replace My := My.below b12
        replace BB := BB.trans (b12.mono BB.size)
        go_upto_region 16 with fail
        obtain ⟨w13, hw13⟩ : ∃ W, W = w12.alloc (.cells #[.int .i64 s, .slice Ab n Cb] 25) := ⟨_, rfl⟩
        obtain ⟨Mb, b13⟩ := Mv.new Rb hw13
        rw [← hw13]
        clear hw13
        replace Mm := Mm.below b13
        replace Mn := Mn.below b13
        replace Mk := Mk.below b13
        replace Mx := Mx.below b13
        replace My := My.below b13
        replace BB := BB.trans (b13.mono BB.size)
        clear HCb
        have HCo := Lib.hid ((iNegateMass_any s Ak n Ck zs w13 Mk.2 (by omega)).mono (fun e w' h => And.intro (RetM.yes HZZ.out HLTZ.out h.1) h.2))
        obtain ⟨k1, k2⟩ := Mk.at_ (Below.refl _ _)
        go_wp2_with fail
        clear k1 k2
        refine (HCo.out).mono ?_
        rintro e w14 ⟨⟨Ao, Co, rfl, Ro⟩, b14⟩
        replace Mm := Mm.below b14
        replace Mn := Mn.below b14
        replace Mk := Mk.below b14
        replace Mx := Mx.below b14
        replace My := My.below b14
        replace Mb := Mb.below b14
        replace BB := BB.trans (b14.mono BB.size)
        go_upto_region 17 with fail
        obtain ⟨w15, hw15⟩ : ∃ W, W = w14.alloc (.cells #[.int .i64 s, .slice Ao n Co] 25) := ⟨_, rfl⟩
        obtain ⟨Mo, b15⟩ := Mv.new Ro hw15
        rw [← hw15]
        clear hw15
        replace Mm := Mm.below b15
        replace Mn := Mn.below b15
        replace Mk := Mk.below b15
        replace Mx := Mx.below b15
        replace My := My.below b15
        replace Mb := Mb.below b15
        replace BB := BB.trans (b15.mono BB.size)
        clear HCo
        have HCz := Lib.hid (SureMass_any s 0 n w15 HSZ.out HFT.out (by omega))
        obtain ⟨m1, m2⟩ := Mm.at_ (Below.refl _ _)
        go_wp2_with fail
        clear m1 m2
        refine (HCz.out).mono ?_
        rintro e w16 ⟨⟨Az, Cz, rfl, Rz⟩, b16⟩
        replace Mm := Mm.below b16
        replace Mn := Mn.below b16
        replace Mk := Mk.below b16
        replace Mx := Mx.below b16
        replace My := My.below b16
        replace Mb := Mb.below b16
        replace Mo := Mo.below b16
        replace BB := BB.trans (b16.mono BB.size)
        go_upto_region 18 with fail
        obtain ⟨w17, hw17⟩ : ∃ W, W = w16.alloc (.cells #[.int .i64 s, .slice Az n Cz] 25) := ⟨_, rfl⟩
        obtain ⟨Mz, b17⟩ := Mv.new Rz hw17
        rw [← hw17]
        clear hw17
        replace Mm := Mm.below b17
        replace Mn := Mn.below b17
        replace Mk := Mk.below b17
        replace Mx := Mx.below b17
        replace My := My.below b17
        replace Mb := Mb.below b17
        replace Mo := Mo.below b17
        replace BB := BB.trans (b17.mono BB.size)
        clear HCz
        have HCp := Lib.hid ((iDisjoinMasses_any s s A Az n n C Cz xs (sureL n 0) w17 Mm.2 Mz.2 (by omega) (by omega)).mono (fun e w' h => And.intro (RetM.yes HSS.out HLX.out h.1) h.2))
        obtain ⟨m1, m2⟩ := Mm.at_ (Below.refl _ _)
        obtain ⟨z1, z2⟩ := Mz.at_ (Below.refl _ _)
        go_wp2_with fail
        clear m1 m2
        clear z1 z2
        refine (HCp.out).mono ?_
        rintro e w18 ⟨⟨Ap, Cp, rfl, Rp⟩, b18⟩
        replace Mm := Mm.below b18
        replace Mn := Mn.below b18
        replace Mk := Mk.below b18
        replace Mx := Mx.below b18
        replace My := My.below b18
        replace Mb := Mb.below b18
        replace Mo := Mo.below b18
        replace Mz := Mz.below b18
        replace BB := BB.trans (b18.mono BB.size)
        go_upto_region 19 with fail
        obtain ⟨w19, hw19⟩ : ∃ W, W = w18.alloc (.cells #[.int .i64 s, .slice Ap n Cp] 25) := ⟨_, rfl⟩
        obtain ⟨Mp, b19⟩ := Mv.new Rp hw19
        rw [← hw19]
        clear hw19
        replace Mm := Mm.below b19
        replace Mn := Mn.below b19
        replace Mk := Mk.below b19
        replace Mx := Mx.below b19
        replace My := My.below b19
        replace Mb := Mb.below b19
        replace Mo := Mo.below b19
        replace Mz := Mz.below b19
        replace BB := BB.trans (b19.mono BB.size)
        clear HCp
        have HQbo := Lib.hid (weEqual_any s s Ab Ao n Cb n Co tz tz w19 Mb.2 Mo.2 (by omega) (by omega))
        rw [eq_self2] at HQbo
        obtain ⟨b1, b2⟩ := Mb.at_ (Below.refl _ _)
        obtain ⟨o1, o2⟩ := Mo.at_ (Below.refl _ _)
        go_wp2_with fail
        clear b1 b2
        clear o1 o2
        refine (HQbo.out).mono ?_
        rintro e w20 ⟨rfl, b20⟩
        replace Mm := Mm.below b20
        replace Mn := Mn.below b20
        replace Mk := Mk.below b20
        replace Mx := Mx.below b20
        replace My := My.below b20
        replace Mb := Mb.below b20
        replace Mo := Mo.below b20
        replace Mz := Mz.below b20
        replace Mp := Mp.below b20
        replace BB := BB.trans (b20.mono BB.size)
        clear HQbo
        have HQpm := Lib.hid (weEqual_any s s Ap A n Cp n C xs xs w20 Mp.2 Mm.2 (by omega) (by omega))
        rw [eq_self2] at HQpm
        obtain ⟨p1, p2⟩ := Mp.at_ (Below.refl _ _)
        obtain ⟨m1, m2⟩ := Mm.at_ (Below.refl _ _)
        go_wp2_with fail
        clear p1 p2
        clear m1 m2
        refine (HQpm.out).mono ?_
        rintro e w21 ⟨rfl, b21⟩
        replace Mm := Mm.below b21
        replace Mn := Mn.below b21
        replace Mk := Mk.below b21
        replace Mx := Mx.below b21
        replace My := My.below b21
        replace Mb := Mb.below b21
        replace Mo := Mo.below b21
        replace Mz := Mz.below b21
        replace Mp := Mp.below b21
        replace BB := BB.trans (b21.mono BB.size)
        clear HQpm
        go_wp2_with fail
        go_ret
        exact ⟨rfl, HBB.out.trans (BB.mono HBB.out.size)⟩
end Go.Proofs.Ytffkpmmgfgcngaa
