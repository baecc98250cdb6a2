/- The walk of the law FnNormalMass. -/
import Derived.Test.YtapkppnjgbcklaaBase7
import Derived.Test.YtapkppnjgbcklaaLaw9
import Derived.Test.YtapkppnjgbcklaaW15
import Derived.Deep.RegionHeld3
import Derived.Deep.QuietTactic
import Derived.BigQuiet
namespace Go.Proofs.Ytapkppnjgbcklaa
open Go.RowKit

set_option maxHeartbeats 6400000 in
set_option maxRecDepth 100000 in
theorem walkNormalMass (a : Option Addr) (l c : Nat) (bs : List Int) (w : World) (hr : BRow w a l bs) (hlc : l ≤ c) :
    Calls Try.prog 9 #[.slice a l c] w fun e w' => e = .returned (.bool true) ∧ Below w.heap.size w w' := by
  by_cases hl : 1048576 < (l : Int)
  · clear hr
    go_enter Try.func9, Try.ntmps9
    go_wp2_with fail
    go_ret
    exact ⟨rfl, Below.refl _ _⟩
  have HD := Lib.hid (DrawNormalMass_any a l c bs w hr (.inl hlc))
  clear hr
  go_enter Try.func9, Try.ntmps9
  go_wp2_with fail
  refine HD.out.mono ?_
  rintro e w1 ⟨s, A, n, C, xs, rfl, hn17, Rm, b1⟩
  have BB := b1
  have hn : n ≤ 1048576 := by omega
  go_upto_region 4 with fail
  obtain ⟨w2, hw2⟩ : ∃ W, W = w1.alloc (.cells #[.int .i64 s, .slice A n C] 30) := ⟨_, rfl⟩
  obtain ⟨Mm, b2⟩ := Mv.new Rm hw2
  rw [← hw2]
  clear hw2
  replace BB := BB.trans (b2.mono BB.size)
  by_cases hm : massB s xs = true
  · have hI := massB_is Rm.1 hm
    cases hr1 : normalR s xs with
    | none =>
      have hz := normal_none hm hr1
      have hn0 : 0 < n := by have := hI.nums; omega
      have HR1 := Lib.hid hr1
      obtain ⟨b, off, rfl⟩ := Rm.form hn0
      obtain ⟨v, hv⟩ : ∃ v, v = sumL xs := ⟨_, rfl⟩
      have HVZ : Hid (xs.getD 0 0 = v) := by show _ = _; rw [hz, hv]
      have HVW : Hid (wholeR s xs = v) := by show _ = _; rw [wholeR_yes hm, hv]
      have HM1 := Lib.hid hm
      clear hr1 hz hv hI hm
      have HN := Lib.hid (fun W (h : Row W (some ⟨b, off, none⟩) n xs) => (iNormalMass_any s (some ⟨b, off, none⟩) n C xs W h hn).mono (fun e w' h => And.intro (RetM.no HR1.out h.1) h.2))
      have HN2 := Lib.hid (fun W (h : Row W (some ⟨b, off, none⟩) n xs) => (sNormalMass_any s (some ⟨b, off, none⟩) n C xs W h hn).mono (fun e w' h => And.intro (RetM.no HR1.out h.1) h.2))
      obtain ⟨m1, m2⟩ := Mm.at_ (Below.refl _ _)
      go_wp2_with fail
      clear m1 m2
      refine (HN.out _ Mm.2).mono ?_
      rintro e w3 ⟨⟨Ak, Ck, rfl, Rk⟩, b3⟩
      replace Mm := Mm.below b3
      replace BB := BB.trans (b3.mono BB.size)
      go_upto_region 5 with fail
      obtain ⟨w4, hw4⟩ : ∃ W, W = w3.alloc (.cells #[.int .i64 0, .slice Ak 0 Ck] 30) := ⟨_, rfl⟩
      obtain ⟨Mk, b4⟩ := Mv.new Rk hw4
      rw [← hw4]
      clear hw4
      replace Mm := Mm.below b4
      replace BB := BB.trans (b4.mono BB.size)
      obtain ⟨m1, m2⟩ := Mm.at_ (Below.refl _ _)
      go_wp2_with fail
      clear m1 m2
      refine (HN2.out _ Mm.2).mono ?_
      rintro e w5 ⟨⟨Aq, Cq, rfl, Rq⟩, b5⟩
      replace Mm := Mm.below b5
      replace Mk := Mk.below b5
      replace BB := BB.trans (b5.mono BB.size)
      go_upto_region 6 with fail
      obtain ⟨w6, hw6⟩ : ∃ W, W = w5.alloc (.cells #[.int .i64 0, .slice Aq 0 Cq] 30) := ⟨_, rfl⟩
      obtain ⟨Mq, b6⟩ := Mv.new Rq hw6
      rw [← hw6]
      clear hw6
      replace Mm := Mm.below b6
      replace Mk := Mk.below b6
      replace BB := BB.trans (b6.mono BB.size)
      have HE := Lib.hid (weEqual_any 0 0 Ak Aq 0 Ck 0 Cq [] [] w6 Mk.2 Mq.2 (by omega) (by omega))
      rw [eq_self2] at HE
      obtain ⟨k1, k2⟩ := Mk.at_ (Below.refl _ _)
      obtain ⟨q1, q2⟩ := Mq.at_ (Below.refl _ _)
      go_wp2_with fail
      clear k1 k2
      clear q1 q2
      refine (HE.out).mono ?_
      rintro e w7 ⟨rfl, b7⟩
      replace Mm := Mm.below b7
      replace Mk := Mk.below b7
      replace Mq := Mq.below b7
      replace BB := BB.trans (b7.mono BB.size)
      have Hm := Lib.hid Mm
      have Hk := Lib.hid Mk
      have Hq := Lib.hid Mq
      have HBB := Lib.hid BB
      clear BB Mm Mk Mq
      have HIS : Hid (∀ W, Below w7.heap.size w7 W → Below w7.heap.size w7 W ∧ W.cell? ⟨w1.heap.size, 0, none⟩ = some (.int .i64 s) ∧ W.cell? ⟨w1.heap.size, 1, none⟩ = some (.slice (some ⟨b, off, none⟩) n C) ∧ W.cell? ⟨w3.heap.size, 0, none⟩ = some (.int .i64 0) ∧ W.cell? ⟨w3.heap.size, 1, none⟩ = some (.slice Ak 0 Ck) ∧ W.cell? ⟨w5.heap.size, 0, none⟩ = some (.int .i64 0) ∧ W.cell? ⟨w5.heap.size, 1, none⟩ = some (.slice Aq 0 Cq) ∧ W.cell? ⟨b, off, none⟩ = some (.int .i64 v)) := fun W h => ⟨h, (Hm.out.at_ h).1, (Hm.out.at_ h).2, (Hk.out.at_ h).1, (Hk.out.at_ h).2, (Hq.out.at_ h).1, (Hq.out.at_ h).2, (by have := (Hm.out.2.cellAt h hn0); rw [HVZ.out, Nat.add_zero] at this; exact this)⟩
      have HKS : Hid (∀ W W', Below W.heap.size W W' → (Below w7.heap.size w7 W ∧ W.cell? ⟨w1.heap.size, 0, none⟩ = some (.int .i64 s) ∧ W.cell? ⟨w1.heap.size, 1, none⟩ = some (.slice (some ⟨b, off, none⟩) n C) ∧ W.cell? ⟨w3.heap.size, 0, none⟩ = some (.int .i64 0) ∧ W.cell? ⟨w3.heap.size, 1, none⟩ = some (.slice Ak 0 Ck) ∧ W.cell? ⟨w5.heap.size, 0, none⟩ = some (.int .i64 0) ∧ W.cell? ⟨w5.heap.size, 1, none⟩ = some (.slice Aq 0 Cq) ∧ W.cell? ⟨b, off, none⟩ = some (.int .i64 v)) → Below w7.heap.size w7 W' ∧ W'.cell? ⟨w1.heap.size, 0, none⟩ = some (.int .i64 s) ∧ W'.cell? ⟨w1.heap.size, 1, none⟩ = some (.slice (some ⟨b, off, none⟩) n C) ∧ W'.cell? ⟨w3.heap.size, 0, none⟩ = some (.int .i64 0) ∧ W'.cell? ⟨w3.heap.size, 1, none⟩ = some (.slice Ak 0 Ck) ∧ W'.cell? ⟨w5.heap.size, 0, none⟩ = some (.int .i64 0) ∧ W'.cell? ⟨w5.heap.size, 1, none⟩ = some (.slice Aq 0 Cq) ∧ W'.cell? ⟨b, off, none⟩ = some (.int .i64 v)) := fun W W' b h => HIS.out W' (h.1.trans (b.mono h.1.size))
      have HE1 := Lib.hid (fun W (h : Below w7.heap.size w7 W) => weEqual_any 0 0 Ak Aq 0 Ck 0 Cq [] [] W (Hk.out.2.below h) (Hq.out.2.below h) (by omega) (by omega))
      rw [eq_self2] at HE1
      have HV1 := Lib.hid (fun W (h : Below w7.heap.size w7 W) => iMassValid_any s _ n C xs W (Hm.out.2.below h) hn)
      rw [HM1.out] at HV1
      have HW1 := Lib.hid (fun W (h : Below w7.heap.size w7 W) => WholeOf_any s _ n C xs W (Hm.out.2.below h) hn)
      rw [HVW.out] at HW1
      have hni : (0 : Int) < (n : Int) := by omega
      have HS0 := Lib.hid (HIS.out _ ((Below.refl _ _).drew))
      go_wp2_with fail
      go_region_held3 (fun W => Below w7.heap.size w7 W ∧ W.cell? ⟨w1.heap.size, 0, none⟩ = some (.int .i64 s) ∧ W.cell? ⟨w1.heap.size, 1, none⟩ = some (.slice (some ⟨b, off, none⟩) n C) ∧ W.cell? ⟨w3.heap.size, 0, none⟩ = some (.int .i64 0) ∧ W.cell? ⟨w3.heap.size, 1, none⟩ = some (.slice Ak 0 Ck) ∧ W.cell? ⟨w5.heap.size, 0, none⟩ = some (.int .i64 0) ∧ W.cell? ⟨w5.heap.size, 1, none⟩ = some (.slice Aq 0 Cq) ∧ W.cell? ⟨b, off, none⟩ = some (.int .i64 v))
        (first | exact HS0.out | assumption | exact HKS.out _ _ (by assumption) (by assumption) | go_keep)
        (first | (go_at_call 43; (first | ((with_reducible refine (HE1.out _ (And.left (by assumption))).mono ?_); rintro e w9 ⟨rfl, b9⟩))) | (go_at_call 44; (first | ((with_reducible refine (HV1.out _ (And.left (by assumption))).mono ?_); rintro e w9 ⟨rfl, b9⟩))) | (go_at_call 39; (first | ((with_reducible refine (HW1.out _ (And.left (by assumption))).mono ?_); rintro e w9 ⟨rfl, b9⟩))))
      clear HS0
      go_wp2_with fail
      go_ret
      exact ⟨by simp, HBB.out.trans (Below.mono (And.left (by assumption)) HBB.out.size)⟩
    | some p =>
      obtain ⟨t, ys⟩ := p
      obtain ⟨ht, hN⟩ := normal_some Rm.1 hm hr1
      have HR1 := Lib.hid hr1
      have HN0 := Lib.hid hN
      have HI := Lib.hid hI
      have HM1 := Lib.hid hm
      have hl0 := focal_first hN.len hN.mass
      have hfa := focL_at hl0
      obtain ⟨f, hf⟩ : ∃ f, f = (focL ys n).getD 0 0 := ⟨_, rfl⟩
      rw [← hf] at hfa
      obtain ⟨fl, hfl⟩ : ∃ fl, fl = (focL ys n).length := ⟨_, rfl⟩
      have HFL := Lib.hid hfl
      have HF := Lib.hid hf
      have HFA := Lib.hid hfa
      have hfn : f < n := hfa.1
      rw [← hfl] at hl0
      have HL := Lib.hid hN.len
      have hn0 : 0 < n := by have := hI.nums; omega
      clear hr1 hN hI hm hf hfa hfl
      subst ht
      have HN := Lib.hid (fun W (h : Row W A n xs) => (iNormalMass_any t A n C xs W h hn).mono (fun e w' h => And.intro (RetM.yes HR1.out HL.out h.1) h.2))
      have HN2 := Lib.hid (fun W (h : Row W A n xs) => (sNormalMass_any t A n C xs W h hn).mono (fun e w' h => And.intro (RetM.yes HR1.out HL.out h.1) h.2))
      obtain ⟨m1, m2⟩ := Mm.at_ (Below.refl _ _)
      go_wp2_with fail
      clear m1 m2
      refine (HN.out _ Mm.2).mono ?_
      rintro e w3 ⟨⟨Ak, Ck, rfl, Rk⟩, b3⟩
      replace Mm := Mm.below b3
      replace BB := BB.trans (b3.mono BB.size)
      go_upto_region 5 with fail
      obtain ⟨w4, hw4⟩ : ∃ W, W = w3.alloc (.cells #[.int .i64 t, .slice Ak n Ck] 30) := ⟨_, rfl⟩
      obtain ⟨Mk, b4⟩ := Mv.new Rk hw4
      rw [← hw4]
      clear hw4
      replace Mm := Mm.below b4
      replace BB := BB.trans (b4.mono BB.size)
      obtain ⟨m1, m2⟩ := Mm.at_ (Below.refl _ _)
      go_wp2_with fail
      clear m1 m2
      refine (HN2.out _ Mm.2).mono ?_
      rintro e w5 ⟨⟨Aq, Cq, rfl, Rq⟩, b5⟩
      replace Mm := Mm.below b5
      replace Mk := Mk.below b5
      replace BB := BB.trans (b5.mono BB.size)
      go_upto_region 6 with fail
      obtain ⟨w6, hw6⟩ : ∃ W, W = w5.alloc (.cells #[.int .i64 t, .slice Aq n Cq] 30) := ⟨_, rfl⟩
      obtain ⟨Mq, b6⟩ := Mv.new Rq hw6
      rw [← hw6]
      clear hw6
      replace Mm := Mm.below b6
      replace Mk := Mk.below b6
      replace BB := BB.trans (b6.mono BB.size)
      have HE := Lib.hid (weEqual_any t t Ak Aq n Ck n Cq ys ys w6 Mk.2 Mq.2 (by omega) (by omega))
      rw [eq_self2] at HE
      obtain ⟨k1, k2⟩ := Mk.at_ (Below.refl _ _)
      obtain ⟨q1, q2⟩ := Mq.at_ (Below.refl _ _)
      go_wp2_with fail
      clear k1 k2
      clear q1 q2
      refine (HE.out).mono ?_
      rintro e w7 ⟨rfl, b7⟩
      replace Mm := Mm.below b7
      replace Mk := Mk.below b7
      replace Mq := Mq.below b7
      replace BB := BB.trans (b7.mono BB.size)
      have HFO := Lib.hid (FocalSets_any t Ak n Ck ys w7 Mk.2 HN0.out.mass)
      obtain ⟨k1, k2⟩ := Mk.at_ (Below.refl _ _)
      go_wp2_with fail
      clear k1 k2
      refine (HFO.out).mono ?_
      rintro e w8 ⟨Af, lf, Cf, rfl, hlf, Of, b8⟩
      replace Mm := Mm.below b8
      replace Mk := Mk.below b8
      replace Mq := Mq.below b8
      replace BB := BB.trans (b8.mono BB.size)
      rw [← HFL.out] at hlf
      subst hlf
      obtain ⟨fb, fo, x0, rfl, hx0, hc0⟩ := Of.row.at_ hl0
      rw [ints_getD, ← HF.out] at hx0
      subst hx0
      rw [Nat.add_zero] at hc0
      have hl0i : (0 : Int) < (lf : Int) := by omega
      go_upto_region 9 with fail
      clear hc0 Of
      have Hm := Lib.hid Mm
      have Hk := Lib.hid Mk
      have HBB := Lib.hid BB
      clear BB Mm Mk
      obtain ⟨m1, m2⟩ := Hm.out.at_ (Below.refl _ _)
      go_wp2_with fail
      clear m1 m2
      go_loopw [9] (fun i wr => ∃ j : Nat, 1 ≤ j ∧ j ≤ n ∧ i = .int .i64 j ∧ Hid (Below w8.heap.size w8 wr)) (fun i _ => n - (intOf i).toNat)
      case atStart => exact ⟨1, Nat.le_refl _, hn0, rfl, Lib.hid (Below.refl _ _)⟩
      case round =>
        obtain ⟨j, hj1, hj, rfl, HB⟩ := hrel
        obtain ⟨m1, m2⟩ := Hm.out.at_ HB.out
        by_cases hlt : j < n
        · obtain ⟨mb, mo, rfl⟩ := Hm.out.2.form hn0
          obtain ⟨kb, ko, rfl⟩ := Hk.out.2.form hn0
          obtain ⟨k1, k2⟩ := Hk.out.at_ HB.out
          have hp := HN0.out.prop j f hj1 hlt hfn HFA.out.2
          have c1 := Hm.out.2.cellAt HB.out hlt
          have c2 := Hm.out.2.cellAt HB.out hfn
          have c3 := Hk.out.2.cellAt HB.out hlt
          have c4 := Hk.out.2.cellAt HB.out hfn
          have g1 := HI.out.part j hlt
          have g4 := (massB_is HL.out HN0.out.mass).part f hfn
          obtain ⟨x, hx⟩ : ∃ x, x = xs.getD j 0 := ⟨_, rfl⟩
          obtain ⟨x', hx'⟩ : ∃ x, x = xs.getD f 0 := ⟨_, rfl⟩
          obtain ⟨y, hy⟩ : ∃ x, x = ys.getD j 0 := ⟨_, rfl⟩
          obtain ⟨y', hy'⟩ : ∃ x, x = ys.getD f 0 := ⟨_, rfl⟩
          rw [← hx] at hp c1 g1
          rw [← hx'] at hp c2
          rw [← hy] at hp c3
          rw [← hy'] at hp c4 g4
          clear hx hx' hy hy'
          have hub := mul_bound g1 g4
          obtain ⟨u, hu⟩ : ∃ u, u = x * y' := ⟨_, rfl⟩
          rw [← hu] at hub hp
          have e1 : IntKind.i64.wrap (x * y') = u := by rw [← hu]; exact IntWalk.i64_in _ (by omega)
          have e2 : IntKind.i64.wrap (y * x') = u := by rw [← hp]; exact IntWalk.i64_in _ (by omega)
          have e3 : wrap64 (x * y') = u := by rw [← hu]; exact IntWalk.wrap64_in _ (by omega)
          have e4 : wrap64 (y * x') = u := by rw [← hp]; exact IntWalk.wrap64_in _ (by omega)
          have hji : (j : Int) < (n : Int) := by omega
          have hfi : (f : Int) < (n : Int) := by omega
          clear hp hu g1 g4 hub
          go_wp2_with fail
          go_quiet (fail)
          go_wp2_with fail
          go_roundw
          case rel => exact ⟨j + 1, by omega, by omega, by go_num, Lib.hid (below_drewN HB.out _)⟩
          case measure => simp [intOf]; omega
        · obtain rfl : n = j := by omega
          have HAG := Lib.hid (HN0.out.again)
          have HSA := Lib.hid (HN0.out.same)
          have HMK := Lib.hid (HN0.out.mass)
          have HZ0 := Lib.hid (HN0.out.zero)
          have HN3 := Lib.hid (fun W (h : Below w8.heap.size w8 W) => (iNormalMass_any t Ak n Ck ys W (Hk.out.2.below h) hn).mono (fun e w' h => And.intro (RetM.yes HAG.out HL.out h.1) h.2))
          have BB := HB.out
          have Mm := Hm.out.below BB
          have Mk := Hk.out.below BB
          clear hlt m1 m2
          obtain ⟨m1, m2⟩ := Mm.at_ (Below.refl _ _)
          obtain ⟨k1, k2⟩ := Mk.at_ (Below.refl _ _)
          go_wp2_with fail
          clear m1 m2
          clear k1 k2
          refine (HN3.out _ BB).mono ?_
          rintro e w9 ⟨⟨Ar, Cr, rfl, Rr⟩, b9⟩
          replace Mm := Mm.below b9
          replace Mk := Mk.below b9
          replace BB := BB.trans (b9.mono BB.size)
          go_upto_region 15 with fail
          obtain ⟨w10, hw10⟩ : ∃ W, W = w9.alloc (.cells #[.int .i64 t, .slice Ar n Cr] 30) := ⟨_, rfl⟩
          obtain ⟨Mr, b10⟩ := Mv.new Rr hw10
          rw [← hw10]
          clear hw10
          replace Mm := Mm.below b10
          replace Mk := Mk.below b10
          replace BB := BB.trans (b10.mono BB.size)
          have HB2 := Lib.hid BB
          replace Hm := Lib.hid Mm
          replace Hk := Lib.hid Mk
          have Hr := Lib.hid Mr
          clear BB Mm Mk Mr
          have HIS : Hid (∀ W, Below w10.heap.size w10 W → Below w10.heap.size w10 W ∧ W.cell? ⟨w1.heap.size, 0, none⟩ = some (.int .i64 t) ∧ W.cell? ⟨w1.heap.size, 1, none⟩ = some (.slice A n C) ∧ W.cell? ⟨w3.heap.size, 0, none⟩ = some (.int .i64 t) ∧ W.cell? ⟨w3.heap.size, 1, none⟩ = some (.slice Ak n Ck) ∧ W.cell? ⟨w9.heap.size, 0, none⟩ = some (.int .i64 t) ∧ W.cell? ⟨w9.heap.size, 1, none⟩ = some (.slice Ar n Cr)) := fun W h => ⟨h, (Hm.out.at_ h).1, (Hm.out.at_ h).2, (Hk.out.at_ h).1, (Hk.out.at_ h).2, (Hr.out.at_ h).1, (Hr.out.at_ h).2⟩
          have HKS : Hid (∀ W W', Below W.heap.size W W' → (Below w10.heap.size w10 W ∧ W.cell? ⟨w1.heap.size, 0, none⟩ = some (.int .i64 t) ∧ W.cell? ⟨w1.heap.size, 1, none⟩ = some (.slice A n C) ∧ W.cell? ⟨w3.heap.size, 0, none⟩ = some (.int .i64 t) ∧ W.cell? ⟨w3.heap.size, 1, none⟩ = some (.slice Ak n Ck) ∧ W.cell? ⟨w9.heap.size, 0, none⟩ = some (.int .i64 t) ∧ W.cell? ⟨w9.heap.size, 1, none⟩ = some (.slice Ar n Cr)) → Below w10.heap.size w10 W' ∧ W'.cell? ⟨w1.heap.size, 0, none⟩ = some (.int .i64 t) ∧ W'.cell? ⟨w1.heap.size, 1, none⟩ = some (.slice A n C) ∧ W'.cell? ⟨w3.heap.size, 0, none⟩ = some (.int .i64 t) ∧ W'.cell? ⟨w3.heap.size, 1, none⟩ = some (.slice Ak n Ck) ∧ W'.cell? ⟨w9.heap.size, 0, none⟩ = some (.int .i64 t) ∧ W'.cell? ⟨w9.heap.size, 1, none⟩ = some (.slice Ar n Cr)) := fun W W' b h => HIS.out W' (h.1.trans (b.mono h.1.size))
          have HO1 := Lib.hid (fun W (h : Below w10.heap.size w10 W) => IsNormal_any t Ak n Ck ys W (Hk.out.2.below h) hn)
          have HO2 := Lib.hid (fun W (h : Below w10.heap.size w10 W) => IsNormal_any t A n C xs W (Hm.out.2.below h) hn)
          rw [show normB t ys = true by unfold normB; rw [HMK.out, HZ0.out]; rfl] at HO1
          have HE1 := Lib.hid (fun W (h : Below w10.heap.size w10 W) => weEqual_any t t Ar Ak n Cr n Ck ys ys W (Hr.out.2.below h) (Hk.out.2.below h) hn hn)
          rw [eq_self2] at HE1
          have HE2 := Lib.hid (fun W (h : Below w10.heap.size w10 W) => weEqual_any t t Ak A n Ck n C ys xs W (Hk.out.2.below h) (Hm.out.2.below h) hn hn)
          rw [HSA.out] at HE2
          obtain ⟨p, hp⟩ : ∃ p, p = normB t xs := ⟨_, rfl⟩
          rw [← hp] at HE2 HO2
          clear hp
          have HS0 := Lib.hid (HIS.out _ ((Below.refl _ _).drew))
          go_wp2_with fail
          go_region_held3 (fun W => Below w10.heap.size w10 W ∧ W.cell? ⟨w1.heap.size, 0, none⟩ = some (.int .i64 t) ∧ W.cell? ⟨w1.heap.size, 1, none⟩ = some (.slice A n C) ∧ W.cell? ⟨w3.heap.size, 0, none⟩ = some (.int .i64 t) ∧ W.cell? ⟨w3.heap.size, 1, none⟩ = some (.slice Ak n Ck) ∧ W.cell? ⟨w9.heap.size, 0, none⟩ = some (.int .i64 t) ∧ W.cell? ⟨w9.heap.size, 1, none⟩ = some (.slice Ar n Cr))
            (first | exact HS0.out | assumption | exact HKS.out _ _ (by assumption) (by assumption) | go_keep)
            (first | (go_at_call 43; (first | ((with_reducible refine (HE1.out _ (And.left (by assumption))).mono ?_); rintro e w9 ⟨rfl, b9⟩) | ((with_reducible refine (HE2.out _ (And.left (by assumption))).mono ?_); rintro e w9 ⟨rfl, b9⟩))) | (go_at_call 46; (first | ((with_reducible refine (HO1.out _ (And.left (by assumption))).mono ?_); rintro e w9 ⟨rfl, b9⟩) | ((with_reducible refine (HO2.out _ (And.left (by assumption))).mono ?_); rintro e w9 ⟨rfl, b9⟩))))
          clear HS0
          go_wp2_with fail
          go_ret
          exact ⟨by simp, HBB.out.trans ((HB2.out.trans (Below.mono (And.left (by assumption)) HB2.out.size)).mono HBB.out.size)⟩
  · have hm' : massB s xs = false := by simpa using hm
    have HR1 : Hid (normalR s xs = none) := if_neg hm
    have HM1 := Lib.hid hm'
    clear hm hm'
    have HN := Lib.hid (fun W (h : Row W A n xs) => (iNormalMass_any s A n C xs W h hn).mono (fun e w' h => And.intro (RetM.no HR1.out h.1) h.2))
    have HN2 := Lib.hid (fun W (h : Row W A n xs) => (sNormalMass_any s A n C xs W h hn).mono (fun e w' h => And.intro (RetM.no HR1.out h.1) h.2))
    obtain ⟨m1, m2⟩ := Mm.at_ (Below.refl _ _)
    go_wp2_with fail
    clear m1 m2
    refine (HN.out _ Mm.2).mono ?_
    rintro e w3 ⟨⟨Ak, Ck, rfl, Rk⟩, b3⟩
    replace Mm := Mm.below b3
    replace BB := BB.trans (b3.mono BB.size)
    go_upto_region 5 with fail
    obtain ⟨w4, hw4⟩ : ∃ W, W = w3.alloc (.cells #[.int .i64 0, .slice Ak 0 Ck] 30) := ⟨_, rfl⟩
    obtain ⟨Mk, b4⟩ := Mv.new Rk hw4
    rw [← hw4]
    clear hw4
    replace Mm := Mm.below b4
    replace BB := BB.trans (b4.mono BB.size)
    obtain ⟨m1, m2⟩ := Mm.at_ (Below.refl _ _)
    go_wp2_with fail
    clear m1 m2
    refine (HN2.out _ Mm.2).mono ?_
    rintro e w5 ⟨⟨Aq, Cq, rfl, Rq⟩, b5⟩
    replace Mm := Mm.below b5
    replace Mk := Mk.below b5
    replace BB := BB.trans (b5.mono BB.size)
    go_upto_region 6 with fail
    obtain ⟨w6, hw6⟩ : ∃ W, W = w5.alloc (.cells #[.int .i64 0, .slice Aq 0 Cq] 30) := ⟨_, rfl⟩
    obtain ⟨Mq, b6⟩ := Mv.new Rq hw6
    rw [← hw6]
    clear hw6
    replace Mm := Mm.below b6
    replace Mk := Mk.below b6
    replace BB := BB.trans (b6.mono BB.size)
    have HE := Lib.hid (weEqual_any 0 0 Ak Aq 0 Ck 0 Cq [] [] w6 Mk.2 Mq.2 (by omega) (by omega))
    rw [eq_self2] at HE
    obtain ⟨k1, k2⟩ := Mk.at_ (Below.refl _ _)
    obtain ⟨q1, q2⟩ := Mq.at_ (Below.refl _ _)
    go_wp2_with fail
    clear k1 k2
    clear q1 q2
    refine (HE.out).mono ?_
    rintro e w7 ⟨rfl, b7⟩
    replace Mm := Mm.below b7
    replace Mk := Mk.below b7
    replace Mq := Mq.below b7
    replace BB := BB.trans (b7.mono BB.size)
    have Hm := Lib.hid Mm
    have Hk := Lib.hid Mk
    have Hq := Lib.hid Mq
    have HBB := Lib.hid BB
    clear BB Mm Mk Mq
    have HIS : Hid (∀ W, Below w7.heap.size w7 W → Below w7.heap.size w7 W ∧ W.cell? ⟨w1.heap.size, 0, none⟩ = some (.int .i64 s) ∧ W.cell? ⟨w1.heap.size, 1, none⟩ = some (.slice A n C) ∧ W.cell? ⟨w3.heap.size, 0, none⟩ = some (.int .i64 0) ∧ W.cell? ⟨w3.heap.size, 1, none⟩ = some (.slice Ak 0 Ck) ∧ W.cell? ⟨w5.heap.size, 0, none⟩ = some (.int .i64 0) ∧ W.cell? ⟨w5.heap.size, 1, none⟩ = some (.slice Aq 0 Cq)) := fun W h => ⟨h, (Hm.out.at_ h).1, (Hm.out.at_ h).2, (Hk.out.at_ h).1, (Hk.out.at_ h).2, (Hq.out.at_ h).1, (Hq.out.at_ h).2⟩
    have HKS : Hid (∀ W W', Below W.heap.size W W' → (Below w7.heap.size w7 W ∧ W.cell? ⟨w1.heap.size, 0, none⟩ = some (.int .i64 s) ∧ W.cell? ⟨w1.heap.size, 1, none⟩ = some (.slice A n C) ∧ W.cell? ⟨w3.heap.size, 0, none⟩ = some (.int .i64 0) ∧ W.cell? ⟨w3.heap.size, 1, none⟩ = some (.slice Ak 0 Ck) ∧ W.cell? ⟨w5.heap.size, 0, none⟩ = some (.int .i64 0) ∧ W.cell? ⟨w5.heap.size, 1, none⟩ = some (.slice Aq 0 Cq)) → Below w7.heap.size w7 W' ∧ W'.cell? ⟨w1.heap.size, 0, none⟩ = some (.int .i64 s) ∧ W'.cell? ⟨w1.heap.size, 1, none⟩ = some (.slice A n C) ∧ W'.cell? ⟨w3.heap.size, 0, none⟩ = some (.int .i64 0) ∧ W'.cell? ⟨w3.heap.size, 1, none⟩ = some (.slice Ak 0 Ck) ∧ W'.cell? ⟨w5.heap.size, 0, none⟩ = some (.int .i64 0) ∧ W'.cell? ⟨w5.heap.size, 1, none⟩ = some (.slice Aq 0 Cq)) := fun W W' b h => HIS.out W' (h.1.trans (b.mono h.1.size))
    have HE1 := Lib.hid (fun W (h : Below w7.heap.size w7 W) => weEqual_any 0 0 Ak Aq 0 Ck 0 Cq [] [] W (Hk.out.2.below h) (Hq.out.2.below h) (by omega) (by omega))
    rw [eq_self2] at HE1
    have HV1 := Lib.hid (fun W (h : Below w7.heap.size w7 W) => iMassValid_any s A n C xs W (Hm.out.2.below h) hn)
    rw [HM1.out] at HV1
    have HS0 := Lib.hid (HIS.out _ ((Below.refl _ _).drew))
    go_wp2_with fail
    refine wp_region_held_drew (S := fun W => Below w7.heap.size w7 W ∧ W.cell? ⟨w1.heap.size, 0, none⟩ = some (.int .i64 s) ∧ W.cell? ⟨w1.heap.size, 1, none⟩ = some (.slice A n C) ∧ W.cell? ⟨w3.heap.size, 0, none⟩ = some (.int .i64 0) ∧ W.cell? ⟨w3.heap.size, 1, none⟩ = some (.slice Ak 0 Ck) ∧ W.cell? ⟨w5.heap.size, 0, none⟩ = some (.int .i64 0) ∧ W.cell? ⟨w5.heap.size, 1, none⟩ = some (.slice Aq 0 Cq)) (by kernel_rfl) ?_ (fun hHeld => ?_)
    · exact HS0.out
    refine wpAnyH_take (i := 0) (oi := { dst := some 40, op := Op.load 30 (Operand.tmp 4), type := 30, pos := "laws.go:805", after := #[], guard := none }) (v := ?_) rfl (by kernel_rfl) (by kernel_rfl) (by kernel_rfl) (fun _ _ _ h => h) (Or.inl ⟨by rfl, ?_⟩) (by assumption) ?_
    rotate_left
    · intro w hSw
      (try dsimp only at hSw)
      go_simp
      (try with_reducible rfl)
    (try simp only [Act.put, List.setIfInBounds_toArray, List.set_cons_zero, List.set_cons_succ])
    refine wpAnyH_take (i := 1) (oi := { dst := some 41, op := Op.load 30 (Operand.tmp 6), type := 30, pos := "laws.go:805", after := #[], guard := none }) (v := ?_) rfl (by kernel_rfl) (by kernel_rfl) (by kernel_rfl) (fun _ _ _ h => h) (Or.inl ⟨by rfl, ?_⟩) (by assumption) ?_
    rotate_left
    · intro w hSw
      (try dsimp only at hSw)
      go_simp
      (try with_reducible rfl)
    (try simp only [Act.put, List.setIfInBounds_toArray, List.set_cons_zero, List.set_cons_succ])
    refine wpAnyH_ready (rs := [2]) (by kernel_rfl) (by simp) ?_
    refine AllReadyH.cons (o := { dst := some 42, op := Op.call { callee := Callee.value (Operand.func 43), args := #[Operand.tmp 40, Operand.tmp 41], argTypes := #[30, 30] }, type := 4, pos := "laws.go:805", after := #[{ on := 0, ground := Ground.data }, { on := 1, ground := Ground.data }], guard := none }) rfl (fun K hK => ?_) AllReadyH.nil
    go_simp
    go_at_call 43
    refine (HE1.out _ (And.left (by assumption))).mono ?_
    rintro e w9 ⟨rfl, b9⟩
    go_simp
    refine hK.out _ _ ?_ (fun hHeld => ?_)
    · first | assumption | exact HKS.out _ _ (by assumption) (by assumption)
    clear hK K
    (try simp only [Act.put, List.setIfInBounds_toArray, List.set_cons_zero, List.set_cons_succ])
    refine wpAnyH_take (i := 3) (oi := { dst := some 43, op := Op.move (Operand.tmp 42), type := 4, pos := "laws.go:805", after := #[{ on := 2, ground := Ground.data }, { on := 2, ground := Ground.chain }], guard := none }) (v := ?_) rfl (by kernel_rfl) (by kernel_rfl) (by kernel_rfl) (fun _ _ _ h => h) (Or.inl ⟨by rfl, ?_⟩) (by assumption) ?_
    rotate_left
    · intro w hSw
      (try dsimp only at hSw)
      go_simp
      (try with_reducible rfl)
    (try simp only [Act.put, List.setIfInBounds_toArray, List.set_cons_zero, List.set_cons_succ])
    refine wpAnyH_take (i := 4) (oi := { dst := some 44, op := Op.move (Operand.tmp 5), type := 4, pos := "laws.go:805", after := #[{ on := 3, ground := Ground.guard }], guard := some (3, true) }) (v := ?_) rfl (by kernel_rfl) (by kernel_rfl) (by kernel_rfl) (fun _ _ _ h => h) (Or.inl ⟨by rfl, ?_⟩) (by assumption) ?_
    rotate_left
    · intro w hSw
      (try dsimp only at hSw)
      go_simp
      (try with_reducible rfl)
    (try simp only [Act.put, List.setIfInBounds_toArray, List.set_cons_zero, List.set_cons_succ])
    refine wpAnyH_take (i := 5) (oi := { dst := some 45, op := Op.move (Operand.tmp 7), type := 4, pos := "laws.go:805", after := #[{ on := 3, ground := Ground.guard }], guard := some (3, true) }) (v := ?_) rfl (by kernel_rfl) (by kernel_rfl) (by kernel_rfl) (fun _ _ _ h => h) (Or.inl ⟨by rfl, ?_⟩) (by assumption) ?_
    rotate_left
    · intro w hSw
      (try dsimp only at hSw)
      go_simp
      (try with_reducible rfl)
    (try simp only [Act.put, List.setIfInBounds_toArray, List.set_cons_zero, List.set_cons_succ])
    refine wpAnyH_take (i := 6) (oi := { dst := some 46, op := Op.binOp BinOp.eql 4 (Operand.tmp 44) (Operand.tmp 45) 4, type := 4, pos := "laws.go:805", after := #[{ on := 4, ground := Ground.data }, { on := 5, ground := Ground.data }, { on := 3, ground := Ground.guard }], guard := some (3, true) }) (v := ?_) rfl (by kernel_rfl) (by kernel_rfl) (by kernel_rfl) (fun _ _ _ h => h) (Or.inl ⟨by rfl, ?_⟩) (by assumption) ?_
    rotate_left
    · intro w hSw
      (try dsimp only at hSw)
      go_simp
      (try with_reducible rfl)
    (try simp only [Act.put, List.setIfInBounds_toArray, List.set_cons_zero, List.set_cons_succ])
    refine wpAnyH_take (i := 7) (oi := { dst := some 47, op := Op.pick (Operand.tmp 43) (Operand.tmp 46) (Operand.const (Value.bool false)), type := 4, pos := "laws.go:805", after := #[{ on := 3, ground := Ground.data }, { on := 6, ground := Ground.data }], guard := none }) (v := ?_) rfl (by kernel_rfl) (by kernel_rfl) (by kernel_rfl) (fun _ _ _ h => h) (Or.inl ⟨by rfl, ?_⟩) (by assumption) ?_
    rotate_left
    · intro w hSw
      (try dsimp only at hSw)
      go_simp
      (try with_reducible rfl)
    (try simp only [Act.put, List.setIfInBounds_toArray, List.set_cons_zero, List.set_cons_succ])
    refine wpAnyH_take (i := 8) (oi := { dst := some 48, op := Op.move (Operand.tmp 47), type := 4, pos := "laws.go:805", after := #[{ on := 7, ground := Ground.data }, { on := 3, ground := Ground.chain }], guard := none }) (v := ?_) rfl (by kernel_rfl) (by kernel_rfl) (by kernel_rfl) (fun _ _ _ h => h) (Or.inl ⟨by rfl, ?_⟩) (by assumption) ?_
    rotate_left
    · intro w hSw
      (try dsimp only at hSw)
      go_simp
      (try with_reducible rfl)
    (try simp only [Act.put, List.setIfInBounds_toArray, List.set_cons_zero, List.set_cons_succ])
    refine wpAnyH_take (i := 9) (oi := { dst := some 49, op := Op.move (Operand.tmp 5), type := 4, pos := "laws.go:805", after := #[{ on := 8, ground := Ground.guard }], guard := some (8, true) }) (v := ?_) rfl (by kernel_rfl) (by kernel_rfl) (by kernel_rfl) (fun _ _ _ h => h) (Or.inl ⟨by rfl, ?_⟩) (by assumption) ?_
    rotate_left
    · intro w hSw
      (try dsimp only at hSw)
      go_simp
      (try with_reducible rfl)
    (try simp only [Act.put, List.setIfInBounds_toArray, List.set_cons_zero, List.set_cons_succ])
    refine wpAnyH_take (i := 10) (oi := { dst := some 50, op := Op.move (Operand.tmp 49), type := 4, pos := "laws.go:805", after := #[{ on := 9, ground := Ground.data }, { on := 8, ground := Ground.chain }, { on := 8, ground := Ground.guard }], guard := some (8, true) }) (v := ?_) rfl (by kernel_rfl) (by kernel_rfl) (by kernel_rfl) (fun _ _ _ h => h) (Or.inl ⟨by rfl, ?_⟩) (by assumption) ?_
    rotate_left
    · intro w hSw
      (try dsimp only at hSw)
      go_simp
      (try with_reducible rfl)
    (try simp only [Act.put, List.setIfInBounds_toArray, List.set_cons_zero, List.set_cons_succ])
    refine wpAnyH_take (i := 11) (oi := { dst := some 51, op := Op.load 30 (Operand.tmp 3), type := 30, pos := "laws.go:805", after := #[{ on := 10, ground := Ground.guard }], guard := some (10, false) }) (v := ?_) rfl (by kernel_rfl) (by kernel_rfl) (by kernel_rfl) (fun _ _ _ h => h) (Or.inl ⟨by rfl, ?_⟩) (by assumption) ?_
    rotate_left
    · intro w hSw
      (try dsimp only at hSw)
      go_simp
      (try with_reducible rfl)
    (try simp only [Act.put, List.setIfInBounds_toArray, List.set_cons_zero, List.set_cons_succ])
    refine wpAnyH_ready (rs := [12]) (by kernel_rfl) (by simp) ?_
    refine AllReadyH.cons (o := { dst := some 52, op := Op.call { callee := Callee.value (Operand.func 44), args := #[Operand.tmp 51], argTypes := #[30] }, type := 4, pos := "laws.go:805", after := #[{ on := 11, ground := Ground.data }, { on := 10, ground := Ground.chain }, { on := 10, ground := Ground.guard }], guard := some (10, false) }) rfl (fun K hK => ?_) AllReadyH.nil
    go_simp
    go_at_call 44
    refine (HV1.out _ (And.left (by assumption))).mono ?_
    rintro e w9 ⟨rfl, b9⟩
    go_simp
    refine hK.out _ _ ?_ (fun hHeld => ?_)
    · first | assumption | exact HKS.out _ _ (by assumption) (by assumption)
    clear hK K
    (try simp only [Act.put, List.setIfInBounds_toArray, List.set_cons_zero, List.set_cons_succ])
    refine wpAnyH_take (i := 13) (oi := { dst := some 53, op := Op.unOp UnOp.not 4 (Operand.tmp 52), type := 4, pos := "laws.go:805", after := #[{ on := 12, ground := Ground.data }, { on := 10, ground := Ground.guard }], guard := some (10, false) }) (v := ?_) rfl (by kernel_rfl) (by kernel_rfl) (by kernel_rfl) (fun _ _ _ h => h) (Or.inl ⟨by rfl, ?_⟩) (by assumption) ?_
    rotate_left
    · intro w hSw
      (try dsimp only at hSw)
      go_simp
      (try with_reducible rfl)
    (try simp only [Act.put, List.setIfInBounds_toArray, List.set_cons_zero, List.set_cons_succ])
    refine wpAnyH_take (i := 14) (oi := { dst := some 54, op := Op.pick (Operand.tmp 50) (Operand.const (Value.bool true)) (Operand.tmp 53), type := 4, pos := "laws.go:805", after := #[{ on := 10, ground := Ground.data }, { on := 13, ground := Ground.data }, { on := 8, ground := Ground.guard }], guard := some (8, true) }) (v := ?_) rfl (by kernel_rfl) (by kernel_rfl) (by kernel_rfl) (fun _ _ _ h => h) (Or.inl ⟨by rfl, ?_⟩) (by assumption) ?_
    rotate_left
    · intro w hSw
      (try dsimp only at hSw)
      go_simp
      (try with_reducible rfl)
    (try simp only [Act.put, List.setIfInBounds_toArray, List.set_cons_zero, List.set_cons_succ])
    refine wpAnyH_take (i := 15) (oi := { dst := some 55, op := Op.move (Operand.tmp 54), type := 4, pos := "laws.go:805", after := #[{ on := 14, ground := Ground.data }, { on := 12, ground := Ground.chain }, { on := 8, ground := Ground.guard }], guard := some (8, true) }) (v := ?_) rfl (by kernel_rfl) (by kernel_rfl) (by kernel_rfl) (fun _ _ _ h => h) (Or.inl ⟨by rfl, ?_⟩) (by assumption) ?_
    rotate_left
    · intro w hSw
      (try dsimp only at hSw)
      go_simp
      (try with_reducible rfl)
    (try simp only [Act.put, List.setIfInBounds_toArray, List.set_cons_zero, List.set_cons_succ])
    refine wpAnyH_take (i := 16) (oi := { dst := some 56, op := Op.fieldAddr 30 (Operand.tmp 3) 1, type := 0, pos := "laws.go:805", after := #[{ on := 15, ground := Ground.guard }], guard := some (15, false) }) (v := undef) rfl (by kernel_rfl) (by kernel_rfl) (by kernel_rfl) (fun _ _ _ h => h) (Or.inr ⟨by rfl, rfl⟩) (by assumption) ?_
    (try simp only [Act.put, List.setIfInBounds_toArray, List.set_cons_zero, List.set_cons_succ])
    refine wpAnyH_take (i := 17) (oi := { dst := some 57, op := Op.load 22 (Operand.tmp 56), type := 22, pos := "laws.go:805", after := #[{ on := 16, ground := Ground.data }, { on := 15, ground := Ground.guard }], guard := some (15, false) }) (v := undef) rfl (by kernel_rfl) (by kernel_rfl) (by kernel_rfl) (fun _ _ _ h => h) (Or.inr ⟨by rfl, rfl⟩) (by assumption) ?_
    (try simp only [Act.put, List.setIfInBounds_toArray, List.set_cons_zero, List.set_cons_succ])
    refine wpAnyH_take (i := 18) (oi := { dst := some 58, op := Op.indexAddr 22 (Operand.tmp 57) (Operand.const (Value.int IntKind.i64 0)), type := 0, pos := "laws.go:805", after := #[{ on := 17, ground := Ground.data }, { on := 15, ground := Ground.guard }], guard := some (15, false) }) (v := undef) rfl (by kernel_rfl) (by kernel_rfl) (by kernel_rfl) (fun _ _ _ h => h) (Or.inr ⟨by rfl, rfl⟩) (by assumption) ?_
    (try simp only [Act.put, List.setIfInBounds_toArray, List.set_cons_zero, List.set_cons_succ])
    refine wpAnyH_take (i := 19) (oi := { dst := some 59, op := Op.load 3 (Operand.tmp 58), type := 3, pos := "laws.go:805", after := #[{ on := 18, ground := Ground.data }, { on := 15, ground := Ground.guard }], guard := some (15, false) }) (v := undef) rfl (by kernel_rfl) (by kernel_rfl) (by kernel_rfl) (fun _ _ _ h => h) (Or.inr ⟨by rfl, rfl⟩) (by assumption) ?_
    (try simp only [Act.put, List.setIfInBounds_toArray, List.set_cons_zero, List.set_cons_succ])
    refine wpAnyH_take (i := 20) (oi := { dst := some 60, op := Op.load 30 (Operand.tmp 3), type := 30, pos := "laws.go:805", after := #[{ on := 15, ground := Ground.guard }], guard := some (15, false) }) (v := undef) rfl (by kernel_rfl) (by kernel_rfl) (by kernel_rfl) (fun _ _ _ h => h) (Or.inr ⟨by rfl, rfl⟩) (by assumption) ?_
    (try simp only [Act.put, List.setIfInBounds_toArray, List.set_cons_zero, List.set_cons_succ])
    refine wpAnyH_take (i := 21) (oi := { dst := some 61, op := Op.call { callee := Callee.value (Operand.func 39), args := #[Operand.tmp 60], argTypes := #[30] }, type := 3, pos := "laws.go:805", after := #[{ on := 20, ground := Ground.data }, { on := 15, ground := Ground.chain }, { on := 15, ground := Ground.guard }], guard := some (15, false) }) (v := undef) rfl (by kernel_rfl) (by kernel_rfl) (by kernel_rfl) (fun _ _ _ h => h) (Or.inr ⟨by rfl, rfl⟩) (by assumption) ?_
    (try simp only [Act.put, List.setIfInBounds_toArray, List.set_cons_zero, List.set_cons_succ])
    refine wpAnyH_take (i := 22) (oi := { dst := some 62, op := Op.binOp BinOp.eql 3 (Operand.tmp 59) (Operand.tmp 61) 3, type := 4, pos := "laws.go:805", after := #[{ on := 19, ground := Ground.data }, { on := 21, ground := Ground.data }, { on := 15, ground := Ground.guard }], guard := some (15, false) }) (v := undef) rfl (by kernel_rfl) (by kernel_rfl) (by kernel_rfl) (fun _ _ _ h => h) (Or.inr ⟨by rfl, rfl⟩) (by assumption) ?_
    (try simp only [Act.put, List.setIfInBounds_toArray, List.set_cons_zero, List.set_cons_succ])
    refine wpAnyH_take (i := 23) (oi := { dst := some 63, op := Op.pick (Operand.tmp 55) (Operand.const (Value.bool true)) (Operand.tmp 62), type := 4, pos := "laws.go:805", after := #[{ on := 15, ground := Ground.data }, { on := 22, ground := Ground.data }, { on := 8, ground := Ground.guard }], guard := some (8, true) }) (v := ?_) rfl (by kernel_rfl) (by kernel_rfl) (by kernel_rfl) (fun _ _ _ h => h) (Or.inl ⟨by rfl, ?_⟩) (by assumption) ?_
    rotate_left
    · intro w hSw
      (try dsimp only at hSw)
      go_simp
      (try with_reducible rfl)
    (try simp only [Act.put, List.setIfInBounds_toArray, List.set_cons_zero, List.set_cons_succ])
    refine wpAnyH_take (i := 24) (oi := { dst := some 64, op := Op.pick (Operand.tmp 48) (Operand.tmp 63) (Operand.const (Value.bool false)), type := 4, pos := "laws.go:805", after := #[{ on := 8, ground := Ground.data }, { on := 23, ground := Ground.data }], guard := none }) (v := ?_) rfl (by kernel_rfl) (by kernel_rfl) (by kernel_rfl) (fun _ _ _ h => h) (Or.inl ⟨by rfl, ?_⟩) (by assumption) ?_
    rotate_left
    · intro w hSw
      (try dsimp only at hSw)
      go_simp
      (try with_reducible rfl)
    (try simp only [Act.put, List.setIfInBounds_toArray, List.set_cons_zero, List.set_cons_succ])
    refine wpAnyH_take (i := 25) (oi := { dst := some 2, op := Op.assign (Operand.tmp 64), type := 4, pos := "laws.go:805", after := #[{ on := 24, ground := Ground.data }, { on := 21, ground := Ground.chain }, { on := 0, ground := Ground.phase }, { on := 1, ground := Ground.phase }, { on := 2, ground := Ground.phase }, { on := 3, ground := Ground.phase }, { on := 4, ground := Ground.phase }, { on := 5, ground := Ground.phase }, { on := 6, ground := Ground.phase }, { on := 7, ground := Ground.phase }, { on := 8, ground := Ground.phase }, { on := 9, ground := Ground.phase }, { on := 10, ground := Ground.phase }, { on := 11, ground := Ground.phase }, { on := 12, ground := Ground.phase }, { on := 13, ground := Ground.phase }, { on := 14, ground := Ground.phase }, { on := 15, ground := Ground.phase }, { on := 16, ground := Ground.phase }, { on := 17, ground := Ground.phase }, { on := 18, ground := Ground.phase }, { on := 19, ground := Ground.phase }, { on := 20, ground := Ground.phase }, { on := 21, ground := Ground.phase }, { on := 22, ground := Ground.phase }, { on := 23, ground := Ground.phase }, { on := 24, ground := Ground.phase }], guard := none }) (v := ?_) rfl (by kernel_rfl) (by kernel_rfl) (by kernel_rfl) (fun _ _ _ h => h) (Or.inl ⟨by rfl, ?_⟩) (by assumption) ?_
    rotate_left
    · intro w hSw
      (try dsimp only at hSw)
      go_simp
      (try with_reducible rfl)
    (try simp only [Act.put, List.setIfInBounds_toArray, List.set_cons_zero, List.set_cons_succ])
    refine wpAnyH_done (by kernel_rfl) ?_ _
    clear HS0
    go_wp2_with fail
    go_ret
    exact ⟨by simp, HBB.out.trans (Below.mono (And.left (by assumption)) HBB.out.size)⟩
end Go.Proofs.Ytapkppnjgbcklaa
