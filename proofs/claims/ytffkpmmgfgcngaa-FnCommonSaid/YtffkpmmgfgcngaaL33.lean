/- The walk of the law FnCommon. -/
import Derived.Test.YtffkpmmgfgcngaaBase7
import Derived.Test.YtffkpmmgfgcngaaLaw13
import Derived.Test.YtffkpmmgfgcngaaW14
import Derived.Test.YtffkpmmgfgcngaaW15
import Derived.Test.YtffkpmmgfgcngaaW16
import Derived.Test.YtffkpmmgfgcngaaW47
import Derived.Test.YtffkpmmgfgcngaaW57
import Derived.Deep.RegionHeld3
import Derived.Deep.QuietTactic
import Derived.BigQuiet
namespace Go.Proofs.Ytffkpmmgfgcngaa
open Go.RowKit

set_option maxHeartbeats 6400000 in
set_option maxRecDepth 100000 in
theorem walkCommon (a : Option Addr) (l c : Nat) (bs : List Int) (w : World) (hr : BRow w a l bs) (hlc : l ≤ c) :
    Calls Try.prog 9 #[.slice a l c] w fun e w' => e = .returned (.bool true) ∧ Below w.heap.size w w' := by
  by_cases hl : 1048576 < (l : Int)
  · clear hr
    go_enter Try.func9, Try.ntmps9
    go_wp2_with fail
    go_ret
    exact ⟨rfl, Below.refl _ _⟩
  have HD := Lib.hid (DrawCommonPart_any a l c bs w hr (.inl hlc))
  clear hr
  go_enter Try.func9, Try.ntmps9
  go_wp2_with fail
  refine HD.out.mono ?_
  rintro e w1 ⟨s, A, n, C, xs, x, rfl, hn17, Rm, b1⟩
  have BB := b1
  have hn : n ≤ 1048576 := by omega
  go_upto_region 4 with fail
  obtain ⟨w2, hw2⟩ : ∃ W, W = w1.alloc (.cells #[.int .i64 s, .slice A n C] 25) := ⟨_, rfl⟩
  obtain ⟨Mm, b2⟩ := Mv.new Rm hw2
  rw [← hw2]
  clear hw2
  replace BB := BB.trans (b2.mono BB.size)
  have HN := Lib.hid (fun W (h : Row W A n xs) => iCommonPart_any s x A n C xs W h hn)
  have HN2 := Lib.hid (fun W (h : Row W A n xs) => sCommonPart_any s x A n C xs W h hn)
  by_cases hms : (massB s xs && setB s x) = true
  · obtain ⟨hm, hset⟩ : massB s xs = true ∧ setB s x = true := by simpa using hms
    have hI := massB_is Rm.1 hm
    obtain ⟨y, rfl, hy⟩ := set_nat hI hset
    rw [measure_yes hm hset, Int.toNat_natCast] at HN HN2
    have h16 : n ≤ 16 := by have := hI.nums; omega
    have hy16 : y < 16 := by omega
    have hpm := part_mass (pr := fun j => subB y j) hm
    have hpp := part_mass (pr := fun j => meetB y j) hm
    have HF1 := Lib.hid (possible_common Rm.1 h16 hy16)
    have HF2 := Lib.hid (fun h0 => common_possible Rm.1 h16 hy16 h0)
    obtain ⟨q, hq⟩ : ∃ v, v = partOf (fun j => subB y j) xs := ⟨_, rfl⟩
    rw [← hq] at HN HN2 hpm HF2
    have HPY := Lib.hid (fun W (h : Row W A n xs) => iPossiblePart_any s (y : Nat) A n C xs W h hn)
    rw [measure_yes hm hset, Int.toNat_natCast] at HPY
    obtain ⟨pv, hpv⟩ : ∃ v, v = partOf (fun j => meetB y j) xs := ⟨_, rfl⟩
    rw [← hpv] at HPY hpp HF1
    have HSU := Lib.hid (fun W => SubsetsOf_any y W hy16)
    obtain ⟨sz, hsz, hsz4, hszn⟩ := size_pow Rm.1 hm
    have hcn : contourN s xs = sz := by unfold contourN; rw [if_pos hm, hsz, Int.toNat_natCast]
    have hct : contourT s xs = contour sz xs := by unfold contourT; rw [if_pos hm, hsz, Int.toNat_natCast]
    have HC1 := Lib.hid (fun W (h : Row W A n xs) => iContourOf_any s A n C xs W h hn)
    have HC2 := Lib.hid (fun W (h : Row W A n xs) => sContourOf_any s A n C xs W h hn)
    rw [hcn, hct] at HC1 HC2
    have hszb : 1 ≤ sz ∧ sz ≤ 4 := by omega
    have HI := Lib.hid hI
    have HM1 := Lib.hid hm
    have HLX := Lib.hid Rm.1
    have HP2 := Lib.hid hszn
    clear hms hm hset hI hq hpv hcn hct hszn hsz4
    subst hsz
    obtain ⟨m1, m2⟩ := Mm.at_ (Below.refl _ _)
    go_wp2_with fail
    clear m1 m2
    refine (HN.out _ Mm.2).mono ?_
    rintro e w3 ⟨rfl, b3⟩
    replace Mm := Mm.below b3
    replace BB := BB.trans (b3.mono BB.size)
    obtain ⟨m1, m2⟩ := Mm.at_ (Below.refl _ _)
    go_wp2_with fail
    clear m1 m2
    refine (HN2.out _ Mm.2).mono ?_
    rintro e w4 ⟨rfl, b4⟩
    replace Mm := Mm.below b4
    replace BB := BB.trans (b4.mono BB.size)
    go_wp2_with fail
    refine (HSU.out _).mono ?_
    rintro e w5 ⟨Al, l, Cl, rfl, hl, ho, b5⟩
    replace Mm := Mm.below b5
    replace BB := BB.trans (b5.mono BB.size)
    have HLL := Lib.hid hl
    have HRL := Lib.hid ho.row
    clear hl ho
    have Hm := Lib.hid Mm
    have HBB := Lib.hid BB
    clear BB Mm
    have hl16 : l ≤ 16 := by rw [HLL.out, subsN_is]; have := subsT_le y (y + 1); omega
    go_wp2_with fail
    go_loopw [7, 8, 9] (fun v1 v2 i wr => ∃ (j : Nat) (u v : Int), j ≤ l ∧ i = .int .i64 j ∧ v1 = .int .i64 u ∧ v2 = .int .i64 v ∧ (-1000000 * (j : Int) ≤ u ∧ u ≤ 1000000 * (j : Int)) ∧ (-1000000 * (j : Int) ≤ v ∧ v ≤ 1000000 * (j : Int)) ∧ Hid (u = sumTo (fun b => wgt (subAt y b) * partOf (fun i => subB (subAt y b) i) xs) j) ∧ Hid (v = sumTo (fun b => wgt (subAt y b) * partOf (fun i => meetB (subAt y b) i) xs) j) ∧ Hid (Below w5.heap.size w5 wr)) (fun _ _ i _ => l - (intOf i).toNat)
    case atStart => exact ⟨0, 0, 0, Nat.zero_le _, rfl, rfl, rfl, by omega, by omega, rfl, rfl, Lib.hid (Below.refl _ _)⟩
    case round =>
      obtain ⟨j, u, v, hj, rfl, rfl, rfl, hub, hvb, HU, HV, HB⟩ := hrel
      by_cases hlt : j < l
      · have BB := HB.out
        have Mm := Hm.out.below BB
        have RL := HRL.out.below BB
        obtain ⟨lb, lo, rfl⟩ := RL.form (by omega)
        obtain ⟨b, hb⟩ : ∃ b, b = subAt y j := ⟨_, rfl⟩
        have hbl : b ≤ y := by rw [hb]; exact subAt_le (by rw [← HLL.out]; exact hlt)
        have hbn : b < n := by omega
        have hb16 : b < 16 := by omega
        have HBV : Hid ((ints (subsN y)).getD j 0 = (b : Int)) := by show _ = _; rw [ints_getD, hb]; rfl
        have c0 := RL.cellAt (Below.refl _ _) hlt
        rw [HBV.out] at c0
        have hlti : (j : Int) < (l : Int) := by omega
        have HBE := Lib.hid hb
        clear hb
        by_cases hb0 : b = 0
        · subst hb0
          have HU2 : Hid (u = sumTo (fun b => wgt (subAt y b) * partOf (fun i => subB (subAt y b) i) xs) (j + 1)) := by show _ = _; simp only [sumTo]; rw [← HBE.out, ← HU.out]; simp [wgt]
          have HV2 : Hid (v = sumTo (fun b => wgt (subAt y b) * partOf (fun i => meetB (subAt y b) i) xs) (j + 1)) := by show _ = _; simp only [sumTo]; rw [← HBE.out, ← HV.out]; simp [wgt]
          go_wp2_with fail
          go_roundw
          case rel => exact ⟨j + 1, u, v, by omega, by go_num, rfl, rfl, by omega, by omega, HU2, HV2, HB⟩
          case measure => simp [intOf]; omega
        · have hbe : ((b : Int) == 0) = false := by simp; omega
          have hset : setB sz (b : Int) = true := set_mk HI.out.fit hbn
          have HSG := Lib.hid (fun W => SignOf_any b W hb16)
          have HCB := Lib.hid (fun W (h : Row W A n xs) => iCommonPart_any sz (b : Nat) A n C xs W h hn)
          rw [measure_yes HM1.out hset, Int.toNat_natCast] at HCB
          have HPB := Lib.hid (fun W (h : Row W A n xs) => iPossiblePart_any sz (b : Nat) A n C xs W h hn)
          rw [measure_yes HM1.out hset, Int.toNat_natCast] at HPB
          have hcm := part_mass (pr := fun i => subB b i) HM1.out
          have hpb := part_mass (pr := fun i => meetB b i) HM1.out
          have hsg := sgn_bound b
          have hwg : wgt b = - sgn b := if_neg hb0
          obtain ⟨cv, hcv⟩ : ∃ v, v = partOf (fun i => subB b i) xs := ⟨_, rfl⟩
          obtain ⟨dv, hdv⟩ : ∃ v, v = partOf (fun i => meetB b i) xs := ⟨_, rfl⟩
          obtain ⟨sg, hsge⟩ : ∃ v, v = sgn b := ⟨_, rfl⟩
          rw [← hsge] at HSG hsg hwg
          rw [← hcv] at HCB hcm
          rw [← hdv] at HPB hpb
          obtain ⟨t1, ht1⟩ : ∃ v, v = sg * cv := ⟨_, rfl⟩
          obtain ⟨t2, ht2⟩ : ∃ v, v = sg * dv := ⟨_, rfl⟩
          have ht1b : -1000000 ≤ t1 ∧ t1 ≤ 1000000 := by rw [ht1]; rcases hsg with e | e <;> rw [e] <;> omega
          have ht2b : -1000000 ≤ t2 ∧ t2 ≤ 1000000 := by rw [ht2]; rcases hsg with e | e <;> rw [e] <;> omega
          have HU2 : Hid (u - t1 = sumTo (fun b => wgt (subAt y b) * partOf (fun i => subB (subAt y b) i) xs) (j + 1)) := by
            show _ = _
            simp only [sumTo]
            rw [← HBE.out, ← HU.out, hwg, ← hcv, ht1, Int.neg_mul]
            omega
          have HV2 : Hid (v - t2 = sumTo (fun b => wgt (subAt y b) * partOf (fun i => meetB (subAt y b) i) xs) (j + 1)) := by
            show _ = _
            simp only [sumTo]
            rw [← HBE.out, ← HV.out, hwg, ← hdv, ht2, Int.neg_mul]
            omega
          have d1 : IntKind.i64.wrap (sg * cv) = t1 := by rw [← ht1]; exact IntWalk.i64_in _ (by omega)
          have d2 : IntKind.i64.wrap (sg * dv) = t2 := by rw [← ht2]; exact IntWalk.i64_in _ (by omega)
          have d3 : IntKind.i64.wrap (u - t1) = u - t1 := IntWalk.i64_in _ (by omega)
          have d4 : IntKind.i64.wrap (v - t2) = v - t2 := IntWalk.i64_in _ (by omega)
          have hj0 : 0 ≤ (j : Int) := by omega
          clear hset hsg hwg hcv hdv hsge ht1 ht2 hcm hpb
          go_upto_region 13 with fail
          clear c0
          have HA := Lib.hid (fun W (h : Below wr.heap.size wr W) => HCB.out W (Mm.2.below h))
          have HIS : Hid (∀ W, Below wr.heap.size wr W → Below wr.heap.size wr W ∧ W.cell? ⟨w1.heap.size, 0, none⟩ = some (.int .i64 sz) ∧ W.cell? ⟨w1.heap.size, 1, none⟩ = some (.slice A n C) ∧ W.cell? ⟨lb, lo + j, none⟩ = some (.int .i64 (b : Int))) := fun W h => ⟨h, (Mm.at_ h).1, (Mm.at_ h).2, (by have h2 := RL.cellAt h hlt; rw [HBV.out] at h2; exact h2)⟩
          have HKS : Hid (∀ W W', Below W.heap.size W W' → (Below wr.heap.size wr W ∧ W.cell? ⟨w1.heap.size, 0, none⟩ = some (.int .i64 sz) ∧ W.cell? ⟨w1.heap.size, 1, none⟩ = some (.slice A n C) ∧ W.cell? ⟨lb, lo + j, none⟩ = some (.int .i64 (b : Int))) → Below wr.heap.size wr W' ∧ W'.cell? ⟨w1.heap.size, 0, none⟩ = some (.int .i64 sz) ∧ W'.cell? ⟨w1.heap.size, 1, none⟩ = some (.slice A n C) ∧ W'.cell? ⟨lb, lo + j, none⟩ = some (.int .i64 (b : Int))) := fun W W' b h => HIS.out W' (h.1.trans (b.mono h.1.size))
          have HSS := Lib.hid (HIS.out _ (Below.refl _ _).drew)
          go_wp2_with fail
          go_region_held3 (fun W => Below wr.heap.size wr W ∧ W.cell? ⟨w1.heap.size, 0, none⟩ = some (.int .i64 sz) ∧ W.cell? ⟨w1.heap.size, 1, none⟩ = some (.slice A n C) ∧ W.cell? ⟨lb, lo + j, none⟩ = some (.int .i64 (b : Int)))
            (first | exact HSS.out | assumption | exact HKS.out _ _ (by assumption) (by assumption) | go_keep)
            (first | (go_at_call 52; (first | ((with_reducible refine (HSG.out _).mono ?_); rintro e w9 ⟨rfl, rfl⟩))) | (go_at_call 19; (first | ((with_reducible refine (HA.out _ (And.left (by assumption))).mono ?_); rintro e w9 ⟨rfl, b9⟩))))
          have b6 : Below wr.heap.size wr w9 := And.left (by assumption)
          obtain ⟨w6, hw9⟩ : ∃ W, W = w9 := ⟨_, rfl⟩
          rw [← hw9]
          rw [← hw9] at b6
          clear HSS HKS HIS hw9
          replace Mm := Mm.below b6
          replace RL := RL.below b6
          replace BB := BB.trans (b6.mono BB.size)
          clear HA
          have HA := Lib.hid (fun W (h : Below w6.heap.size w6 W) => HPB.out W (Mm.2.below h))
          have HIS : Hid (∀ W, Below w6.heap.size w6 W → Below w6.heap.size w6 W ∧ W.cell? ⟨w1.heap.size, 0, none⟩ = some (.int .i64 sz) ∧ W.cell? ⟨w1.heap.size, 1, none⟩ = some (.slice A n C) ∧ W.cell? ⟨lb, lo + j, none⟩ = some (.int .i64 (b : Int))) := fun W h => ⟨h, (Mm.at_ h).1, (Mm.at_ h).2, (by have h2 := RL.cellAt h hlt; rw [HBV.out] at h2; exact h2)⟩
          have HKS : Hid (∀ W W', Below W.heap.size W W' → (Below w6.heap.size w6 W ∧ W.cell? ⟨w1.heap.size, 0, none⟩ = some (.int .i64 sz) ∧ W.cell? ⟨w1.heap.size, 1, none⟩ = some (.slice A n C) ∧ W.cell? ⟨lb, lo + j, none⟩ = some (.int .i64 (b : Int))) → Below w6.heap.size w6 W' ∧ W'.cell? ⟨w1.heap.size, 0, none⟩ = some (.int .i64 sz) ∧ W'.cell? ⟨w1.heap.size, 1, none⟩ = some (.slice A n C) ∧ W'.cell? ⟨lb, lo + j, none⟩ = some (.int .i64 (b : Int))) := fun W W' b h => HIS.out W' (h.1.trans (b.mono h.1.size))
          have HSS := Lib.hid (HIS.out _ (Below.refl _ _).drew)
          go_wp2_with fail
          go_region_held3 (fun W => Below w6.heap.size w6 W ∧ W.cell? ⟨w1.heap.size, 0, none⟩ = some (.int .i64 sz) ∧ W.cell? ⟨w1.heap.size, 1, none⟩ = some (.slice A n C) ∧ W.cell? ⟨lb, lo + j, none⟩ = some (.int .i64 (b : Int)))
            (first | exact HSS.out | assumption | exact HKS.out _ _ (by assumption) (by assumption) | go_keep)
            (first | (go_at_call 52; (first | ((with_reducible refine (HSG.out _).mono ?_); rintro e w9 ⟨rfl, rfl⟩))) | (go_at_call 37; (first | ((with_reducible refine (HA.out _ (And.left (by assumption))).mono ?_); rintro e w9 ⟨rfl, b9⟩))))
          have b7 : Below w6.heap.size w6 w9 := And.left (by assumption)
          obtain ⟨w7, hw9⟩ : ∃ W, W = w9 := ⟨_, rfl⟩
          rw [← hw9]
          rw [← hw9] at b7
          clear HSS HKS HIS hw9
          replace Mm := Mm.below b7
          replace RL := RL.below b7
          replace BB := BB.trans (b7.mono BB.size)
          clear HA
          have HBE2 := Lib.hid BB
          go_wp2_with fail
          go_roundw
          case rel => exact ⟨j + 1, u - t1, v - t2, by omega, by go_num, rfl, rfl, by omega, by omega, HU2, HV2, HBE2⟩
          case measure => simp [intOf]; omega
      · obtain rfl : l = j := by omega
        have hu : pv = u := by rw [← HF1.out, ← HLL.out]; exact HU.out.symm
        have hv : y ≠ 0 → q = v := fun h0 => by rw [← HF2.out h0, ← HLL.out]; exact HV.out.symm
        subst hu
        have HVQ := Lib.hid hv
        have BB := HB.out
        have Mm := Hm.out.below BB
        clear hv hub hvb
        obtain ⟨m1, m2⟩ := Mm.at_ (Below.refl _ _)
        go_wp2_with fail
        clear m1 m2
        refine (HC1.out _ Mm.2).mono ?_
        rintro e w6 ⟨Ac, Cc, rfl, Oc, b6⟩
        replace Mm := Mm.below b6
        replace BB := BB.trans (b6.mono BB.size)
        have RC := Oc.row
        clear Oc
        obtain ⟨m1, m2⟩ := Mm.at_ (Below.refl _ _)
        go_wp2_with fail
        clear m1 m2
        refine (HC2.out _ Mm.2).mono ?_
        rintro e w7 ⟨Ad, Cd, rfl, Od, b7⟩
        replace Mm := Mm.below b7
        replace RC := RC.below b7
        replace BB := BB.trans (b7.mono BB.size)
        have RD := Od.row
        clear Od
        have HWS := Lib.hid (weSame_any Ac Ad sz Cc sz Cd (contour sz xs) (contour sz xs) w7 RC RD (by omega) (by omega))
        rw [eqB_self] at HWS
        go_wp2_with fail
        refine (HWS.out).mono ?_
        rintro e w8 ⟨rfl, b8⟩
        replace Mm := Mm.below b8
        replace RC := RC.below b8
        replace BB := BB.trans (b8.mono BB.size)
        clear RD
        have HM2 := Lib.hid Mm
        have HRC := Lib.hid RC
        have HB2 := Lib.hid BB
        clear Mm RC BB
        obtain ⟨m1, m2⟩ := HM2.out.at_ (Below.refl _ _)
        go_wp2_with fail
        clear m1 m2
        go_loopw [11] (fun i wr => ∃ k : Nat, k ≤ sz ∧ i = .int .i64 k ∧ Hid (Below w8.heap.size w8 wr)) (fun i _ => sz - (intOf i).toNat)
        case atStart => exact ⟨0, Nat.zero_le _, rfl, Lib.hid (Below.refl _ _)⟩
        case round =>
          obtain ⟨k, hk, rfl, HK⟩ := hrel
          by_cases hlk : k < sz
          · have BB := HK.out
            have Mm := HM2.out.below BB
            have RC := HRC.out.below BB
            obtain ⟨cb, co, rfl⟩ := RC.form (by omega)
            obtain ⟨z, hz⟩ : ∃ z, z = 2 ^ k := ⟨_, rfl⟩
            have hzn : z < n := pow_lt_of hz HP2.out hlk
            have hset : setB sz (z : Int) = true := set_mk HI.out.fit hzn
            have h1 := contour_common HLX.out h16 (x := k) (by omega)
            rw [← hz] at h1
            have hcg : (contour sz xs).getD k 0 = partOf (fun j => subB z j) xs := by rw [contour, tab_getD _ _ _ hlk, ← hz]; exact h1
            have HCZ := Lib.hid (fun W (h : Row W A n xs) => iCommonPart_any sz (z : Nat) A n C xs W h hn)
            rw [measure_yes HM1.out hset, Int.toNat_natCast] at HCZ
            obtain ⟨cv, hcv⟩ : ∃ v, v = partOf (fun j => subB z j) xs := ⟨_, rfl⟩
            rw [← hcv] at HCZ hcg
            have HCG := Lib.hid hcg
            have s1 : IntKind.i64.wrap (2 ^ min (IntKind.u64.wrap (k : Int)).toNat 64) = (z : Int) := by rw [IntWalk.i64_left, hz]; exact shl_small (by omega)
            have s2 : wrap64 (2 ^ k) = (z : Int) := shl_nat (by omega) hz
            have hlki : (k : Int) < (sz : Int) := by omega
            obtain ⟨m1, m2⟩ := Mm.at_ (Below.refl _ _)
            clear hset h1 hcg hcv hz
            go_upto_region 21 with fail
            clear m1 m2
            have HA := Lib.hid (fun W (h : Below wr.heap.size wr W) => HCZ.out W (Mm.2.below h))
            have HIS : Hid (∀ W, Below wr.heap.size wr W → Below wr.heap.size wr W ∧ W.cell? ⟨w1.heap.size, 0, none⟩ = some (.int .i64 sz) ∧ W.cell? ⟨w1.heap.size, 1, none⟩ = some (.slice A n C) ∧ W.cell? ⟨cb, co + k, none⟩ = some (.int .i64 cv)) := fun W h => ⟨h, (Mm.at_ h).1, (Mm.at_ h).2, (by have h2 := RC.cellAt h hlk; rw [HCG.out] at h2; exact h2)⟩
            have HKS : Hid (∀ W W', Below W.heap.size W W' → (Below wr.heap.size wr W ∧ W.cell? ⟨w1.heap.size, 0, none⟩ = some (.int .i64 sz) ∧ W.cell? ⟨w1.heap.size, 1, none⟩ = some (.slice A n C) ∧ W.cell? ⟨cb, co + k, none⟩ = some (.int .i64 cv)) → Below wr.heap.size wr W' ∧ W'.cell? ⟨w1.heap.size, 0, none⟩ = some (.int .i64 sz) ∧ W'.cell? ⟨w1.heap.size, 1, none⟩ = some (.slice A n C) ∧ W'.cell? ⟨cb, co + k, none⟩ = some (.int .i64 cv)) := fun W W' b h => HIS.out W' (h.1.trans (b.mono h.1.size))
            have HSS := Lib.hid (HIS.out _ (Below.refl _ _).drew)
            go_wp2_with fail
            go_region_held3 (fun W => Below wr.heap.size wr W ∧ W.cell? ⟨w1.heap.size, 0, none⟩ = some (.int .i64 sz) ∧ W.cell? ⟨w1.heap.size, 1, none⟩ = some (.slice A n C) ∧ W.cell? ⟨cb, co + k, none⟩ = some (.int .i64 cv))
              (first | exact HSS.out | assumption | exact HKS.out _ _ (by assumption) (by assumption) | go_keep)
              (first | (go_at_call 19; (first | ((with_reducible refine (HA.out _ (And.left (by assumption))).mono ?_); rintro e w9 ⟨rfl, b9⟩))))
            have b9 : Below wr.heap.size wr w9 := And.left (by assumption)
            obtain ⟨w9, hw9⟩ : ∃ W, W = w9 := ⟨_, rfl⟩
            rw [← hw9]
            rw [← hw9] at b9
            clear HSS HKS HIS hw9
            replace Mm := Mm.below b9
            replace RC := RC.below b9
            replace BB := BB.trans (b9.mono BB.size)
            have HBE2 := Lib.hid BB
            clear s1 s2
            go_wp2_with fail
            go_roundw
            case rel => exact ⟨k + 1, by omega, by go_num, HBE2⟩
            case measure => simp [intOf]; omega
          · obtain rfl : sz = k := by omega
            have BB := HK.out
            have Mm := HM2.out.below BB
            obtain ⟨m1, m2⟩ := Mm.at_ (Below.refl _ _)
            by_cases hy0 : y = 0
            · subst hy0
              go_wp2_with fail
              clear m1 m2
              refine (HPY.out _ Mm.2).mono ?_
              rintro e wz ⟨rfl, bz⟩
              have BZ := BB.trans (bz.mono BB.size)
              go_wp2_with fail
              go_ret
              exact ⟨rfl, HBB.out.trans ((HB2.out.trans (BZ.mono HB2.out.size)).mono HBB.out.size)⟩
            · have hqv := HVQ.out hy0; have hye : ((y : Int) == 0) = false := by simp; omega
              subst hqv
              go_wp2_with fail
              clear m1 m2
              refine (HPY.out _ Mm.2).mono ?_
              rintro e wz ⟨rfl, bz⟩
              have BZ := BB.trans (bz.mono BB.size)
              go_wp2_with fail
              go_ret
              exact ⟨rfl, HBB.out.trans ((HB2.out.trans (BZ.mono HB2.out.size)).mono HBB.out.size)⟩
  · have hv : measure s xs x (partOf (fun j => subB x.toNat j) xs) = -1 := if_neg hms
    rw [hv] at HN HN2
    clear hv hms
    obtain ⟨m1, m2⟩ := Mm.at_ (Below.refl _ _)
    go_wp2_with fail
    clear m1 m2
    refine (HN.out _ Mm.2).mono ?_
    rintro e w3 ⟨rfl, b3⟩
    replace Mm := Mm.below b3
    replace BB := BB.trans (b3.mono BB.size)
    obtain ⟨m1, m2⟩ := Mm.at_ (Below.refl _ _)
    go_wp2_with fail
    clear m1 m2
    refine (HN2.out _ Mm.2).mono ?_
    rintro e w4 ⟨rfl, b4⟩
    replace Mm := Mm.below b4
    replace BB := BB.trans (b4.mono BB.size)
    obtain ⟨m1, m2⟩ := Mm.at_ (Below.refl _ _)
    go_wp2_with fail
    clear m1 m2
    refine (HN2.out _ Mm.2).mono ?_
    rintro e w5 ⟨rfl, b5⟩
    replace Mm := Mm.below b5
    replace BB := BB.trans (b5.mono BB.size)
    go_wp2_with fail
    go_ret
    exact ⟨rfl, BB⟩
end Go.Proofs.Ytffkpmmgfgcngaa
