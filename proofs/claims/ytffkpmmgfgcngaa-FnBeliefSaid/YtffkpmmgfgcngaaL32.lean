/- The walk of the law FnBelief. -/
import Derived.Test.YtffkpmmgfgcngaaBase7
import Derived.Test.YtffkpmmgfgcngaaLaw13
import Derived.Test.YtffkpmmgfgcngaaW14
import Derived.Test.YtffkpmmgfgcngaaW15
import Derived.Test.YtffkpmmgfgcngaaW24
import Derived.Deep.RegionHeld3
import Derived.Deep.QuietTactic
import Derived.BigQuiet
namespace Go.Proofs.Ytffkpmmgfgcngaa
open Go.RowKit

set_option maxHeartbeats 6400000 in
set_option maxRecDepth 100000 in
theorem walkBelief (a : Option Addr) (l c : Nat) (bs : List Int) (w : World) (hr : BRow w a l bs) (hlc : l ≤ c) :
    Calls Try.prog 10 #[.slice a l c] w fun e w' => e = .returned (.bool true) ∧ Below w.heap.size w w' := by
  by_cases hl : 1048576 < (l : Int)
  · clear hr
    go_enter Try.func10, Try.ntmps10
    go_wp2_with fail
    go_ret
    exact ⟨rfl, Below.refl _ _⟩
  have HD := Lib.hid (DrawBelievedPart_any a l c bs w hr (.inl hlc))
  clear hr
  go_enter Try.func10, Try.ntmps10
  go_wp2_with fail
  refine HD.out.mono ?_
  rintro e w1 ⟨s, A, n, C, xs, x, rfl, hn17, Rm, b1⟩
  have BB := b1
  have hn : n ≤ 1048576 := by omega
  go_upto_region 4 with fail
  obtain ⟨w2, hw2⟩ : ∃ W, W = w1.alloc (.cells #[.int .i64 s, .slice A n C] 25) := ⟨_, rfl⟩
  obtain ⟨Mm, b2⟩ := Mv.new Rm hw2
  rw [← hw2]
  clear hw2
  replace BB := BB.trans (b2.mono BB.size)
  by_cases hms : (massB s xs && setB s x) = true
  · obtain ⟨hm, hset⟩ : massB s xs = true ∧ setB s x = true := by simpa using hms
    have hI := massB_is Rm.1 hm
    obtain ⟨y, rfl, hy⟩ := set_nat hI hset
    have HB1 := Lib.hid (fun W (h : Row W A n xs) => iBelievedPart_any s y A n C xs W h hn)
    have HP1 := Lib.hid (fun W (h : Row W A n xs) => iPossiblePart_any s y A n C xs W h hn)
    have HI1 := Lib.hid (fun W (h : Row W A n xs) => iImpliedPart_any s y A n C xs W h hn)
    have HB2 := Lib.hid (fun W (h : Row W A n xs) => sBelievedPart_any s y A n C xs W h hn)
    have HP2 := Lib.hid (fun W (h : Row W A n xs) => sPossiblePart_any s y A n C xs W h hn)
    have HI2 := Lib.hid (fun W (h : Row W A n xs) => sImpliedPart_any s y A n C xs W h hn)
    rw [measure_yes hm hset, Int.toNat_natCast] at HB1 HP1 HI1 HB2 HP2 HI2
    have h16 : n ≤ 16 := by have := hI.nums; omega
    have hnn : ∀ k, k < n → 0 ≤ xs.getD k 0 := fun k hk => (hI.part k hk).1
    have hw := hI.whole
    have hb0 := part_zero (pr := fun j => subB j y) Rm.1 hI.part (by omega) (by simp [subB])
    have hle := believed_possible Rm.1 (by omega) h16 hnn (a := y) (by omega)
    have hdu := possible_dual Rm.1 hI.nums hy
    have hpm := part_mass (pr := fun j => meetB y j) hm
    have him := part_mass (pr := fun j => subB j y) hm
    have hzm := part_mass (pr := fun j => subB j (n - 1 - y)) hm
    have hx0 := hI.part 0 (by omega)
    obtain ⟨z, hz⟩ : ∃ z, z = n - 1 - y := ⟨_, rfl⟩
    have hzn : z < n := by omega
    have HCH : Hid (chanB s xs = true → partOf (fun j => subB j y) xs - xs.getD 0 0 = partOf (fun j => meetB y j) xs) := fun hc => single_even Rm.1 (by omega) h16 (by
      unfold singleB
      exact decide_eq_true (fun k hk => chan_cnt rfl hc k hk)) (by omega)
    have HOS := Lib.hid (fun W => OtherSet_any s n y W hI.size hI.fit hy)
    have HIZ := Lib.hid (fun W (h : Row W A n xs) => iImpliedPart_any s (z : Nat) A n C xs W h hn)
    rw [measure_yes hm (set_mk hI.fit hzn), Int.toNat_natCast] at HIZ
    rw [← hz] at HOS hdu hzm
    have HWH := Lib.hid (fun W (h : Row W A n xs) => WholeOf_any s A n C xs W h hn)
    rw [wholeR_yes hm] at HWH
    obtain ⟨p1, q1, hf1⟩ := frac_ok (num := partOf (fun j => subB j y) xs - xs.getD 0 0) (den := sumL xs) (by omega) (by omega)
    obtain ⟨p2, q2, hf2⟩ := frac_ok (num := partOf (fun j => meetB y j) xs) (den := sumL xs) (by omega) (by omega)
    have hB1 : beliefR s xs (y : Int) = some (p1, q1) := by unfold beliefR fracM; rw [if_pos hms, Int.toNat_natCast, hf1]
    have hP1 : possR s xs (y : Int) = some (p2, q2) := by unfold possR fracM; rw [if_pos hms, Int.toNat_natCast, hf2]
    have hcl := cross_lt hw.1 hf2 hf1
    obtain ⟨_, _, _, _, _, _, v1⟩ := fracOf_is hw.1 hf1
    obtain ⟨_, _, _, _, _, _, v2⟩ := fracOf_is hw.1 hf2
    have hnl : ¬ p2 * q1 < p1 * q2 := fun h => by have := hcl.1 h; omega
    have HLT := Lib.hid (fun W => LessFraction_any p2 q2 p1 q1 W v2 v1)
    rw [decide_eq_false hnl] at HLT
    have HFB1 := Lib.hid hB1
    have HFP1 := Lib.hid hP1
    obtain ⟨x0, hx0e⟩ : ∃ v, v = xs.getD 0 0 := ⟨_, rfl⟩
    obtain ⟨iv, hiv⟩ : ∃ v, v = partOf (fun j => subB j y) xs := ⟨_, rfl⟩
    obtain ⟨pv, hpv⟩ : ∃ v, v = partOf (fun j => meetB y j) xs := ⟨_, rfl⟩
    obtain ⟨zv, hzv⟩ : ∃ v, v = partOf (fun j => subB j z) xs := ⟨_, rfl⟩
    obtain ⟨d, hd⟩ : ∃ v, v = sumL xs := ⟨_, rfl⟩
    rw [← hx0e, ← hiv] at HB1 HB2
    rw [← hiv] at HI1 HI2 him
    rw [← hpv] at HP1 HP2 hpm hdu
    rw [← hzv] at HIZ hdu hzm
    rw [← hd] at HWH hdu hw
    rw [← hx0e, ← hiv] at hb0
    rw [← hx0e, ← hiv, ← hpv] at hle HCH
    rw [← hx0e] at hx0
    have HX0 := Lib.hid hx0e
    obtain ⟨bv, hbv⟩ : ∃ v, v = iv - x0 := ⟨_, rfl⟩
    rw [← hbv] at HB1 HB2 hb0 hle HCH
    have s1 : d - zv = pv := by omega
    have s2 : iv - x0 = bv := hbv.symm
    have HS1 := Lib.hid s1
    have HS2 := Lib.hid s2
    have HFT := Lib.hid hI.fit
    have hn0 : 0 < n := by omega
    obtain ⟨b, off, rfl⟩ := Rm.form hn0
    clear hms hm hset hI hnn hdu hf1 hf2 hB1 hP1 hcl v1 v2 hnl hiv hpv hzv hd hbv s1 s2 hx0e hz
    have HB1b := Lib.hid (fun W (h : Below w2.heap.size w2 W) => HB1.out W (Mm.2.below h))
    have HP1b := Lib.hid (fun W (h : Below w2.heap.size w2 W) => HP1.out W (Mm.2.below h))
    have HIS : Hid (∀ W, Below w2.heap.size w2 W → Below w2.heap.size w2 W ∧ W.cell? ⟨w1.heap.size, 0, none⟩ = some (.int .i64 s) ∧ W.cell? ⟨w1.heap.size, 1, none⟩ = some (.slice (some ⟨b, off, none⟩) n C)) := fun W h => ⟨h, (Mm.at_ h).1, (Mm.at_ h).2⟩
    have HKS : Hid (∀ W W', Below W.heap.size W W' → (Below w2.heap.size w2 W ∧ W.cell? ⟨w1.heap.size, 0, none⟩ = some (.int .i64 s) ∧ W.cell? ⟨w1.heap.size, 1, none⟩ = some (.slice (some ⟨b, off, none⟩) n C)) → Below w2.heap.size w2 W' ∧ W'.cell? ⟨w1.heap.size, 0, none⟩ = some (.int .i64 s) ∧ W'.cell? ⟨w1.heap.size, 1, none⟩ = some (.slice (some ⟨b, off, none⟩) n C)) := fun W W' b h => HIS.out W' (h.1.trans (b.mono h.1.size))
    have HSS := Lib.hid (HIS.out _ (Below.refl _ _).drew)
    go_wp2_with fail
    go_region_held3 (fun W => Below w2.heap.size w2 W ∧ W.cell? ⟨w1.heap.size, 0, none⟩ = some (.int .i64 s) ∧ W.cell? ⟨w1.heap.size, 1, none⟩ = some (.slice (some ⟨b, off, none⟩) n C))
      (first | exact HSS.out | assumption | exact HKS.out _ _ (by assumption) (by assumption) | go_keep)
      (first | (go_at_call 36; (first | ((with_reducible refine (HB1b.out _ (And.left (by assumption))).mono ?_); rintro e w9 ⟨rfl, b9⟩))) | (go_at_call 37; (first | ((with_reducible refine (HP1b.out _ (And.left (by assumption))).mono ?_); rintro e w9 ⟨rfl, b9⟩))))
    have b3 : Below w2.heap.size w2 w9 := And.left (by assumption)
    obtain ⟨w3, hw9⟩ : ∃ W, W = w9 := ⟨_, rfl⟩
    rw [← hw9]
    rw [← hw9] at b3
    clear HSS HKS HIS hw9
    replace Mm := Mm.below b3
    replace BB := BB.trans (b3.mono BB.size)
    clear HB1b HP1b
    obtain ⟨m1, m2⟩ := Mm.at_ (Below.refl _ _)
    go_wp2_with fail
    clear m1 m2
    refine (HI1.out _ Mm.2).mono ?_
    rintro e w4 ⟨rfl, b4⟩
    replace Mm := Mm.below b4
    replace BB := BB.trans (b4.mono BB.size)
    obtain ⟨m1, m2⟩ := Mm.at_ (Below.refl _ _)
    go_wp2_with fail
    clear m1 m2
    refine (HB2.out _ Mm.2).mono ?_
    rintro e w5 ⟨rfl, b5⟩
    replace Mm := Mm.below b5
    replace BB := BB.trans (b5.mono BB.size)
    obtain ⟨m1, m2⟩ := Mm.at_ (Below.refl _ _)
    go_wp2_with fail
    clear m1 m2
    refine (HP2.out _ Mm.2).mono ?_
    rintro e w6 ⟨rfl, b6⟩
    replace Mm := Mm.below b6
    replace BB := BB.trans (b6.mono BB.size)
    obtain ⟨m1, m2⟩ := Mm.at_ (Below.refl _ _)
    go_wp2_with fail
    clear m1 m2
    refine (HI2.out _ Mm.2).mono ?_
    rintro e w7 ⟨rfl, b7⟩
    replace Mm := Mm.below b7
    replace BB := BB.trans (b7.mono BB.size)
    obtain ⟨m1, m2⟩ := Mm.at_ (Below.refl _ _)
    go_wp2_with fail
    clear m1 m2
    refine (HWH.out _ Mm.2).mono ?_
    rintro e w8 ⟨rfl, b8⟩
    replace Mm := Mm.below b8
    replace BB := BB.trans (b8.mono BB.size)
    obtain ⟨m1, m2⟩ := Mm.at_ (Below.refl _ _)
    go_wp2_with fail
    clear m1 m2
    refine (HOS.out _).mono ?_
    rintro e w' ⟨rfl, rfl⟩
    have HCf := Lib.hid ((iBeliefOf_any s (y : Int) _ n C xs w8 Mm.2 (by omega)).mono (fun e w' h => And.intro (RetF.yes HFB1.out h.1) h.2))
    obtain ⟨m1, m2⟩ := Mm.at_ (Below.refl _ _)
    go_wp2_with fail
    clear m1 m2
    refine (HCf.out).mono ?_
    rintro e w9 ⟨rfl, b9⟩
    replace Mm := Mm.below b9
    replace BB := BB.trans (b9.mono BB.size)
    go_upto_region 11 with fail
    obtain ⟨w10, hw10⟩ : ∃ W, W = w9.alloc (.cells #[.int .i64 p1, .int .i64 q1] 40) := ⟨_, rfl⟩
    obtain ⟨Mf, b10⟩ := Fv.new w9 (p1) (q1) hw10
    rw [← hw10]
    clear hw10
    replace Mm := Mm.below b10
    replace BB := BB.trans (b10.mono BB.size)
    clear HCf
    have HCg := Lib.hid ((iPossibilityOf_any s (y : Int) _ n C xs w10 Mm.2 (by omega)).mono (fun e w' h => And.intro (RetF.yes HFP1.out h.1) h.2))
    obtain ⟨m1, m2⟩ := Mm.at_ (Below.refl _ _)
    go_wp2_with fail
    clear m1 m2
    refine (HCg.out).mono ?_
    rintro e w11 ⟨rfl, b11⟩
    replace Mm := Mm.below b11
    replace Mf := Mf.below b11
    replace BB := BB.trans (b11.mono BB.size)
    go_upto_region 12 with fail
    obtain ⟨w12, hw12⟩ : ∃ W, W = w11.alloc (.cells #[.int .i64 p2, .int .i64 q2] 40) := ⟨_, rfl⟩
    obtain ⟨Mg, b12⟩ := Fv.new w11 (p2) (q2) hw12
    rw [← hw12]
    clear hw12
    replace Mm := Mm.below b12
    replace Mf := Mf.below b12
    replace BB := BB.trans (b12.mono BB.size)
    clear HCg
    have HCv := Lib.hid ((sBeliefOf_any s (y : Int) _ n C xs w12 Mm.2 (by omega)).mono (fun e w' h => And.intro (RetF.yes HFB1.out h.1) h.2))
    obtain ⟨m1, m2⟩ := Mm.at_ (Below.refl _ _)
    go_wp2_with fail
    clear m1 m2
    refine (HCv.out).mono ?_
    rintro e w13 ⟨rfl, b13⟩
    replace Mm := Mm.below b13
    replace Mf := Mf.below b13
    replace Mg := Mg.below b13
    replace BB := BB.trans (b13.mono BB.size)
    go_upto_region 13 with fail
    obtain ⟨w14, hw14⟩ : ∃ W, W = w13.alloc (.cells #[.int .i64 p1, .int .i64 q1] 40) := ⟨_, rfl⟩
    obtain ⟨Mv, b14⟩ := Fv.new w13 (p1) (q1) hw14
    rw [← hw14]
    clear hw14
    replace Mm := Mm.below b14
    replace Mf := Mf.below b14
    replace Mg := Mg.below b14
    replace BB := BB.trans (b14.mono BB.size)
    clear HCv
    have HCu := Lib.hid ((sPossibilityOf_any s (y : Int) _ n C xs w14 Mm.2 (by omega)).mono (fun e w' h => And.intro (RetF.yes HFP1.out h.1) h.2))
    obtain ⟨m1, m2⟩ := Mm.at_ (Below.refl _ _)
    go_wp2_with fail
    clear m1 m2
    refine (HCu.out).mono ?_
    rintro e w15 ⟨rfl, b15⟩
    replace Mm := Mm.below b15
    replace Mf := Mf.below b15
    replace Mg := Mg.below b15
    replace Mv := Mv.below b15
    replace BB := BB.trans (b15.mono BB.size)
    go_upto_region 14 with fail
    obtain ⟨w16, hw16⟩ : ∃ W, W = w15.alloc (.cells #[.int .i64 p2, .int .i64 q2] 40) := ⟨_, rfl⟩
    obtain ⟨Mu, b16⟩ := Fv.new w15 (p2) (q2) hw16
    rw [← hw16]
    clear hw16
    replace Mm := Mm.below b16
    replace Mf := Mf.below b16
    replace Mg := Mg.below b16
    replace Mv := Mv.below b16
    replace BB := BB.trans (b16.mono BB.size)
    clear HCu
    obtain ⟨m1, m2⟩ := Mm.at_ (Below.refl _ _)
    go_wp2_with fail
    clear m1 m2
    refine (HIZ.out _ Mm.2).mono ?_
    rintro e w17 ⟨rfl, b17⟩
    replace Mm := Mm.below b17
    replace Mf := Mf.below b17
    replace Mg := Mg.below b17
    replace Mv := Mv.below b17
    replace Mu := Mu.below b17
    replace BB := BB.trans (b17.mono BB.size)
    have c0 := Mm.2.cellAt (Below.refl _ _) hn0
    rw [← HX0.out, Nat.add_zero] at c0
    have s1 := HS1.out
    have s2 := HS2.out
    have hni : (0 : Int) < (n : Int) := by omega
    have r1 : wrap64 (d - zv) = pv := by rw [s1]; exact IntWalk.wrap64_in _ (by omega)
    have r2 : wrap64 (iv - x0) = bv := by rw [s2]; exact IntWalk.wrap64_in _ (by omega)
    obtain ⟨m1, m2⟩ := Mm.at_ (Below.refl _ _)
    obtain ⟨f1, f2⟩ := Mf.at_ (Below.refl _ _)
    obtain ⟨g1, g2⟩ := Mg.at_ (Below.refl _ _)
    obtain ⟨v1, v2⟩ := Mv.at_ (Below.refl _ _)
    obtain ⟨u1, u2⟩ := Mu.at_ (Below.refl _ _)
    go_wp2_with fail
    clear m1 m2
    clear f1 f2
    clear g1 g2
    clear v1 v2
    clear u1 u2
    refine (HLT.out _).mono ?_
    rintro e w18 ⟨rfl, b18⟩
    replace Mm := Mm.below b18
    replace Mf := Mf.below b18
    replace Mg := Mg.below b18
    replace Mv := Mv.below b18
    replace Mu := Mu.below b18
    replace BB := BB.trans (b18.mono BB.size)
    clear c0 s1 s2 r1 r2
    have HIC := Lib.hid (IsChance_any s _ n C xs w18 Mm.2 (by omega))
    by_cases hc : chanB s xs = true
    · have hbp := HCH.out hc
      rw [hc] at HIC
      clear hc
      obtain ⟨m1, m2⟩ := Mm.at_ (Below.refl _ _)
      go_wp2_with fail
      clear m1 m2
      refine (HIC.out).mono ?_
      rintro e w19 ⟨rfl, b19⟩
      replace Mm := Mm.below b19
      replace Mf := Mf.below b19
      replace Mg := Mg.below b19
      replace Mv := Mv.below b19
      replace Mu := Mu.below b19
      replace BB := BB.trans (b19.mono BB.size)
      subst hbp
      go_wp2_with fail
      go_ret
      exact ⟨rfl, BB⟩
    · have hc' : chanB s xs = false := by simpa using hc
      rw [hc'] at HIC
      clear hc hc'
      obtain ⟨m1, m2⟩ := Mm.at_ (Below.refl _ _)
      go_wp2_with fail
      clear m1 m2
      refine (HIC.out).mono ?_
      rintro e w19 ⟨rfl, b19⟩
      replace Mm := Mm.below b19
      replace Mf := Mf.below b19
      replace Mg := Mg.below b19
      replace Mv := Mv.below b19
      replace Mu := Mu.below b19
      replace BB := BB.trans (b19.mono BB.size)
      go_wp2_with fail
      go_ret
      exact ⟨rfl, BB⟩
  · skip
    have HB1 := Lib.hid (fun W (h : Row W A n xs) => iBelievedPart_any s x A n C xs W h hn)
    have HP1 := Lib.hid (fun W (h : Row W A n xs) => iPossiblePart_any s x A n C xs W h hn)
    have HI1 := Lib.hid (fun W (h : Row W A n xs) => iImpliedPart_any s x A n C xs W h hn)
    have HB2 := Lib.hid (fun W (h : Row W A n xs) => sBelievedPart_any s x A n C xs W h hn)
    have HP2 := Lib.hid (fun W (h : Row W A n xs) => sPossiblePart_any s x A n C xs W h hn)
    have HI2 := Lib.hid (fun W (h : Row W A n xs) => sImpliedPart_any s x A n C xs W h hn)
    rw [show ∀ v, measure s xs x v = -1 from fun v => if_neg hms] at HB1 HP1 HI1 HB2 HP2 HI2
    clear hms
    have HB1b := Lib.hid (fun W (h : Below w2.heap.size w2 W) => HB1.out W (Mm.2.below h))
    have HP1b := Lib.hid (fun W (h : Below w2.heap.size w2 W) => HP1.out W (Mm.2.below h))
    have HIS : Hid (∀ W, Below w2.heap.size w2 W → Below w2.heap.size w2 W ∧ W.cell? ⟨w1.heap.size, 0, none⟩ = some (.int .i64 s) ∧ W.cell? ⟨w1.heap.size, 1, none⟩ = some (.slice A n C)) := fun W h => ⟨h, (Mm.at_ h).1, (Mm.at_ h).2⟩
    have HKS : Hid (∀ W W', Below W.heap.size W W' → (Below w2.heap.size w2 W ∧ W.cell? ⟨w1.heap.size, 0, none⟩ = some (.int .i64 s) ∧ W.cell? ⟨w1.heap.size, 1, none⟩ = some (.slice A n C)) → Below w2.heap.size w2 W' ∧ W'.cell? ⟨w1.heap.size, 0, none⟩ = some (.int .i64 s) ∧ W'.cell? ⟨w1.heap.size, 1, none⟩ = some (.slice A n C)) := fun W W' b h => HIS.out W' (h.1.trans (b.mono h.1.size))
    have HSS := Lib.hid (HIS.out _ (Below.refl _ _).drew)
    go_wp2_with fail
    go_region_held3 (fun W => Below w2.heap.size w2 W ∧ W.cell? ⟨w1.heap.size, 0, none⟩ = some (.int .i64 s) ∧ W.cell? ⟨w1.heap.size, 1, none⟩ = some (.slice A n C))
      (first | exact HSS.out | assumption | exact HKS.out _ _ (by assumption) (by assumption) | go_keep)
      (first | (go_at_call 36; (first | ((with_reducible refine (HB1b.out _ (And.left (by assumption))).mono ?_); rintro e w9 ⟨rfl, b9⟩))) | (go_at_call 37; (first | ((with_reducible refine (HP1b.out _ (And.left (by assumption))).mono ?_); rintro e w9 ⟨rfl, b9⟩))))
    have b3 : Below w2.heap.size w2 w9 := And.left (by assumption)
    obtain ⟨w3, hw9⟩ : ∃ W, W = w9 := ⟨_, rfl⟩
    rw [← hw9]
    rw [← hw9] at b3
    clear HSS HKS HIS hw9
    replace Mm := Mm.below b3
    replace BB := BB.trans (b3.mono BB.size)
    clear HB1b HP1b
    obtain ⟨m1, m2⟩ := Mm.at_ (Below.refl _ _)
    go_wp2_with fail
    clear m1 m2
    refine (HI1.out _ Mm.2).mono ?_
    rintro e w4 ⟨rfl, b4⟩
    replace Mm := Mm.below b4
    replace BB := BB.trans (b4.mono BB.size)
    obtain ⟨m1, m2⟩ := Mm.at_ (Below.refl _ _)
    go_wp2_with fail
    clear m1 m2
    refine (HB2.out _ Mm.2).mono ?_
    rintro e w5 ⟨rfl, b5⟩
    replace Mm := Mm.below b5
    replace BB := BB.trans (b5.mono BB.size)
    obtain ⟨m1, m2⟩ := Mm.at_ (Below.refl _ _)
    go_wp2_with fail
    clear m1 m2
    refine (HP2.out _ Mm.2).mono ?_
    rintro e w6 ⟨rfl, b6⟩
    replace Mm := Mm.below b6
    replace BB := BB.trans (b6.mono BB.size)
    obtain ⟨m1, m2⟩ := Mm.at_ (Below.refl _ _)
    go_wp2_with fail
    clear m1 m2
    refine (HI2.out _ Mm.2).mono ?_
    rintro e w7 ⟨rfl, b7⟩
    replace Mm := Mm.below b7
    replace BB := BB.trans (b7.mono BB.size)
    obtain ⟨m1, m2⟩ := Mm.at_ (Below.refl _ _)
    go_wp2_with fail
    clear m1 m2
    refine (HB2.out _ Mm.2).mono ?_
    rintro e w8 ⟨rfl, b8⟩
    replace Mm := Mm.below b8
    replace BB := BB.trans (b8.mono BB.size)
    obtain ⟨m1, m2⟩ := Mm.at_ (Below.refl _ _)
    go_wp2_with fail
    clear m1 m2
    refine (HP2.out _ Mm.2).mono ?_
    rintro e w9 ⟨rfl, b9⟩
    replace Mm := Mm.below b9
    replace BB := BB.trans (b9.mono BB.size)
    obtain ⟨m1, m2⟩ := Mm.at_ (Below.refl _ _)
    go_wp2_with fail
    clear m1 m2
    refine (HI2.out _ Mm.2).mono ?_
    rintro e w10 ⟨rfl, b10⟩
    replace Mm := Mm.below b10
    replace BB := BB.trans (b10.mono BB.size)
    go_wp2_with fail
    go_ret
    exact ⟨rfl, BB⟩
end Go.Proofs.Ytffkpmmgfgcngaa
