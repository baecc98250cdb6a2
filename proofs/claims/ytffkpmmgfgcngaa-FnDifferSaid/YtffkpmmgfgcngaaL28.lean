/- The walk of the law FnDiffer. -/
import Derived.Test.YtffkpmmgfgcngaaBase7
import Derived.Test.YtffkpmmgfgcngaaLaw
import Derived.Test.YtffkpmmgfgcngaaW55
import Derived.Test.YtffkpmmgfgcngaaW56
import Derived.Test.YtffkpmmgfgcngaaW31
import Derived.Test.YtffkpmmgfgcngaaW30
import Derived.Test.YtffkpmmgfgcngaaW19
import Derived.Deep.RegionHeld3
import Derived.Deep.QuietTactic
import Derived.BigQuiet
namespace Go.Proofs.Ytffkpmmgfgcngaa
open Go.RowKit

set_option maxHeartbeats 6400000 in
set_option maxRecDepth 100000 in
theorem walkDiffer (a : Option Addr) (l c : Nat) (bs : List Int) (w : World) (hr : BRow w a l bs) (hlc : l ≤ c) :
    Calls Try.prog 5 #[.slice a l c] w fun e w' => e = .returned (.bool true) ∧ Below w.heap.size w w' := by
  by_cases hl : 1048576 < (l : Int)
  · clear hr
    go_enter Try.func5, Try.ntmps5
    go_wp2_with fail
    go_ret
    exact ⟨rfl, Below.refl _ _⟩
  have HD := Lib.hid (DrawDifferMasses_any a l c bs w hr (.inl hlc))
  clear hr
  go_enter Try.func5, Try.ntmps5
  go_wp2_with fail
  refine HD.out.mono ?_
  rintro e w1 ⟨s, A, n, C, xs, t, B, m, D, ys, rfl, hn17, hm17, Rm, Rn, b1⟩
  have BB := b1
  have hn : n ≤ 1048576 := by omega
  have hm : m ≤ 1048576 := by omega
  go_upto_region 4 with fail
  obtain ⟨w2, hw2⟩ : ∃ W, W = (w1.alloc (.cells #[.int .i64 s, .slice A n C] 25)).alloc (.cells #[.int .i64 t, .slice B m D] 25) := ⟨_, rfl⟩
  obtain ⟨Mm, Mn, b2⟩ := Mv.new2 Rm Rn hw2
  rw [← hw2]
  clear hw2
  replace BB := BB.trans (b2.mono BB.size)
  cases hr1 : diffR s xs t ys with
  | none =>
    have HR1 := Lib.hid hr1
    clear hr1
    have HN := Lib.hid (fun W (h : Row W A n xs) (h2 : Row W B m ys) => (iDifferMasses_any s t A B n m C D xs ys W h h2 (by omega) (by omega)).mono (fun e w' h => And.intro (RetM.no HR1.out h.1) h.2))
    have HN2 := Lib.hid (fun W (h : Row W A n xs) (h2 : Row W B m ys) => (sDifferMasses_any s t A B n m C D xs ys W h h2 (by omega) (by omega)).mono (fun e w' h => And.intro (RetM.no HR1.out h.1) h.2))
    obtain ⟨m1, m2⟩ := Mm.at_ (Below.refl _ _)
    obtain ⟨n1, n2⟩ := Mn.at_ (Below.refl _ _)
    go_wp2_with fail
    clear m1 m2
    clear n1 n2
    refine (HN.out _ Mm.2 Mn.2).mono ?_
    rintro e w3 ⟨⟨Ak, Ck, rfl, Rk⟩, b3⟩
    replace Mm := Mm.below b3
    replace Mn := Mn.below b3
    replace BB := BB.trans (b3.mono BB.size)
    go_upto_region 5 with fail
    obtain ⟨w4, hw4⟩ : ∃ W, W = w3.alloc (.cells #[.int .i64 0, .slice Ak 0 Ck] 25) := ⟨_, rfl⟩
    obtain ⟨Mk, b4⟩ := Mv.new Rk hw4
    rw [← hw4]
    clear hw4
    replace Mm := Mm.below b4
    replace Mn := Mn.below b4
    replace BB := BB.trans (b4.mono BB.size)
    obtain ⟨m1, m2⟩ := Mm.at_ (Below.refl _ _)
    obtain ⟨n1, n2⟩ := Mn.at_ (Below.refl _ _)
    go_wp2_with fail
    clear m1 m2
    clear n1 n2
    refine (HN2.out _ Mm.2 Mn.2).mono ?_
    rintro e w5 ⟨⟨Aq, Cq, rfl, Rq⟩, b5⟩
    replace Mm := Mm.below b5
    replace Mn := Mn.below b5
    replace Mk := Mk.below b5
    replace BB := BB.trans (b5.mono BB.size)
    go_upto_region 6 with fail
    obtain ⟨w6, hw6⟩ : ∃ W, W = w5.alloc (.cells #[.int .i64 0, .slice Aq 0 Cq] 25) := ⟨_, rfl⟩
    obtain ⟨Mq, b6⟩ := Mv.new Rq hw6
    rw [← hw6]
    clear hw6
    replace Mm := Mm.below b6
    replace Mn := Mn.below b6
    replace Mk := Mk.below b6
    replace BB := BB.trans (b6.mono BB.size)
    have HE := Lib.hid (weEqual_any 0 0 Ak Aq 0 Ck 0 Cq [] [] w6 Mk.2 Mq.2 (by omega) (by omega))
    rw [eq_self2] at HE
    obtain ⟨k1, k2⟩ := Mk.at_ (Below.refl _ _)
    obtain ⟨q1, q2⟩ := Mq.at_ (Below.refl _ _)
    go_wp2_with fail
    clear k1 k2
    clear q1 q2
    refine (HE.out).mono ?_
    rintro e w7 ⟨rfl, b7⟩
    replace Mm := Mm.below b7
    replace Mn := Mn.below b7
    replace Mk := Mk.below b7
    replace Mq := Mq.below b7
    replace BB := BB.trans (b7.mono BB.size)
    have HE2 := Lib.hid (fun W (h : Row W Ak 0 []) (h2 : Row W Aq 0 []) => weEqual_any 0 0 Ak Aq 0 Ck 0 Cq [] [] W h h2 (by omega) (by omega))
    rw [eq_self2] at HE2
    obtain ⟨k1, k2⟩ := Mk.at_ (Below.refl _ _)
    obtain ⟨q1, q2⟩ := Mq.at_ (Below.refl _ _)
    go_wp2_with fail
    clear k1 k2
    clear q1 q2
    refine (HE2.out _ Mk.2 Mq.2).mono ?_
    rintro e w8 ⟨rfl, b8⟩
    replace Mm := Mm.below b8
    replace Mn := Mn.below b8
    replace Mk := Mk.below b8
    replace Mq := Mq.below b8
    replace BB := BB.trans (b8.mono BB.size)
    go_wp2_with fail
    go_ret
    exact ⟨rfl, BB⟩
  | some p =>
    obtain ⟨t', zs⟩ := p
    obtain ⟨e1, e2, e3, hT⟩ := told_some hr1
    rw [Rm.1] at hT
    have hmn : m = n := by have h1 := Rm.1; have h2 := Rn.1; omega
    obtain rfl : s = t := e1.symm
    obtain rfl : s = t' := e2.symm
    obtain rfl : n = m := hmn.symm
    have hn16 := hT.nums
    have HR1 := Lib.hid hr1
    have HLZ := Lib.hid hT.lz
    have HLX := Lib.hid hT.lx
    have hX : negR s xs = some (s, turned xs) := if_pos hT.mx
    have hZ : negR s zs = some (s, turned zs) := if_pos hT.mass
    have hmx := turned_mass hT.mx
    have hI := massB_is hT.lx hT.mx
    have hY : diffR s (turned xs) s ys = some (s, turned zs) := by
      show toldR _ _ _ _ _ = _
      rw [told_mk hmx hT.my, turned_xor hT.lx hn16]
      exact makeM_turned hT.make
    have hS : diffR s xs s (sureL n 0) = some (s, xs) := hT.same (by omega) (xor_none hT.lx hn16)
    have hU : diffR s ys s xs = some (s, zs) := hT.turn (fun i j => Nat.xor_comm i j)
    have hG : diffR s xs s (sureL n (n - 1)) = some (s, turned xs) := by
      show toldR _ _ _ _ _ = _
      rw [told_mk hT.mx (sure_mass hI.size hI.fit (by omega)), xor_all hT.lx hn16]
      exact makeM_turned (makeM_self hT.mx)
    obtain ⟨tx, htx⟩ : ∃ z, z = turned xs := ⟨_, rfl⟩
    obtain ⟨tz, htz⟩ : ∃ z, z = turned zs := ⟨_, rfl⟩
    have HLTX : Hid (tx.length = n) := by show _ = _; rw [htx, turned_length, hT.lx]
    have HLTZ : Hid (tz.length = n) := by show _ = _; rw [htz, turned_length, hT.lz]
    rw [← htx] at hX hY hG
    rw [← htz] at hZ hY
    have HXX := Lib.hid hX
    have HZZ := Lib.hid hZ
    have HYY := Lib.hid hY
    have HSS := Lib.hid hS
    have HUU := Lib.hid hU
    have HGG := Lib.hid hG
    have HSZ := Lib.hid hI.size
    have HFT := Lib.hid hI.fit
    have hn2 : 2 ≤ n := by omega
    clear hr1 hT hX hZ hmx hI hY hS hU hG htx htz hn16
    have HN := Lib.hid (fun W (h : Row W A n xs) (h2 : Row W B n ys) => (iDifferMasses_any s s A B n n C D xs ys W h h2 (by omega) (by omega)).mono (fun e w' h => And.intro (RetM.yes HR1.out HLZ.out h.1) h.2))
    have HN2 := Lib.hid (fun W (h : Row W A n xs) (h2 : Row W B n ys) => (sDifferMasses_any s s A B n n C D xs ys W h h2 (by omega) (by omega)).mono (fun e w' h => And.intro (RetM.yes HR1.out HLZ.out h.1) h.2))
    obtain ⟨m1, m2⟩ := Mm.at_ (Below.refl _ _)
    obtain ⟨n1, n2⟩ := Mn.at_ (Below.refl _ _)
    go_wp2_with fail
    clear m1 m2
    clear n1 n2
    refine (HN.out _ Mm.2 Mn.2).mono ?_
    rintro e w3 ⟨⟨Ak, Ck, rfl, Rk⟩, b3⟩
    replace Mm := Mm.below b3
    replace Mn := Mn.below b3
    replace BB := BB.trans (b3.mono BB.size)
    go_upto_region 5 with fail
    obtain ⟨w4, hw4⟩ : ∃ W, W = w3.alloc (.cells #[.int .i64 s, .slice Ak n Ck] 25) := ⟨_, rfl⟩
    obtain ⟨Mk, b4⟩ := Mv.new Rk hw4
    rw [← hw4]
    clear hw4
    replace Mm := Mm.below b4
    replace Mn := Mn.below b4
    replace BB := BB.trans (b4.mono BB.size)
    obtain ⟨m1, m2⟩ := Mm.at_ (Below.refl _ _)
    obtain ⟨n1, n2⟩ := Mn.at_ (Below.refl _ _)
    go_wp2_with fail
    clear m1 m2
    clear n1 n2
    refine (HN2.out _ Mm.2 Mn.2).mono ?_
    rintro e w5 ⟨⟨Aq, Cq, rfl, Rq⟩, b5⟩
    replace Mm := Mm.below b5
    replace Mn := Mn.below b5
    replace Mk := Mk.below b5
    replace BB := BB.trans (b5.mono BB.size)
    go_upto_region 6 with fail
    obtain ⟨w6, hw6⟩ : ∃ W, W = w5.alloc (.cells #[.int .i64 s, .slice Aq n Cq] 25) := ⟨_, rfl⟩
    obtain ⟨Mq, b6⟩ := Mv.new Rq hw6
    rw [← hw6]
    clear hw6
    replace Mm := Mm.below b6
    replace Mn := Mn.below b6
    replace Mk := Mk.below b6
    replace BB := BB.trans (b6.mono BB.size)
    have HE := Lib.hid (weEqual_any s s Ak Aq n Ck n Cq zs zs w6 Mk.2 Mq.2 (by omega) (by omega))
    rw [eq_self2] at HE
    obtain ⟨k1, k2⟩ := Mk.at_ (Below.refl _ _)
    obtain ⟨q1, q2⟩ := Mq.at_ (Below.refl _ _)
    go_wp2_with fail
    clear k1 k2
    clear q1 q2
    refine (HE.out).mono ?_
    rintro e w7 ⟨rfl, b7⟩
    replace Mm := Mm.below b7
    replace Mn := Mn.below b7
    replace Mk := Mk.below b7
    replace Mq := Mq.below b7
    replace BB := BB.trans (b7.mono BB.size)
    clear HN HN2 HE Mq Rq
    obtain ⟨k1, k2⟩ := Mk.at_ (Below.refl _ _)
    go_upto_region 8 with fail
    clear k1 k2
    have HCx := Lib.hid ((iNegateMass_any s A n C xs w7 Mm.2 (by omega)).mono (fun e w' h => And.intro (RetM.yes HXX.out HLTX.out h.1) h.2))
    obtain ⟨m1, m2⟩ := Mm.at_ (Below.refl _ _)
    go_wp2_with fail
    clear m1 m2
    refine (HCx.out).mono ?_
    rintro e w8 ⟨⟨Ax, Cx, rfl, Rx⟩, b8⟩
    replace Mm := Mm.below b8
    replace Mn := Mn.below b8
    replace Mk := Mk.below b8
    replace BB := BB.trans (b8.mono BB.size)
    go_upto_region 9 with fail
    obtain ⟨w9, hw9⟩ : ∃ W, W = w8.alloc (.cells #[.int .i64 s, .slice Ax n Cx] 25) := ⟨_, rfl⟩
    obtain ⟨Mx, b9⟩ := Mv.new Rx hw9
    rw [← hw9]
    clear hw9
    replace Mm := Mm.below b9
    replace Mn := Mn.below b9
    replace Mk := Mk.below b9
    replace BB := BB.trans (b9.mono BB.size)
    clear HCx
    have HCy := Lib.hid ((iDifferMasses_any s s Ax B n n Cx D tx ys w9 Mx.2 Mn.2 (by omega) (by omega)).mono (fun e w' h => And.intro (RetM.yes HYY.out HLTZ.out h.1) h.2))
    obtain ⟨x1, x2⟩ := Mx.at_ (Below.refl _ _)
    obtain ⟨n1, n2⟩ := Mn.at_ (Below.refl _ _)
    go_wp2_with fail
    clear x1 x2
    clear n1 n2
    refine (HCy.out).mono ?_
    rintro e w10 ⟨⟨Ay, Cy, rfl, Ry⟩, b10⟩
    replace Mm := Mm.below b10
    replace Mn := Mn.below b10
    replace Mk := Mk.below b10
    replace Mx := Mx.below b10
    replace BB := BB.trans (b10.mono BB.size)
    go_upto_region 10 with fail
    obtain ⟨w11, hw11⟩ : ∃ W, W = w10.alloc (.cells #[.int .i64 s, .slice Ay n Cy] 25) := ⟨_, rfl⟩
    obtain ⟨My, b11⟩ := Mv.new Ry hw11
    rw [← hw11]
    clear hw11
    replace Mm := Mm.below b11
    replace Mn := Mn.below b11
    replace Mk := Mk.below b11
    replace Mx := Mx.below b11
    replace BB := BB.trans (b11.mono BB.size)
    clear HCy
    have HCo := Lib.hid ((iNegateMass_any s Ak n Ck zs w11 Mk.2 (by omega)).mono (fun e w' h => And.intro (RetM.yes HZZ.out HLTZ.out h.1) h.2))
    obtain ⟨k1, k2⟩ := Mk.at_ (Below.refl _ _)
    go_wp2_with fail
    clear k1 k2
    refine (HCo.out).mono ?_
    rintro e w12 ⟨⟨Ao, Co, rfl, Ro⟩, b12⟩
    replace Mm := Mm.below b12
    replace Mn := Mn.below b12
    replace Mk := Mk.below b12
    replace Mx := Mx.below b12
    replace My := My.below b12
    replace BB := BB.trans (b12.mono BB.size)
    go_upto_region 11 with fail
    obtain ⟨w13, hw13⟩ : ∃ W, W = w12.alloc (.cells #[.int .i64 s, .slice Ao n Co] 25) := ⟨_, rfl⟩
    obtain ⟨Mo, b13⟩ := Mv.new Ro hw13
    rw [← hw13]
    clear hw13
    replace Mm := Mm.below b13
    replace Mn := Mn.below b13
    replace Mk := Mk.below b13
    replace Mx := Mx.below b13
    replace My := My.below b13
    replace BB := BB.trans (b13.mono BB.size)
    clear HCo
    have HCz := Lib.hid (SureMass_any s 0 n w13 HSZ.out HFT.out (by omega))
    obtain ⟨m1, m2⟩ := Mm.at_ (Below.refl _ _)
    go_wp2_with fail
    clear m1 m2
    refine (HCz.out).mono ?_
    rintro e w14 ⟨⟨Az, Cz, rfl, Rz⟩, b14⟩
    replace Mm := Mm.below b14
    replace Mn := Mn.below b14
    replace Mk := Mk.below b14
    replace Mx := Mx.below b14
    replace My := My.below b14
    replace Mo := Mo.below b14
    replace BB := BB.trans (b14.mono BB.size)
    go_upto_region 12 with fail
    obtain ⟨w15, hw15⟩ : ∃ W, W = w14.alloc (.cells #[.int .i64 s, .slice Az n Cz] 25) := ⟨_, rfl⟩
    obtain ⟨Mz, b15⟩ := Mv.new Rz hw15
    rw [← hw15]
    clear hw15
    replace Mm := Mm.below b15
    replace Mn := Mn.below b15
    replace Mk := Mk.below b15
    replace Mx := Mx.below b15
    replace My := My.below b15
    replace Mo := Mo.below b15
    replace BB := BB.trans (b15.mono BB.size)
    clear HCz
    have HCp := Lib.hid ((iDifferMasses_any s s A Az n n C Cz xs (sureL n 0) w15 Mm.2 Mz.2 (by omega) (by omega)).mono (fun e w' h => And.intro (RetM.yes HSS.out HLX.out h.1) h.2))
    obtain ⟨m1, m2⟩ := Mm.at_ (Below.refl _ _)
    obtain ⟨z1, z2⟩ := Mz.at_ (Below.refl _ _)
    go_wp2_with fail
    clear m1 m2
    clear z1 z2
    refine (HCp.out).mono ?_
    rintro e w16 ⟨⟨Ap, Cp, rfl, Rp⟩, b16⟩
    replace Mm := Mm.below b16
    replace Mn := Mn.below b16
    replace Mk := Mk.below b16
    replace Mx := Mx.below b16
    replace My := My.below b16
    replace Mo := Mo.below b16
    replace Mz := Mz.below b16
    replace BB := BB.trans (b16.mono BB.size)
    go_upto_region 13 with fail
    obtain ⟨w17, hw17⟩ : ∃ W, W = w16.alloc (.cells #[.int .i64 s, .slice Ap n Cp] 25) := ⟨_, rfl⟩
    obtain ⟨Mp, b17⟩ := Mv.new Rp hw17
    rw [← hw17]
    clear hw17
    replace Mm := Mm.below b17
    replace Mn := Mn.below b17
    replace Mk := Mk.below b17
    replace Mx := Mx.below b17
    replace My := My.below b17
    replace Mo := Mo.below b17
    replace Mz := Mz.below b17
    replace BB := BB.trans (b17.mono BB.size)
    clear HCp
    have HCu := Lib.hid ((iDifferMasses_any s s B A n n D C ys xs w17 Mn.2 Mm.2 (by omega) (by omega)).mono (fun e w' h => And.intro (RetM.yes HUU.out HLZ.out h.1) h.2))
    obtain ⟨n1, n2⟩ := Mn.at_ (Below.refl _ _)
    obtain ⟨m1, m2⟩ := Mm.at_ (Below.refl _ _)
    go_wp2_with fail
    clear n1 n2
    clear m1 m2
    refine (HCu.out).mono ?_
    rintro e w18 ⟨⟨Au, Cu, rfl, Ru⟩, b18⟩
    replace Mm := Mm.below b18
    replace Mn := Mn.below b18
    replace Mk := Mk.below b18
    replace Mx := Mx.below b18
    replace My := My.below b18
    replace Mo := Mo.below b18
    replace Mz := Mz.below b18
    replace Mp := Mp.below b18
    replace BB := BB.trans (b18.mono BB.size)
    go_upto_region 14 with fail
    obtain ⟨w19, hw19⟩ : ∃ W, W = w18.alloc (.cells #[.int .i64 s, .slice Au n Cu] 25) := ⟨_, rfl⟩
    obtain ⟨Mu, b19⟩ := Mv.new Ru hw19
    rw [← hw19]
    clear hw19
    replace Mm := Mm.below b19
    replace Mn := Mn.below b19
    replace Mk := Mk.below b19
    replace Mx := Mx.below b19
    replace My := My.below b19
    replace Mo := Mo.below b19
    replace Mz := Mz.below b19
    replace Mp := Mp.below b19
    replace BB := BB.trans (b19.mono BB.size)
    clear HCu
    have HCe := Lib.hid (NoEvidence_any s n w19 HSZ.out HFT.out (by omega))
    obtain ⟨m1, m2⟩ := Mm.at_ (Below.refl _ _)
    go_wp2_with fail
    clear m1 m2
    refine (HCe.out).mono ?_
    rintro e w20 ⟨⟨Ae, Ce, rfl, Re⟩, b20⟩
    replace Mm := Mm.below b20
    replace Mn := Mn.below b20
    replace Mk := Mk.below b20
    replace Mx := Mx.below b20
    replace My := My.below b20
    replace Mo := Mo.below b20
    replace Mz := Mz.below b20
    replace Mp := Mp.below b20
    replace Mu := Mu.below b20
    replace BB := BB.trans (b20.mono BB.size)
    go_upto_region 15 with fail
    obtain ⟨w21, hw21⟩ : ∃ W, W = w20.alloc (.cells #[.int .i64 s, .slice Ae n Ce] 25) := ⟨_, rfl⟩
    obtain ⟨Me, b21⟩ := Mv.new Re hw21
    rw [← hw21]
    clear hw21
    replace Mm := Mm.below b21
    replace Mn := Mn.below b21
    replace Mk := Mk.below b21
    replace Mx := Mx.below b21
    replace My := My.below b21
    replace Mo := Mo.below b21
    replace Mz := Mz.below b21
    replace Mp := Mp.below b21
    replace Mu := Mu.below b21
    replace BB := BB.trans (b21.mono BB.size)
    clear HCe
    have HCv := Lib.hid ((iDifferMasses_any s s A Ae n n C Ce xs (sureL n (n - 1)) w21 Mm.2 Me.2 (by omega) (by omega)).mono (fun e w' h => And.intro (RetM.yes HGG.out HLTX.out h.1) h.2))
    obtain ⟨m1, m2⟩ := Mm.at_ (Below.refl _ _)
    obtain ⟨e1, e2⟩ := Me.at_ (Below.refl _ _)
    go_wp2_with fail
    clear m1 m2
    clear e1 e2
    refine (HCv.out).mono ?_
    rintro e w22 ⟨⟨Av, Cv, rfl, Rv⟩, b22⟩
    replace Mm := Mm.below b22
    replace Mn := Mn.below b22
    replace Mk := Mk.below b22
    replace Mx := Mx.below b22
    replace My := My.below b22
    replace Mo := Mo.below b22
    replace Mz := Mz.below b22
    replace Mp := Mp.below b22
    replace Mu := Mu.below b22
    replace Me := Me.below b22
    replace BB := BB.trans (b22.mono BB.size)
    go_upto_region 16 with fail
    obtain ⟨w23, hw23⟩ : ∃ W, W = w22.alloc (.cells #[.int .i64 s, .slice Av n Cv] 25) := ⟨_, rfl⟩
    obtain ⟨Mv, b23⟩ := Mv.new Rv hw23
    rw [← hw23]
    clear hw23
    replace Mm := Mm.below b23
    replace Mn := Mn.below b23
    replace Mk := Mk.below b23
    replace Mx := Mx.below b23
    replace My := My.below b23
    replace Mo := Mo.below b23
    replace Mz := Mz.below b23
    replace Mp := Mp.below b23
    replace Mu := Mu.below b23
    replace Me := Me.below b23
    replace BB := BB.trans (b23.mono BB.size)
    clear HCv
    have HQyo := Lib.hid (weEqual_any s s Ay Ao n Cy n Co tz tz w23 My.2 Mo.2 (by omega) (by omega))
    rw [eq_self2] at HQyo
    obtain ⟨y1, y2⟩ := My.at_ (Below.refl _ _)
    obtain ⟨o1, o2⟩ := Mo.at_ (Below.refl _ _)
    go_wp2_with fail
    clear y1 y2
    clear o1 o2
    refine (HQyo.out).mono ?_
    rintro e w24 ⟨rfl, b24⟩
    replace Mm := Mm.below b24
    replace Mn := Mn.below b24
    replace Mk := Mk.below b24
    replace Mx := Mx.below b24
    replace My := My.below b24
    replace Mo := Mo.below b24
    replace Mz := Mz.below b24
    replace Mp := Mp.below b24
    replace Mu := Mu.below b24
    replace Me := Me.below b24
    replace Mv := Mv.below b24
    replace BB := BB.trans (b24.mono BB.size)
    clear HQyo
    have HQpm := Lib.hid (weEqual_any s s Ap A n Cp n C xs xs w24 Mp.2 Mm.2 (by omega) (by omega))
    rw [eq_self2] at HQpm
    obtain ⟨p1, p2⟩ := Mp.at_ (Below.refl _ _)
    obtain ⟨m1, m2⟩ := Mm.at_ (Below.refl _ _)
    go_wp2_with fail
    clear p1 p2
    clear m1 m2
    refine (HQpm.out).mono ?_
    rintro e w25 ⟨rfl, b25⟩
    replace Mm := Mm.below b25
    replace Mn := Mn.below b25
    replace Mk := Mk.below b25
    replace Mx := Mx.below b25
    replace My := My.below b25
    replace Mo := Mo.below b25
    replace Mz := Mz.below b25
    replace Mp := Mp.below b25
    replace Mu := Mu.below b25
    replace Me := Me.below b25
    replace Mv := Mv.below b25
    replace BB := BB.trans (b25.mono BB.size)
    clear HQpm
    have HQuk := Lib.hid (weEqual_any s s Au Ak n Cu n Ck zs zs w25 Mu.2 Mk.2 (by omega) (by omega))
    rw [eq_self2] at HQuk
    obtain ⟨u1, u2⟩ := Mu.at_ (Below.refl _ _)
    obtain ⟨k1, k2⟩ := Mk.at_ (Below.refl _ _)
    go_wp2_with fail
    clear u1 u2
    clear k1 k2
    refine (HQuk.out).mono ?_
    rintro e w26 ⟨rfl, b26⟩
    replace Mm := Mm.below b26
    replace Mn := Mn.below b26
    replace Mk := Mk.below b26
    replace Mx := Mx.below b26
    replace My := My.below b26
    replace Mo := Mo.below b26
    replace Mz := Mz.below b26
    replace Mp := Mp.below b26
    replace Mu := Mu.below b26
    replace Me := Me.below b26
    replace Mv := Mv.below b26
    replace BB := BB.trans (b26.mono BB.size)
    clear HQuk
    have HQvx := Lib.hid (weEqual_any s s Av Ax n Cv n Cx tx tx w26 Mv.2 Mx.2 (by omega) (by omega))
    rw [eq_self2] at HQvx
    obtain ⟨v1, v2⟩ := Mv.at_ (Below.refl _ _)
    obtain ⟨x1, x2⟩ := Mx.at_ (Below.refl _ _)
    go_wp2_with fail
    clear v1 v2
    clear x1 x2
    refine (HQvx.out).mono ?_
    rintro e w27 ⟨rfl, b27⟩
    replace Mm := Mm.below b27
    replace Mn := Mn.below b27
    replace Mk := Mk.below b27
    replace Mx := Mx.below b27
    replace My := My.below b27
    replace Mo := Mo.below b27
    replace Mz := Mz.below b27
    replace Mp := Mp.below b27
    replace Mu := Mu.below b27
    replace Me := Me.below b27
    replace Mv := Mv.below b27
    replace BB := BB.trans (b27.mono BB.size)
    clear HQvx
    go_wp2_with fail
    go_ret
    exact ⟨rfl, BB⟩
end Go.Proofs.Ytffkpmmgfgcngaa
