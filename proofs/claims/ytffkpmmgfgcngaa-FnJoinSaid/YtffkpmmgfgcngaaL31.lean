/- The walk of the law FnJoin. -/
import Derived.Test.YtffkpmmgfgcngaaBase7
import Derived.Test.YtffkpmmgfgcngaaLaw14
import Derived.Test.YtffkpmmgfgcngaaW55
import Derived.Test.YtffkpmmgfgcngaaW56
import Derived.Test.YtffkpmmgfgcngaaW30
import Derived.Test.YtffkpmmgfgcngaaW31
import Derived.Test.YtffkpmmgfgcngaaW32
import Derived.Test.YtffkpmmgfgcngaaW33
import Derived.Test.YtffkpmmgfgcngaaW19
import Derived.Deep.RegionHeld3
import Derived.Deep.QuietTactic
import Derived.BigQuiet
namespace Go.Proofs.Ytffkpmmgfgcngaa
open Go.RowKit

set_option maxHeartbeats 6400000 in
set_option maxRecDepth 100000 in
theorem walkJoin (a : Option Addr) (l c : Nat) (bs : List Int) (w : World) (hr : BRow w a l bs) (hlc : l ≤ c) :
    Calls Try.prog 7 #[.slice a l c] w fun e w' => e = .returned (.bool true) ∧ Below w.heap.size w w' := by
  by_cases hl : 1048576 < (l : Int)
  · clear hr
    go_enter Try.func7, Try.ntmps7
    go_wp2_with fail
    go_ret
    exact ⟨rfl, Below.refl _ _⟩
  have HD := Lib.hid (DrawJoinMasses_any a l c bs w hr (.inl hlc))
  clear hr
  go_enter Try.func7, Try.ntmps7
  go_wp2_with fail
  refine HD.out.mono ?_
  rintro e w1 ⟨s, A, n, C, xs, t, B, m, D, ys, rfl, hn17, hm17, Rm, Rn, b1⟩
  have BB := b1
  have hn : n ≤ 1048576 := by omega
  have hm : m ≤ 1048576 := by omega
  go_upto_region 4 with fail
  obtain ⟨w2, hw2⟩ : ∃ W, W = (w1.alloc (.cells #[.int .i64 s, .slice A n C] 25)).alloc (.cells #[.int .i64 t, .slice B m D] 25) := ⟨_, rfl⟩
  obtain ⟨Mm, Mn, b2⟩ := Mv.new2 Rm Rn hw2
  rw [← hw2]
  clear hw2
  replace BB := BB.trans (b2.mono BB.size)
  cases hr1 : conjR s xs t ys with
  | none =>
    have HR1 := Lib.hid hr1
    clear hr1
    obtain ⟨r, hr⟩ : ∃ r, r = joinR s xs t ys := ⟨_, rfl⟩
    obtain ⟨f, hf⟩ : ∃ f, f = conflR s xs t ys := ⟨_, rfl⟩
    have hrn : rN r ≤ 1048576 := by
      have h := joinR_len (sM := s) (sN := t) (xsM := xs) (xsN := ys) (n := n) (m := m) (by have := Rm.1; omega) (by have := Rn.1; omega)
      rw [← hr] at h
      omega
    obtain ⟨rs, hrs⟩ : ∃ z, z = rS r := ⟨_, rfl⟩
    obtain ⟨rl, hrl⟩ : ∃ z, z = rL r := ⟨_, rfl⟩
    obtain ⟨rn, hrnn⟩ : ∃ z, z = rN r := ⟨_, rfl⟩
    obtain ⟨rb, hrb⟩ : ∃ z, z = rB r := ⟨_, rfl⟩
    obtain ⟨fn, hfn⟩ : ∃ z, z = fN f := ⟨_, rfl⟩
    obtain ⟨fd, hfd⟩ : ∃ z, z = fD f := ⟨_, rfl⟩
    obtain ⟨fb, hfb⟩ : ∃ z, z = fB f := ⟨_, rfl⟩
    have HRR : Hid (∀ (B : Nat) (e : Ending) (w : World), RetM B (joinR s xs t ys) e w → ∃ A C, e = .returned (.tuple #[massV rs A rn C, .bool rb]) ∧ Row w A rn rl) := fun B e w h => by
      rw [← hr] at h
      obtain ⟨A, C, he, ho⟩ := h
      rw [← hrs, ← hrnn, ← hrb] at he
      rw [← hrnn, ← hrl] at ho
      exact ⟨A, C, he, ho.row⟩
    have HFR : Hid (∀ (e : Ending), RetF (conflR s xs t ys) e → e = .returned (.tuple #[fracV fn fd, .bool fb])) := fun e h => by
      rw [← hf] at h
      unfold RetF at h
      rw [← hfn, ← hfd, ← hfb] at h
      exact h
    rw [← hrnn] at hrn
    clear hr hf hrs hrl hrnn hrb hfn hfd hfb
    have HN := Lib.hid (fun W (h : Row W A n xs) (h2 : Row W B m ys) => (iJoinMasses_any s t A B n m C D xs ys W h h2 (by omega) (by omega)).mono (fun e w' h => And.intro (HRR.out _ _ _ h.1) h.2))
    have HN2 := Lib.hid (fun W (h : Row W A n xs) (h2 : Row W B m ys) => (sJoinMasses_any s t A B n m C D xs ys W h h2 (by omega) (by omega)).mono (fun e w' h => And.intro (HRR.out _ _ _ h.1) h.2))
    have HN3 := Lib.hid (fun W (h : Row W A n xs) (h2 : Row W B m ys) => (iConflictOf_any s t A B n m C D xs ys W h h2 (by omega) (by omega)).mono (fun e w' h => And.intro (HFR.out _ h.1) h.2))
    have HN4 := Lib.hid (fun W (h : Row W A n xs) (h2 : Row W B m ys) => (sConflictOf_any s t A B n m C D xs ys W h h2 (by omega) (by omega)).mono (fun e w' h => And.intro (HFR.out _ h.1) h.2))
    obtain ⟨m1, m2⟩ := Mm.at_ (Below.refl _ _)
    obtain ⟨n1, n2⟩ := Mn.at_ (Below.refl _ _)
    go_wp2_with fail
    clear m1 m2
    clear n1 n2
    refine (HN.out _ Mm.2 Mn.2).mono ?_
    rintro e w3 ⟨⟨Ak, Ck, rfl, Rk⟩, b3⟩
    replace Mm := Mm.below b3
    replace Mn := Mn.below b3
    replace BB := BB.trans (b3.mono BB.size)
    go_upto_region 5 with fail
    obtain ⟨w4, hw4⟩ : ∃ W, W = w3.alloc (.cells #[.int .i64 rs, .slice Ak rn Ck] 25) := ⟨_, rfl⟩
    obtain ⟨Mk, b4⟩ := Mv.new Rk hw4
    rw [← hw4]
    clear hw4
    replace Mm := Mm.below b4
    replace Mn := Mn.below b4
    replace BB := BB.trans (b4.mono BB.size)
    obtain ⟨m1, m2⟩ := Mm.at_ (Below.refl _ _)
    obtain ⟨n1, n2⟩ := Mn.at_ (Below.refl _ _)
    go_wp2_with fail
    clear m1 m2
    clear n1 n2
    refine (HN2.out _ Mm.2 Mn.2).mono ?_
    rintro e w5 ⟨⟨Aq, Cq, rfl, Rq⟩, b5⟩
    replace Mm := Mm.below b5
    replace Mn := Mn.below b5
    replace Mk := Mk.below b5
    replace BB := BB.trans (b5.mono BB.size)
    go_upto_region 6 with fail
    obtain ⟨w6, hw6⟩ : ∃ W, W = w5.alloc (.cells #[.int .i64 rs, .slice Aq rn Cq] 25) := ⟨_, rfl⟩
    obtain ⟨Mq, b6⟩ := Mv.new Rq hw6
    rw [← hw6]
    clear hw6
    replace Mm := Mm.below b6
    replace Mn := Mn.below b6
    replace Mk := Mk.below b6
    replace BB := BB.trans (b6.mono BB.size)
    obtain ⟨m1, m2⟩ := Mm.at_ (Below.refl _ _)
    obtain ⟨n1, n2⟩ := Mn.at_ (Below.refl _ _)
    go_wp2_with fail
    clear m1 m2
    clear n1 n2
    refine (HN3.out _ Mm.2 Mn.2).mono ?_
    rintro e w7 ⟨rfl, b7⟩
    replace Mm := Mm.below b7
    replace Mn := Mn.below b7
    replace Mk := Mk.below b7
    replace Mq := Mq.below b7
    replace BB := BB.trans (b7.mono BB.size)
    go_upto_region 7 with fail
    obtain ⟨w8, hw8⟩ : ∃ W, W = w7.alloc (.cells #[.int .i64 fn, .int .i64 fd] 40) := ⟨_, rfl⟩
    obtain ⟨Mf, b8⟩ := Fv.new w7 (fn) (fd) hw8
    rw [← hw8]
    clear hw8
    replace Mm := Mm.below b8
    replace Mn := Mn.below b8
    replace Mk := Mk.below b8
    replace Mq := Mq.below b8
    replace BB := BB.trans (b8.mono BB.size)
    obtain ⟨m1, m2⟩ := Mm.at_ (Below.refl _ _)
    obtain ⟨n1, n2⟩ := Mn.at_ (Below.refl _ _)
    go_wp2_with fail
    clear m1 m2
    clear n1 n2
    refine (HN4.out _ Mm.2 Mn.2).mono ?_
    rintro e w9 ⟨rfl, b9⟩
    replace Mm := Mm.below b9
    replace Mn := Mn.below b9
    replace Mk := Mk.below b9
    replace Mq := Mq.below b9
    replace Mf := Mf.below b9
    replace BB := BB.trans (b9.mono BB.size)
    go_upto_region 8 with fail
    obtain ⟨w10, hw10⟩ : ∃ W, W = w9.alloc (.cells #[.int .i64 fn, .int .i64 fd] 40) := ⟨_, rfl⟩
    obtain ⟨Mv, b10⟩ := Fv.new w9 (fn) (fd) hw10
    rw [← hw10]
    clear hw10
    replace Mm := Mm.below b10
    replace Mn := Mn.below b10
    replace Mk := Mk.below b10
    replace Mq := Mq.below b10
    replace Mf := Mf.below b10
    replace BB := BB.trans (b10.mono BB.size)
    have HE := Lib.hid (weEqual_any rs rs Ak Aq rn Ck rn Cq rl rl w10 Mk.2 Mq.2 (by omega) (by omega))
    rw [eq_self2] at HE
    obtain ⟨k1, k2⟩ := Mk.at_ (Below.refl _ _)
    obtain ⟨q1, q2⟩ := Mq.at_ (Below.refl _ _)
    go_wp2_with fail
    clear k1 k2
    clear q1 q2
    refine (HE.out).mono ?_
    rintro e w11 ⟨rfl, b11⟩
    replace Mm := Mm.below b11
    replace Mn := Mn.below b11
    replace Mk := Mk.below b11
    replace Mq := Mq.below b11
    replace Mf := Mf.below b11
    replace Mv := Mv.below b11
    replace BB := BB.trans (b11.mono BB.size)
    obtain ⟨f1, f2⟩ := Mf.at_ (Below.refl _ _)
    obtain ⟨v1, v2⟩ := Mv.at_ (Below.refl _ _)
    go_upto_region 10 with fail
    clear f1 f2
    clear v1 v2
    clear HN HN2 HN3 HN4 HE Mq Rq Mv
    have HCa := Lib.hid ((iConjoinMasses_any s t A B n m C D xs ys w11 Mm.2 Mn.2 (by omega) (by omega)).mono (fun e w' h => And.intro (RetM.no HR1.out h.1) h.2))
    obtain ⟨m1, m2⟩ := Mm.at_ (Below.refl _ _)
    obtain ⟨n1, n2⟩ := Mn.at_ (Below.refl _ _)
    go_wp2_with fail
    clear m1 m2
    clear n1 n2
    refine (HCa.out).mono ?_
    rintro e w12 ⟨⟨Aa, Ca, rfl, Ra⟩, b12⟩
    replace Mm := Mm.below b12
    replace Mn := Mn.below b12
    replace Mk := Mk.below b12
    replace Mf := Mf.below b12
    replace BB := BB.trans (b12.mono BB.size)
    go_wp2_with fail
    go_ret
    exact ⟨rfl, BB.trans ((Below.refl _ _).alloc (Nat.le_refl _) _ |>.mono BB.size)⟩
  | some p =>
    obtain ⟨t', zs⟩ := p
    obtain ⟨e1, e2, e3, hT⟩ := told_some hr1
    rw [Rm.1] at hT
    have hmn : m = n := by have h1 := Rm.1; have h2 := Rn.1; omega
    obtain rfl : s = t := e1.symm
    obtain rfl : s = t' := e2.symm
    obtain rfl : n = m := hmn.symm
    obtain ⟨p, q, hJ⟩ := joined_some hT
    have HR1 := Lib.hid hr1
    have HLZ := Lib.hid hT.lz
    have HMZ := Lib.hid hT.mass
    have HF := Lib.hid hJ.confl
    have HSH := Lib.hid hJ.share
    have hn2 : 2 ≤ n := by have := hT.nums; omega
    cases hs : normalR s zs with
    | none =>
      have hpq := hJ.none_ hs
      have hj : joinR s xs s ys = none := by rw [hJ.join, hs]
      have hu : joinR s ys s xs = none := by rw [hJ.turn, hs]
      have HS := Lib.hid hs
      have HJ := Lib.hid hj
      have HU := Lib.hid hu
      have hpd : decide (p < q) = false := decide_eq_false hpq
      clear hr1 hT hJ hs hj hu
      have HN := Lib.hid (fun W (h : Row W A n xs) (h2 : Row W B n ys) => (iJoinMasses_any s s A B n n C D xs ys W h h2 (by omega) (by omega)).mono (fun e w' h => And.intro (RetM.no HJ.out h.1) h.2))
      have HN2 := Lib.hid (fun W (h : Row W A n xs) (h2 : Row W B n ys) => (sJoinMasses_any s s A B n n C D xs ys W h h2 (by omega) (by omega)).mono (fun e w' h => And.intro (RetM.no HJ.out h.1) h.2))
      have HN3 := Lib.hid (fun W (h : Row W A n xs) (h2 : Row W B n ys) => (iConflictOf_any s s A B n n C D xs ys W h h2 (by omega) (by omega)).mono (fun e w' h => And.intro (RetF.yes HF.out h.1) h.2))
      have HN4 := Lib.hid (fun W (h : Row W A n xs) (h2 : Row W B n ys) => (sConflictOf_any s s A B n n C D xs ys W h h2 (by omega) (by omega)).mono (fun e w' h => And.intro (RetF.yes HF.out h.1) h.2))
      obtain ⟨m1, m2⟩ := Mm.at_ (Below.refl _ _)
      obtain ⟨n1, n2⟩ := Mn.at_ (Below.refl _ _)
      go_wp2_with fail
      clear m1 m2
      clear n1 n2
      refine (HN.out _ Mm.2 Mn.2).mono ?_
      rintro e w3 ⟨⟨Ak, Ck, rfl, Rk⟩, b3⟩
      replace Mm := Mm.below b3
      replace Mn := Mn.below b3
      replace BB := BB.trans (b3.mono BB.size)
      go_upto_region 5 with fail
      obtain ⟨w4, hw4⟩ : ∃ W, W = w3.alloc (.cells #[.int .i64 0, .slice Ak 0 Ck] 25) := ⟨_, rfl⟩
      obtain ⟨Mk, b4⟩ := Mv.new Rk hw4
      rw [← hw4]
      clear hw4
      replace Mm := Mm.below b4
      replace Mn := Mn.below b4
      replace BB := BB.trans (b4.mono BB.size)
      obtain ⟨m1, m2⟩ := Mm.at_ (Below.refl _ _)
      obtain ⟨n1, n2⟩ := Mn.at_ (Below.refl _ _)
      go_wp2_with fail
      clear m1 m2
      clear n1 n2
      refine (HN2.out _ Mm.2 Mn.2).mono ?_
      rintro e w5 ⟨⟨Aq, Cq, rfl, Rq⟩, b5⟩
      replace Mm := Mm.below b5
      replace Mn := Mn.below b5
      replace Mk := Mk.below b5
      replace BB := BB.trans (b5.mono BB.size)
      go_upto_region 6 with fail
      obtain ⟨w6, hw6⟩ : ∃ W, W = w5.alloc (.cells #[.int .i64 0, .slice Aq 0 Cq] 25) := ⟨_, rfl⟩
      obtain ⟨Mq, b6⟩ := Mv.new Rq hw6
      rw [← hw6]
      clear hw6
      replace Mm := Mm.below b6
      replace Mn := Mn.below b6
      replace Mk := Mk.below b6
      replace BB := BB.trans (b6.mono BB.size)
      obtain ⟨m1, m2⟩ := Mm.at_ (Below.refl _ _)
      obtain ⟨n1, n2⟩ := Mn.at_ (Below.refl _ _)
      go_wp2_with fail
      clear m1 m2
      clear n1 n2
      refine (HN3.out _ Mm.2 Mn.2).mono ?_
      rintro e w7 ⟨rfl, b7⟩
      replace Mm := Mm.below b7
      replace Mn := Mn.below b7
      replace Mk := Mk.below b7
      replace Mq := Mq.below b7
      replace BB := BB.trans (b7.mono BB.size)
      go_upto_region 7 with fail
      obtain ⟨w8, hw8⟩ : ∃ W, W = w7.alloc (.cells #[.int .i64 p, .int .i64 q] 40) := ⟨_, rfl⟩
      obtain ⟨Mf, b8⟩ := Fv.new w7 (p) (q) hw8
      rw [← hw8]
      clear hw8
      replace Mm := Mm.below b8
      replace Mn := Mn.below b8
      replace Mk := Mk.below b8
      replace Mq := Mq.below b8
      replace BB := BB.trans (b8.mono BB.size)
      obtain ⟨m1, m2⟩ := Mm.at_ (Below.refl _ _)
      obtain ⟨n1, n2⟩ := Mn.at_ (Below.refl _ _)
      go_wp2_with fail
      clear m1 m2
      clear n1 n2
      refine (HN4.out _ Mm.2 Mn.2).mono ?_
      rintro e w9 ⟨rfl, b9⟩
      replace Mm := Mm.below b9
      replace Mn := Mn.below b9
      replace Mk := Mk.below b9
      replace Mq := Mq.below b9
      replace Mf := Mf.below b9
      replace BB := BB.trans (b9.mono BB.size)
      go_upto_region 8 with fail
      obtain ⟨w10, hw10⟩ : ∃ W, W = w9.alloc (.cells #[.int .i64 p, .int .i64 q] 40) := ⟨_, rfl⟩
      obtain ⟨Mv, b10⟩ := Fv.new w9 (p) (q) hw10
      rw [← hw10]
      clear hw10
      replace Mm := Mm.below b10
      replace Mn := Mn.below b10
      replace Mk := Mk.below b10
      replace Mq := Mq.below b10
      replace Mf := Mf.below b10
      replace BB := BB.trans (b10.mono BB.size)
      have HE := Lib.hid (weEqual_any 0 0 Ak Aq 0 Ck 0 Cq [] [] w10 Mk.2 Mq.2 (by omega) (by omega))
      rw [eq_self2] at HE
      obtain ⟨k1, k2⟩ := Mk.at_ (Below.refl _ _)
      obtain ⟨q1, q2⟩ := Mq.at_ (Below.refl _ _)
      go_wp2_with fail
      clear k1 k2
      clear q1 q2
      refine (HE.out).mono ?_
      rintro e w11 ⟨rfl, b11⟩
      replace Mm := Mm.below b11
      replace Mn := Mn.below b11
      replace Mk := Mk.below b11
      replace Mq := Mq.below b11
      replace Mf := Mf.below b11
      replace Mv := Mv.below b11
      replace BB := BB.trans (b11.mono BB.size)
      obtain ⟨f1, f2⟩ := Mf.at_ (Below.refl _ _)
      obtain ⟨v1, v2⟩ := Mv.at_ (Below.refl _ _)
      go_upto_region 10 with fail
      clear f1 f2
      clear v1 v2
      clear HN HN2 HN3 HN4 HE Mq Rq Mv
      have HCa := Lib.hid ((iConjoinMasses_any s s A B n n C D xs ys w11 Mm.2 Mn.2 (by omega) (by omega)).mono (fun e w' h => And.intro (RetM.yes HR1.out HLZ.out h.1) h.2))
      obtain ⟨m1, m2⟩ := Mm.at_ (Below.refl _ _)
      obtain ⟨n1, n2⟩ := Mn.at_ (Below.refl _ _)
      go_wp2_with fail
      clear m1 m2
      clear n1 n2
      refine (HCa.out).mono ?_
      rintro e w12 ⟨⟨Aa, Ca, rfl, Ra⟩, b12⟩
      replace Mm := Mm.below b12
      replace Mn := Mn.below b12
      replace Mk := Mk.below b12
      replace Mf := Mf.below b12
      replace BB := BB.trans (b12.mono BB.size)
      go_upto_region 11 with fail
      obtain ⟨w13, hw13⟩ : ∃ W, W = w12.alloc (.cells #[.int .i64 s, .slice Aa n Ca] 25) := ⟨_, rfl⟩
      obtain ⟨Ma, b13⟩ := Mv.new Ra hw13
      rw [← hw13]
      clear hw13
      replace Mm := Mm.below b13
      replace Mn := Mn.below b13
      replace Mk := Mk.below b13
      replace Mf := Mf.below b13
      replace BB := BB.trans (b13.mono BB.size)
      clear HCa
      have HXo := HS
      have HCo := Lib.hid ((iNormalMass_any s Aa n Ca zs w13 Ma.2 (by omega)).mono (fun e w' h => And.intro (RetM.no HXo.out h.1) h.2))
      obtain ⟨a1, a2⟩ := Ma.at_ (Below.refl _ _)
      go_wp2_with fail
      clear a1 a2
      refine (HCo.out).mono ?_
      rintro e w14 ⟨⟨Ao, Co, rfl, Ro⟩, b14⟩
      replace Mm := Mm.below b14
      replace Mn := Mn.below b14
      replace Mk := Mk.below b14
      replace Mf := Mf.below b14
      replace Ma := Ma.below b14
      replace BB := BB.trans (b14.mono BB.size)
      go_upto_region 14 with fail
      obtain ⟨w15, hw15⟩ : ∃ W, W = w14.alloc (.cells #[.int .i64 0, .slice Ao 0 Co] 25) := ⟨_, rfl⟩
      obtain ⟨Mo, b15⟩ := Mv.new Ro hw15
      rw [← hw15]
      clear hw15
      replace Mm := Mm.below b15
      replace Mn := Mn.below b15
      replace Mk := Mk.below b15
      replace Mf := Mf.below b15
      replace Ma := Ma.below b15
      replace BB := BB.trans (b15.mono BB.size)
      clear HCo
      have HCs := Lib.hid ((ShareOf_any s 0 Aa n Ca zs w15 Ma.2 HMZ.out (by omega)).mono (fun e w' h => And.intro (RetF.yes HSH.out h.1) h.2))
      obtain ⟨a1, a2⟩ := Ma.at_ (Below.refl _ _)
      go_wp2_with fail
      clear a1 a2
      refine (HCs.out).mono ?_
      rintro e w16 ⟨rfl, b16⟩
      replace Mm := Mm.below b16
      replace Mn := Mn.below b16
      replace Mk := Mk.below b16
      replace Mf := Mf.below b16
      replace Ma := Ma.below b16
      replace Mo := Mo.below b16
      replace BB := BB.trans (b16.mono BB.size)
      go_upto_region 15 with fail
      obtain ⟨w17, hw17⟩ : ∃ W, W = w16.alloc (.cells #[.int .i64 p, .int .i64 q] 40) := ⟨_, rfl⟩
      obtain ⟨Ms, b17⟩ := Fv.new w16 (p) (q) hw17
      rw [← hw17]
      clear hw17
      replace Mm := Mm.below b17
      replace Mn := Mn.below b17
      replace Mk := Mk.below b17
      replace Mf := Mf.below b17
      replace Ma := Ma.below b17
      replace Mo := Mo.below b17
      replace BB := BB.trans (b17.mono BB.size)
      have HXu := HU
      have HCu := Lib.hid ((iJoinMasses_any s s B A n n D C ys xs w17 Mn.2 Mm.2 (by omega) (by omega)).mono (fun e w' h => And.intro (RetM.no HXu.out h.1) h.2))
      obtain ⟨m1, m2⟩ := Mm.at_ (Below.refl _ _)
      obtain ⟨n1, n2⟩ := Mn.at_ (Below.refl _ _)
      go_wp2_with fail
      clear m1 m2
      clear n1 n2
      refine (HCu.out).mono ?_
      rintro e w18 ⟨⟨Au, Cu, rfl, Ru⟩, b18⟩
      replace Mm := Mm.below b18
      replace Mn := Mn.below b18
      replace Mk := Mk.below b18
      replace Mf := Mf.below b18
      replace Ma := Ma.below b18
      replace Mo := Mo.below b18
      replace Ms := Ms.below b18
      replace BB := BB.trans (b18.mono BB.size)
      go_upto_region 16 with fail
      obtain ⟨w19, hw19⟩ : ∃ W, W = w18.alloc (.cells #[.int .i64 0, .slice Au 0 Cu] 25) := ⟨_, rfl⟩
      obtain ⟨Mu, b19⟩ := Mv.new Ru hw19
      rw [← hw19]
      clear hw19
      replace Mm := Mm.below b19
      replace Mn := Mn.below b19
      replace Mk := Mk.below b19
      replace Mf := Mf.below b19
      replace Ma := Ma.below b19
      replace Mo := Mo.below b19
      replace Ms := Ms.below b19
      replace BB := BB.trans (b19.mono BB.size)
      clear HCu
      have HQok := Lib.hid (weEqual_any 0 0 Ao Ak 0 Co 0 Ck [] [] w19 Mo.2 Mk.2 (by omega) (by omega))
      rw [eq_self2] at HQok
      obtain ⟨o1, o2⟩ := Mo.at_ (Below.refl _ _)
      obtain ⟨k1, k2⟩ := Mk.at_ (Below.refl _ _)
      obtain ⟨f1, f2⟩ := Mf.at_ (Below.refl _ _)
      obtain ⟨s1, s2⟩ := Ms.at_ (Below.refl _ _)
      go_wp2_with fail
      clear o1 o2
      clear k1 k2
      clear f1 f2
      clear s1 s2
      refine (HQok.out).mono ?_
      rintro e w20 ⟨rfl, b20⟩
      replace Mm := Mm.below b20
      replace Mn := Mn.below b20
      replace Mk := Mk.below b20
      replace Mf := Mf.below b20
      replace Ma := Ma.below b20
      replace Mo := Mo.below b20
      replace Ms := Ms.below b20
      replace Mu := Mu.below b20
      replace BB := BB.trans (b20.mono BB.size)
      clear HQok
      have HQuk := Lib.hid (weEqual_any 0 0 Au Ak 0 Cu 0 Ck [] [] w20 Mu.2 Mk.2 (by omega) (by omega))
      rw [eq_self2] at HQuk
      obtain ⟨u1, u2⟩ := Mu.at_ (Below.refl _ _)
      obtain ⟨k1, k2⟩ := Mk.at_ (Below.refl _ _)
      go_wp2_with fail
      clear u1 u2
      clear k1 k2
      refine (HQuk.out).mono ?_
      rintro e w21 ⟨rfl, b21⟩
      replace Mm := Mm.below b21
      replace Mn := Mn.below b21
      replace Mk := Mk.below b21
      replace Mf := Mf.below b21
      replace Ma := Ma.below b21
      replace Mo := Mo.below b21
      replace Ms := Ms.below b21
      replace Mu := Mu.below b21
      replace BB := BB.trans (b21.mono BB.size)
      clear HQuk
      obtain ⟨f1, f2⟩ := Mf.at_ (Below.refl _ _)
      go_wp2_with fail
      go_ret
      exact ⟨rfl, BB⟩
    | some r =>
      obtain ⟨t2, us⟩ := r
      obtain ⟨ht2, hlu, hpq, hnu⟩ := hJ.some_ t2 us hs
      rw [ht2] at hs
      have hj : joinR s xs s ys = some (s, us) := by rw [hJ.join, hs]
      have hu : joinR s ys s xs = some (s, us) := by rw [hJ.turn, hs]
      have HS := Lib.hid hs
      have HJ := Lib.hid hj
      have HU := Lib.hid hu
      have HLU := Lib.hid hlu
      have HNU := Lib.hid hnu
      have hpd : decide (p < q) = true := decide_eq_true hpq
      clear hr1 hT hJ hs hj hu ht2 hlu hnu
      have HN := Lib.hid (fun W (h : Row W A n xs) (h2 : Row W B n ys) => (iJoinMasses_any s s A B n n C D xs ys W h h2 (by omega) (by omega)).mono (fun e w' h => And.intro (RetM.yes HJ.out HLU.out h.1) h.2))
      have HN2 := Lib.hid (fun W (h : Row W A n xs) (h2 : Row W B n ys) => (sJoinMasses_any s s A B n n C D xs ys W h h2 (by omega) (by omega)).mono (fun e w' h => And.intro (RetM.yes HJ.out HLU.out h.1) h.2))
      have HN3 := Lib.hid (fun W (h : Row W A n xs) (h2 : Row W B n ys) => (iConflictOf_any s s A B n n C D xs ys W h h2 (by omega) (by omega)).mono (fun e w' h => And.intro (RetF.yes HF.out h.1) h.2))
      have HN4 := Lib.hid (fun W (h : Row W A n xs) (h2 : Row W B n ys) => (sConflictOf_any s s A B n n C D xs ys W h h2 (by omega) (by omega)).mono (fun e w' h => And.intro (RetF.yes HF.out h.1) h.2))
      obtain ⟨m1, m2⟩ := Mm.at_ (Below.refl _ _)
      obtain ⟨n1, n2⟩ := Mn.at_ (Below.refl _ _)
      go_wp2_with fail
      clear m1 m2
      clear n1 n2
      refine (HN.out _ Mm.2 Mn.2).mono ?_
      rintro e w3 ⟨⟨Ak, Ck, rfl, Rk⟩, b3⟩
      replace Mm := Mm.below b3
      replace Mn := Mn.below b3
      replace BB := BB.trans (b3.mono BB.size)
      go_upto_region 5 with fail
      obtain ⟨w4, hw4⟩ : ∃ W, W = w3.alloc (.cells #[.int .i64 s, .slice Ak n Ck] 25) := ⟨_, rfl⟩
      obtain ⟨Mk, b4⟩ := Mv.new Rk hw4
      rw [← hw4]
      clear hw4
      replace Mm := Mm.below b4
      replace Mn := Mn.below b4
      replace BB := BB.trans (b4.mono BB.size)
      obtain ⟨m1, m2⟩ := Mm.at_ (Below.refl _ _)
      obtain ⟨n1, n2⟩ := Mn.at_ (Below.refl _ _)
      go_wp2_with fail
      clear m1 m2
      clear n1 n2
      refine (HN2.out _ Mm.2 Mn.2).mono ?_
      rintro e w5 ⟨⟨Aq, Cq, rfl, Rq⟩, b5⟩
      replace Mm := Mm.below b5
      replace Mn := Mn.below b5
      replace Mk := Mk.below b5
      replace BB := BB.trans (b5.mono BB.size)
      go_upto_region 6 with fail
      obtain ⟨w6, hw6⟩ : ∃ W, W = w5.alloc (.cells #[.int .i64 s, .slice Aq n Cq] 25) := ⟨_, rfl⟩
      obtain ⟨Mq, b6⟩ := Mv.new Rq hw6
      rw [← hw6]
      clear hw6
      replace Mm := Mm.below b6
      replace Mn := Mn.below b6
      replace Mk := Mk.below b6
      replace BB := BB.trans (b6.mono BB.size)
      obtain ⟨m1, m2⟩ := Mm.at_ (Below.refl _ _)
      obtain ⟨n1, n2⟩ := Mn.at_ (Below.refl _ _)
      go_wp2_with fail
      clear m1 m2
      clear n1 n2
      refine (HN3.out _ Mm.2 Mn.2).mono ?_
      rintro e w7 ⟨rfl, b7⟩
      replace Mm := Mm.below b7
      replace Mn := Mn.below b7
      replace Mk := Mk.below b7
      replace Mq := Mq.below b7
      replace BB := BB.trans (b7.mono BB.size)
      go_upto_region 7 with fail
      obtain ⟨w8, hw8⟩ : ∃ W, W = w7.alloc (.cells #[.int .i64 p, .int .i64 q] 40) := ⟨_, rfl⟩
      obtain ⟨Mf, b8⟩ := Fv.new w7 (p) (q) hw8
      rw [← hw8]
      clear hw8
      replace Mm := Mm.below b8
      replace Mn := Mn.below b8
      replace Mk := Mk.below b8
      replace Mq := Mq.below b8
      replace BB := BB.trans (b8.mono BB.size)
      obtain ⟨m1, m2⟩ := Mm.at_ (Below.refl _ _)
      obtain ⟨n1, n2⟩ := Mn.at_ (Below.refl _ _)
      go_wp2_with fail
      clear m1 m2
      clear n1 n2
      refine (HN4.out _ Mm.2 Mn.2).mono ?_
      rintro e w9 ⟨rfl, b9⟩
      replace Mm := Mm.below b9
      replace Mn := Mn.below b9
      replace Mk := Mk.below b9
      replace Mq := Mq.below b9
      replace Mf := Mf.below b9
      replace BB := BB.trans (b9.mono BB.size)
      go_upto_region 8 with fail
      obtain ⟨w10, hw10⟩ : ∃ W, W = w9.alloc (.cells #[.int .i64 p, .int .i64 q] 40) := ⟨_, rfl⟩
      obtain ⟨Mv, b10⟩ := Fv.new w9 (p) (q) hw10
      rw [← hw10]
      clear hw10
      replace Mm := Mm.below b10
      replace Mn := Mn.below b10
      replace Mk := Mk.below b10
      replace Mq := Mq.below b10
      replace Mf := Mf.below b10
      replace BB := BB.trans (b10.mono BB.size)
      have HE := Lib.hid (weEqual_any s s Ak Aq n Ck n Cq us us w10 Mk.2 Mq.2 (by omega) (by omega))
      rw [eq_self2] at HE
      obtain ⟨k1, k2⟩ := Mk.at_ (Below.refl _ _)
      obtain ⟨q1, q2⟩ := Mq.at_ (Below.refl _ _)
      go_wp2_with fail
      clear k1 k2
      clear q1 q2
      refine (HE.out).mono ?_
      rintro e w11 ⟨rfl, b11⟩
      replace Mm := Mm.below b11
      replace Mn := Mn.below b11
      replace Mk := Mk.below b11
      replace Mq := Mq.below b11
      replace Mf := Mf.below b11
      replace Mv := Mv.below b11
      replace BB := BB.trans (b11.mono BB.size)
      obtain ⟨f1, f2⟩ := Mf.at_ (Below.refl _ _)
      obtain ⟨v1, v2⟩ := Mv.at_ (Below.refl _ _)
      go_upto_region 10 with fail
      clear f1 f2
      clear v1 v2
      clear HN HN2 HN3 HN4 HE Mq Rq Mv
      have HCa := Lib.hid ((iConjoinMasses_any s s A B n n C D xs ys w11 Mm.2 Mn.2 (by omega) (by omega)).mono (fun e w' h => And.intro (RetM.yes HR1.out HLZ.out h.1) h.2))
      obtain ⟨m1, m2⟩ := Mm.at_ (Below.refl _ _)
      obtain ⟨n1, n2⟩ := Mn.at_ (Below.refl _ _)
      go_wp2_with fail
      clear m1 m2
      clear n1 n2
      refine (HCa.out).mono ?_
      rintro e w12 ⟨⟨Aa, Ca, rfl, Ra⟩, b12⟩
      replace Mm := Mm.below b12
      replace Mn := Mn.below b12
      replace Mk := Mk.below b12
      replace Mf := Mf.below b12
      replace BB := BB.trans (b12.mono BB.size)
      go_upto_region 11 with fail
      obtain ⟨w13, hw13⟩ : ∃ W, W = w12.alloc (.cells #[.int .i64 s, .slice Aa n Ca] 25) := ⟨_, rfl⟩
      obtain ⟨Ma, b13⟩ := Mv.new Ra hw13
      rw [← hw13]
      clear hw13
      replace Mm := Mm.below b13
      replace Mn := Mn.below b13
      replace Mk := Mk.below b13
      replace Mf := Mf.below b13
      replace BB := BB.trans (b13.mono BB.size)
      clear HCa
      have HCo := Lib.hid ((iNormalMass_any s Aa n Ca zs w13 Ma.2 (by omega)).mono (fun e w' h => And.intro (RetM.yes HS.out HLU.out h.1) h.2))
      obtain ⟨a1, a2⟩ := Ma.at_ (Below.refl _ _)
      go_wp2_with fail
      clear a1 a2
      refine (HCo.out).mono ?_
      rintro e w14 ⟨⟨Ao, Co, rfl, Ro⟩, b14⟩
      replace Mm := Mm.below b14
      replace Mn := Mn.below b14
      replace Mk := Mk.below b14
      replace Mf := Mf.below b14
      replace Ma := Ma.below b14
      replace BB := BB.trans (b14.mono BB.size)
      go_upto_region 14 with fail
      obtain ⟨w15, hw15⟩ : ∃ W, W = w14.alloc (.cells #[.int .i64 s, .slice Ao n Co] 25) := ⟨_, rfl⟩
      obtain ⟨Mo, b15⟩ := Mv.new Ro hw15
      rw [← hw15]
      clear hw15
      replace Mm := Mm.below b15
      replace Mn := Mn.below b15
      replace Mk := Mk.below b15
      replace Mf := Mf.below b15
      replace Ma := Ma.below b15
      replace BB := BB.trans (b15.mono BB.size)
      clear HCo
      have HCs := Lib.hid ((ShareOf_any s 0 Aa n Ca zs w15 Ma.2 HMZ.out (by omega)).mono (fun e w' h => And.intro (RetF.yes HSH.out h.1) h.2))
      obtain ⟨a1, a2⟩ := Ma.at_ (Below.refl _ _)
      go_wp2_with fail
      clear a1 a2
      refine (HCs.out).mono ?_
      rintro e w16 ⟨rfl, b16⟩
      replace Mm := Mm.below b16
      replace Mn := Mn.below b16
      replace Mk := Mk.below b16
      replace Mf := Mf.below b16
      replace Ma := Ma.below b16
      replace Mo := Mo.below b16
      replace BB := BB.trans (b16.mono BB.size)
      go_upto_region 15 with fail
      obtain ⟨w17, hw17⟩ : ∃ W, W = w16.alloc (.cells #[.int .i64 p, .int .i64 q] 40) := ⟨_, rfl⟩
      obtain ⟨Ms, b17⟩ := Fv.new w16 (p) (q) hw17
      rw [← hw17]
      clear hw17
      replace Mm := Mm.below b17
      replace Mn := Mn.below b17
      replace Mk := Mk.below b17
      replace Mf := Mf.below b17
      replace Ma := Ma.below b17
      replace Mo := Mo.below b17
      replace BB := BB.trans (b17.mono BB.size)
      have HCu := Lib.hid ((iJoinMasses_any s s B A n n D C ys xs w17 Mn.2 Mm.2 (by omega) (by omega)).mono (fun e w' h => And.intro (RetM.yes HU.out HLU.out h.1) h.2))
      obtain ⟨n1, n2⟩ := Mn.at_ (Below.refl _ _)
      obtain ⟨m1, m2⟩ := Mm.at_ (Below.refl _ _)
      go_wp2_with fail
      clear n1 n2
      clear m1 m2
      refine (HCu.out).mono ?_
      rintro e w18 ⟨⟨Au, Cu, rfl, Ru⟩, b18⟩
      replace Mm := Mm.below b18
      replace Mn := Mn.below b18
      replace Mk := Mk.below b18
      replace Mf := Mf.below b18
      replace Ma := Ma.below b18
      replace Mo := Mo.below b18
      replace Ms := Ms.below b18
      replace BB := BB.trans (b18.mono BB.size)
      go_upto_region 16 with fail
      obtain ⟨w19, hw19⟩ : ∃ W, W = w18.alloc (.cells #[.int .i64 s, .slice Au n Cu] 25) := ⟨_, rfl⟩
      obtain ⟨Mu, b19⟩ := Mv.new Ru hw19
      rw [← hw19]
      clear hw19
      replace Mm := Mm.below b19
      replace Mn := Mn.below b19
      replace Mk := Mk.below b19
      replace Mf := Mf.below b19
      replace Ma := Ma.below b19
      replace Mo := Mo.below b19
      replace Ms := Ms.below b19
      replace BB := BB.trans (b19.mono BB.size)
      clear HCu
      have HQok := Lib.hid (weEqual_any s s Ao Ak n Co n Ck us us w19 Mo.2 Mk.2 (by omega) (by omega))
      rw [eq_self2] at HQok
      obtain ⟨o1, o2⟩ := Mo.at_ (Below.refl _ _)
      obtain ⟨k1, k2⟩ := Mk.at_ (Below.refl _ _)
      obtain ⟨f1, f2⟩ := Mf.at_ (Below.refl _ _)
      obtain ⟨s1, s2⟩ := Ms.at_ (Below.refl _ _)
      go_wp2_with fail
      clear o1 o2
      clear k1 k2
      clear f1 f2
      clear s1 s2
      refine (HQok.out).mono ?_
      rintro e w20 ⟨rfl, b20⟩
      replace Mm := Mm.below b20
      replace Mn := Mn.below b20
      replace Mk := Mk.below b20
      replace Mf := Mf.below b20
      replace Ma := Ma.below b20
      replace Mo := Mo.below b20
      replace Ms := Ms.below b20
      replace Mu := Mu.below b20
      replace BB := BB.trans (b20.mono BB.size)
      clear HQok
      have HQuk := Lib.hid (weEqual_any s s Au Ak n Cu n Ck us us w20 Mu.2 Mk.2 (by omega) (by omega))
      rw [eq_self2] at HQuk
      obtain ⟨u1, u2⟩ := Mu.at_ (Below.refl _ _)
      obtain ⟨k1, k2⟩ := Mk.at_ (Below.refl _ _)
      go_wp2_with fail
      clear u1 u2
      clear k1 k2
      refine (HQuk.out).mono ?_
      rintro e w21 ⟨rfl, b21⟩
      replace Mm := Mm.below b21
      replace Mn := Mn.below b21
      replace Mk := Mk.below b21
      replace Mf := Mf.below b21
      replace Ma := Ma.below b21
      replace Mo := Mo.below b21
      replace Ms := Ms.below b21
      replace Mu := Mu.below b21
      replace BB := BB.trans (b21.mono BB.size)
      clear HQuk
      have HIN := Lib.hid (IsNormal_any s Ak n Ck us w21 Mk.2 (by omega))
      rw [HNU.out] at HIN
      obtain ⟨k1, k2⟩ := Mk.at_ (Below.refl _ _)
      obtain ⟨f1, f2⟩ := Mf.at_ (Below.refl _ _)
      go_wp2_with fail
      clear k1 k2
      clear f1 f2
      refine (HIN.out).mono ?_
      rintro e w22 ⟨rfl, b22⟩
      replace Mm := Mm.below b22
      replace Mn := Mn.below b22
      replace Mk := Mk.below b22
      replace Mf := Mf.below b22
      replace Ma := Ma.below b22
      replace Mo := Mo.below b22
      replace Ms := Ms.below b22
      replace Mu := Mu.below b22
      replace BB := BB.trans (b22.mono BB.size)
      go_wp2_with fail
      go_ret
      exact ⟨rfl, BB⟩
end Go.Proofs.Ytffkpmmgfgcngaa
