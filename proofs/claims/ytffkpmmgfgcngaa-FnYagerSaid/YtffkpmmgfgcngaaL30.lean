/- The walk of the law FnYager. -/
import Derived.Test.YtffkpmmgfgcngaaBase7
import Derived.Test.YtffkpmmgfgcngaaLaw14
import Derived.Test.YtffkpmmgfgcngaaW55
import Derived.Test.YtffkpmmgfgcngaaW34
import Derived.Test.YtffkpmmgfgcngaaW32
import Derived.Test.YtffkpmmgfgcngaaW15
import Derived.Deep.RegionHeld3
import Derived.Deep.QuietTactic
import Derived.BigQuiet
namespace Go.Proofs.Ytffkpmmgfgcngaa
open Go.RowKit

set_option maxHeartbeats 6400000 in
set_option maxRecDepth 100000 in
theorem walkYager (a : Option Addr) (l c : Nat) (bs : List Int) (w : World) (hr : BRow w a l bs) (hlc : l ≤ c) :
    Calls Try.prog 6 #[.slice a l c] w fun e w' => e = .returned (.bool true) ∧ Below w.heap.size w w' := by
  by_cases hl : 1048576 < (l : Int)
  · clear hr
    go_enter Try.func6, Try.ntmps6
    go_wp2_with fail
    go_ret
    exact ⟨rfl, Below.refl _ _⟩
  have HD := Lib.hid (DrawYagerMass_any a l c bs w hr (.inl hlc))
  clear hr
  go_enter Try.func6, Try.ntmps6
  go_wp2_with fail
  refine HD.out.mono ?_
  rintro e w1 ⟨s, A, n, C, xs, t, B, m, D, ys, rfl, hn17, hm17, Rm, Rn, b1⟩
  have BB := b1
  have hn : n ≤ 1048576 := by omega
  have hm : m ≤ 1048576 := by omega
  go_upto_region 4 with fail
  obtain ⟨w2, hw2⟩ : ∃ W, W = (w1.alloc (.cells #[.int .i64 s, .slice A n C] 25)).alloc (.cells #[.int .i64 t, .slice B m D] 25) := ⟨_, rfl⟩
  obtain ⟨Mm, Mn, b2⟩ := Mv.new2 Rm Rn hw2
  rw [← hw2]
  clear hw2
  replace BB := BB.trans (b2.mono BB.size)
  cases hr1 : yagerR s xs t ys with
  | none =>
    have HR1 := Lib.hid hr1
    clear hr1
    have HN := Lib.hid (fun W (h : Row W A n xs) (h2 : Row W B m ys) => (iYagerMass_any s t A B n m C D xs ys W h h2 (by omega) (by omega)).mono (fun e w' h => And.intro (RetM.no HR1.out h.1) h.2))
    have HN2 := Lib.hid (fun W (h : Row W A n xs) (h2 : Row W B m ys) => (sYagerMass_any s t A B n m C D xs ys W h h2 (by omega) (by omega)).mono (fun e w' h => And.intro (RetM.no HR1.out h.1) h.2))
    obtain ⟨m1, m2⟩ := Mm.at_ (Below.refl _ _)
    obtain ⟨n1, n2⟩ := Mn.at_ (Below.refl _ _)
    go_wp2_with fail
    clear m1 m2
    clear n1 n2
    refine (HN.out _ Mm.2 Mn.2).mono ?_
    rintro e w3 ⟨⟨Ak, Ck, rfl, Rk⟩, b3⟩
    replace Mm := Mm.below b3
    replace Mn := Mn.below b3
    replace BB := BB.trans (b3.mono BB.size)
    go_upto_region 5 with fail
    obtain ⟨w4, hw4⟩ : ∃ W, W = w3.alloc (.cells #[.int .i64 0, .slice Ak 0 Ck] 25) := ⟨_, rfl⟩
    obtain ⟨Mk, b4⟩ := Mv.new Rk hw4
    rw [← hw4]
    clear hw4
    replace Mm := Mm.below b4
    replace Mn := Mn.below b4
    replace BB := BB.trans (b4.mono BB.size)
    obtain ⟨m1, m2⟩ := Mm.at_ (Below.refl _ _)
    obtain ⟨n1, n2⟩ := Mn.at_ (Below.refl _ _)
    go_wp2_with fail
    clear m1 m2
    clear n1 n2
    refine (HN2.out _ Mm.2 Mn.2).mono ?_
    rintro e w5 ⟨⟨Aq, Cq, rfl, Rq⟩, b5⟩
    replace Mm := Mm.below b5
    replace Mn := Mn.below b5
    replace Mk := Mk.below b5
    replace BB := BB.trans (b5.mono BB.size)
    go_upto_region 6 with fail
    obtain ⟨w6, hw6⟩ : ∃ W, W = w5.alloc (.cells #[.int .i64 0, .slice Aq 0 Cq] 25) := ⟨_, rfl⟩
    obtain ⟨Mq, b6⟩ := Mv.new Rq hw6
    rw [← hw6]
    clear hw6
    replace Mm := Mm.below b6
    replace Mn := Mn.below b6
    replace Mk := Mk.below b6
    replace BB := BB.trans (b6.mono BB.size)
    have HE := Lib.hid (weEqual_any 0 0 Ak Aq 0 Ck 0 Cq [] [] w6 Mk.2 Mq.2 (by omega) (by omega))
    rw [eq_self2] at HE
    obtain ⟨k1, k2⟩ := Mk.at_ (Below.refl _ _)
    obtain ⟨q1, q2⟩ := Mq.at_ (Below.refl _ _)
    go_wp2_with fail
    clear k1 k2
    clear q1 q2
    refine (HE.out).mono ?_
    rintro e w7 ⟨rfl, b7⟩
    replace Mm := Mm.below b7
    replace Mn := Mn.below b7
    replace Mk := Mk.below b7
    replace Mq := Mq.below b7
    replace BB := BB.trans (b7.mono BB.size)
    have HE2 := Lib.hid (fun W (h : Row W Ak 0 []) (h2 : Row W Aq 0 []) => weEqual_any 0 0 Ak Aq 0 Ck 0 Cq [] [] W h h2 (by omega) (by omega))
    rw [eq_self2] at HE2
    obtain ⟨k1, k2⟩ := Mk.at_ (Below.refl _ _)
    obtain ⟨q1, q2⟩ := Mq.at_ (Below.refl _ _)
    go_wp2_with fail
    clear k1 k2
    clear q1 q2
    refine (HE2.out _ Mk.2 Mq.2).mono ?_
    rintro e w8 ⟨rfl, b8⟩
    replace Mm := Mm.below b8
    replace Mn := Mn.below b8
    replace Mk := Mk.below b8
    replace Mq := Mq.below b8
    replace BB := BB.trans (b8.mono BB.size)
    go_wp2_with fail
    go_ret
    exact ⟨rfl, BB⟩
  | some p =>
    obtain ⟨t', zs⟩ := p
    obtain ⟨e1, e2, e3, hT⟩ := yager_some hr1
    rw [Rm.1] at hT
    have hmn : m = n := by have h1 := Rm.1; have h2 := Rn.1; omega
    obtain rfl : s = t := e1.symm
    obtain rfl : s = t' := e2.symm
    obtain rfl : n = m := hmn.symm
    have hn16 := hT.nums
    have HR1 := Lib.hid hr1
    have HLZ := Lib.hid hT.lz
    have HMZ := Lib.hid hT.mass
    have HNZ := Lib.hid hT.norm
    have HTU := Lib.hid hT.turn
    have HT := Lib.hid hT
    have hI := massB_is hT.lx hT.mx
    have HFT := Lib.hid hI.fit
    have hn2 : 2 ≤ n := by omega
    clear hr1 hT hI hn16
    have HN := Lib.hid (fun W (h : Row W A n xs) (h2 : Row W B n ys) => (iYagerMass_any s s A B n n C D xs ys W h h2 (by omega) (by omega)).mono (fun e w' h => And.intro (RetM.yes HR1.out HLZ.out h.1) h.2))
    have HN2 := Lib.hid (fun W (h : Row W A n xs) (h2 : Row W B n ys) => (sYagerMass_any s s A B n n C D xs ys W h h2 (by omega) (by omega)).mono (fun e w' h => And.intro (RetM.yes HR1.out HLZ.out h.1) h.2))
    obtain ⟨m1, m2⟩ := Mm.at_ (Below.refl _ _)
    obtain ⟨n1, n2⟩ := Mn.at_ (Below.refl _ _)
    go_wp2_with fail
    clear m1 m2
    clear n1 n2
    refine (HN.out _ Mm.2 Mn.2).mono ?_
    rintro e w3 ⟨⟨Ak, Ck, rfl, Rk⟩, b3⟩
    replace Mm := Mm.below b3
    replace Mn := Mn.below b3
    replace BB := BB.trans (b3.mono BB.size)
    go_upto_region 5 with fail
    obtain ⟨w4, hw4⟩ : ∃ W, W = w3.alloc (.cells #[.int .i64 s, .slice Ak n Ck] 25) := ⟨_, rfl⟩
    obtain ⟨Mk, b4⟩ := Mv.new Rk hw4
    rw [← hw4]
    clear hw4
    replace Mm := Mm.below b4
    replace Mn := Mn.below b4
    replace BB := BB.trans (b4.mono BB.size)
    obtain ⟨m1, m2⟩ := Mm.at_ (Below.refl _ _)
    obtain ⟨n1, n2⟩ := Mn.at_ (Below.refl _ _)
    go_wp2_with fail
    clear m1 m2
    clear n1 n2
    refine (HN2.out _ Mm.2 Mn.2).mono ?_
    rintro e w5 ⟨⟨Aq, Cq, rfl, Rq⟩, b5⟩
    replace Mm := Mm.below b5
    replace Mn := Mn.below b5
    replace Mk := Mk.below b5
    replace BB := BB.trans (b5.mono BB.size)
    go_upto_region 6 with fail
    obtain ⟨w6, hw6⟩ : ∃ W, W = w5.alloc (.cells #[.int .i64 s, .slice Aq n Cq] 25) := ⟨_, rfl⟩
    obtain ⟨Mq, b6⟩ := Mv.new Rq hw6
    rw [← hw6]
    clear hw6
    replace Mm := Mm.below b6
    replace Mn := Mn.below b6
    replace Mk := Mk.below b6
    replace BB := BB.trans (b6.mono BB.size)
    have HE := Lib.hid (weEqual_any s s Ak Aq n Ck n Cq zs zs w6 Mk.2 Mq.2 (by omega) (by omega))
    rw [eq_self2] at HE
    obtain ⟨k1, k2⟩ := Mk.at_ (Below.refl _ _)
    obtain ⟨q1, q2⟩ := Mq.at_ (Below.refl _ _)
    go_wp2_with fail
    clear k1 k2
    clear q1 q2
    refine (HE.out).mono ?_
    rintro e w7 ⟨rfl, b7⟩
    replace Mm := Mm.below b7
    replace Mn := Mn.below b7
    replace Mk := Mk.below b7
    replace Mq := Mq.below b7
    replace BB := BB.trans (b7.mono BB.size)
    clear HN HN2 HE Mq Rq
    obtain ⟨k1, k2⟩ := Mk.at_ (Below.refl _ _)
    go_upto_region 8 with fail
    clear k1 k2
    cases hj : joinR s xs s ys with
    | none =>
      have HJ := Lib.hid hj
      clear hj
      have HCj := Lib.hid ((iJoinMasses_any s s A B n n C D xs ys w7 Mm.2 Mn.2 (by omega) (by omega)).mono (fun e w' h => And.intro (RetM.no HJ.out h.1) h.2))
      obtain ⟨m1, m2⟩ := Mm.at_ (Below.refl _ _)
      obtain ⟨n1, n2⟩ := Mn.at_ (Below.refl _ _)
      go_wp2_with fail
      clear m1 m2
      clear n1 n2
      refine (HCj.out).mono ?_
      rintro e w8 ⟨⟨Aj, Cj, rfl, Rj⟩, b8⟩
      replace Mm := Mm.below b8
      replace Mn := Mn.below b8
      replace Mk := Mk.below b8
      replace BB := BB.trans (b8.mono BB.size)
      go_upto_region 9 with fail
      obtain ⟨w9, hw9⟩ : ∃ W, W = w8.alloc (.cells #[.int .i64 0, .slice Aj 0 Cj] 25) := ⟨_, rfl⟩
      obtain ⟨Mj, b9⟩ := Mv.new Rj hw9
      rw [← hw9]
      clear hw9
      replace Mm := Mm.below b9
      replace Mn := Mn.below b9
      replace Mk := Mk.below b9
      replace BB := BB.trans (b9.mono BB.size)
      have HIN := Lib.hid (IsNormal_any s Ak n Ck zs w9 Mk.2 (by omega))
      rw [HNZ.out] at HIN
      obtain ⟨k1, k2⟩ := Mk.at_ (Below.refl _ _)
      go_wp2_with fail
      clear k1 k2
      refine (HIN.out).mono ?_
      rintro e w10 ⟨rfl, b10⟩
      replace Mm := Mm.below b10
      replace Mn := Mn.below b10
      replace Mk := Mk.below b10
      replace Mj := Mj.below b10
      replace BB := BB.trans (b10.mono BB.size)
      go_wp2_with fail
      go_ret
      exact ⟨rfl, BB⟩
    | some p =>
      obtain ⟨t2, us⟩ := p
      obtain ⟨ht2, hJ⟩ := yager_join HT.out hj
      have hjs : joinR s xs s ys = some (s, us) := by rw [hj, ht2]
      have HJS := Lib.hid hjs
      have HLU := Lib.hid hJ.lu
      have HMU := Lib.hid hJ.mu
      have HJ := Lib.hid hJ
      clear hj ht2 hJ hjs
      have HCj := Lib.hid ((iJoinMasses_any s s A B n n C D xs ys w7 Mm.2 Mn.2 (by omega) (by omega)).mono (fun e w' h => And.intro (RetM.yes HJS.out HLU.out h.1) h.2))
      obtain ⟨m1, m2⟩ := Mm.at_ (Below.refl _ _)
      obtain ⟨n1, n2⟩ := Mn.at_ (Below.refl _ _)
      go_wp2_with fail
      clear m1 m2
      clear n1 n2
      refine (HCj.out).mono ?_
      rintro e w8 ⟨⟨Aj, Cj, rfl, Rj⟩, b8⟩
      replace Mm := Mm.below b8
      replace Mn := Mn.below b8
      replace Mk := Mk.below b8
      replace BB := BB.trans (b8.mono BB.size)
      go_upto_region 9 with fail
      obtain ⟨w9, hw9⟩ : ∃ W, W = w8.alloc (.cells #[.int .i64 s, .slice Aj n Cj] 25) := ⟨_, rfl⟩
      obtain ⟨Mj, b9⟩ := Mv.new Rj hw9
      rw [← hw9]
      clear hw9
      replace Mm := Mm.below b9
      replace Mn := Mn.below b9
      replace Mk := Mk.below b9
      replace BB := BB.trans (b9.mono BB.size)
      clear HCj
      have Hm := Lib.hid Mm
      have Hn := Lib.hid Mn
      have Hk := Lib.hid Mk
      have Hj := Lib.hid Mj
      have HBB := Lib.hid BB
      clear BB Mm Mn Mk Mj
      have HSM := Lib.hid (fun (x : Nat) (hx : x < n) => set_mk HFT.out hx)
      have HIS : Hid (∀ W, Below w9.heap.size w9 W → Below w9.heap.size w9 W ∧ W.cell? ⟨w3.heap.size, 0, none⟩ = some (.int .i64 s) ∧ W.cell? ⟨w3.heap.size, 1, none⟩ = some (.slice Ak n Ck) ∧ W.cell? ⟨w8.heap.size, 0, none⟩ = some (.int .i64 s) ∧ W.cell? ⟨w8.heap.size, 1, none⟩ = some (.slice Aj n Cj)) := fun W h => ⟨h, (Hk.out.at_ h).1, (Hk.out.at_ h).2, (Hj.out.at_ h).1, (Hj.out.at_ h).2⟩
      have HKS : Hid (∀ W W', Below W.heap.size W W' → (Below w9.heap.size w9 W ∧ W.cell? ⟨w3.heap.size, 0, none⟩ = some (.int .i64 s) ∧ W.cell? ⟨w3.heap.size, 1, none⟩ = some (.slice Ak n Ck) ∧ W.cell? ⟨w8.heap.size, 0, none⟩ = some (.int .i64 s) ∧ W.cell? ⟨w8.heap.size, 1, none⟩ = some (.slice Aj n Cj)) → Below w9.heap.size w9 W' ∧ W'.cell? ⟨w3.heap.size, 0, none⟩ = some (.int .i64 s) ∧ W'.cell? ⟨w3.heap.size, 1, none⟩ = some (.slice Ak n Ck) ∧ W'.cell? ⟨w8.heap.size, 0, none⟩ = some (.int .i64 s) ∧ W'.cell? ⟨w8.heap.size, 1, none⟩ = some (.slice Aj n Cj)) := fun W W' b h => HIS.out W' (h.1.trans (b.mono h.1.size))
      obtain ⟨m1, m2⟩ := Hm.out.at_ (Below.refl _ _)
      go_wp2_with fail
      clear m1 m2
      go_loopw [11] (fun v wr => ∃ i : Nat, i ≤ n ∧ v = .int .i64 i ∧ Hid (Below w9.heap.size w9 wr)) (fun v _ => n - (intOf v).toNat)
      case atStart => exact ⟨0, Nat.zero_le _, rfl, Lib.hid (Below.refl _ _)⟩
      case round =>
        obtain ⟨i, hi, rfl, HB⟩ := hrel
        obtain ⟨m1, m2⟩ := Hm.out.at_ HB.out
        by_cases hlt : i < n
        · have q1 := HJ.out.bel i hlt
          have q2 : partOf (fun x => meetB i x) us * sumL zs ≤ partOf (fun x => meetB i x) zs * sumL us := by
            rcases Nat.eq_zero_or_pos i with e | e
            · subst e
              have e0 : ∀ ls : List Int, partOf (fun x => meetB 0 x) ls = 0 := fun ls => by
                unfold partOf
                rw [sumTo_congr (g := fun _ => 0) _ (fun k _ => partF_no (pr := fun x => meetB 0 x) (by simp [meetB])), sumTo_zero]
              rw [e0, e0]
              simp
            · exact HJ.out.pos i e hlt
          have HBk := Lib.hid (fun W (h : Below w9.heap.size w9 W) => iBelievedPart_any s (i : Nat) Ak n Ck zs W (Hk.out.2.below h) hn)
          rw [measure_yes HMZ.out (HSM.out i hlt), Int.toNat_natCast] at HBk
          have HPk := Lib.hid (fun W (h : Below w9.heap.size w9 W) => iPossiblePart_any s (i : Nat) Ak n Ck zs W (Hk.out.2.below h) hn)
          rw [measure_yes HMZ.out (HSM.out i hlt), Int.toNat_natCast] at HPk
          have HWk := Lib.hid (fun W (h : Below w9.heap.size w9 W) => WholeOf_any s Ak n Ck zs W (Hk.out.2.below h) hn)
          rw [wholeR_yes HMZ.out] at HWk
          have bbk := part_mass (pr := fun y => subB y i) HMZ.out
          have bpk := part_mass (pr := fun x => meetB i x) HMZ.out
          have bwk := (massB_is rfl HMZ.out).whole
          have b0k := (massB_is rfl HMZ.out).part 0 (by have := (massB_is rfl HMZ.out).nums; omega)
          obtain ⟨ek, hek⟩ : ∃ v, v = partOf (fun y => subB y i) zs - zs.getD 0 0 := ⟨_, rfl⟩
          rw [← hek] at HBk q1
          replace bbk : -1000000 ≤ ek ∧ ek ≤ 1000000 := by omega
          obtain ⟨pk, hpk⟩ : ∃ v, v = partOf (fun x => meetB i x) zs := ⟨_, rfl⟩
          obtain ⟨wk, hwk⟩ : ∃ v, v = sumL zs := ⟨_, rfl⟩
          rw [← hpk] at HPk bpk q2
          rw [← hwk] at HWk bwk q1 q2
          clear hek hpk hwk b0k
          have HBj := Lib.hid (fun W (h : Below w9.heap.size w9 W) => iBelievedPart_any s (i : Nat) Aj n Cj us W (Hj.out.2.below h) hn)
          rw [measure_yes HMU.out (HSM.out i hlt), Int.toNat_natCast] at HBj
          have HPj := Lib.hid (fun W (h : Below w9.heap.size w9 W) => iPossiblePart_any s (i : Nat) Aj n Cj us W (Hj.out.2.below h) hn)
          rw [measure_yes HMU.out (HSM.out i hlt), Int.toNat_natCast] at HPj
          have HWj := Lib.hid (fun W (h : Below w9.heap.size w9 W) => WholeOf_any s Aj n Cj us W (Hj.out.2.below h) hn)
          rw [wholeR_yes HMU.out] at HWj
          have bbj := part_mass (pr := fun y => subB y i) HMU.out
          have bpj := part_mass (pr := fun x => meetB i x) HMU.out
          have bwj := (massB_is rfl HMU.out).whole
          have b0j := (massB_is rfl HMU.out).part 0 (by have := (massB_is rfl HMU.out).nums; omega)
          obtain ⟨ej, hej⟩ : ∃ v, v = partOf (fun y => subB y i) us - us.getD 0 0 := ⟨_, rfl⟩
          rw [← hej] at HBj q1
          replace bbj : -1000000 ≤ ej ∧ ej ≤ 1000000 := by omega
          obtain ⟨pj, hpj⟩ : ∃ v, v = partOf (fun x => meetB i x) us := ⟨_, rfl⟩
          obtain ⟨wj, hwj⟩ : ∃ v, v = sumL us := ⟨_, rfl⟩
          rw [← hpj] at HPj bpj q2
          rw [← hwj] at HWj bwj q1 q2
          clear hej hpj hwj b0j
          have c1 := prod_within (a := ek) (b := wj) (by omega) (by omega)
          have c2 := prod_within (a := ej) (b := wk) (by omega) (by omega)
          have c3 := prod_within (a := pk) (b := wj) (by omega) (by omega)
          have c4 := prod_within (a := pj) (b := wk) (by omega) (by omega)
          obtain ⟨u1, hu1⟩ : ∃ v, v = ek * wj := ⟨_, rfl⟩
          obtain ⟨u2, hu2⟩ : ∃ v, v = ej * wk := ⟨_, rfl⟩
          obtain ⟨u3, hu3⟩ : ∃ v, v = pk * wj := ⟨_, rfl⟩
          obtain ⟨u4, hu4⟩ : ∃ v, v = pj * wk := ⟨_, rfl⟩
          rw [← hu1] at c1 q1
          rw [← hu2] at c2 q1
          rw [← hu3] at c3 q2
          rw [← hu4] at c4 q2
          have d1 : IntKind.i64.wrap (ek * wj) = u1 := by rw [← hu1]; exact IntWalk.i64_in _ (by omega)
          have d2 : IntKind.i64.wrap (ej * wk) = u2 := by rw [← hu2]; exact IntWalk.i64_in _ (by omega)
          have d3 : IntKind.i64.wrap (pk * wj) = u3 := by rw [← hu3]; exact IntWalk.i64_in _ (by omega)
          have d4 : IntKind.i64.wrap (pj * wk) = u4 := by rw [← hu4]; exact IntWalk.i64_in _ (by omega)
          have n1 : decide (u2 < u1) = false := decide_eq_false (by omega)
          have n2 : decide (u3 < u4) = false := decide_eq_false (by omega)
          clear hu1 hu2 hu3 hu4 c1 c2 c3 c4 q1 q2 bbk bbj bpk bpj bwk bwj
          go_wp2_with fail
          clear m1 m2
          have HS0 := Lib.hid (HIS.out _ (HB.out.drew))
          go_wp2_with fail
          refine wp_region_held_drew (S := fun W => Below w9.heap.size w9 W ∧ W.cell? ⟨w3.heap.size, 0, none⟩ = some (.int .i64 s) ∧ W.cell? ⟨w3.heap.size, 1, none⟩ = some (.slice Ak n Ck) ∧ W.cell? ⟨w8.heap.size, 0, none⟩ = some (.int .i64 s) ∧ W.cell? ⟨w8.heap.size, 1, none⟩ = some (.slice Aj n Cj)) (by kernel_rfl) ?_ (fun hHeld => ?_)
          · exact HS0.out
          refine wpAnyH_take (i := 0) (oi := { dst := some 74, op := Op.load 25 (Operand.tmp 5), type := 25, pos := "laws.go:833", after := #[], guard := none }) (v := ?_) rfl (by kernel_rfl) (by kernel_rfl) (by kernel_rfl) (fun _ _ _ h => h) (Or.inl ⟨by rfl, ?_⟩) (by assumption) ?_
          rotate_left
          · intro w hSw
            (try dsimp only at hSw)
            go_simp
            (try with_reducible rfl)
          (try simp only [Act.put, List.setIfInBounds_toArray, List.set_cons_zero, List.set_cons_succ])
          refine wpAnyH_take (i := 1) (oi := { dst := some 75, op := Op.move (Operand.tmp 11), type := 3, pos := "laws.go:833", after := #[], guard := none }) (v := ?_) rfl (by kernel_rfl) (by kernel_rfl) (by kernel_rfl) (fun _ _ _ h => h) (Or.inl ⟨by rfl, ?_⟩) (by assumption) ?_
          rotate_left
          · intro w hSw
            (try dsimp only at hSw)
            go_simp
            (try with_reducible rfl)
          (try simp only [Act.put, List.setIfInBounds_toArray, List.set_cons_zero, List.set_cons_succ])
          refine wpAnyH_take (i := 3) (oi := { dst := some 77, op := Op.load 25 (Operand.tmp 9), type := 25, pos := "laws.go:833", after := #[], guard := none }) (v := ?_) rfl (by kernel_rfl) (by kernel_rfl) (by kernel_rfl) (fun _ _ _ h => h) (Or.inl ⟨by rfl, ?_⟩) (by assumption) ?_
          rotate_left
          · intro w hSw
            (try dsimp only at hSw)
            go_simp
            (try with_reducible rfl)
          (try simp only [Act.put, List.setIfInBounds_toArray, List.set_cons_zero, List.set_cons_succ])
          refine wpAnyH_take (i := 6) (oi := { dst := some 80, op := Op.load 25 (Operand.tmp 9), type := 25, pos := "laws.go:833", after := #[], guard := none }) (v := ?_) rfl (by kernel_rfl) (by kernel_rfl) (by kernel_rfl) (fun _ _ _ h => h) (Or.inl ⟨by rfl, ?_⟩) (by assumption) ?_
          rotate_left
          · intro w hSw
            (try dsimp only at hSw)
            go_simp
            (try with_reducible rfl)
          (try simp only [Act.put, List.setIfInBounds_toArray, List.set_cons_zero, List.set_cons_succ])
          refine wpAnyH_take (i := 7) (oi := { dst := some 81, op := Op.move (Operand.tmp 11), type := 3, pos := "laws.go:833", after := #[], guard := none }) (v := ?_) rfl (by kernel_rfl) (by kernel_rfl) (by kernel_rfl) (fun _ _ _ h => h) (Or.inl ⟨by rfl, ?_⟩) (by assumption) ?_
          rotate_left
          · intro w hSw
            (try dsimp only at hSw)
            go_simp
            (try with_reducible rfl)
          (try simp only [Act.put, List.setIfInBounds_toArray, List.set_cons_zero, List.set_cons_succ])
          refine wpAnyH_take (i := 9) (oi := { dst := some 83, op := Op.load 25 (Operand.tmp 5), type := 25, pos := "laws.go:833", after := #[], guard := none }) (v := ?_) rfl (by kernel_rfl) (by kernel_rfl) (by kernel_rfl) (fun _ _ _ h => h) (Or.inl ⟨by rfl, ?_⟩) (by assumption) ?_
          rotate_left
          · intro w hSw
            (try dsimp only at hSw)
            go_simp
            (try with_reducible rfl)
          (try simp only [Act.put, List.setIfInBounds_toArray, List.set_cons_zero, List.set_cons_succ])
          refine wpAnyH_ready (rs := [2]) (by kernel_rfl) (by simp) ?_
          refine AllReadyH.cons (o := { dst := some 76, op := Op.call { callee := Callee.value (Operand.func 36), args := #[Operand.tmp 74, Operand.tmp 75], argTypes := #[25, 3] }, type := 3, pos := "laws.go:833", after := #[{ on := 0, ground := Ground.data }, { on := 1, ground := Ground.data }], guard := none }) rfl (fun K hK => ?_) AllReadyH.nil
          go_simp
          go_at_call 36
          refine (HBk.out _ (And.left (by assumption))).mono ?_
          rintro e w9 ⟨rfl, b9⟩
          go_simp
          refine hK.out _ _ ?_ (fun hHeld => ?_)
          · first | assumption | exact HKS.out _ _ (by assumption) (by assumption)
          clear hK K
          (try simp only [Act.put, List.setIfInBounds_toArray, List.set_cons_zero, List.set_cons_succ])
          refine wpAnyH_ready (rs := [4]) (by kernel_rfl) (by simp) ?_
          refine AllReadyH.cons (o := { dst := some 78, op := Op.call { callee := Callee.value (Operand.func 20), args := #[Operand.tmp 77], argTypes := #[25] }, type := 3, pos := "laws.go:833", after := #[{ on := 3, ground := Ground.data }, { on := 2, ground := Ground.chain }], guard := none }) rfl (fun K hK => ?_) AllReadyH.nil
          go_simp
          go_at_call 20
          refine (HWj.out _ (And.left (by assumption))).mono ?_
          rintro e w9 ⟨rfl, b9⟩
          go_simp
          refine hK.out _ _ ?_ (fun hHeld => ?_)
          · first | assumption | exact HKS.out _ _ (by assumption) (by assumption)
          clear hK K
          (try simp only [Act.put, List.setIfInBounds_toArray, List.set_cons_zero, List.set_cons_succ])
          refine wpAnyH_take (i := 5) (oi := { dst := some 79, op := Op.binOp BinOp.mul 3 (Operand.tmp 76) (Operand.tmp 78) 3, type := 3, pos := "laws.go:833", after := #[{ on := 2, ground := Ground.data }, { on := 4, ground := Ground.data }], guard := none }) (v := ?_) rfl (by kernel_rfl) (by kernel_rfl) (by kernel_rfl) (fun _ _ _ h => h) (Or.inl ⟨by rfl, ?_⟩) (by assumption) ?_
          rotate_left
          · intro w hSw
            (try dsimp only at hSw)
            go_simp
            (try with_reducible rfl)
          (try simp only [Act.put, List.setIfInBounds_toArray, List.set_cons_zero, List.set_cons_succ])
          refine wpAnyH_ready (rs := [8]) (by kernel_rfl) (by simp) ?_
          refine AllReadyH.cons (o := { dst := some 82, op := Op.call { callee := Callee.value (Operand.func 36), args := #[Operand.tmp 80, Operand.tmp 81], argTypes := #[25, 3] }, type := 3, pos := "laws.go:833", after := #[{ on := 6, ground := Ground.data }, { on := 7, ground := Ground.data }, { on := 4, ground := Ground.chain }], guard := none }) rfl (fun K hK => ?_) AllReadyH.nil
          go_simp
          go_at_call 36
          refine (HBj.out _ (And.left (by assumption))).mono ?_
          rintro e w9 ⟨rfl, b9⟩
          go_simp
          refine hK.out _ _ ?_ (fun hHeld => ?_)
          · first | assumption | exact HKS.out _ _ (by assumption) (by assumption)
          clear hK K
          (try simp only [Act.put, List.setIfInBounds_toArray, List.set_cons_zero, List.set_cons_succ])
          refine wpAnyH_ready (rs := [10]) (by kernel_rfl) (by simp) ?_
          refine AllReadyH.cons (o := { dst := some 84, op := Op.call { callee := Callee.value (Operand.func 20), args := #[Operand.tmp 83], argTypes := #[25] }, type := 3, pos := "laws.go:833", after := #[{ on := 9, ground := Ground.data }, { on := 8, ground := Ground.chain }], guard := none }) rfl (fun K hK => ?_) AllReadyH.nil
          go_simp
          go_at_call 20
          refine (HWk.out _ (And.left (by assumption))).mono ?_
          rintro e w9 ⟨rfl, b9⟩
          go_simp
          refine hK.out _ _ ?_ (fun hHeld => ?_)
          · first | assumption | exact HKS.out _ _ (by assumption) (by assumption)
          clear hK K
          (try simp only [Act.put, List.setIfInBounds_toArray, List.set_cons_zero, List.set_cons_succ])
          refine wpAnyH_take (i := 11) (oi := { dst := some 85, op := Op.binOp BinOp.mul 3 (Operand.tmp 82) (Operand.tmp 84) 3, type := 3, pos := "laws.go:833", after := #[{ on := 8, ground := Ground.data }, { on := 10, ground := Ground.data }], guard := none }) (v := ?_) rfl (by kernel_rfl) (by kernel_rfl) (by kernel_rfl) (fun _ _ _ h => h) (Or.inl ⟨by rfl, ?_⟩) (by assumption) ?_
          rotate_left
          · intro w hSw
            (try dsimp only at hSw)
            go_simp
            (try with_reducible rfl)
          (try simp only [Act.put, List.setIfInBounds_toArray, List.set_cons_zero, List.set_cons_succ])
          refine wpAnyH_take (i := 12) (oi := { dst := some 86, op := Op.binOp BinOp.gtr 3 (Operand.tmp 79) (Operand.tmp 85) 3, type := 4, pos := "laws.go:833", after := #[{ on := 5, ground := Ground.data }, { on := 11, ground := Ground.data }], guard := none }) (v := ?_) rfl (by kernel_rfl) (by kernel_rfl) (by kernel_rfl) (fun _ _ _ h => h) (Or.inl ⟨by rfl, ?_⟩) (by assumption) ?_
          rotate_left
          · intro w hSw
            (try dsimp only at hSw)
            go_simp
            (try with_reducible rfl)
          (try simp only [Act.put, List.setIfInBounds_toArray, List.set_cons_zero, List.set_cons_succ])
          refine wpAnyH_take (i := 13) (oi := { dst := some 87, op := Op.move (Operand.tmp 86), type := 4, pos := "laws.go:833", after := #[{ on := 12, ground := Ground.data }, { on := 10, ground := Ground.chain }], guard := none }) (v := ?_) rfl (by kernel_rfl) (by kernel_rfl) (by kernel_rfl) (fun _ _ _ h => h) (Or.inl ⟨by rfl, ?_⟩) (by assumption) ?_
          rotate_left
          · intro w hSw
            (try dsimp only at hSw)
            go_simp
            (try with_reducible rfl)
          (try simp only [Act.put, List.setIfInBounds_toArray, List.set_cons_zero, List.set_cons_succ])
          refine wpAnyH_take (i := 14) (oi := { dst := some 88, op := Op.load 25 (Operand.tmp 5), type := 25, pos := "laws.go:833", after := #[{ on := 13, ground := Ground.guard }], guard := some (13, false) }) (v := ?_) rfl (by kernel_rfl) (by kernel_rfl) (by kernel_rfl) (fun _ _ _ h => h) (Or.inl ⟨by rfl, ?_⟩) (by assumption) ?_
          rotate_left
          · intro w hSw
            (try dsimp only at hSw)
            go_simp
            (try with_reducible rfl)
          (try simp only [Act.put, List.setIfInBounds_toArray, List.set_cons_zero, List.set_cons_succ])
          refine wpAnyH_take (i := 15) (oi := { dst := some 89, op := Op.move (Operand.tmp 11), type := 3, pos := "laws.go:833", after := #[{ on := 13, ground := Ground.guard }], guard := some (13, false) }) (v := ?_) rfl (by kernel_rfl) (by kernel_rfl) (by kernel_rfl) (fun _ _ _ h => h) (Or.inl ⟨by rfl, ?_⟩) (by assumption) ?_
          rotate_left
          · intro w hSw
            (try dsimp only at hSw)
            go_simp
            (try with_reducible rfl)
          (try simp only [Act.put, List.setIfInBounds_toArray, List.set_cons_zero, List.set_cons_succ])
          refine wpAnyH_take (i := 17) (oi := { dst := some 91, op := Op.load 25 (Operand.tmp 9), type := 25, pos := "laws.go:833", after := #[{ on := 13, ground := Ground.guard }], guard := some (13, false) }) (v := ?_) rfl (by kernel_rfl) (by kernel_rfl) (by kernel_rfl) (fun _ _ _ h => h) (Or.inl ⟨by rfl, ?_⟩) (by assumption) ?_
          rotate_left
          · intro w hSw
            (try dsimp only at hSw)
            go_simp
            (try with_reducible rfl)
          (try simp only [Act.put, List.setIfInBounds_toArray, List.set_cons_zero, List.set_cons_succ])
          refine wpAnyH_take (i := 20) (oi := { dst := some 94, op := Op.load 25 (Operand.tmp 9), type := 25, pos := "laws.go:833", after := #[{ on := 13, ground := Ground.guard }], guard := some (13, false) }) (v := ?_) rfl (by kernel_rfl) (by kernel_rfl) (by kernel_rfl) (fun _ _ _ h => h) (Or.inl ⟨by rfl, ?_⟩) (by assumption) ?_
          rotate_left
          · intro w hSw
            (try dsimp only at hSw)
            go_simp
            (try with_reducible rfl)
          (try simp only [Act.put, List.setIfInBounds_toArray, List.set_cons_zero, List.set_cons_succ])
          refine wpAnyH_take (i := 21) (oi := { dst := some 95, op := Op.move (Operand.tmp 11), type := 3, pos := "laws.go:833", after := #[{ on := 13, ground := Ground.guard }], guard := some (13, false) }) (v := ?_) rfl (by kernel_rfl) (by kernel_rfl) (by kernel_rfl) (fun _ _ _ h => h) (Or.inl ⟨by rfl, ?_⟩) (by assumption) ?_
          rotate_left
          · intro w hSw
            (try dsimp only at hSw)
            go_simp
            (try with_reducible rfl)
          (try simp only [Act.put, List.setIfInBounds_toArray, List.set_cons_zero, List.set_cons_succ])
          refine wpAnyH_take (i := 23) (oi := { dst := some 97, op := Op.load 25 (Operand.tmp 5), type := 25, pos := "laws.go:833", after := #[{ on := 13, ground := Ground.guard }], guard := some (13, false) }) (v := ?_) rfl (by kernel_rfl) (by kernel_rfl) (by kernel_rfl) (fun _ _ _ h => h) (Or.inl ⟨by rfl, ?_⟩) (by assumption) ?_
          rotate_left
          · intro w hSw
            (try dsimp only at hSw)
            go_simp
            (try with_reducible rfl)
          (try simp only [Act.put, List.setIfInBounds_toArray, List.set_cons_zero, List.set_cons_succ])
          refine wpAnyH_ready (rs := [16]) (by kernel_rfl) (by simp) ?_
          refine AllReadyH.cons (o := { dst := some 90, op := Op.call { callee := Callee.value (Operand.func 37), args := #[Operand.tmp 88, Operand.tmp 89], argTypes := #[25, 3] }, type := 3, pos := "laws.go:833", after := #[{ on := 14, ground := Ground.data }, { on := 15, ground := Ground.data }, { on := 13, ground := Ground.chain }, { on := 13, ground := Ground.guard }], guard := some (13, false) }) rfl (fun K hK => ?_) AllReadyH.nil
          go_simp
          go_at_call 37
          refine (HPk.out _ (And.left (by assumption))).mono ?_
          rintro e w9 ⟨rfl, b9⟩
          go_simp
          refine hK.out _ _ ?_ (fun hHeld => ?_)
          · first | assumption | exact HKS.out _ _ (by assumption) (by assumption)
          clear hK K
          (try simp only [Act.put, List.setIfInBounds_toArray, List.set_cons_zero, List.set_cons_succ])
          refine wpAnyH_ready (rs := [18]) (by kernel_rfl) (by simp) ?_
          refine AllReadyH.cons (o := { dst := some 92, op := Op.call { callee := Callee.value (Operand.func 20), args := #[Operand.tmp 91], argTypes := #[25] }, type := 3, pos := "laws.go:833", after := #[{ on := 17, ground := Ground.data }, { on := 16, ground := Ground.chain }, { on := 13, ground := Ground.guard }], guard := some (13, false) }) rfl (fun K hK => ?_) AllReadyH.nil
          go_simp
          go_at_call 20
          refine (HWj.out _ (And.left (by assumption))).mono ?_
          rintro e w9 ⟨rfl, b9⟩
          go_simp
          refine hK.out _ _ ?_ (fun hHeld => ?_)
          · first | assumption | exact HKS.out _ _ (by assumption) (by assumption)
          clear hK K
          (try simp only [Act.put, List.setIfInBounds_toArray, List.set_cons_zero, List.set_cons_succ])
          refine wpAnyH_take (i := 19) (oi := { dst := some 93, op := Op.binOp BinOp.mul 3 (Operand.tmp 90) (Operand.tmp 92) 3, type := 3, pos := "laws.go:833", after := #[{ on := 16, ground := Ground.data }, { on := 18, ground := Ground.data }, { on := 13, ground := Ground.guard }], guard := some (13, false) }) (v := ?_) rfl (by kernel_rfl) (by kernel_rfl) (by kernel_rfl) (fun _ _ _ h => h) (Or.inl ⟨by rfl, ?_⟩) (by assumption) ?_
          rotate_left
          · intro w hSw
            (try dsimp only at hSw)
            go_simp
            (try with_reducible rfl)
          (try simp only [Act.put, List.setIfInBounds_toArray, List.set_cons_zero, List.set_cons_succ])
          refine wpAnyH_ready (rs := [22]) (by kernel_rfl) (by simp) ?_
          refine AllReadyH.cons (o := { dst := some 96, op := Op.call { callee := Callee.value (Operand.func 37), args := #[Operand.tmp 94, Operand.tmp 95], argTypes := #[25, 3] }, type := 3, pos := "laws.go:833", after := #[{ on := 20, ground := Ground.data }, { on := 21, ground := Ground.data }, { on := 18, ground := Ground.chain }, { on := 13, ground := Ground.guard }], guard := some (13, false) }) rfl (fun K hK => ?_) AllReadyH.nil
          go_simp
          go_at_call 37
          refine (HPj.out _ (And.left (by assumption))).mono ?_
          rintro e w9 ⟨rfl, b9⟩
          go_simp
          refine hK.out _ _ ?_ (fun hHeld => ?_)
          · first | assumption | exact HKS.out _ _ (by assumption) (by assumption)
          clear hK K
          (try simp only [Act.put, List.setIfInBounds_toArray, List.set_cons_zero, List.set_cons_succ])
          refine wpAnyH_ready (rs := [24]) (by kernel_rfl) (by simp) ?_
          refine AllReadyH.cons (o := { dst := some 98, op := Op.call { callee := Callee.value (Operand.func 20), args := #[Operand.tmp 97], argTypes := #[25] }, type := 3, pos := "laws.go:833", after := #[{ on := 23, ground := Ground.data }, { on := 22, ground := Ground.chain }, { on := 13, ground := Ground.guard }], guard := some (13, false) }) rfl (fun K hK => ?_) AllReadyH.nil
          go_simp
          go_at_call 20
          refine (HWk.out _ (And.left (by assumption))).mono ?_
          rintro e w9 ⟨rfl, b9⟩
          go_simp
          refine hK.out _ _ ?_ (fun hHeld => ?_)
          · first | assumption | exact HKS.out _ _ (by assumption) (by assumption)
          clear hK K
          (try simp only [Act.put, List.setIfInBounds_toArray, List.set_cons_zero, List.set_cons_succ])
          refine wpAnyH_take (i := 25) (oi := { dst := some 99, op := Op.binOp BinOp.mul 3 (Operand.tmp 96) (Operand.tmp 98) 3, type := 3, pos := "laws.go:833", after := #[{ on := 22, ground := Ground.data }, { on := 24, ground := Ground.data }, { on := 13, ground := Ground.guard }], guard := some (13, false) }) (v := ?_) rfl (by kernel_rfl) (by kernel_rfl) (by kernel_rfl) (fun _ _ _ h => h) (Or.inl ⟨by rfl, ?_⟩) (by assumption) ?_
          rotate_left
          · intro w hSw
            (try dsimp only at hSw)
            go_simp
            (try with_reducible rfl)
          (try simp only [Act.put, List.setIfInBounds_toArray, List.set_cons_zero, List.set_cons_succ])
          refine wpAnyH_take (i := 26) (oi := { dst := some 100, op := Op.binOp BinOp.lss 3 (Operand.tmp 93) (Operand.tmp 99) 3, type := 4, pos := "laws.go:833", after := #[{ on := 19, ground := Ground.data }, { on := 25, ground := Ground.data }, { on := 13, ground := Ground.guard }], guard := some (13, false) }) (v := ?_) rfl (by kernel_rfl) (by kernel_rfl) (by kernel_rfl) (fun _ _ _ h => h) (Or.inl ⟨by rfl, ?_⟩) (by assumption) ?_
          rotate_left
          · intro w hSw
            (try dsimp only at hSw)
            go_simp
            (try with_reducible rfl)
          (try simp only [Act.put, List.setIfInBounds_toArray, List.set_cons_zero, List.set_cons_succ])
          refine wpAnyH_take (i := 27) (oi := { dst := some 101, op := Op.move (Operand.tmp 100), type := 4, pos := "laws.go:833", after := #[{ on := 26, ground := Ground.data }, { on := 24, ground := Ground.chain }, { on := 13, ground := Ground.guard }], guard := some (13, false) }) (v := ?_) rfl (by kernel_rfl) (by kernel_rfl) (by kernel_rfl) (fun _ _ _ h => h) (Or.inl ⟨by rfl, ?_⟩) (by assumption) ?_
          rotate_left
          · intro w hSw
            (try dsimp only at hSw)
            go_simp
            (try with_reducible rfl)
          (try simp only [Act.put, List.setIfInBounds_toArray, List.set_cons_zero, List.set_cons_succ])
          refine wpAnyH_take (i := 28) (oi := { dst := some 102, op := Op.move (Operand.tmp 11), type := 3, pos := "laws.go:833", after := #[{ on := 27, ground := Ground.guard }], guard := some (27, true) }) (v := undef) rfl (by kernel_rfl) (by kernel_rfl) (by kernel_rfl) (fun _ _ _ h => h) (Or.inr ⟨by rfl, rfl⟩) (by assumption) ?_
          (try simp only [Act.put, List.setIfInBounds_toArray, List.set_cons_zero, List.set_cons_succ])
          refine wpAnyH_take (i := 29) (oi := { dst := some 103, op := Op.binOp BinOp.gtr 3 (Operand.tmp 102) (Operand.const (Value.int IntKind.i64 0)) 3, type := 4, pos := "laws.go:833", after := #[{ on := 28, ground := Ground.data }, { on := 27, ground := Ground.guard }], guard := some (27, true) }) (v := undef) rfl (by kernel_rfl) (by kernel_rfl) (by kernel_rfl) (fun _ _ _ h => h) (Or.inr ⟨by rfl, rfl⟩) (by assumption) ?_
          (try simp only [Act.put, List.setIfInBounds_toArray, List.set_cons_zero, List.set_cons_succ])
          refine wpAnyH_take (i := 30) (oi := { dst := some 104, op := Op.pick (Operand.tmp 101) (Operand.tmp 103) (Operand.const (Value.bool false)), type := 4, pos := "laws.go:833", after := #[{ on := 27, ground := Ground.data }, { on := 29, ground := Ground.data }, { on := 13, ground := Ground.guard }], guard := some (13, false) }) (v := ?_) rfl (by kernel_rfl) (by kernel_rfl) (by kernel_rfl) (fun _ _ _ h => h) (Or.inl ⟨by rfl, ?_⟩) (by assumption) ?_
          rotate_left
          · intro w hSw
            (try dsimp only at hSw)
            go_simp
            (try with_reducible rfl)
          (try simp only [Act.put, List.setIfInBounds_toArray, List.set_cons_zero, List.set_cons_succ])
          refine wpAnyH_take (i := 31) (oi := { dst := some 105, op := Op.pick (Operand.tmp 87) (Operand.const (Value.bool true)) (Operand.tmp 104), type := 4, pos := "laws.go:833", after := #[{ on := 13, ground := Ground.data }, { on := 30, ground := Ground.data }], guard := none }) (v := ?_) rfl (by kernel_rfl) (by kernel_rfl) (by kernel_rfl) (fun _ _ _ h => h) (Or.inl ⟨by rfl, ?_⟩) (by assumption) ?_
          rotate_left
          · intro w hSw
            (try dsimp only at hSw)
            go_simp
            (try with_reducible rfl)
          (try simp only [Act.put, List.setIfInBounds_toArray, List.set_cons_zero, List.set_cons_succ])
          refine wpAnyH_done (by kernel_rfl) ?_ _
          clear HS0
          go_wp2_with fail
          go_roundw
          case rel => exact ⟨i + 1, by omega, by go_num, Lib.hid (And.left (by assumption))⟩
          case measure => simp [intOf]; omega
        · obtain rfl : n = i := by omega
          clear m1 m2 hlt
          have BB := HB.out
          have Mm := Hm.out.below BB
          have Mn := Hn.out.below BB
          have Mk := Hk.out.below BB
          have Mj := Hj.out.below BB
          cases hf : conflR s xs s ys with
          | none =>
            have HFF := Lib.hid hf
            clear hf
            have HCf := Lib.hid ((iConflictOf_any s s A B n n C D xs ys wr Mm.2 Mn.2 (by omega) (by omega)).mono (fun e w' h => And.intro (RetF.no HFF.out h.1) h.2))
            obtain ⟨m1, m2⟩ := Mm.at_ (Below.refl _ _)
            obtain ⟨n1, n2⟩ := Mn.at_ (Below.refl _ _)
            go_wp2_with fail
            clear m1 m2
            clear n1 n2
            refine (HCf.out).mono ?_
            rintro e w10 ⟨rfl, b10⟩
            replace Mm := Mm.below b10
            replace Mn := Mn.below b10
            replace Mk := Mk.below b10
            replace Mj := Mj.below b10
            replace BB := BB.trans (b10.mono BB.size)
            go_upto_region 17 with fail
            obtain ⟨w11, hw11⟩ : ∃ W, W = w10.alloc (.cells #[.int .i64 0, .int .i64 0] 40) := ⟨_, rfl⟩
            obtain ⟨Mf, b11⟩ := Fv.new w10 (0) (0) hw11
            rw [← hw11]
            clear hw11
            replace Mm := Mm.below b11
            replace Mn := Mn.below b11
            replace Mk := Mk.below b11
            replace Mj := Mj.below b11
            replace BB := BB.trans (b11.mono BB.size)
            have HCu := Lib.hid ((iYagerMass_any s s B A n n D C ys xs w11 Mn.2 Mm.2 (by omega) (by omega)).mono (fun e w' h => And.intro (RetM.yes HTU.out HLZ.out h.1) h.2))
            obtain ⟨n1, n2⟩ := Mn.at_ (Below.refl _ _)
            obtain ⟨m1, m2⟩ := Mm.at_ (Below.refl _ _)
            go_wp2_with fail
            clear n1 n2
            clear m1 m2
            refine (HCu.out).mono ?_
            rintro e w12 ⟨⟨Au, Cu, rfl, Ru⟩, b12⟩
            replace Mm := Mm.below b12
            replace Mn := Mn.below b12
            replace Mk := Mk.below b12
            replace Mj := Mj.below b12
            replace Mf := Mf.below b12
            replace BB := BB.trans (b12.mono BB.size)
            go_upto_region 18 with fail
            obtain ⟨w13, hw13⟩ : ∃ W, W = w12.alloc (.cells #[.int .i64 s, .slice Au n Cu] 25) := ⟨_, rfl⟩
            obtain ⟨Mu, b13⟩ := Mv.new Ru hw13
            rw [← hw13]
            clear hw13
            replace Mm := Mm.below b13
            replace Mn := Mn.below b13
            replace Mk := Mk.below b13
            replace Mj := Mj.below b13
            replace Mf := Mf.below b13
            replace BB := BB.trans (b13.mono BB.size)
            clear HCu
            have HIN := Lib.hid (IsNormal_any s Ak n Ck zs w13 Mk.2 (by omega))
            rw [HNZ.out] at HIN
            obtain ⟨k1, k2⟩ := Mk.at_ (Below.refl _ _)
            go_wp2_with fail
            clear k1 k2
            refine (HIN.out).mono ?_
            rintro e w14 ⟨rfl, b14⟩
            replace Mm := Mm.below b14
            replace Mn := Mn.below b14
            replace Mk := Mk.below b14
            replace Mj := Mj.below b14
            replace Mf := Mf.below b14
            replace Mu := Mu.below b14
            replace BB := BB.trans (b14.mono BB.size)
            have HQuk := Lib.hid (weEqual_any s s Au Ak n Cu n Ck zs zs w14 Mu.2 Mk.2 (by omega) (by omega))
            rw [eq_self2] at HQuk
            obtain ⟨u1, u2⟩ := Mu.at_ (Below.refl _ _)
            obtain ⟨k1, k2⟩ := Mk.at_ (Below.refl _ _)
            go_wp2_with fail
            clear u1 u2
            clear k1 k2
            refine (HQuk.out).mono ?_
            rintro e w15 ⟨rfl, b15⟩
            replace Mm := Mm.below b15
            replace Mn := Mn.below b15
            replace Mk := Mk.below b15
            replace Mj := Mj.below b15
            replace Mf := Mf.below b15
            replace Mu := Mu.below b15
            replace BB := BB.trans (b15.mono BB.size)
            clear HQuk
            go_wp2_with fail
            go_ret
            exact ⟨rfl, HBB.out.trans (BB.mono HBB.out.size)⟩
          | some p =>
            obtain ⟨p, q⟩ := p
            by_cases hp : 0 < p
            · skip
              have HFF := Lib.hid hf
              clear hf
              have HCf := Lib.hid ((iConflictOf_any s s A B n n C D xs ys wr Mm.2 Mn.2 (by omega) (by omega)).mono (fun e w' h => And.intro (RetF.yes HFF.out h.1) h.2))
              obtain ⟨m1, m2⟩ := Mm.at_ (Below.refl _ _)
              obtain ⟨n1, n2⟩ := Mn.at_ (Below.refl _ _)
              go_wp2_with fail
              clear m1 m2
              clear n1 n2
              refine (HCf.out).mono ?_
              rintro e w10 ⟨rfl, b10⟩
              replace Mm := Mm.below b10
              replace Mn := Mn.below b10
              replace Mk := Mk.below b10
              replace Mj := Mj.below b10
              replace BB := BB.trans (b10.mono BB.size)
              go_upto_region 17 with fail
              obtain ⟨w11, hw11⟩ : ∃ W, W = w10.alloc (.cells #[.int .i64 p, .int .i64 q] 40) := ⟨_, rfl⟩
              obtain ⟨Mf, b11⟩ := Fv.new w10 (p) (q) hw11
              rw [← hw11]
              clear hw11
              replace Mm := Mm.below b11
              replace Mn := Mn.below b11
              replace Mk := Mk.below b11
              replace Mj := Mj.below b11
              replace BB := BB.trans (b11.mono BB.size)
              have HCu := Lib.hid ((iYagerMass_any s s B A n n D C ys xs w11 Mn.2 Mm.2 (by omega) (by omega)).mono (fun e w' h => And.intro (RetM.yes HTU.out HLZ.out h.1) h.2))
              obtain ⟨n1, n2⟩ := Mn.at_ (Below.refl _ _)
              obtain ⟨m1, m2⟩ := Mm.at_ (Below.refl _ _)
              go_wp2_with fail
              clear n1 n2
              clear m1 m2
              refine (HCu.out).mono ?_
              rintro e w12 ⟨⟨Au, Cu, rfl, Ru⟩, b12⟩
              replace Mm := Mm.below b12
              replace Mn := Mn.below b12
              replace Mk := Mk.below b12
              replace Mj := Mj.below b12
              replace Mf := Mf.below b12
              replace BB := BB.trans (b12.mono BB.size)
              go_upto_region 18 with fail
              obtain ⟨w13, hw13⟩ : ∃ W, W = w12.alloc (.cells #[.int .i64 s, .slice Au n Cu] 25) := ⟨_, rfl⟩
              obtain ⟨Mu, b13⟩ := Mv.new Ru hw13
              rw [← hw13]
              clear hw13
              replace Mm := Mm.below b13
              replace Mn := Mn.below b13
              replace Mk := Mk.below b13
              replace Mj := Mj.below b13
              replace Mf := Mf.below b13
              replace BB := BB.trans (b13.mono BB.size)
              clear HCu
              have HIN := Lib.hid (IsNormal_any s Ak n Ck zs w13 Mk.2 (by omega))
              rw [HNZ.out] at HIN
              obtain ⟨k1, k2⟩ := Mk.at_ (Below.refl _ _)
              go_wp2_with fail
              clear k1 k2
              refine (HIN.out).mono ?_
              rintro e w14 ⟨rfl, b14⟩
              replace Mm := Mm.below b14
              replace Mn := Mn.below b14
              replace Mk := Mk.below b14
              replace Mj := Mj.below b14
              replace Mf := Mf.below b14
              replace Mu := Mu.below b14
              replace BB := BB.trans (b14.mono BB.size)
              have HQuk := Lib.hid (weEqual_any s s Au Ak n Cu n Ck zs zs w14 Mu.2 Mk.2 (by omega) (by omega))
              rw [eq_self2] at HQuk
              obtain ⟨u1, u2⟩ := Mu.at_ (Below.refl _ _)
              obtain ⟨k1, k2⟩ := Mk.at_ (Below.refl _ _)
              go_wp2_with fail
              clear u1 u2
              clear k1 k2
              refine (HQuk.out).mono ?_
              rintro e w15 ⟨rfl, b15⟩
              replace Mm := Mm.below b15
              replace Mn := Mn.below b15
              replace Mk := Mk.below b15
              replace Mj := Mj.below b15
              replace Mf := Mf.below b15
              replace Mu := Mu.below b15
              replace BB := BB.trans (b15.mono BB.size)
              clear HQuk
              obtain ⟨f1, f2⟩ := Mf.at_ (Below.refl _ _)
              go_wp2_with fail
              go_ret
              exact ⟨rfl, HBB.out.trans (BB.mono HBB.out.size)⟩
            · have hzu : zs = us := HJ.out.same (confl_zero HT.out hf (by omega))
              have hpn : ¬ (0 < p) := hp
              have HZU := Lib.hid hzu
              clear hzu
              have HFF := Lib.hid hf
              clear hf
              have HCf := Lib.hid ((iConflictOf_any s s A B n n C D xs ys wr Mm.2 Mn.2 (by omega) (by omega)).mono (fun e w' h => And.intro (RetF.yes HFF.out h.1) h.2))
              obtain ⟨m1, m2⟩ := Mm.at_ (Below.refl _ _)
              obtain ⟨n1, n2⟩ := Mn.at_ (Below.refl _ _)
              go_wp2_with fail
              clear m1 m2
              clear n1 n2
              refine (HCf.out).mono ?_
              rintro e w10 ⟨rfl, b10⟩
              replace Mm := Mm.below b10
              replace Mn := Mn.below b10
              replace Mk := Mk.below b10
              replace Mj := Mj.below b10
              replace BB := BB.trans (b10.mono BB.size)
              go_upto_region 17 with fail
              obtain ⟨w11, hw11⟩ : ∃ W, W = w10.alloc (.cells #[.int .i64 p, .int .i64 q] 40) := ⟨_, rfl⟩
              obtain ⟨Mf, b11⟩ := Fv.new w10 (p) (q) hw11
              rw [← hw11]
              clear hw11
              replace Mm := Mm.below b11
              replace Mn := Mn.below b11
              replace Mk := Mk.below b11
              replace Mj := Mj.below b11
              replace BB := BB.trans (b11.mono BB.size)
              have HCu := Lib.hid ((iYagerMass_any s s B A n n D C ys xs w11 Mn.2 Mm.2 (by omega) (by omega)).mono (fun e w' h => And.intro (RetM.yes HTU.out HLZ.out h.1) h.2))
              obtain ⟨n1, n2⟩ := Mn.at_ (Below.refl _ _)
              obtain ⟨m1, m2⟩ := Mm.at_ (Below.refl _ _)
              go_wp2_with fail
              clear n1 n2
              clear m1 m2
              refine (HCu.out).mono ?_
              rintro e w12 ⟨⟨Au, Cu, rfl, Ru⟩, b12⟩
              replace Mm := Mm.below b12
              replace Mn := Mn.below b12
              replace Mk := Mk.below b12
              replace Mj := Mj.below b12
              replace Mf := Mf.below b12
              replace BB := BB.trans (b12.mono BB.size)
              go_upto_region 18 with fail
              obtain ⟨w13, hw13⟩ : ∃ W, W = w12.alloc (.cells #[.int .i64 s, .slice Au n Cu] 25) := ⟨_, rfl⟩
              obtain ⟨Mu, b13⟩ := Mv.new Ru hw13
              rw [← hw13]
              clear hw13
              replace Mm := Mm.below b13
              replace Mn := Mn.below b13
              replace Mk := Mk.below b13
              replace Mj := Mj.below b13
              replace Mf := Mf.below b13
              replace BB := BB.trans (b13.mono BB.size)
              clear HCu
              have HIN := Lib.hid (IsNormal_any s Ak n Ck zs w13 Mk.2 (by omega))
              rw [HNZ.out] at HIN
              obtain ⟨k1, k2⟩ := Mk.at_ (Below.refl _ _)
              go_wp2_with fail
              clear k1 k2
              refine (HIN.out).mono ?_
              rintro e w14 ⟨rfl, b14⟩
              replace Mm := Mm.below b14
              replace Mn := Mn.below b14
              replace Mk := Mk.below b14
              replace Mj := Mj.below b14
              replace Mf := Mf.below b14
              replace Mu := Mu.below b14
              replace BB := BB.trans (b14.mono BB.size)
              have HQuk := Lib.hid (weEqual_any s s Au Ak n Cu n Ck zs zs w14 Mu.2 Mk.2 (by omega) (by omega))
              rw [eq_self2] at HQuk
              obtain ⟨u1, u2⟩ := Mu.at_ (Below.refl _ _)
              obtain ⟨k1, k2⟩ := Mk.at_ (Below.refl _ _)
              go_wp2_with fail
              clear u1 u2
              clear k1 k2
              refine (HQuk.out).mono ?_
              rintro e w15 ⟨rfl, b15⟩
              replace Mm := Mm.below b15
              replace Mn := Mn.below b15
              replace Mk := Mk.below b15
              replace Mj := Mj.below b15
              replace Mf := Mf.below b15
              replace Mu := Mu.below b15
              replace BB := BB.trans (b15.mono BB.size)
              clear HQuk
              obtain ⟨f1, f2⟩ := Mf.at_ (Below.refl _ _)
              have HQ := Lib.hid (weEqual_any s s Ak Aj n Ck n Cj zs us w15 Mk.2 Mj.2 (by omega) (by omega))
              rw [HZU.out, eq_self2] at HQ
              obtain ⟨k1, k2⟩ := Mk.at_ (Below.refl _ _)
              obtain ⟨j1, j2⟩ := Mj.at_ (Below.refl _ _)
              go_wp2_with fail
              clear k1 k2
              clear j1 j2
              refine (HQ.out).mono ?_
              rintro e w16 ⟨rfl, b16⟩
              replace Mm := Mm.below b16
              replace Mn := Mn.below b16
              replace Mk := Mk.below b16
              replace Mj := Mj.below b16
              replace Mf := Mf.below b16
              replace Mu := Mu.below b16
              replace BB := BB.trans (b16.mono BB.size)
              go_wp2_with fail
              go_ret
              exact ⟨rfl, HBB.out.trans (BB.mono HBB.out.size)⟩
end Go.Proofs.Ytffkpmmgfgcngaa
