/- The walk of the law FnMoveMass. -/
import Derived.Test.YtffkpmmgfgcngaaBase7
import Derived.Test.YtffkpmmgfgcngaaLaw15
import Derived.Test.YtffkpmmgfgcngaaW54
import Derived.Test.YtffkpmmgfgcngaaW64
import Derived.Test.YtffkpmmgfgcngaaW65
import Derived.Test.YtffkpmmgfgcngaaW66
import Derived.Deep.RegionHeld3
import Derived.Deep.QuietTactic
import Derived.BigQuiet
namespace Go.Proofs.Ytffkpmmgfgcngaa
open Go.RowKit

/-- what is told of a moved mass and of the way back -/
structure Moved (s : Int) (n m : Nat) (xs tt zs : List Int) : Prop where
  mass : massB s zs = true
  len : zs.length = n
  whole : wholeR s zs = wholeR s xs
  norm : normB s zs = normB s xs
  chan : chanB s zs = chanB s xs
  nest : nestB s zs = nestB s xs
  back : moveR s zs (backL tt) = some (s, xs)
  nums : n = 2 ∨ n = 4 ∨ n = 8 ∨ n = 16
theorem move_facts {s t : Int} {xs tt zs : List Int} {n : Nat} (hn : xs.length = n) (h : moveR s xs tt = some (t, zs)) : t = s ∧ ∃ m : Nat, s = m ∧ (1 ≤ m ∧ m ≤ 4) ∧ tt.length = m ∧ tt.all (inB m) = true ∧ Moved s n m xs tt zs := by
  unfold moveR at h
  split at h
  · rename_i hb
    simp only [Bool.and_eq_true] at hb
    obtain ⟨hm, ho⟩ := hb
    simp only [Option.some.injEq, Prod.mk.injEq] at h
    obtain ⟨rfl, rfl⟩ := h
    have hI := massB_is hn hm
    obtain ⟨m, rfl, hm4, hnn, hlt, hin, hp, hg, _⟩ := move_told hn hm ho
    rw [Int.toNat_natCast] at ho
    obtain ⟨h1, h2, h3, h4, h5, h6⟩ := good_facts hg hnn
    have hzm := moved_mass hm hn hp
    have hlz : (movedP (imgOf (backL tt)) xs).length = n := by rw [movedP_length, hn]
    refine ⟨rfl, m, rfl, hm4, hlt, hin, hzm, hlz, ?_, moved_norm hm hn hp h3, moved_chan hm hn hp h1, moved_nest hm hn hp h2, ?_, hI.nums⟩
    · rw [wholeR_yes hzm, wholeR_yes hm, moved_whole hn hp]
    · unfold moveR
      rw [Int.toNat_natCast, hzm, h5, h4, moved_back hn hp]
      rfl
  · cases h
theorem backT_length (m : Nat) (tt : List Int) : ∀ k, (backT m tt k).length = m
  | 0 => by simp [backT]
  | k + 1 => by simp [backT, backT_length m tt k]

set_option maxHeartbeats 6400000 in
set_option maxRecDepth 100000 in
theorem walkMoveMass (a : Option Addr) (l c : Nat) (bs : List Int) (w : World) (hr : BRow w a l bs) (hlc : l ≤ c) :
    Calls Try.prog 8 #[.slice a l c] w fun e w' => e = .returned (.bool true) ∧ Below w.heap.size w w' := by
  by_cases hl : 1048576 < (l : Int)
  · clear hr
    go_enter Try.func8, Try.ntmps8
    go_wp2_with fail
    go_ret
    exact ⟨rfl, Below.refl _ _⟩
  have HD := Lib.hid (DrawMoveMass_any a l c bs w hr (.inl hlc))
  clear hr
  go_enter Try.func8, Try.ntmps8
  go_wp2_with fail
  refine HD.out.mono ?_
  rintro e w1 ⟨s, A, n, C, xs, O, on, OC, tl, rfl, hn17, hon, Rm, Ro, b1⟩
  have BB := b1
  have hn : n ≤ 1048576 := by omega
  have hon2 : on ≤ 1048576 := by omega
  have hlx := Rm.1
  have hlo := Ro.1
  go_upto_region 4 with fail
  obtain ⟨w2, hw2⟩ : ∃ W, W = w1.alloc (.cells #[.int .i64 s, .slice A n C] 25) := ⟨_, rfl⟩
  obtain ⟨Mm, b2⟩ := Mv.new Rm hw2
  rw [← hw2]
  clear hw2
  replace Ro := Ro.below b2
  replace BB := BB.trans (b2.mono BB.size)
  cases hr1 : moveR s xs tl with
  | none =>
    have HR1 := Lib.hid hr1
    clear hr1 hlx hlo
    have HN := Lib.hid (fun W (h : Row W A n xs) (h2 : Row W O on tl) => (iMoveMass_any s A n C xs O on OC tl W h h2 hn hon2).mono (fun e w' h => And.intro (RetM.no HR1.out h.1) h.2))
    have HN2 := Lib.hid (fun W (h : Row W A n xs) (h2 : Row W O on tl) => (sMoveMass_any s A n C xs O on OC tl W h h2 hn hon2).mono (fun e w' h => And.intro (RetM.no HR1.out h.1) h.2))
    obtain ⟨m1, m2⟩ := Mm.at_ (Below.refl _ _)
    go_wp2_with fail
    clear m1 m2
    refine (HN.out _ Mm.2 Ro).mono ?_
    rintro e w3 ⟨⟨Ak, Ck, rfl, Rk⟩, b3⟩
    replace Mm := Mm.below b3
    replace Ro := Ro.below b3
    replace BB := BB.trans (b3.mono BB.size)
    go_upto_region 5 with fail
    obtain ⟨w4, hw4⟩ : ∃ W, W = w3.alloc (.cells #[.int .i64 0, .slice Ak 0 Ck] 25) := ⟨_, rfl⟩
    obtain ⟨Mk, b4⟩ := Mv.new Rk hw4
    rw [← hw4]
    clear hw4
    replace Mm := Mm.below b4
    replace Ro := Ro.below b4
    replace BB := BB.trans (b4.mono BB.size)
    obtain ⟨m1, m2⟩ := Mm.at_ (Below.refl _ _)
    go_wp2_with fail
    clear m1 m2
    refine (HN2.out _ Mm.2 Ro).mono ?_
    rintro e w5 ⟨⟨Aq, Cq, rfl, Rq⟩, b5⟩
    replace Mm := Mm.below b5
    replace Mk := Mk.below b5
    replace Ro := Ro.below b5
    replace BB := BB.trans (b5.mono BB.size)
    go_upto_region 6 with fail
    obtain ⟨w6, hw6⟩ : ∃ W, W = w5.alloc (.cells #[.int .i64 0, .slice Aq 0 Cq] 25) := ⟨_, rfl⟩
    obtain ⟨Mq, b6⟩ := Mv.new Rq hw6
    rw [← hw6]
    clear hw6
    replace Mm := Mm.below b6
    replace Mk := Mk.below b6
    replace Ro := Ro.below b6
    replace BB := BB.trans (b6.mono BB.size)
    have HE := Lib.hid (fun W (h : Row W Ak 0 []) (h2 : Row W Aq 0 []) => weEqual_any 0 0 Ak Aq 0 Ck 0 Cq [] [] W h h2 (by omega) (by omega))
    rw [eq_self2] at HE
    obtain ⟨k1, k2⟩ := Mk.at_ (Below.refl _ _)
    obtain ⟨q1, q2⟩ := Mq.at_ (Below.refl _ _)
    go_wp2_with fail
    clear k1 k2
    clear q1 q2
    refine (HE.out _ Mk.2 Mq.2).mono ?_
    rintro e w7 ⟨rfl, b7⟩
    replace Mm := Mm.below b7
    replace Mk := Mk.below b7
    replace Mq := Mq.below b7
    replace Ro := Ro.below b7
    replace BB := BB.trans (b7.mono BB.size)
    obtain ⟨k1, k2⟩ := Mk.at_ (Below.refl _ _)
    obtain ⟨q1, q2⟩ := Mq.at_ (Below.refl _ _)
    go_wp2_with fail
    clear k1 k2
    clear q1 q2
    refine (HE.out _ Mk.2 Mq.2).mono ?_
    rintro e w8 ⟨rfl, b8⟩
    replace Mm := Mm.below b8
    replace Mk := Mk.below b8
    replace Mq := Mq.below b8
    replace Ro := Ro.below b8
    replace BB := BB.trans (b8.mono BB.size)
    go_wp2_with fail
    go_ret
    exact ⟨rfl, BB⟩
  | some p =>
    obtain ⟨t0, zs⟩ := p
    obtain ⟨rfl, m, rfl, hm4, hlt, hin, hF⟩ := move_facts hlx hr1
    have hF4 := hF.nums
    have HR1 := Lib.hid hr1
    have HLZ := Lib.hid hF.len
    have HBK := Lib.hid hF.back
    have HLX := Lib.hid hlx
    have HF := Lib.hid hF
    have HIN := Lib.hid hin
    have HLT := Lib.hid hlt
    have hom : on = m := by omega
    subst hom
    have hn2 : 2 ≤ n := by omega
    have hn16 : n ≤ 16 := by omega
    clear hr1 hF hlx hlo hin hlt hF4
    have HN := Lib.hid (fun W (h : Row W A n xs) (h2 : Row W O on tl) => (iMoveMass_any (on : Int) A n C xs O on OC tl W h h2 hn hon2).mono (fun e w' h => And.intro (RetM.yes HR1.out HLZ.out h.1) h.2))
    have HN2 := Lib.hid (fun W (h : Row W A n xs) (h2 : Row W O on tl) => (sMoveMass_any (on : Int) A n C xs O on OC tl W h h2 hn hon2).mono (fun e w' h => And.intro (RetM.yes HR1.out HLZ.out h.1) h.2))
    obtain ⟨m1, m2⟩ := Mm.at_ (Below.refl _ _)
    go_wp2_with fail
    clear m1 m2
    refine (HN.out _ Mm.2 Ro).mono ?_
    rintro e w3 ⟨⟨Ak, Ck, rfl, Rk⟩, b3⟩
    replace Mm := Mm.below b3
    replace Ro := Ro.below b3
    replace BB := BB.trans (b3.mono BB.size)
    go_upto_region 5 with fail
    obtain ⟨w4, hw4⟩ : ∃ W, W = w3.alloc (.cells #[.int .i64 (on : Int), .slice Ak n Ck] 25) := ⟨_, rfl⟩
    obtain ⟨Mk, b4⟩ := Mv.new Rk hw4
    rw [← hw4]
    clear hw4
    replace Mm := Mm.below b4
    replace Ro := Ro.below b4
    replace BB := BB.trans (b4.mono BB.size)
    obtain ⟨m1, m2⟩ := Mm.at_ (Below.refl _ _)
    go_wp2_with fail
    clear m1 m2
    refine (HN2.out _ Mm.2 Ro).mono ?_
    rintro e w5 ⟨⟨Aq, Cq, rfl, Rq⟩, b5⟩
    replace Mm := Mm.below b5
    replace Mk := Mk.below b5
    replace Ro := Ro.below b5
    replace BB := BB.trans (b5.mono BB.size)
    go_upto_region 6 with fail
    obtain ⟨w6, hw6⟩ : ∃ W, W = w5.alloc (.cells #[.int .i64 (on : Int), .slice Aq n Cq] 25) := ⟨_, rfl⟩
    obtain ⟨Mq, b6⟩ := Mv.new Rq hw6
    rw [← hw6]
    clear hw6
    replace Mm := Mm.below b6
    replace Mk := Mk.below b6
    replace Ro := Ro.below b6
    replace BB := BB.trans (b6.mono BB.size)
    have HE := Lib.hid (fun W (h : Row W Ak n zs) (h2 : Row W Aq n zs) => weEqual_any (on : Int) (on : Int) Ak Aq n Ck n Cq zs zs W h h2 (by omega) (by omega))
    rw [eq_self2] at HE
    obtain ⟨k1, k2⟩ := Mk.at_ (Below.refl _ _)
    obtain ⟨q1, q2⟩ := Mq.at_ (Below.refl _ _)
    go_wp2_with fail
    clear k1 k2
    clear q1 q2
    refine (HE.out _ Mk.2 Mq.2).mono ?_
    rintro e w7 ⟨rfl, b7⟩
    replace Mm := Mm.below b7
    replace Mk := Mk.below b7
    replace Mq := Mq.below b7
    replace Ro := Ro.below b7
    replace BB := BB.trans (b7.mono BB.size)
    clear HN HN2 HE HR1 Mq Rq Rk
    go_upto_region 8 with fail
    obtain ⟨bo, offo, rfl⟩ := Ro.form (by omega)
    have Hm := Lib.hid Mm
    have Hk := Lib.hid Mk
    have HBB := Lib.hid BB
    clear BB Mm Mk
    have HRo := Lib.hid Ro
    clear Ro
    obtain ⟨m1, m2⟩ := Hm.out.at_ (Below.refl _ _)
    obtain ⟨i0, hi, hz0, hz1, hz2⟩ := info_parts info_int
    go_wp2_with (at_make; go_loud (refine wpList_make_full _ rfl _ _ 23 rfl w7.heap.size 3 i0 (.int .i64 0) 1 Try.underlying23 hi hz0 hz1 _ _ _ _ on rfl rfl (by rfl) (by rfl) (by rw [hz2]; omega) (by unfold maxLen; omega) (by simp) ?_))
    intro wn hown hg
    rw [toList_madeCells_one, ← List.map_replicate (f := Value.int .i64) (a := 0)] at hown
    have how : Own w7.heap.size wn (some ⟨w7.heap.size, 0, none⟩) on on (backT on tl 0) := hown
    have hbw : Below w7.heap.size w7 wn := (Below.refl _ _).grown hg (Nat.le_refl _) (fun k h => by cases h)
    have HO0 := Lib.hid how
    have HB0 := Lib.hid hbw
    clear hown hg hi hz0 hz1 hz2 m1 m2 how hbw
    go_wp2_with fail
    go_loopw [10] (fun v wr => ∃ i : Nat, i ≤ on ∧ v = .int .i64 i ∧ Hid (Own w7.heap.size wr (some ⟨w7.heap.size, 0, none⟩) on on (backT on tl i)) ∧ Hid (Below w7.heap.size w7 wr)) (fun v _ => on - (intOf v).toNat)
    case atStart => exact ⟨0, Nat.zero_le _, rfl, HO0.out, HB0.out⟩
    case round =>
      obtain ⟨i, hi, rfl, HO, HB⟩ := hrel
      obtain ⟨m1, m2⟩ := Hm.out.at_ HB.out
      by_cases hlt : i < on
      · have hii : (i : Int) < (on : Int) := by omega
        have hb := inB_is.1 (all_getD.1 HIN.out i (by rw [HLT.out]; exact hlt))
        have hc := HRo.out.cellAt HB.out hlt
        obtain ⟨y, hy⟩ : ∃ y : Nat, tl.getD i 0 = y := ⟨(tl.getD i 0).toNat, by omega⟩
        have HST : Hid (backT on tl (i + 1) = (backT on tl i).set y (i : Int)) := by show (backT on tl i).set (tl.getD i 0).toNat i = _; rw [hy, Int.toNat_natCast]
        rw [hy] at hb hc
        have hym : y < on := by omega
        have hyi : (y : Int) < (on : Int) := by omega
        have hcl := HO.out.cell hym
        have hfr := HO.out.frozen y
        obtain ⟨u, hu⟩ : ∃ u, u = (backT on tl i).getD y 0 := ⟨_, rfl⟩
        rw [← hu] at hcl
        clear hy hb hu
        go_wp2_with fail
        go_roundw
        case rel => exact ⟨i + 1, by omega, by go_num, by rw [HST.out]; exact HO.out.set y i, HB.out.setCell (Nat.le_refl _) _⟩
        case measure => simp [intOf]; omega
      · obtain rfl : on = i := by omega
        clear hlt m1 m2
        obtain ⟨w9, rfl⟩ : ∃ X, X = wr := ⟨_, rfl⟩
        have BB := HBB.out.trans (HB.out.mono HBB.out.size)
        have Mm := Hm.out.below HB.out
        have Mk := Hk.out.below HB.out
        have Rb : Row w9 (some ⟨w7.heap.size, 0, none⟩) on (backL tl) := by unfold backL; rw [HLT.out]; exact HO.out.row
        clear HRo HB HBB Hm Hk HO HO0 HB0
        have HN3 := Lib.hid (fun W (h : Row W Ak n zs) (h2 : Row W (some ⟨w7.heap.size, 0, none⟩) on (backL tl)) => (iMoveMass_any (on : Int) Ak n Ck zs (some ⟨w7.heap.size, 0, none⟩) on on (backL tl) W h h2 hn hon2).mono (fun e w' h => And.intro (RetM.yes HBK.out HLX.out h.1) h.2))
        obtain ⟨k1, k2⟩ := Mk.at_ (Below.refl _ _)
        obtain ⟨m1, m2⟩ := Mm.at_ (Below.refl _ _)
        go_wp2_with fail
        clear k1 k2
        clear m1 m2
        refine (HN3.out _ Mk.2 Rb).mono ?_
        rintro e w21 ⟨⟨Aj, Cj, rfl, Rj⟩, b21⟩
        replace Mm := Mm.below b21
        replace Mk := Mk.below b21
        replace Rb := Rb.below b21
        replace BB := BB.trans (b21.mono BB.size)
        go_upto_region 14 with fail
        obtain ⟨w22, hw22⟩ : ∃ W, W = w21.alloc (.cells #[.int .i64 (on : Int), .slice Aj n Cj] 25) := ⟨_, rfl⟩
        obtain ⟨Mj, b22⟩ := Mv.new Rj hw22
        rw [← hw22]
        clear hw22
        replace Mm := Mm.below b22
        replace Mk := Mk.below b22
        replace Rb := Rb.below b22
        replace BB := BB.trans (b22.mono BB.size)
        obtain ⟨wh, hwh⟩ : ∃ v, v = wholeR (on : Int) xs := ⟨_, rfl⟩
        obtain ⟨nb, hnb⟩ : ∃ v, v = normB (on : Int) xs := ⟨_, rfl⟩
        obtain ⟨cb, hcb⟩ : ∃ v, v = chanB (on : Int) xs := ⟨_, rfl⟩
        obtain ⟨tb, htb⟩ : ∃ v, v = nestB (on : Int) xs := ⟨_, rfl⟩
        have HWH := Lib.hid hwh
        have HNB := Lib.hid hnb
        have HCB := Lib.hid hcb
        have HTB := Lib.hid htb
        clear hwh hnb hcb htb Rj
        have e1 : (wh == wh) = true := by simp
        have e2 : (nb == nb) = true := by simp
        have e3 : (cb == cb) = true := by simp
        have e4 : (tb == tb) = true := by simp
        have Hm := Lib.hid Mm
        have Hk := Lib.hid Mk
        have Hj := Lib.hid Mj
        have HBB := Lib.hid BB
        clear BB Mm Mk Mj
        have HC0 := Lib.hid (fun W (h : Below w22.heap.size w22 W) => weEqual_any (on : Int) (on : Int) Aj A n Cj n C xs xs W (Hj.out.2.below h) (Hm.out.2.below h) hn hn)
        rw [eq_self2] at HC0
        have HD0k := Lib.hid (fun W (h : Below w22.heap.size w22 W) => WholeOf_any (on : Int) Ak n Ck zs W (Hk.out.2.below h) hn)
        rw [HF.out.whole, ← HWH.out] at HD0k
        have HD0m := Lib.hid (fun W (h : Below w22.heap.size w22 W) => WholeOf_any (on : Int) A n C xs W (Hm.out.2.below h) hn)
        rw [← HWH.out] at HD0m
        have HD1k := Lib.hid (fun W (h : Below w22.heap.size w22 W) => IsNormal_any (on : Int) Ak n Ck zs W (Hk.out.2.below h) hn)
        rw [HF.out.norm, ← HNB.out] at HD1k
        have HD1m := Lib.hid (fun W (h : Below w22.heap.size w22 W) => IsNormal_any (on : Int) A n C xs W (Hm.out.2.below h) hn)
        rw [← HNB.out] at HD1m
        have HD2k := Lib.hid (fun W (h : Below w22.heap.size w22 W) => IsChance_any (on : Int) Ak n Ck zs W (Hk.out.2.below h) hn)
        rw [HF.out.chan, ← HCB.out] at HD2k
        have HD2m := Lib.hid (fun W (h : Below w22.heap.size w22 W) => IsChance_any (on : Int) A n C xs W (Hm.out.2.below h) hn)
        rw [← HCB.out] at HD2m
        have HD3k := Lib.hid (fun W (h : Below w22.heap.size w22 W) => IsNested_any (on : Int) Ak n Ck zs W (Hk.out.2.below h) hn)
        rw [HF.out.nest, ← HTB.out] at HD3k
        have HD3m := Lib.hid (fun W (h : Below w22.heap.size w22 W) => IsNested_any (on : Int) A n C xs W (Hm.out.2.below h) hn)
        rw [← HTB.out] at HD3m
        clear Rb
        have HIS : Hid (∀ W, Below w22.heap.size w22 W → Below w22.heap.size w22 W ∧ W.cell? ⟨w1.heap.size, 0, none⟩ = some (.int .i64 (on : Int)) ∧ W.cell? ⟨w1.heap.size, 1, none⟩ = some (.slice A n C) ∧ W.cell? ⟨w3.heap.size, 0, none⟩ = some (.int .i64 (on : Int)) ∧ W.cell? ⟨w3.heap.size, 1, none⟩ = some (.slice Ak n Ck) ∧ W.cell? ⟨w21.heap.size, 0, none⟩ = some (.int .i64 (on : Int)) ∧ W.cell? ⟨w21.heap.size, 1, none⟩ = some (.slice Aj n Cj)) := fun W h => ⟨h, (Hm.out.at_ h).1, (Hm.out.at_ h).2, (Hk.out.at_ h).1, (Hk.out.at_ h).2, (Hj.out.at_ h).1, (Hj.out.at_ h).2⟩
        have HKS : Hid (∀ W W', Below W.heap.size W W' → (Below w22.heap.size w22 W ∧ W.cell? ⟨w1.heap.size, 0, none⟩ = some (.int .i64 (on : Int)) ∧ W.cell? ⟨w1.heap.size, 1, none⟩ = some (.slice A n C) ∧ W.cell? ⟨w3.heap.size, 0, none⟩ = some (.int .i64 (on : Int)) ∧ W.cell? ⟨w3.heap.size, 1, none⟩ = some (.slice Ak n Ck) ∧ W.cell? ⟨w21.heap.size, 0, none⟩ = some (.int .i64 (on : Int)) ∧ W.cell? ⟨w21.heap.size, 1, none⟩ = some (.slice Aj n Cj)) → Below w22.heap.size w22 W' ∧ W'.cell? ⟨w1.heap.size, 0, none⟩ = some (.int .i64 (on : Int)) ∧ W'.cell? ⟨w1.heap.size, 1, none⟩ = some (.slice A n C) ∧ W'.cell? ⟨w3.heap.size, 0, none⟩ = some (.int .i64 (on : Int)) ∧ W'.cell? ⟨w3.heap.size, 1, none⟩ = some (.slice Ak n Ck) ∧ W'.cell? ⟨w21.heap.size, 0, none⟩ = some (.int .i64 (on : Int)) ∧ W'.cell? ⟨w21.heap.size, 1, none⟩ = some (.slice Aj n Cj)) := fun W W' b h => HIS.out W' (h.1.trans (b.mono h.1.size))
        have HS0 := Lib.hid (HIS.out _ ((Below.refl _ _).drew))
        go_wp2_with fail
        refine wp_region_held_drew (S := fun W => Below w22.heap.size w22 W ∧ W.cell? ⟨w1.heap.size, 0, none⟩ = some (.int .i64 (on : Int)) ∧ W.cell? ⟨w1.heap.size, 1, none⟩ = some (.slice A n C) ∧ W.cell? ⟨w3.heap.size, 0, none⟩ = some (.int .i64 (on : Int)) ∧ W.cell? ⟨w3.heap.size, 1, none⟩ = some (.slice Ak n Ck) ∧ W.cell? ⟨w21.heap.size, 0, none⟩ = some (.int .i64 (on : Int)) ∧ W.cell? ⟨w21.heap.size, 1, none⟩ = some (.slice Aj n Cj)) (by kernel_rfl) ?_ (fun hHeld => ?_)
        · exact HS0.out
        refine wpAnyH_take (i := 0) (oi := { dst := some 76, op := Op.load 25 (Operand.tmp 11), type := 25, pos := "laws.go:373", after := #[], guard := none }) (v := ?_) rfl (by kernel_rfl) (by kernel_rfl) (by kernel_rfl) (fun _ _ _ h => h) (Or.inl ⟨by rfl, ?_⟩) (by assumption) ?_
        rotate_left
        · intro w hSw
          (try dsimp only at hSw)
          go_simp
          (try with_reducible rfl)
        (try simp only [Act.put, List.setIfInBounds_toArray, List.set_cons_zero, List.set_cons_succ])
        refine wpAnyH_take (i := 1) (oi := { dst := some 77, op := Op.load 25 (Operand.tmp 3), type := 25, pos := "laws.go:373", after := #[], guard := none }) (v := ?_) rfl (by kernel_rfl) (by kernel_rfl) (by kernel_rfl) (fun _ _ _ h => h) (Or.inl ⟨by rfl, ?_⟩) (by assumption) ?_
        rotate_left
        · intro w hSw
          (try dsimp only at hSw)
          go_simp
          (try with_reducible rfl)
        (try simp only [Act.put, List.setIfInBounds_toArray, List.set_cons_zero, List.set_cons_succ])
        refine wpAnyH_ready (rs := [2]) (by kernel_rfl) (by simp) ?_
        refine AllReadyH.cons (o := { dst := some 78, op := Op.call { callee := Callee.value (Operand.func 18), args := #[Operand.tmp 76, Operand.tmp 77], argTypes := #[25, 25] }, type := 4, pos := "laws.go:373", after := #[{ on := 0, ground := Ground.data }, { on := 1, ground := Ground.data }], guard := none }) rfl (fun K hK => ?_) AllReadyH.nil
        go_simp
        go_at_call 18
        refine (HC0.out _ (And.left (by assumption))).mono ?_
        rintro e w9 ⟨rfl, b9⟩
        go_simp
        refine hK.out _ _ ?_ (fun hHeld => ?_)
        · first | assumption | exact HKS.out _ _ (by assumption) (by assumption)
        clear hK K
        (try simp only [Act.put, List.setIfInBounds_toArray, List.set_cons_zero, List.set_cons_succ])
        refine wpAnyH_take (i := 3) (oi := { dst := some 79, op := Op.move (Operand.tmp 78), type := 4, pos := "laws.go:373", after := #[{ on := 2, ground := Ground.data }, { on := 2, ground := Ground.chain }], guard := none }) (v := ?_) rfl (by kernel_rfl) (by kernel_rfl) (by kernel_rfl) (fun _ _ _ h => h) (Or.inl ⟨by rfl, ?_⟩) (by assumption) ?_
        rotate_left
        · intro w hSw
          (try dsimp only at hSw)
          go_simp
          (try with_reducible rfl)
        (try simp only [Act.put, List.setIfInBounds_toArray, List.set_cons_zero, List.set_cons_succ])
        refine wpAnyH_take (i := 4) (oi := { dst := some 80, op := Op.load 25 (Operand.tmp 5), type := 25, pos := "laws.go:373", after := #[{ on := 3, ground := Ground.guard }], guard := some (3, true) }) (v := ?_) rfl (by kernel_rfl) (by kernel_rfl) (by kernel_rfl) (fun _ _ _ h => h) (Or.inl ⟨by rfl, ?_⟩) (by assumption) ?_
        rotate_left
        · intro w hSw
          (try dsimp only at hSw)
          go_simp
          (try with_reducible rfl)
        (try simp only [Act.put, List.setIfInBounds_toArray, List.set_cons_zero, List.set_cons_succ])
        refine wpAnyH_take (i := 6) (oi := { dst := some 82, op := Op.load 25 (Operand.tmp 3), type := 25, pos := "laws.go:373", after := #[{ on := 3, ground := Ground.guard }], guard := some (3, true) }) (v := ?_) rfl (by kernel_rfl) (by kernel_rfl) (by kernel_rfl) (fun _ _ _ h => h) (Or.inl ⟨by rfl, ?_⟩) (by assumption) ?_
        rotate_left
        · intro w hSw
          (try dsimp only at hSw)
          go_simp
          (try with_reducible rfl)
        (try simp only [Act.put, List.setIfInBounds_toArray, List.set_cons_zero, List.set_cons_succ])
        refine wpAnyH_ready (rs := [5]) (by kernel_rfl) (by simp) ?_
        refine AllReadyH.cons (o := { dst := some 81, op := Op.call { callee := Callee.value (Operand.func 20), args := #[Operand.tmp 80], argTypes := #[25] }, type := 3, pos := "laws.go:373", after := #[{ on := 4, ground := Ground.data }, { on := 3, ground := Ground.chain }, { on := 3, ground := Ground.guard }], guard := some (3, true) }) rfl (fun K hK => ?_) AllReadyH.nil
        go_simp
        go_at_call 20
        refine (HD0k.out _ (And.left (by assumption))).mono ?_
        rintro e w9 ⟨rfl, b9⟩
        go_simp
        refine hK.out _ _ ?_ (fun hHeld => ?_)
        · first | assumption | exact HKS.out _ _ (by assumption) (by assumption)
        clear hK K
        (try simp only [Act.put, List.setIfInBounds_toArray, List.set_cons_zero, List.set_cons_succ])
        refine wpAnyH_ready (rs := [7]) (by kernel_rfl) (by simp) ?_
        refine AllReadyH.cons (o := { dst := some 83, op := Op.call { callee := Callee.value (Operand.func 20), args := #[Operand.tmp 82], argTypes := #[25] }, type := 3, pos := "laws.go:373", after := #[{ on := 6, ground := Ground.data }, { on := 5, ground := Ground.chain }, { on := 3, ground := Ground.guard }], guard := some (3, true) }) rfl (fun K hK => ?_) AllReadyH.nil
        go_simp
        go_at_call 20
        refine (HD0m.out _ (And.left (by assumption))).mono ?_
        rintro e w9 ⟨rfl, b9⟩
        go_simp
        refine hK.out _ _ ?_ (fun hHeld => ?_)
        · first | assumption | exact HKS.out _ _ (by assumption) (by assumption)
        clear hK K
        (try simp only [Act.put, List.setIfInBounds_toArray, List.set_cons_zero, List.set_cons_succ])
        refine wpAnyH_take (i := 8) (oi := { dst := some 84, op := Op.binOp BinOp.eql 3 (Operand.tmp 81) (Operand.tmp 83) 3, type := 4, pos := "laws.go:373", after := #[{ on := 5, ground := Ground.data }, { on := 7, ground := Ground.data }, { on := 3, ground := Ground.guard }], guard := some (3, true) }) (v := ?_) rfl (by kernel_rfl) (by kernel_rfl) (by kernel_rfl) (fun _ _ _ h => h) (Or.inl ⟨by rfl, ?_⟩) (by assumption) ?_
        rotate_left
        · intro w hSw
          (try dsimp only at hSw)
          go_simp
          (try with_reducible rfl)
        (try simp only [Act.put, List.setIfInBounds_toArray, List.set_cons_zero, List.set_cons_succ])
        refine wpAnyH_take (i := 9) (oi := { dst := some 85, op := Op.pick (Operand.tmp 79) (Operand.tmp 84) (Operand.const (Value.bool false)), type := 4, pos := "laws.go:373", after := #[{ on := 3, ground := Ground.data }, { on := 8, ground := Ground.data }], guard := none }) (v := ?_) rfl (by kernel_rfl) (by kernel_rfl) (by kernel_rfl) (fun _ _ _ h => h) (Or.inl ⟨by rfl, ?_⟩) (by assumption) ?_
        rotate_left
        · intro w hSw
          (try dsimp only at hSw)
          go_simp
          (try with_reducible rfl)
        (try simp only [Act.put, List.setIfInBounds_toArray, List.set_cons_zero, List.set_cons_succ])
        refine wpAnyH_take (i := 10) (oi := { dst := some 86, op := Op.move (Operand.tmp 85), type := 4, pos := "laws.go:373", after := #[{ on := 9, ground := Ground.data }, { on := 7, ground := Ground.chain }], guard := none }) (v := ?_) rfl (by kernel_rfl) (by kernel_rfl) (by kernel_rfl) (fun _ _ _ h => h) (Or.inl ⟨by rfl, ?_⟩) (by assumption) ?_
        rotate_left
        · intro w hSw
          (try dsimp only at hSw)
          go_simp
          (try with_reducible rfl)
        (try simp only [Act.put, List.setIfInBounds_toArray, List.set_cons_zero, List.set_cons_succ])
        refine wpAnyH_take (i := 11) (oi := { dst := some 87, op := Op.load 25 (Operand.tmp 5), type := 25, pos := "laws.go:373", after := #[{ on := 10, ground := Ground.guard }], guard := some (10, true) }) (v := ?_) rfl (by kernel_rfl) (by kernel_rfl) (by kernel_rfl) (fun _ _ _ h => h) (Or.inl ⟨by rfl, ?_⟩) (by assumption) ?_
        rotate_left
        · intro w hSw
          (try dsimp only at hSw)
          go_simp
          (try with_reducible rfl)
        (try simp only [Act.put, List.setIfInBounds_toArray, List.set_cons_zero, List.set_cons_succ])
        refine wpAnyH_take (i := 13) (oi := { dst := some 89, op := Op.load 25 (Operand.tmp 3), type := 25, pos := "laws.go:373", after := #[{ on := 10, ground := Ground.guard }], guard := some (10, true) }) (v := ?_) rfl (by kernel_rfl) (by kernel_rfl) (by kernel_rfl) (fun _ _ _ h => h) (Or.inl ⟨by rfl, ?_⟩) (by assumption) ?_
        rotate_left
        · intro w hSw
          (try dsimp only at hSw)
          go_simp
          (try with_reducible rfl)
        (try simp only [Act.put, List.setIfInBounds_toArray, List.set_cons_zero, List.set_cons_succ])
        refine wpAnyH_ready (rs := [12]) (by kernel_rfl) (by simp) ?_
        refine AllReadyH.cons (o := { dst := some 88, op := Op.call { callee := Callee.value (Operand.func 35), args := #[Operand.tmp 87], argTypes := #[25] }, type := 4, pos := "laws.go:373", after := #[{ on := 11, ground := Ground.data }, { on := 10, ground := Ground.chain }, { on := 10, ground := Ground.guard }], guard := some (10, true) }) rfl (fun K hK => ?_) AllReadyH.nil
        go_simp
        go_at_call 35
        refine (HD1k.out _ (And.left (by assumption))).mono ?_
        rintro e w9 ⟨rfl, b9⟩
        go_simp
        refine hK.out _ _ ?_ (fun hHeld => ?_)
        · first | assumption | exact HKS.out _ _ (by assumption) (by assumption)
        clear hK K
        (try simp only [Act.put, List.setIfInBounds_toArray, List.set_cons_zero, List.set_cons_succ])
        refine wpAnyH_ready (rs := [14]) (by kernel_rfl) (by simp) ?_
        refine AllReadyH.cons (o := { dst := some 90, op := Op.call { callee := Callee.value (Operand.func 35), args := #[Operand.tmp 89], argTypes := #[25] }, type := 4, pos := "laws.go:373", after := #[{ on := 13, ground := Ground.data }, { on := 12, ground := Ground.chain }, { on := 10, ground := Ground.guard }], guard := some (10, true) }) rfl (fun K hK => ?_) AllReadyH.nil
        go_simp
        go_at_call 35
        refine (HD1m.out _ (And.left (by assumption))).mono ?_
        rintro e w9 ⟨rfl, b9⟩
        go_simp
        refine hK.out _ _ ?_ (fun hHeld => ?_)
        · first | assumption | exact HKS.out _ _ (by assumption) (by assumption)
        clear hK K
        (try simp only [Act.put, List.setIfInBounds_toArray, List.set_cons_zero, List.set_cons_succ])
        refine wpAnyH_take (i := 15) (oi := { dst := some 91, op := Op.binOp BinOp.eql 4 (Operand.tmp 88) (Operand.tmp 90) 4, type := 4, pos := "laws.go:373", after := #[{ on := 12, ground := Ground.data }, { on := 14, ground := Ground.data }, { on := 10, ground := Ground.guard }], guard := some (10, true) }) (v := ?_) rfl (by kernel_rfl) (by kernel_rfl) (by kernel_rfl) (fun _ _ _ h => h) (Or.inl ⟨by rfl, ?_⟩) (by assumption) ?_
        rotate_left
        · intro w hSw
          (try dsimp only at hSw)
          go_simp
          (try with_reducible rfl)
        (try simp only [Act.put, List.setIfInBounds_toArray, List.set_cons_zero, List.set_cons_succ])
        refine wpAnyH_take (i := 16) (oi := { dst := some 92, op := Op.pick (Operand.tmp 86) (Operand.tmp 91) (Operand.const (Value.bool false)), type := 4, pos := "laws.go:373", after := #[{ on := 10, ground := Ground.data }, { on := 15, ground := Ground.data }], guard := none }) (v := ?_) rfl (by kernel_rfl) (by kernel_rfl) (by kernel_rfl) (fun _ _ _ h => h) (Or.inl ⟨by rfl, ?_⟩) (by assumption) ?_
        rotate_left
        · intro w hSw
          (try dsimp only at hSw)
          go_simp
          (try with_reducible rfl)
        (try simp only [Act.put, List.setIfInBounds_toArray, List.set_cons_zero, List.set_cons_succ])
        refine wpAnyH_take (i := 17) (oi := { dst := some 93, op := Op.move (Operand.tmp 92), type := 4, pos := "laws.go:373", after := #[{ on := 16, ground := Ground.data }, { on := 14, ground := Ground.chain }], guard := none }) (v := ?_) rfl (by kernel_rfl) (by kernel_rfl) (by kernel_rfl) (fun _ _ _ h => h) (Or.inl ⟨by rfl, ?_⟩) (by assumption) ?_
        rotate_left
        · intro w hSw
          (try dsimp only at hSw)
          go_simp
          (try with_reducible rfl)
        (try simp only [Act.put, List.setIfInBounds_toArray, List.set_cons_zero, List.set_cons_succ])
        refine wpAnyH_take (i := 18) (oi := { dst := some 94, op := Op.load 25 (Operand.tmp 5), type := 25, pos := "laws.go:373", after := #[{ on := 17, ground := Ground.guard }], guard := some (17, true) }) (v := ?_) rfl (by kernel_rfl) (by kernel_rfl) (by kernel_rfl) (fun _ _ _ h => h) (Or.inl ⟨by rfl, ?_⟩) (by assumption) ?_
        rotate_left
        · intro w hSw
          (try dsimp only at hSw)
          go_simp
          (try with_reducible rfl)
        (try simp only [Act.put, List.setIfInBounds_toArray, List.set_cons_zero, List.set_cons_succ])
        refine wpAnyH_take (i := 20) (oi := { dst := some 96, op := Op.load 25 (Operand.tmp 3), type := 25, pos := "laws.go:373", after := #[{ on := 17, ground := Ground.guard }], guard := some (17, true) }) (v := ?_) rfl (by kernel_rfl) (by kernel_rfl) (by kernel_rfl) (fun _ _ _ h => h) (Or.inl ⟨by rfl, ?_⟩) (by assumption) ?_
        rotate_left
        · intro w hSw
          (try dsimp only at hSw)
          go_simp
          (try with_reducible rfl)
        (try simp only [Act.put, List.setIfInBounds_toArray, List.set_cons_zero, List.set_cons_succ])
        refine wpAnyH_ready (rs := [19]) (by kernel_rfl) (by simp) ?_
        refine AllReadyH.cons (o := { dst := some 95, op := Op.call { callee := Callee.value (Operand.func 47), args := #[Operand.tmp 94], argTypes := #[25] }, type := 4, pos := "laws.go:373", after := #[{ on := 18, ground := Ground.data }, { on := 17, ground := Ground.chain }, { on := 17, ground := Ground.guard }], guard := some (17, true) }) rfl (fun K hK => ?_) AllReadyH.nil
        go_simp
        go_at_call 47
        refine (HD2k.out _ (And.left (by assumption))).mono ?_
        rintro e w9 ⟨rfl, b9⟩
        go_simp
        refine hK.out _ _ ?_ (fun hHeld => ?_)
        · first | assumption | exact HKS.out _ _ (by assumption) (by assumption)
        clear hK K
        (try simp only [Act.put, List.setIfInBounds_toArray, List.set_cons_zero, List.set_cons_succ])
        refine wpAnyH_ready (rs := [21]) (by kernel_rfl) (by simp) ?_
        refine AllReadyH.cons (o := { dst := some 97, op := Op.call { callee := Callee.value (Operand.func 47), args := #[Operand.tmp 96], argTypes := #[25] }, type := 4, pos := "laws.go:373", after := #[{ on := 20, ground := Ground.data }, { on := 19, ground := Ground.chain }, { on := 17, ground := Ground.guard }], guard := some (17, true) }) rfl (fun K hK => ?_) AllReadyH.nil
        go_simp
        go_at_call 47
        refine (HD2m.out _ (And.left (by assumption))).mono ?_
        rintro e w9 ⟨rfl, b9⟩
        go_simp
        refine hK.out _ _ ?_ (fun hHeld => ?_)
        · first | assumption | exact HKS.out _ _ (by assumption) (by assumption)
        clear hK K
        (try simp only [Act.put, List.setIfInBounds_toArray, List.set_cons_zero, List.set_cons_succ])
        refine wpAnyH_take (i := 22) (oi := { dst := some 98, op := Op.binOp BinOp.eql 4 (Operand.tmp 95) (Operand.tmp 97) 4, type := 4, pos := "laws.go:373", after := #[{ on := 19, ground := Ground.data }, { on := 21, ground := Ground.data }, { on := 17, ground := Ground.guard }], guard := some (17, true) }) (v := ?_) rfl (by kernel_rfl) (by kernel_rfl) (by kernel_rfl) (fun _ _ _ h => h) (Or.inl ⟨by rfl, ?_⟩) (by assumption) ?_
        rotate_left
        · intro w hSw
          (try dsimp only at hSw)
          go_simp
          (try with_reducible rfl)
        (try simp only [Act.put, List.setIfInBounds_toArray, List.set_cons_zero, List.set_cons_succ])
        refine wpAnyH_take (i := 23) (oi := { dst := some 99, op := Op.pick (Operand.tmp 93) (Operand.tmp 98) (Operand.const (Value.bool false)), type := 4, pos := "laws.go:373", after := #[{ on := 17, ground := Ground.data }, { on := 22, ground := Ground.data }], guard := none }) (v := ?_) rfl (by kernel_rfl) (by kernel_rfl) (by kernel_rfl) (fun _ _ _ h => h) (Or.inl ⟨by rfl, ?_⟩) (by assumption) ?_
        rotate_left
        · intro w hSw
          (try dsimp only at hSw)
          go_simp
          (try with_reducible rfl)
        (try simp only [Act.put, List.setIfInBounds_toArray, List.set_cons_zero, List.set_cons_succ])
        refine wpAnyH_take (i := 24) (oi := { dst := some 100, op := Op.move (Operand.tmp 99), type := 4, pos := "laws.go:373", after := #[{ on := 23, ground := Ground.data }, { on := 21, ground := Ground.chain }], guard := none }) (v := ?_) rfl (by kernel_rfl) (by kernel_rfl) (by kernel_rfl) (fun _ _ _ h => h) (Or.inl ⟨by rfl, ?_⟩) (by assumption) ?_
        rotate_left
        · intro w hSw
          (try dsimp only at hSw)
          go_simp
          (try with_reducible rfl)
        (try simp only [Act.put, List.setIfInBounds_toArray, List.set_cons_zero, List.set_cons_succ])
        refine wpAnyH_take (i := 25) (oi := { dst := some 101, op := Op.load 25 (Operand.tmp 5), type := 25, pos := "laws.go:373", after := #[{ on := 24, ground := Ground.guard }], guard := some (24, true) }) (v := ?_) rfl (by kernel_rfl) (by kernel_rfl) (by kernel_rfl) (fun _ _ _ h => h) (Or.inl ⟨by rfl, ?_⟩) (by assumption) ?_
        rotate_left
        · intro w hSw
          (try dsimp only at hSw)
          go_simp
          (try with_reducible rfl)
        (try simp only [Act.put, List.setIfInBounds_toArray, List.set_cons_zero, List.set_cons_succ])
        refine wpAnyH_take (i := 27) (oi := { dst := some 103, op := Op.load 25 (Operand.tmp 3), type := 25, pos := "laws.go:373", after := #[{ on := 24, ground := Ground.guard }], guard := some (24, true) }) (v := ?_) rfl (by kernel_rfl) (by kernel_rfl) (by kernel_rfl) (fun _ _ _ h => h) (Or.inl ⟨by rfl, ?_⟩) (by assumption) ?_
        rotate_left
        · intro w hSw
          (try dsimp only at hSw)
          go_simp
          (try with_reducible rfl)
        (try simp only [Act.put, List.setIfInBounds_toArray, List.set_cons_zero, List.set_cons_succ])
        refine wpAnyH_ready (rs := [26]) (by kernel_rfl) (by simp) ?_
        refine AllReadyH.cons (o := { dst := some 102, op := Op.call { callee := Callee.value (Operand.func 48), args := #[Operand.tmp 101], argTypes := #[25] }, type := 4, pos := "laws.go:373", after := #[{ on := 25, ground := Ground.data }, { on := 24, ground := Ground.chain }, { on := 24, ground := Ground.guard }], guard := some (24, true) }) rfl (fun K hK => ?_) AllReadyH.nil
        go_simp
        go_at_call 48
        refine (HD3k.out _ (And.left (by assumption))).mono ?_
        rintro e w9 ⟨rfl, b9⟩
        go_simp
        refine hK.out _ _ ?_ (fun hHeld => ?_)
        · first | assumption | exact HKS.out _ _ (by assumption) (by assumption)
        clear hK K
        (try simp only [Act.put, List.setIfInBounds_toArray, List.set_cons_zero, List.set_cons_succ])
        refine wpAnyH_ready (rs := [28]) (by kernel_rfl) (by simp) ?_
        refine AllReadyH.cons (o := { dst := some 104, op := Op.call { callee := Callee.value (Operand.func 48), args := #[Operand.tmp 103], argTypes := #[25] }, type := 4, pos := "laws.go:373", after := #[{ on := 27, ground := Ground.data }, { on := 26, ground := Ground.chain }, { on := 24, ground := Ground.guard }], guard := some (24, true) }) rfl (fun K hK => ?_) AllReadyH.nil
        go_simp
        go_at_call 48
        refine (HD3m.out _ (And.left (by assumption))).mono ?_
        rintro e w9 ⟨rfl, b9⟩
        go_simp
        refine hK.out _ _ ?_ (fun hHeld => ?_)
        · first | assumption | exact HKS.out _ _ (by assumption) (by assumption)
        clear hK K
        (try simp only [Act.put, List.setIfInBounds_toArray, List.set_cons_zero, List.set_cons_succ])
        refine wpAnyH_take (i := 29) (oi := { dst := some 105, op := Op.binOp BinOp.eql 4 (Operand.tmp 102) (Operand.tmp 104) 4, type := 4, pos := "laws.go:373", after := #[{ on := 26, ground := Ground.data }, { on := 28, ground := Ground.data }, { on := 24, ground := Ground.guard }], guard := some (24, true) }) (v := ?_) rfl (by kernel_rfl) (by kernel_rfl) (by kernel_rfl) (fun _ _ _ h => h) (Or.inl ⟨by rfl, ?_⟩) (by assumption) ?_
        rotate_left
        · intro w hSw
          (try dsimp only at hSw)
          go_simp
          (try with_reducible rfl)
        (try simp only [Act.put, List.setIfInBounds_toArray, List.set_cons_zero, List.set_cons_succ])
        refine wpAnyH_take (i := 30) (oi := { dst := some 106, op := Op.pick (Operand.tmp 100) (Operand.tmp 105) (Operand.const (Value.bool false)), type := 4, pos := "laws.go:373", after := #[{ on := 24, ground := Ground.data }, { on := 29, ground := Ground.data }], guard := none }) (v := ?_) rfl (by kernel_rfl) (by kernel_rfl) (by kernel_rfl) (fun _ _ _ h => h) (Or.inl ⟨by rfl, ?_⟩) (by assumption) ?_
        rotate_left
        · intro w hSw
          (try dsimp only at hSw)
          go_simp
          (try with_reducible rfl)
        (try simp only [Act.put, List.setIfInBounds_toArray, List.set_cons_zero, List.set_cons_succ])
        refine wpAnyH_take (i := 31) (oi := { dst := some 2, op := Op.assign (Operand.tmp 106), type := 4, pos := "laws.go:373", after := #[{ on := 30, ground := Ground.data }, { on := 28, ground := Ground.chain }, { on := 0, ground := Ground.phase }, { on := 1, ground := Ground.phase }, { on := 2, ground := Ground.phase }, { on := 3, ground := Ground.phase }, { on := 4, ground := Ground.phase }, { on := 5, ground := Ground.phase }, { on := 6, ground := Ground.phase }, { on := 7, ground := Ground.phase }, { on := 8, ground := Ground.phase }, { on := 9, ground := Ground.phase }, { on := 10, ground := Ground.phase }, { on := 11, ground := Ground.phase }, { on := 12, ground := Ground.phase }, { on := 13, ground := Ground.phase }, { on := 14, ground := Ground.phase }, { on := 15, ground := Ground.phase }, { on := 16, ground := Ground.phase }, { on := 17, ground := Ground.phase }, { on := 18, ground := Ground.phase }, { on := 19, ground := Ground.phase }, { on := 20, ground := Ground.phase }, { on := 21, ground := Ground.phase }, { on := 22, ground := Ground.phase }, { on := 23, ground := Ground.phase }, { on := 24, ground := Ground.phase }, { on := 25, ground := Ground.phase }, { on := 26, ground := Ground.phase }, { on := 27, ground := Ground.phase }, { on := 28, ground := Ground.phase }, { on := 29, ground := Ground.phase }, { on := 30, ground := Ground.phase }], guard := none }) (v := ?_) rfl (by kernel_rfl) (by kernel_rfl) (by kernel_rfl) (fun _ _ _ h => h) (Or.inl ⟨by rfl, ?_⟩) (by assumption) ?_
        rotate_left
        · intro w hSw
          (try dsimp only at hSw)
          go_simp
          (try with_reducible rfl)
        (try simp only [Act.put, List.setIfInBounds_toArray, List.set_cons_zero, List.set_cons_succ])
        refine wpAnyH_done (by kernel_rfl) ?_ _
        clear HS0
        go_wp2_with fail
        go_ret
        exact ⟨by simp, HBB.out.trans (Below.mono (And.left (by assumption)) HBB.out.size)⟩
end Go.Proofs.Ytffkpmmgfgcngaa
