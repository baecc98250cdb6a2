/- The walk of the law FnTableOf. -/
import Derived.Test.YtlfajalhoifliaaBase7
import Derived.Test.YtlfajalhoifliaaLaw
import Derived.Test.YtlfajalhoifliaaLaw16
import Derived.Test.YtlfajalhoifliaaW8
import Derived.Test.YtlfajalhoifliaaW10
import Derived.Test.YtlfajalhoifliaaW41
import Derived.Test.YtlfajalhoifliaaW42
import Derived.Test.YtlfajalhoifliaaW43
import Derived.Test.YtlfajalhoifliaaW53
import Derived.Test.YtlfajalhoifliaaW62
import Derived.Deep.RegionHeld3
import Derived.Deep.QuietTactic
import Derived.BigQuiet
namespace Go.Proofs.Ytlfajalhoifliaa
open Go.RowKit

theorem RetM.any {B : Nat} {r : MassR} {e : Ending} {w : World} (hn : rN r ≤ 1048576) (h : RetM B r e w) : ∃ b t A m C ys, e = .returned (.tuple #[massV t A m C, .bool b]) ∧ m ≤ 1048576 ∧ Row w A m ys := by
  obtain ⟨A, C, he, ho⟩ := h
  exact ⟨_, _, A, _, C, _, he, hn, ho.row⟩

set_option maxHeartbeats 6400000 in
set_option maxRecDepth 100000 in
theorem walkTableOf (a : Option Addr) (l c : Nat) (bs : List Int) (w : World) (hr : BRow w a l bs) (hlc : l ≤ c) :
    Calls Try.prog 3 #[.slice a l c] w fun e w' => e = .returned (.bool true) ∧ Below w.heap.size w w' := by
  by_cases hl : 1048576 < (l : Int)
  · clear hr
    go_enter Try.func3, Try.ntmps3
    go_wp2_with fail
    go_ret
    exact ⟨rfl, Below.refl _ _⟩
  have HD := Lib.hid (DrawTableOf_any a l c bs w hr (.inl hlc))
  clear hr
  go_enter Try.func3, Try.ntmps3
  go_wp2_with fail
  refine HD.out.mono ?_
  rintro e w1 ⟨s, A, n, C, xs, kd, rfl, hn17, Rm, b1⟩
  have BB := b1
  have hn : n ≤ 1048576 := by omega
  go_upto_region 4 with fail
  obtain ⟨w2, hw2⟩ : ∃ W, W = w1.alloc (.cells #[.int .i64 s, .slice A n C] 25) := ⟨_, rfl⟩
  obtain ⟨Mm, b2⟩ := Mv.new Rm hw2
  rw [← hw2]
  clear hw2
  replace BB := BB.trans (b2.mono BB.size)
  by_cases htk : massB s xs = true ∧ kindN kd < 4
  · obtain ⟨hm, hj⟩ := htk
    have hlx := Rm.1
    have hI := massB_is hlx hm
    have hnums := hI.nums
    obtain ⟨j, hjk⟩ : ∃ j, j = kindN kd := ⟨_, rfl⟩
    rw [← hjk] at hj
    obtain ⟨hN, hT⟩ := tab_yes hlx hm hjk.symm hj
    obtain ⟨hN0, hT0⟩ := tab_yes (kd := { data := #[105, 109, 112, 108, 105, 101, 100] }) (j := 0) hlx hm (kind0 (by decide +kernel)) (by omega)
    obtain ⟨hN2, hT2⟩ := tab_yes (kd := { data := #[112, 111, 115, 115, 105, 98, 108, 101] }) (j := 2) hlx hm (kind2 (by decide +kernel)) (by omega)
    obtain ⟨hN3, hT3⟩ := tab_yes (kd := { data := #[99, 111, 109, 109, 111, 110] }) (j := 3) hlx hm (kind3 (by decide +kernel)) (by omega)
    rw [table_implied hlx] at hT0
    rw [table_common hlx] at hT3
    have hbel := implied_belief hm hlx
    have htb : tableB xs = true := by
      unfold tableB
      rw [hlx]
      have : xs.all isPartB = true := by
        rw [all_getD]
        intro k hk
        have := hI.part k (by omega)
        unfold isPartB
        simp only [Bool.and_eq_true, decide_eq_true_eq]
        omega
      rw [this]
      simp
      omega
    obtain ⟨ls, hls⟩ : ∃ l, l = tab n (measK j xs) := ⟨_, rfl⟩
    obtain ⟨lw, hlw⟩ : ∃ l, l = sums false false xs := ⟨_, rfl⟩
    obtain ⟨li, hli⟩ : ∃ l, l = tab n (measK 2 xs) := ⟨_, rfl⟩
    obtain ⟨lc, hlc⟩ : ∃ l, l = sums true false xs := ⟨_, rfl⟩
    rw [← hls] at hT
    rw [← hlw] at hT0 hbel
    rw [← hli] at hT2
    rw [← hlc] at hT3
    obtain ⟨wh, hwh⟩ : ∃ v, v = sumL xs := ⟨_, rfl⟩
    have hdual : ∀ a, a < n → lw.getD a 0 + li.getD (n - 1 - a) 0 = wh := fun a ha => by
      rw [hlw, hli, hwh, ← table_implied hlx, tab_getD _ _ _ ha, tab_getD _ _ _ (show n - 1 - a < n by omega)]
      exact tables_dual hlx hnums ha
    have hwb : 1 ≤ wh ∧ wh ≤ 1000000 := by rw [hwh]; exact hI.whole
    have HWO := Lib.hid (fun W (h : Row W A n xs) => WholeOf_any s A n C xs W h hn)
    rw [wholeR_yes hm, ← hwh] at HWO
    have hback : ((j = 0 ∨ j = 3) ∨ xs.getD 0 0 = 0) → motR s ls kd = some (s, xs) := fun hd => by rw [hls]; exact mot_table hm hlx hjk.symm hj hd
    have hnn : normB s xs = (xs.getD 0 0 == 0) := by unfold normB; rw [hm]; simp
    have HT := Lib.hid hT
    have HN := Lib.hid hN
    have HT0 := Lib.hid hT0
    have HN0 := Lib.hid hN0
    have HT2 := Lib.hid hT2
    have HN2 := Lib.hid hN2
    have HT3 := Lib.hid hT3
    have HN3 := Lib.hid hN3
    have HBEL := Lib.hid hbel
    have HTB := Lib.hid htb
    have HDUAL := Lib.hid hdual
    have HBACK := Lib.hid hback
    have HNN := Lib.hid hnn
    have HJK := Lib.hid hjk
    have HLW := Lib.hid hlw
    have HLC := Lib.hid hlc
    have HLX := Lib.hid hlx
    have hn2 : 2 ≤ n := by omega
    have hn16 : n ≤ 16 := by omega
    have hne : ((n : Int) == 0) = false := by simp; omega
    clear hm hlx hI hnums hN hT hN0 hT0 hN2 hT2 hN3 hT3 hbel htb hls hlw hli hlc hwh hdual hback hnn hjk
    have HXa := Lib.hid (fun W (h : Row W A n xs) => iTableOf_any s kd A n C xs W h hn)
    rw [HN.out, HT.out] at HXa
    obtain ⟨m1, m2⟩ := Mm.at_ (Below.refl _ _)
    go_wp2_with fail
    clear m1 m2
    refine (HXa.out _ Mm.2).mono ?_
    rintro e w3 ⟨Aa, Ca, rfl, Oa, b3⟩
    replace Mm := Mm.below b3
    replace BB := BB.trans (b3.mono BB.size)
    have Ra := Oa.row
    clear Oa HXa
    have HXb := Lib.hid (fun W (h : Row W A n xs) => sTableOf_any s kd A n C xs W h hn)
    rw [HN.out, HT.out] at HXb
    obtain ⟨m1, m2⟩ := Mm.at_ (Below.refl _ _)
    go_wp2_with fail
    clear m1 m2
    refine (HXb.out _ Mm.2).mono ?_
    rintro e w4 ⟨Ab, Cb, rfl, Ob, b4⟩
    replace Mm := Mm.below b4
    replace Ra := Ra.below b4
    replace BB := BB.trans (b4.mono BB.size)
    have Rb := Ob.row
    clear Ob HXb
    have HE := Lib.hid (weSame_any Aa Ab n Ca n Cb ls ls w4 Ra Rb (by omega) (by omega))
    rw [eqB_self] at HE
    go_wp2_with fail
    refine (HE.out).mono ?_
    rintro e w5 ⟨rfl, b5⟩
    replace Mm := Mm.below b5
    replace Ra := Ra.below b5
    replace Rb := Rb.below b5
    replace BB := BB.trans (b5.mono BB.size)
    clear HE
    clear Rb
    have HXc := Lib.hid (fun W (h : Row W A n xs) => iTableOf_any s { data := #[105, 109, 112, 108, 105, 101, 100] } A n C xs W h hn)
    rw [HN0.out, HT0.out] at HXc
    obtain ⟨m1, m2⟩ := Mm.at_ (Below.refl _ _)
    go_wp2_with fail
    clear m1 m2
    refine (HXc.out _ Mm.2).mono ?_
    rintro e w6 ⟨Ac, Cc, rfl, Oc, b6⟩
    replace Mm := Mm.below b6
    replace Ra := Ra.below b6
    replace BB := BB.trans (b6.mono BB.size)
    have Rc := Oc.row
    clear Oc HXc
    have HXd := Lib.hid (fun W (h : Row W A n xs) => iTableOf_any s { data := #[112, 111, 115, 115, 105, 98, 108, 101] } A n C xs W h hn)
    rw [HN2.out, HT2.out] at HXd
    obtain ⟨m1, m2⟩ := Mm.at_ (Below.refl _ _)
    go_wp2_with fail
    clear m1 m2
    refine (HXd.out _ Mm.2).mono ?_
    rintro e w7 ⟨Ad, Cd, rfl, Od, b7⟩
    replace Mm := Mm.below b7
    replace Ra := Ra.below b7
    replace Rc := Rc.below b7
    replace BB := BB.trans (b7.mono BB.size)
    have Rd := Od.row
    clear Od HXd
    obtain ⟨bc, offc, rfl⟩ := Rc.form (by omega)
    obtain ⟨bd, offd, rfl⟩ := Rd.form (by omega)
    have Hm := Lib.hid Mm
    have HBB := Lib.hid BB
    clear BB Mm
    have HRa := Lib.hid Ra
    have HRc := Lib.hid Rc
    have HRd := Lib.hid Rd
    have HWB := Lib.hid (fun W (h : Below w7.heap.size w7 W) => HWO.out W (Hm.out.2.below h))
    clear Ra Rc Rd
    obtain ⟨m1, m2⟩ := Hm.out.at_ (Below.refl _ _)
    go_wp2_with fail
    clear m1 m2
    go_loopw [8] (fun v wr => ∃ i : Nat, i ≤ n ∧ v = .int .i64 i ∧ Hid (Below w7.heap.size w7 wr)) (fun v _ => n - (intOf v).toNat)
    case atStart => exact ⟨0, Nat.zero_le _, rfl, Lib.hid (Below.refl _ _)⟩
    case round =>
      obtain ⟨i, hi, rfl, HB⟩ := hrel
      by_cases hlt : i < n
      · have hii : (i : Int) < (n : Int) := by omega
        obtain ⟨z, hz⟩ : ∃ z : Nat, z = n - 1 - i := ⟨_, rfl⟩
        obtain ⟨m, hmn⟩ : ∃ m : Nat, m = n - 1 := ⟨_, rfl⟩
        have hzn : z < n := by omega
        have hzi : (z : Int) < (n : Int) := by omega
        have hm1 : IntKind.i64.wrap ((n : Int) - 1) = (m : Int) := by rw [show (n : Int) - 1 = (m : Int) by omega]; exact IntWalk.i64_in _ (by omega)
        have hm2 : IntKind.i64.wrap ((m : Int) - (i : Int)) = (z : Int) := by rw [show (m : Int) - (i : Int) = (z : Int) by omega]; exact IntWalk.i64_in _ (by omega)
        obtain ⟨v1, hv1⟩ : ∃ v, v = lw.getD i 0 := ⟨_, rfl⟩
        obtain ⟨v2, hv2⟩ : ∃ v, v = li.getD z 0 := ⟨_, rfl⟩
        have hd0 := HDUAL.out i hlt
        rw [← hz, ← hv1, ← hv2] at hd0
        have hs3 : IntKind.i64.wrap (v1 + v2) = wh := by rw [hd0]; exact IntWalk.i64_in _ (by omega)
        have hneq : (wh != wh) = false := by simp
        have HCc := Lib.hid (fun W (h : Below w7.heap.size w7 W) => HRc.out.cellAt h hlt)
        have HCd := Lib.hid (fun W (h : Below w7.heap.size w7 W) => HRd.out.cellAt h hzn)
        rw [← hv1] at HCc
        rw [← hv2] at HCd
        clear hz hmn hv1 hv2 hd0
        go_wp2_with fail
        have HIS : Hid (∀ W, Below w7.heap.size w7 W → Below w7.heap.size w7 W ∧ W.cell? ⟨w1.heap.size, 0, none⟩ = some (.int .i64 s) ∧ W.cell? ⟨w1.heap.size, 1, none⟩ = some (.slice A n C) ∧ W.cell? ⟨bc, offc + i, none⟩ = some (.int .i64 v1) ∧ W.cell? ⟨bd, offd + z, none⟩ = some (.int .i64 v2)) := fun W h => ⟨h, (Hm.out.at_ h).1, (Hm.out.at_ h).2, HCc.out W h, HCd.out W h⟩
        have HKS : Hid (∀ W W', Below W.heap.size W W' → (Below w7.heap.size w7 W ∧ W.cell? ⟨w1.heap.size, 0, none⟩ = some (.int .i64 s) ∧ W.cell? ⟨w1.heap.size, 1, none⟩ = some (.slice A n C) ∧ W.cell? ⟨bc, offc + i, none⟩ = some (.int .i64 v1) ∧ W.cell? ⟨bd, offd + z, none⟩ = some (.int .i64 v2)) → Below w7.heap.size w7 W' ∧ W'.cell? ⟨w1.heap.size, 0, none⟩ = some (.int .i64 s) ∧ W'.cell? ⟨w1.heap.size, 1, none⟩ = some (.slice A n C) ∧ W'.cell? ⟨bc, offc + i, none⟩ = some (.int .i64 v1) ∧ W'.cell? ⟨bd, offd + z, none⟩ = some (.int .i64 v2)) := fun W W' b h => HIS.out W' (h.1.trans (b.mono h.1.size))
        have HS0 := Lib.hid (HIS.out _ (HB.out.drew))
        go_wp2_with fail
        go_region_held3 (fun W => Below w7.heap.size w7 W ∧ W.cell? ⟨w1.heap.size, 0, none⟩ = some (.int .i64 s) ∧ W.cell? ⟨w1.heap.size, 1, none⟩ = some (.slice A n C) ∧ W.cell? ⟨bc, offc + i, none⟩ = some (.int .i64 v1) ∧ W.cell? ⟨bd, offd + z, none⟩ = some (.int .i64 v2))
          (first | exact HS0.out | assumption | exact HKS.out _ _ (by assumption) (by assumption) | go_keep)
          (first | (go_at_call 9; (first | ((with_reducible refine (HWB.out _ (And.left (by assumption))).mono ?_); rintro e w9 ⟨rfl, b9⟩))))
        clear HS0
        go_wp2_with fail
        go_roundw
        case rel => exact ⟨i + 1, by omega, by go_num, Lib.hid (And.left (by assumption))⟩
        case measure => simp [intOf]; omega
      · obtain rfl : n = i := by omega
        clear hlt
        obtain ⟨w9, rfl⟩ : ∃ X, X = wr := ⟨_, rfl⟩
        have BB := HBB.out.trans (HB.out.mono HBB.out.size)
        have Mm := Hm.out.below HB.out
        have Ra := HRa.out.below HB.out
        have Rc := HRc.out.below HB.out
        clear HRa HRc HRd HB HBB Hm HWB
        by_cases h0 : xs.getD 0 0 = 0
        · have HNV : Hid (normB s xs = true) := by show _ = _; rw [HNN.out, h0]; rfl
          have HBK := Lib.hid (HBACK.out (.inr h0))
          clear h0 HBACK
          have HMT := Lib.hid (fun W (h : Row W Aa n ls) => iMassOfTable_any s kd Aa n Ca ls W h hn)
          have HMU := Lib.hid (fun W (h : Row W Aa n ls) => (HMT.out W h).mono (fun e w' h => And.intro (RetM.yes HBK.out HLX.out h.1) h.2))
          obtain ⟨m1, m2⟩ := Mm.at_ (Below.refl _ _)
          go_wp2_with fail
          clear m1 m2
          refine (HMU.out _ Ra).mono ?_
          rintro e w21 ⟨⟨Ak, Ck, rfl, Rk⟩, b21⟩
          replace Mm := Mm.below b21
          replace Ra := Ra.below b21
          replace Rc := Rc.below b21
          replace BB := BB.trans (b21.mono BB.size)
          go_upto_region 15 with fail
          obtain ⟨w22, hw22⟩ : ∃ W, W = w21.alloc (.cells #[.int .i64 s, .slice Ak n Ck] 25) := ⟨_, rfl⟩
          obtain ⟨Mk, b22⟩ := Mv.new Rk hw22
          rw [← hw22]
          clear hw22
          replace Mm := Mm.below b22
          replace Ra := Ra.below b22
          replace Rc := Rc.below b22
          replace BB := BB.trans (b22.mono BB.size)
          clear HMU HMT
          have Hm := Lib.hid Mm
          have Hk := Lib.hid Mk
          have HBB := Lib.hid BB
          clear BB Mm Mk
          have HRa := Lib.hid Ra
          have HRc := Lib.hid Rc
          have HC1 := Lib.hid (fun W (h : Below w22.heap.size w22 W) => iSumsBelow_any A n C xs W (Hm.out.2.below h) hn)
          rw [toldN_yes HTB.out, told_yes HTB.out, ← HLW.out] at HC1
          have HC2 := Lib.hid (fun W A2 C2 (h : Below w22.heap.size w22 W) (h2 : Row W A2 n lw) => weSame_any (some ⟨bc, offc, none⟩) A2 n Cc n C2 lw lw W (HRc.out.below h) h2 hn hn)
          rw [eqB_self] at HC2
          have HC3 := Lib.hid (fun W (h : Below w22.heap.size w22 W) => iTableOf_any s { data := #[99, 111, 109, 109, 111, 110] } A n C xs W (Hm.out.2.below h) hn)
          rw [HN3.out, HT3.out] at HC3
          have HC4 := Lib.hid (fun W (h : Below w22.heap.size w22 W) => iSumsAbove_any A n C xs W (Hm.out.2.below h) hn)
          rw [toldN_yes HTB.out, told_yes HTB.out, ← HLC.out] at HC4
          have HC5 := Lib.hid (fun W A2 C2 A3 C3 (h2 : Row W A2 n lc) (h3 : Row W A3 n lc) => weSame_any A2 A3 n C2 n C3 lc lc W h2 h3 hn hn)
          rw [eqB_self] at HC5
          have HC6 := Lib.hid (fun W (h : Below w22.heap.size w22 W) => iIsBeliefTable_any (some ⟨bc, offc, none⟩) n Cc lw W (HRc.out.below h) hn)
          rw [HBEL.out] at HC6
          have HC7 := Lib.hid (fun W (h : Below w22.heap.size w22 W) => IsNormal_any s A n C xs W (Hm.out.2.below h) hn)
          rw [HNV.out] at HC7
          have HC8 := Lib.hid (fun W (h : Below w22.heap.size w22 W) => weEqual_any s s Ak A n Ck n C xs xs W (Hk.out.2.below h) (Hm.out.2.below h) hn hn)
          rw [eq_self2] at HC8
          clear Ra Rc
          have HIS : Hid (∀ W, Below w22.heap.size w22 W → Below w22.heap.size w22 W ∧ W.cell? ⟨w1.heap.size, 0, none⟩ = some (.int .i64 s) ∧ W.cell? ⟨w1.heap.size, 1, none⟩ = some (.slice A n C) ∧ W.cell? ⟨w21.heap.size, 0, none⟩ = some (.int .i64 s) ∧ W.cell? ⟨w21.heap.size, 1, none⟩ = some (.slice Ak n Ck)) := fun W h => ⟨h, (Hm.out.at_ h).1, (Hm.out.at_ h).2, (Hk.out.at_ h).1, (Hk.out.at_ h).2⟩
          have HKS : Hid (∀ W W', Below W.heap.size W W' → (Below w22.heap.size w22 W ∧ W.cell? ⟨w1.heap.size, 0, none⟩ = some (.int .i64 s) ∧ W.cell? ⟨w1.heap.size, 1, none⟩ = some (.slice A n C) ∧ W.cell? ⟨w21.heap.size, 0, none⟩ = some (.int .i64 s) ∧ W.cell? ⟨w21.heap.size, 1, none⟩ = some (.slice Ak n Ck)) → Below w22.heap.size w22 W' ∧ W'.cell? ⟨w1.heap.size, 0, none⟩ = some (.int .i64 s) ∧ W'.cell? ⟨w1.heap.size, 1, none⟩ = some (.slice A n C) ∧ W'.cell? ⟨w21.heap.size, 0, none⟩ = some (.int .i64 s) ∧ W'.cell? ⟨w21.heap.size, 1, none⟩ = some (.slice Ak n Ck)) := fun W W' b h => HIS.out W' (h.1.trans (b.mono h.1.size))
          have HS0 := Lib.hid (HIS.out _ ((Below.refl _ _).drew))
          go_wp2_with fail
          refine wp_region_held_drew (S := fun W => Below w22.heap.size w22 W ∧ W.cell? ⟨w1.heap.size, 0, none⟩ = some (.int .i64 s) ∧ W.cell? ⟨w1.heap.size, 1, none⟩ = some (.slice A n C) ∧ W.cell? ⟨w21.heap.size, 0, none⟩ = some (.int .i64 s) ∧ W.cell? ⟨w21.heap.size, 1, none⟩ = some (.slice Ak n Ck)) (by kernel_rfl) ?_ (fun hHeld => ?_)
          · exact HS0.out
          refine wpAnyH_take (i := 0) (oi := { dst := some 72, op := Op.move (Operand.tmp 6), type := 23, pos := "laws.go:581", after := #[], guard := none }) (v := ?_) rfl (by kernel_rfl) (by kernel_rfl) (by kernel_rfl) (fun _ _ _ h => h) (Or.inl ⟨by rfl, ?_⟩) (by assumption) ?_
          rotate_left
          · intro w hSw
            (try dsimp only at hSw)
            go_simp
            (try with_reducible rfl)
          (try simp only [Act.put, List.setIfInBounds_toArray, List.set_cons_zero, List.set_cons_succ])
          refine wpAnyH_take (i := 1) (oi := { dst := some 73, op := Op.fieldAddr 25 (Operand.tmp 3) 1, type := 0, pos := "laws.go:581", after := #[], guard := none }) (v := ?_) rfl (by kernel_rfl) (by kernel_rfl) (by kernel_rfl) (fun _ _ _ h => h) (Or.inl ⟨by rfl, ?_⟩) (by assumption) ?_
          rotate_left
          · intro w hSw
            (try dsimp only at hSw)
            go_simp
            (try with_reducible rfl)
          (try simp only [Act.put, List.setIfInBounds_toArray, List.set_cons_zero, List.set_cons_succ])
          refine wpAnyH_take (i := 2) (oi := { dst := some 74, op := Op.load 23 (Operand.tmp 73), type := 23, pos := "laws.go:581", after := #[{ on := 1, ground := Ground.data }], guard := none }) (v := ?_) rfl (by kernel_rfl) (by kernel_rfl) (by kernel_rfl) (fun _ _ _ h => h) (Or.inl ⟨by rfl, ?_⟩) (by assumption) ?_
          rotate_left
          · intro w hSw
            (try dsimp only at hSw)
            go_simp
            (try with_reducible rfl)
          (try simp only [Act.put, List.setIfInBounds_toArray, List.set_cons_zero, List.set_cons_succ])
          refine wpAnyH_ready (rs := [3]) (by kernel_rfl) (by simp) ?_
          refine AllReadyH.cons (o := { dst := some 75, op := Op.call { callee := Callee.value (Operand.func 11), args := #[Operand.tmp 74], argTypes := #[23] }, type := 23, pos := "laws.go:581", after := #[{ on := 2, ground := Ground.data }], guard := none }) rfl (fun K hK => ?_) AllReadyH.nil
          go_simp
          go_at_call 11
          refine (HC1.out _ (And.left (by assumption))).mono ?_
          rintro e w9 ⟨A1, C1, rfl, O1, b9⟩
          go_simp
          refine hK.out _ _ ?_ (fun hHeld => ?_)
          · first | assumption | exact HKS.out _ _ (by assumption) (by assumption)
          clear hK K
          (try simp only [Act.put, List.setIfInBounds_toArray, List.set_cons_zero, List.set_cons_succ])
          refine wpAnyH_ready (rs := [4]) (by kernel_rfl) (by simp) ?_
          refine AllReadyH.cons (o := { dst := some 76, op := Op.call { callee := Callee.value (Operand.func 7), args := #[Operand.tmp 72, Operand.tmp 75], argTypes := #[23, 23] }, type := 4, pos := "laws.go:581", after := #[{ on := 0, ground := Ground.data }, { on := 3, ground := Ground.data }, { on := 3, ground := Ground.chain }], guard := none }) rfl (fun K hK => ?_) AllReadyH.nil
          go_simp
          go_at_call 7
          refine (HC2.out _ _ _ (And.left (by assumption)) O1.row).mono ?_
          rintro e w9 ⟨rfl, b9⟩
          go_simp
          refine hK.out _ _ ?_ (fun hHeld => ?_)
          · first | assumption | exact HKS.out _ _ (by assumption) (by assumption)
          clear hK K
          (try simp only [Act.put, List.setIfInBounds_toArray, List.set_cons_zero, List.set_cons_succ])
          refine wpAnyH_take (i := 5) (oi := { dst := some 77, op := Op.move (Operand.tmp 76), type := 4, pos := "laws.go:581", after := #[{ on := 4, ground := Ground.data }, { on := 4, ground := Ground.chain }], guard := none }) (v := ?_) rfl (by kernel_rfl) (by kernel_rfl) (by kernel_rfl) (fun _ _ _ h => h) (Or.inl ⟨by rfl, ?_⟩) (by assumption) ?_
          rotate_left
          · intro w hSw
            (try dsimp only at hSw)
            go_simp
            (try with_reducible rfl)
          (try simp only [Act.put, List.setIfInBounds_toArray, List.set_cons_zero, List.set_cons_succ])
          refine wpAnyH_take (i := 6) (oi := { dst := some 78, op := Op.load 25 (Operand.tmp 3), type := 25, pos := "laws.go:581", after := #[{ on := 5, ground := Ground.guard }], guard := some (5, true) }) (v := ?_) rfl (by kernel_rfl) (by kernel_rfl) (by kernel_rfl) (fun _ _ _ h => h) (Or.inl ⟨by rfl, ?_⟩) (by assumption) ?_
          rotate_left
          · intro w hSw
            (try dsimp only at hSw)
            go_simp
            (try with_reducible rfl)
          (try simp only [Act.put, List.setIfInBounds_toArray, List.set_cons_zero, List.set_cons_succ])
          refine wpAnyH_take (i := 8) (oi := { dst := some 80, op := Op.fieldAddr 25 (Operand.tmp 3) 1, type := 0, pos := "laws.go:581", after := #[{ on := 5, ground := Ground.guard }], guard := some (5, true) }) (v := ?_) rfl (by kernel_rfl) (by kernel_rfl) (by kernel_rfl) (fun _ _ _ h => h) (Or.inl ⟨by rfl, ?_⟩) (by assumption) ?_
          rotate_left
          · intro w hSw
            (try dsimp only at hSw)
            go_simp
            (try with_reducible rfl)
          (try simp only [Act.put, List.setIfInBounds_toArray, List.set_cons_zero, List.set_cons_succ])
          refine wpAnyH_take (i := 9) (oi := { dst := some 81, op := Op.load 23 (Operand.tmp 80), type := 23, pos := "laws.go:581", after := #[{ on := 8, ground := Ground.data }, { on := 5, ground := Ground.guard }], guard := some (5, true) }) (v := ?_) rfl (by kernel_rfl) (by kernel_rfl) (by kernel_rfl) (fun _ _ _ h => h) (Or.inl ⟨by rfl, ?_⟩) (by assumption) ?_
          rotate_left
          · intro w hSw
            (try dsimp only at hSw)
            go_simp
            (try with_reducible rfl)
          (try simp only [Act.put, List.setIfInBounds_toArray, List.set_cons_zero, List.set_cons_succ])
          refine wpAnyH_ready (rs := [7]) (by kernel_rfl) (by simp) ?_
          refine AllReadyH.cons (o := { dst := some 79, op := Op.call { callee := Callee.value (Operand.func 6), args := #[Operand.tmp 78, Operand.const (Value.string { data := #[99, 111, 109, 109, 111, 110] })], argTypes := #[25, 9] }, type := 23, pos := "laws.go:581", after := #[{ on := 6, ground := Ground.data }, { on := 5, ground := Ground.chain }, { on := 5, ground := Ground.guard }], guard := some (5, true) }) rfl (fun K hK => ?_) AllReadyH.nil
          go_simp
          go_at_call 6
          refine (HC3.out _ (And.left (by assumption))).mono ?_
          rintro e w9 ⟨A3, C3, rfl, O3, b9⟩
          go_simp
          refine hK.out _ _ ?_ (fun hHeld => ?_)
          · first | assumption | exact HKS.out _ _ (by assumption) (by assumption)
          clear hK K
          (try simp only [Act.put, List.setIfInBounds_toArray, List.set_cons_zero, List.set_cons_succ])
          refine wpAnyH_ready (rs := [10]) (by kernel_rfl) (by simp) ?_
          refine AllReadyH.cons (o := { dst := some 82, op := Op.call { callee := Callee.value (Operand.func 12), args := #[Operand.tmp 81], argTypes := #[23] }, type := 23, pos := "laws.go:581", after := #[{ on := 9, ground := Ground.data }, { on := 7, ground := Ground.chain }, { on := 5, ground := Ground.guard }], guard := some (5, true) }) rfl (fun K hK => ?_) AllReadyH.nil
          go_simp
          go_at_call 12
          refine (HC4.out _ (And.left (by assumption))).mono ?_
          rintro e w9 ⟨A4, C4, rfl, O4, b9⟩
          go_simp
          refine hK.out _ _ ?_ (fun hHeld => ?_)
          · first | assumption | exact HKS.out _ _ (by assumption) (by assumption)
          clear hK K
          (try simp only [Act.put, List.setIfInBounds_toArray, List.set_cons_zero, List.set_cons_succ])
          refine wpAnyH_ready (rs := [11]) (by kernel_rfl) (by simp) ?_
          refine AllReadyH.cons (o := { dst := some 83, op := Op.call { callee := Callee.value (Operand.func 7), args := #[Operand.tmp 79, Operand.tmp 82], argTypes := #[23, 23] }, type := 4, pos := "laws.go:581", after := #[{ on := 7, ground := Ground.data }, { on := 10, ground := Ground.data }, { on := 10, ground := Ground.chain }, { on := 5, ground := Ground.guard }], guard := some (5, true) }) rfl (fun K hK => ?_) AllReadyH.nil
          go_simp
          go_at_call 7
          refine (HC5.out _ _ _ _ _ (O3.row.below b9) O4.row).mono ?_
          rintro e w9 ⟨rfl, b9⟩
          go_simp
          refine hK.out _ _ ?_ (fun hHeld => ?_)
          · first | assumption | exact HKS.out _ _ (by assumption) (by assumption)
          clear hK K
          (try simp only [Act.put, List.setIfInBounds_toArray, List.set_cons_zero, List.set_cons_succ])
          refine wpAnyH_take (i := 12) (oi := { dst := some 84, op := Op.pick (Operand.tmp 77) (Operand.tmp 83) (Operand.const (Value.bool false)), type := 4, pos := "laws.go:581", after := #[{ on := 5, ground := Ground.data }, { on := 11, ground := Ground.data }], guard := none }) (v := ?_) rfl (by kernel_rfl) (by kernel_rfl) (by kernel_rfl) (fun _ _ _ h => h) (Or.inl ⟨by rfl, ?_⟩) (by assumption) ?_
          rotate_left
          · intro w hSw
            (try dsimp only at hSw)
            go_simp
            (try with_reducible rfl)
          (try simp only [Act.put, List.setIfInBounds_toArray, List.set_cons_zero, List.set_cons_succ])
          refine wpAnyH_take (i := 13) (oi := { dst := some 85, op := Op.move (Operand.tmp 84), type := 4, pos := "laws.go:581", after := #[{ on := 12, ground := Ground.data }, { on := 11, ground := Ground.chain }], guard := none }) (v := ?_) rfl (by kernel_rfl) (by kernel_rfl) (by kernel_rfl) (fun _ _ _ h => h) (Or.inl ⟨by rfl, ?_⟩) (by assumption) ?_
          rotate_left
          · intro w hSw
            (try dsimp only at hSw)
            go_simp
            (try with_reducible rfl)
          (try simp only [Act.put, List.setIfInBounds_toArray, List.set_cons_zero, List.set_cons_succ])
          refine wpAnyH_take (i := 14) (oi := { dst := some 86, op := Op.move (Operand.tmp 6), type := 23, pos := "laws.go:581", after := #[{ on := 13, ground := Ground.guard }], guard := some (13, true) }) (v := ?_) rfl (by kernel_rfl) (by kernel_rfl) (by kernel_rfl) (fun _ _ _ h => h) (Or.inl ⟨by rfl, ?_⟩) (by assumption) ?_
          rotate_left
          · intro w hSw
            (try dsimp only at hSw)
            go_simp
            (try with_reducible rfl)
          (try simp only [Act.put, List.setIfInBounds_toArray, List.set_cons_zero, List.set_cons_succ])
          refine wpAnyH_ready (rs := [15]) (by kernel_rfl) (by simp) ?_
          refine AllReadyH.cons (o := { dst := some 87, op := Op.call { callee := Callee.value (Operand.func 13), args := #[Operand.tmp 86], argTypes := #[23] }, type := 4, pos := "laws.go:581", after := #[{ on := 14, ground := Ground.data }, { on := 13, ground := Ground.chain }, { on := 13, ground := Ground.guard }], guard := some (13, true) }) rfl (fun K hK => ?_) AllReadyH.nil
          go_simp
          go_at_call 13
          refine (HC6.out _ (And.left (by assumption))).mono ?_
          rintro e w9 ⟨rfl, b9⟩
          go_simp
          refine hK.out _ _ ?_ (fun hHeld => ?_)
          · first | assumption | exact HKS.out _ _ (by assumption) (by assumption)
          clear hK K
          (try simp only [Act.put, List.setIfInBounds_toArray, List.set_cons_zero, List.set_cons_succ])
          refine wpAnyH_take (i := 16) (oi := { dst := some 88, op := Op.pick (Operand.tmp 85) (Operand.tmp 87) (Operand.const (Value.bool false)), type := 4, pos := "laws.go:581", after := #[{ on := 13, ground := Ground.data }, { on := 15, ground := Ground.data }], guard := none }) (v := ?_) rfl (by kernel_rfl) (by kernel_rfl) (by kernel_rfl) (fun _ _ _ h => h) (Or.inl ⟨by rfl, ?_⟩) (by assumption) ?_
          rotate_left
          · intro w hSw
            (try dsimp only at hSw)
            go_simp
            (try with_reducible rfl)
          (try simp only [Act.put, List.setIfInBounds_toArray, List.set_cons_zero, List.set_cons_succ])
          refine wpAnyH_take (i := 17) (oi := { dst := some 89, op := Op.move (Operand.tmp 88), type := 4, pos := "laws.go:581", after := #[{ on := 16, ground := Ground.data }, { on := 15, ground := Ground.chain }], guard := none }) (v := ?_) rfl (by kernel_rfl) (by kernel_rfl) (by kernel_rfl) (fun _ _ _ h => h) (Or.inl ⟨by rfl, ?_⟩) (by assumption) ?_
          rotate_left
          · intro w hSw
            (try dsimp only at hSw)
            go_simp
            (try with_reducible rfl)
          (try simp only [Act.put, List.setIfInBounds_toArray, List.set_cons_zero, List.set_cons_succ])
          refine wpAnyH_take (i := 18) (oi := { dst := some 90, op := Op.load 25 (Operand.tmp 3), type := 25, pos := "laws.go:581", after := #[{ on := 17, ground := Ground.guard }], guard := some (17, true) }) (v := ?_) rfl (by kernel_rfl) (by kernel_rfl) (by kernel_rfl) (fun _ _ _ h => h) (Or.inl ⟨by rfl, ?_⟩) (by assumption) ?_
          rotate_left
          · intro w hSw
            (try dsimp only at hSw)
            go_simp
            (try with_reducible rfl)
          (try simp only [Act.put, List.setIfInBounds_toArray, List.set_cons_zero, List.set_cons_succ])
          refine wpAnyH_ready (rs := [19]) (by kernel_rfl) (by simp) ?_
          refine AllReadyH.cons (o := { dst := some 91, op := Op.call { callee := Callee.value (Operand.func 14), args := #[Operand.tmp 90], argTypes := #[25] }, type := 4, pos := "laws.go:581", after := #[{ on := 18, ground := Ground.data }, { on := 17, ground := Ground.chain }, { on := 17, ground := Ground.guard }], guard := some (17, true) }) rfl (fun K hK => ?_) AllReadyH.nil
          go_simp
          go_at_call 14
          refine (HC7.out _ (And.left (by assumption))).mono ?_
          rintro e w9 ⟨rfl, b9⟩
          go_simp
          refine hK.out _ _ ?_ (fun hHeld => ?_)
          · first | assumption | exact HKS.out _ _ (by assumption) (by assumption)
          clear hK K
          (try simp only [Act.put, List.setIfInBounds_toArray, List.set_cons_zero, List.set_cons_succ])
          refine wpAnyH_take (i := 20) (oi := { dst := some 92, op := Op.unOp UnOp.not 4 (Operand.tmp 91), type := 4, pos := "laws.go:581", after := #[{ on := 19, ground := Ground.data }, { on := 17, ground := Ground.guard }], guard := some (17, true) }) (v := ?_) rfl (by kernel_rfl) (by kernel_rfl) (by kernel_rfl) (fun _ _ _ h => h) (Or.inl ⟨by rfl, ?_⟩) (by assumption) ?_
          rotate_left
          · intro w hSw
            (try dsimp only at hSw)
            go_simp
            (try with_reducible rfl)
          (try simp only [Act.put, List.setIfInBounds_toArray, List.set_cons_zero, List.set_cons_succ])
          refine wpAnyH_take (i := 21) (oi := { dst := some 93, op := Op.move (Operand.tmp 92), type := 4, pos := "laws.go:581", after := #[{ on := 20, ground := Ground.data }, { on := 19, ground := Ground.chain }, { on := 17, ground := Ground.guard }], guard := some (17, true) }) (v := ?_) rfl (by kernel_rfl) (by kernel_rfl) (by kernel_rfl) (fun _ _ _ h => h) (Or.inl ⟨by rfl, ?_⟩) (by assumption) ?_
          rotate_left
          · intro w hSw
            (try dsimp only at hSw)
            go_simp
            (try with_reducible rfl)
          (try simp only [Act.put, List.setIfInBounds_toArray, List.set_cons_zero, List.set_cons_succ])
          refine wpAnyH_take (i := 22) (oi := { dst := some 94, op := Op.move (Operand.tmp 4), type := 9, pos := "laws.go:581", after := #[{ on := 21, ground := Ground.guard }], guard := some (21, true) }) (v := undef) rfl (by kernel_rfl) (by kernel_rfl) (by kernel_rfl) (fun _ _ _ h => h) (Or.inr ⟨by rfl, rfl⟩) (by assumption) ?_
          (try simp only [Act.put, List.setIfInBounds_toArray, List.set_cons_zero, List.set_cons_succ])
          refine wpAnyH_take (i := 23) (oi := { dst := some 95, op := Op.binOp BinOp.eql 9 (Operand.tmp 94) (Operand.const (Value.string { data := #[98, 101, 108, 105, 101, 118, 101, 100] })) 9, type := 4, pos := "laws.go:581", after := #[{ on := 22, ground := Ground.data }, { on := 21, ground := Ground.guard }], guard := some (21, true) }) (v := undef) rfl (by kernel_rfl) (by kernel_rfl) (by kernel_rfl) (fun _ _ _ h => h) (Or.inr ⟨by rfl, rfl⟩) (by assumption) ?_
          (try simp only [Act.put, List.setIfInBounds_toArray, List.set_cons_zero, List.set_cons_succ])
          refine wpAnyH_take (i := 24) (oi := { dst := some 96, op := Op.move (Operand.tmp 95), type := 4, pos := "laws.go:581", after := #[{ on := 23, ground := Ground.data }, { on := 21, ground := Ground.chain }, { on := 21, ground := Ground.guard }], guard := some (21, true) }) (v := undef) rfl (by kernel_rfl) (by kernel_rfl) (by kernel_rfl) (fun _ _ _ h => h) (Or.inr ⟨by rfl, rfl⟩) (by assumption) ?_
          (try simp only [Act.put, List.setIfInBounds_toArray, List.set_cons_zero, List.set_cons_succ])
          refine wpAnyH_take (i := 25) (oi := { dst := some 97, op := Op.move (Operand.tmp 4), type := 9, pos := "laws.go:581", after := #[{ on := 24, ground := Ground.guard }], guard := some (24, false) }) (v := undef) rfl (by kernel_rfl) (by kernel_rfl) (by kernel_rfl) (fun _ _ _ h => h) (Or.inr ⟨by rfl, rfl⟩) (by assumption) ?_
          (try simp only [Act.put, List.setIfInBounds_toArray, List.set_cons_zero, List.set_cons_succ])
          refine wpAnyH_take (i := 26) (oi := { dst := some 98, op := Op.binOp BinOp.eql 9 (Operand.tmp 97) (Operand.const (Value.string { data := #[112, 111, 115, 115, 105, 98, 108, 101] })) 9, type := 4, pos := "laws.go:581", after := #[{ on := 25, ground := Ground.data }, { on := 24, ground := Ground.guard }], guard := some (24, false) }) (v := undef) rfl (by kernel_rfl) (by kernel_rfl) (by kernel_rfl) (fun _ _ _ h => h) (Or.inr ⟨by rfl, rfl⟩) (by assumption) ?_
          (try simp only [Act.put, List.setIfInBounds_toArray, List.set_cons_zero, List.set_cons_succ])
          refine wpAnyH_take (i := 27) (oi := { dst := some 99, op := Op.pick (Operand.tmp 96) (Operand.const (Value.bool true)) (Operand.tmp 98), type := 4, pos := "laws.go:581", after := #[{ on := 24, ground := Ground.data }, { on := 26, ground := Ground.data }, { on := 21, ground := Ground.guard }], guard := some (21, true) }) (v := undef) rfl (by kernel_rfl) (by kernel_rfl) (by kernel_rfl) (fun _ _ _ h => h) (Or.inr ⟨by rfl, rfl⟩) (by assumption) ?_
          (try simp only [Act.put, List.setIfInBounds_toArray, List.set_cons_zero, List.set_cons_succ])
          refine wpAnyH_take (i := 28) (oi := { dst := some 100, op := Op.pick (Operand.tmp 93) (Operand.tmp 99) (Operand.const (Value.bool false)), type := 4, pos := "laws.go:581", after := #[{ on := 21, ground := Ground.data }, { on := 27, ground := Ground.data }, { on := 17, ground := Ground.guard }], guard := some (17, true) }) (v := ?_) rfl (by kernel_rfl) (by kernel_rfl) (by kernel_rfl) (fun _ _ _ h => h) (Or.inl ⟨by rfl, ?_⟩) (by assumption) ?_
          rotate_left
          · intro w hSw
            (try dsimp only at hSw)
            go_simp
            (try with_reducible rfl)
          (try simp only [Act.put, List.setIfInBounds_toArray, List.set_cons_zero, List.set_cons_succ])
          refine wpAnyH_take (i := 29) (oi := { dst := some 101, op := Op.move (Operand.tmp 100), type := 4, pos := "laws.go:581", after := #[{ on := 28, ground := Ground.data }, { on := 24, ground := Ground.chain }, { on := 17, ground := Ground.guard }], guard := some (17, true) }) (v := ?_) rfl (by kernel_rfl) (by kernel_rfl) (by kernel_rfl) (fun _ _ _ h => h) (Or.inl ⟨by rfl, ?_⟩) (by assumption) ?_
          rotate_left
          · intro w hSw
            (try dsimp only at hSw)
            go_simp
            (try with_reducible rfl)
          (try simp only [Act.put, List.setIfInBounds_toArray, List.set_cons_zero, List.set_cons_succ])
          refine wpAnyH_take (i := 30) (oi := { dst := some 102, op := Op.move (Operand.tmp 10), type := 4, pos := "laws.go:581", after := #[{ on := 29, ground := Ground.guard }], guard := some (29, false) }) (v := ?_) rfl (by kernel_rfl) (by kernel_rfl) (by kernel_rfl) (fun _ _ _ h => h) (Or.inl ⟨by rfl, ?_⟩) (by assumption) ?_
          rotate_left
          · intro w hSw
            (try dsimp only at hSw)
            go_simp
            (try with_reducible rfl)
          (try simp only [Act.put, List.setIfInBounds_toArray, List.set_cons_zero, List.set_cons_succ])
          refine wpAnyH_take (i := 31) (oi := { dst := some 103, op := Op.move (Operand.tmp 102), type := 4, pos := "laws.go:581", after := #[{ on := 30, ground := Ground.data }, { on := 29, ground := Ground.chain }, { on := 29, ground := Ground.guard }], guard := some (29, false) }) (v := ?_) rfl (by kernel_rfl) (by kernel_rfl) (by kernel_rfl) (fun _ _ _ h => h) (Or.inl ⟨by rfl, ?_⟩) (by assumption) ?_
          rotate_left
          · intro w hSw
            (try dsimp only at hSw)
            go_simp
            (try with_reducible rfl)
          (try simp only [Act.put, List.setIfInBounds_toArray, List.set_cons_zero, List.set_cons_succ])
          refine wpAnyH_take (i := 32) (oi := { dst := some 104, op := Op.load 25 (Operand.tmp 9), type := 25, pos := "laws.go:581", after := #[{ on := 31, ground := Ground.guard }], guard := some (31, true) }) (v := ?_) rfl (by kernel_rfl) (by kernel_rfl) (by kernel_rfl) (fun _ _ _ h => h) (Or.inl ⟨by rfl, ?_⟩) (by assumption) ?_
          rotate_left
          · intro w hSw
            (try dsimp only at hSw)
            go_simp
            (try with_reducible rfl)
          (try simp only [Act.put, List.setIfInBounds_toArray, List.set_cons_zero, List.set_cons_succ])
          refine wpAnyH_take (i := 33) (oi := { dst := some 105, op := Op.load 25 (Operand.tmp 3), type := 25, pos := "laws.go:581", after := #[{ on := 31, ground := Ground.guard }], guard := some (31, true) }) (v := ?_) rfl (by kernel_rfl) (by kernel_rfl) (by kernel_rfl) (fun _ _ _ h => h) (Or.inl ⟨by rfl, ?_⟩) (by assumption) ?_
          rotate_left
          · intro w hSw
            (try dsimp only at hSw)
            go_simp
            (try with_reducible rfl)
          (try simp only [Act.put, List.setIfInBounds_toArray, List.set_cons_zero, List.set_cons_succ])
          refine wpAnyH_ready (rs := [34]) (by kernel_rfl) (by simp) ?_
          refine AllReadyH.cons (o := { dst := some 106, op := Op.call { callee := Callee.value (Operand.func 15), args := #[Operand.tmp 104, Operand.tmp 105], argTypes := #[25, 25] }, type := 4, pos := "laws.go:581", after := #[{ on := 32, ground := Ground.data }, { on := 33, ground := Ground.data }, { on := 31, ground := Ground.chain }, { on := 31, ground := Ground.guard }], guard := some (31, true) }) rfl (fun K hK => ?_) AllReadyH.nil
          go_simp
          go_at_call 15
          refine (HC8.out _ (And.left (by assumption))).mono ?_
          rintro e w9 ⟨rfl, b9⟩
          go_simp
          refine hK.out _ _ ?_ (fun hHeld => ?_)
          · first | assumption | exact HKS.out _ _ (by assumption) (by assumption)
          clear hK K
          (try simp only [Act.put, List.setIfInBounds_toArray, List.set_cons_zero, List.set_cons_succ])
          refine wpAnyH_take (i := 35) (oi := { dst := some 107, op := Op.pick (Operand.tmp 103) (Operand.tmp 106) (Operand.const (Value.bool false)), type := 4, pos := "laws.go:581", after := #[{ on := 31, ground := Ground.data }, { on := 34, ground := Ground.data }, { on := 29, ground := Ground.guard }], guard := some (29, false) }) (v := ?_) rfl (by kernel_rfl) (by kernel_rfl) (by kernel_rfl) (fun _ _ _ h => h) (Or.inl ⟨by rfl, ?_⟩) (by assumption) ?_
          rotate_left
          · intro w hSw
            (try dsimp only at hSw)
            go_simp
            (try with_reducible rfl)
          (try simp only [Act.put, List.setIfInBounds_toArray, List.set_cons_zero, List.set_cons_succ])
          refine wpAnyH_take (i := 36) (oi := { dst := some 108, op := Op.pick (Operand.tmp 101) (Operand.const (Value.bool true)) (Operand.tmp 107), type := 4, pos := "laws.go:581", after := #[{ on := 29, ground := Ground.data }, { on := 35, ground := Ground.data }, { on := 17, ground := Ground.guard }], guard := some (17, true) }) (v := ?_) rfl (by kernel_rfl) (by kernel_rfl) (by kernel_rfl) (fun _ _ _ h => h) (Or.inl ⟨by rfl, ?_⟩) (by assumption) ?_
          rotate_left
          · intro w hSw
            (try dsimp only at hSw)
            go_simp
            (try with_reducible rfl)
          (try simp only [Act.put, List.setIfInBounds_toArray, List.set_cons_zero, List.set_cons_succ])
          refine wpAnyH_take (i := 37) (oi := { dst := some 109, op := Op.pick (Operand.tmp 89) (Operand.tmp 108) (Operand.const (Value.bool false)), type := 4, pos := "laws.go:581", after := #[{ on := 17, ground := Ground.data }, { on := 36, ground := Ground.data }], guard := none }) (v := ?_) rfl (by kernel_rfl) (by kernel_rfl) (by kernel_rfl) (fun _ _ _ h => h) (Or.inl ⟨by rfl, ?_⟩) (by assumption) ?_
          rotate_left
          · intro w hSw
            (try dsimp only at hSw)
            go_simp
            (try with_reducible rfl)
          (try simp only [Act.put, List.setIfInBounds_toArray, List.set_cons_zero, List.set_cons_succ])
          refine wpAnyH_take (i := 38) (oi := { dst := some 2, op := Op.assign (Operand.tmp 109), type := 4, pos := "laws.go:581", after := #[{ on := 37, ground := Ground.data }, { on := 34, ground := Ground.chain }, { on := 0, ground := Ground.phase }, { on := 1, ground := Ground.phase }, { on := 2, ground := Ground.phase }, { on := 3, ground := Ground.phase }, { on := 4, ground := Ground.phase }, { on := 5, ground := Ground.phase }, { on := 6, ground := Ground.phase }, { on := 7, ground := Ground.phase }, { on := 8, ground := Ground.phase }, { on := 9, ground := Ground.phase }, { on := 10, ground := Ground.phase }, { on := 11, ground := Ground.phase }, { on := 12, ground := Ground.phase }, { on := 13, ground := Ground.phase }, { on := 14, ground := Ground.phase }, { on := 15, ground := Ground.phase }, { on := 16, ground := Ground.phase }, { on := 17, ground := Ground.phase }, { on := 18, ground := Ground.phase }, { on := 19, ground := Ground.phase }, { on := 20, ground := Ground.phase }, { on := 21, ground := Ground.phase }, { on := 22, ground := Ground.phase }, { on := 23, ground := Ground.phase }, { on := 24, ground := Ground.phase }, { on := 25, ground := Ground.phase }, { on := 26, ground := Ground.phase }, { on := 27, ground := Ground.phase }, { on := 28, ground := Ground.phase }, { on := 29, ground := Ground.phase }, { on := 30, ground := Ground.phase }, { on := 31, ground := Ground.phase }, { on := 32, ground := Ground.phase }, { on := 33, ground := Ground.phase }, { on := 34, ground := Ground.phase }, { on := 35, ground := Ground.phase }, { on := 36, ground := Ground.phase }, { on := 37, ground := Ground.phase }], guard := none }) (v := ?_) rfl (by kernel_rfl) (by kernel_rfl) (by kernel_rfl) (fun _ _ _ h => h) (Or.inl ⟨by rfl, ?_⟩) (by assumption) ?_
          rotate_left
          · intro w hSw
            (try dsimp only at hSw)
            go_simp
            (try with_reducible rfl)
          (try simp only [Act.put, List.setIfInBounds_toArray, List.set_cons_zero, List.set_cons_succ])
          refine wpAnyH_done (by kernel_rfl) ?_ _
          clear HS0
          go_wp2_with fail
          go_ret
          exact ⟨by simp, HBB.out.trans (Below.mono (And.left (by assumption)) HBB.out.size)⟩
        · have HNV : Hid (normB s xs = false) := by show _ = _; rw [HNN.out]; simpa using h0
          clear h0
          rcases kind_cases kd with hkd | hkd | hkd | hkd | ⟨e0, e1, e2, e3⟩
          · have hk0 := kind0 hkd
            have HBK := Lib.hid (HBACK.out (.inl (by rw [HJK.out]; omega)))
            have hq1 : (kd.toList == [98, 101, 108, 105, 101, 118, 101, 100]) = false := by rw [hkd]; decide
            have hq2 : (kd.toList == [112, 111, 115, 115, 105, 98, 108, 101]) = false := by rw [hkd]; decide
            have HKD := Lib.hid hkd
            clear hkd hk0 HBACK
            have HMT := Lib.hid (fun W (h : Row W Aa n ls) => iMassOfTable_any s kd Aa n Ca ls W h hn)
            have HMU := Lib.hid (fun W (h : Row W Aa n ls) => (HMT.out W h).mono (fun e w' h => And.intro (RetM.yes HBK.out HLX.out h.1) h.2))
            obtain ⟨m1, m2⟩ := Mm.at_ (Below.refl _ _)
            go_wp2_with fail
            clear m1 m2
            refine (HMU.out _ Ra).mono ?_
            rintro e w21 ⟨⟨Ak, Ck, rfl, Rk⟩, b21⟩
            replace Mm := Mm.below b21
            replace Ra := Ra.below b21
            replace Rc := Rc.below b21
            replace BB := BB.trans (b21.mono BB.size)
            go_upto_region 15 with fail
            obtain ⟨w22, hw22⟩ : ∃ W, W = w21.alloc (.cells #[.int .i64 s, .slice Ak n Ck] 25) := ⟨_, rfl⟩
            obtain ⟨Mk, b22⟩ := Mv.new Rk hw22
            rw [← hw22]
            clear hw22
            replace Mm := Mm.below b22
            replace Ra := Ra.below b22
            replace Rc := Rc.below b22
            replace BB := BB.trans (b22.mono BB.size)
            clear HMU HMT
            have Hm := Lib.hid Mm
            have Hk := Lib.hid Mk
            have HBB := Lib.hid BB
            clear BB Mm Mk
            have HRa := Lib.hid Ra
            have HRc := Lib.hid Rc
            have HC1 := Lib.hid (fun W (h : Below w22.heap.size w22 W) => iSumsBelow_any A n C xs W (Hm.out.2.below h) hn)
            rw [toldN_yes HTB.out, told_yes HTB.out, ← HLW.out] at HC1
            have HC2 := Lib.hid (fun W A2 C2 (h : Below w22.heap.size w22 W) (h2 : Row W A2 n lw) => weSame_any (some ⟨bc, offc, none⟩) A2 n Cc n C2 lw lw W (HRc.out.below h) h2 hn hn)
            rw [eqB_self] at HC2
            have HC3 := Lib.hid (fun W (h : Below w22.heap.size w22 W) => iTableOf_any s { data := #[99, 111, 109, 109, 111, 110] } A n C xs W (Hm.out.2.below h) hn)
            rw [HN3.out, HT3.out] at HC3
            have HC4 := Lib.hid (fun W (h : Below w22.heap.size w22 W) => iSumsAbove_any A n C xs W (Hm.out.2.below h) hn)
            rw [toldN_yes HTB.out, told_yes HTB.out, ← HLC.out] at HC4
            have HC5 := Lib.hid (fun W A2 C2 A3 C3 (h2 : Row W A2 n lc) (h3 : Row W A3 n lc) => weSame_any A2 A3 n C2 n C3 lc lc W h2 h3 hn hn)
            rw [eqB_self] at HC5
            have HC6 := Lib.hid (fun W (h : Below w22.heap.size w22 W) => iIsBeliefTable_any (some ⟨bc, offc, none⟩) n Cc lw W (HRc.out.below h) hn)
            rw [HBEL.out] at HC6
            have HC7 := Lib.hid (fun W (h : Below w22.heap.size w22 W) => IsNormal_any s A n C xs W (Hm.out.2.below h) hn)
            rw [HNV.out] at HC7
            have HC8 := Lib.hid (fun W (h : Below w22.heap.size w22 W) => weEqual_any s s Ak A n Ck n C xs xs W (Hk.out.2.below h) (Hm.out.2.below h) hn hn)
            rw [eq_self2] at HC8
            clear Ra Rc
            have HIS : Hid (∀ W, Below w22.heap.size w22 W → Below w22.heap.size w22 W ∧ W.cell? ⟨w1.heap.size, 0, none⟩ = some (.int .i64 s) ∧ W.cell? ⟨w1.heap.size, 1, none⟩ = some (.slice A n C) ∧ W.cell? ⟨w21.heap.size, 0, none⟩ = some (.int .i64 s) ∧ W.cell? ⟨w21.heap.size, 1, none⟩ = some (.slice Ak n Ck)) := fun W h => ⟨h, (Hm.out.at_ h).1, (Hm.out.at_ h).2, (Hk.out.at_ h).1, (Hk.out.at_ h).2⟩
            have HKS : Hid (∀ W W', Below W.heap.size W W' → (Below w22.heap.size w22 W ∧ W.cell? ⟨w1.heap.size, 0, none⟩ = some (.int .i64 s) ∧ W.cell? ⟨w1.heap.size, 1, none⟩ = some (.slice A n C) ∧ W.cell? ⟨w21.heap.size, 0, none⟩ = some (.int .i64 s) ∧ W.cell? ⟨w21.heap.size, 1, none⟩ = some (.slice Ak n Ck)) → Below w22.heap.size w22 W' ∧ W'.cell? ⟨w1.heap.size, 0, none⟩ = some (.int .i64 s) ∧ W'.cell? ⟨w1.heap.size, 1, none⟩ = some (.slice A n C) ∧ W'.cell? ⟨w21.heap.size, 0, none⟩ = some (.int .i64 s) ∧ W'.cell? ⟨w21.heap.size, 1, none⟩ = some (.slice Ak n Ck)) := fun W W' b h => HIS.out W' (h.1.trans (b.mono h.1.size))
            have HS0 := Lib.hid (HIS.out _ ((Below.refl _ _).drew))
            go_wp2_with fail
            refine wp_region_held_drew (S := fun W => Below w22.heap.size w22 W ∧ W.cell? ⟨w1.heap.size, 0, none⟩ = some (.int .i64 s) ∧ W.cell? ⟨w1.heap.size, 1, none⟩ = some (.slice A n C) ∧ W.cell? ⟨w21.heap.size, 0, none⟩ = some (.int .i64 s) ∧ W.cell? ⟨w21.heap.size, 1, none⟩ = some (.slice Ak n Ck)) (by kernel_rfl) ?_ (fun hHeld => ?_)
            · exact HS0.out
            refine wpAnyH_take (i := 0) (oi := { dst := some 72, op := Op.move (Operand.tmp 6), type := 23, pos := "laws.go:581", after := #[], guard := none }) (v := ?_) rfl (by kernel_rfl) (by kernel_rfl) (by kernel_rfl) (fun _ _ _ h => h) (Or.inl ⟨by rfl, ?_⟩) (by assumption) ?_
            rotate_left
            · intro w hSw
              (try dsimp only at hSw)
              go_simp
              (try with_reducible rfl)
            (try simp only [Act.put, List.setIfInBounds_toArray, List.set_cons_zero, List.set_cons_succ])
            refine wpAnyH_take (i := 1) (oi := { dst := some 73, op := Op.fieldAddr 25 (Operand.tmp 3) 1, type := 0, pos := "laws.go:581", after := #[], guard := none }) (v := ?_) rfl (by kernel_rfl) (by kernel_rfl) (by kernel_rfl) (fun _ _ _ h => h) (Or.inl ⟨by rfl, ?_⟩) (by assumption) ?_
            rotate_left
            · intro w hSw
              (try dsimp only at hSw)
              go_simp
              (try with_reducible rfl)
            (try simp only [Act.put, List.setIfInBounds_toArray, List.set_cons_zero, List.set_cons_succ])
            refine wpAnyH_take (i := 2) (oi := { dst := some 74, op := Op.load 23 (Operand.tmp 73), type := 23, pos := "laws.go:581", after := #[{ on := 1, ground := Ground.data }], guard := none }) (v := ?_) rfl (by kernel_rfl) (by kernel_rfl) (by kernel_rfl) (fun _ _ _ h => h) (Or.inl ⟨by rfl, ?_⟩) (by assumption) ?_
            rotate_left
            · intro w hSw
              (try dsimp only at hSw)
              go_simp
              (try with_reducible rfl)
            (try simp only [Act.put, List.setIfInBounds_toArray, List.set_cons_zero, List.set_cons_succ])
            refine wpAnyH_ready (rs := [3]) (by kernel_rfl) (by simp) ?_
            refine AllReadyH.cons (o := { dst := some 75, op := Op.call { callee := Callee.value (Operand.func 11), args := #[Operand.tmp 74], argTypes := #[23] }, type := 23, pos := "laws.go:581", after := #[{ on := 2, ground := Ground.data }], guard := none }) rfl (fun K hK => ?_) AllReadyH.nil
            go_simp
            go_at_call 11
            refine (HC1.out _ (And.left (by assumption))).mono ?_
            rintro e w9 ⟨A1, C1, rfl, O1, b9⟩
            go_simp
            refine hK.out _ _ ?_ (fun hHeld => ?_)
            · first | assumption | exact HKS.out _ _ (by assumption) (by assumption)
            clear hK K
            (try simp only [Act.put, List.setIfInBounds_toArray, List.set_cons_zero, List.set_cons_succ])
            refine wpAnyH_ready (rs := [4]) (by kernel_rfl) (by simp) ?_
            refine AllReadyH.cons (o := { dst := some 76, op := Op.call { callee := Callee.value (Operand.func 7), args := #[Operand.tmp 72, Operand.tmp 75], argTypes := #[23, 23] }, type := 4, pos := "laws.go:581", after := #[{ on := 0, ground := Ground.data }, { on := 3, ground := Ground.data }, { on := 3, ground := Ground.chain }], guard := none }) rfl (fun K hK => ?_) AllReadyH.nil
            go_simp
            go_at_call 7
            refine (HC2.out _ _ _ (And.left (by assumption)) O1.row).mono ?_
            rintro e w9 ⟨rfl, b9⟩
            go_simp
            refine hK.out _ _ ?_ (fun hHeld => ?_)
            · first | assumption | exact HKS.out _ _ (by assumption) (by assumption)
            clear hK K
            (try simp only [Act.put, List.setIfInBounds_toArray, List.set_cons_zero, List.set_cons_succ])
            refine wpAnyH_take (i := 5) (oi := { dst := some 77, op := Op.move (Operand.tmp 76), type := 4, pos := "laws.go:581", after := #[{ on := 4, ground := Ground.data }, { on := 4, ground := Ground.chain }], guard := none }) (v := ?_) rfl (by kernel_rfl) (by kernel_rfl) (by kernel_rfl) (fun _ _ _ h => h) (Or.inl ⟨by rfl, ?_⟩) (by assumption) ?_
            rotate_left
            · intro w hSw
              (try dsimp only at hSw)
              go_simp
              (try with_reducible rfl)
            (try simp only [Act.put, List.setIfInBounds_toArray, List.set_cons_zero, List.set_cons_succ])
            refine wpAnyH_take (i := 6) (oi := { dst := some 78, op := Op.load 25 (Operand.tmp 3), type := 25, pos := "laws.go:581", after := #[{ on := 5, ground := Ground.guard }], guard := some (5, true) }) (v := ?_) rfl (by kernel_rfl) (by kernel_rfl) (by kernel_rfl) (fun _ _ _ h => h) (Or.inl ⟨by rfl, ?_⟩) (by assumption) ?_
            rotate_left
            · intro w hSw
              (try dsimp only at hSw)
              go_simp
              (try with_reducible rfl)
            (try simp only [Act.put, List.setIfInBounds_toArray, List.set_cons_zero, List.set_cons_succ])
            refine wpAnyH_take (i := 8) (oi := { dst := some 80, op := Op.fieldAddr 25 (Operand.tmp 3) 1, type := 0, pos := "laws.go:581", after := #[{ on := 5, ground := Ground.guard }], guard := some (5, true) }) (v := ?_) rfl (by kernel_rfl) (by kernel_rfl) (by kernel_rfl) (fun _ _ _ h => h) (Or.inl ⟨by rfl, ?_⟩) (by assumption) ?_
            rotate_left
            · intro w hSw
              (try dsimp only at hSw)
              go_simp
              (try with_reducible rfl)
            (try simp only [Act.put, List.setIfInBounds_toArray, List.set_cons_zero, List.set_cons_succ])
            refine wpAnyH_take (i := 9) (oi := { dst := some 81, op := Op.load 23 (Operand.tmp 80), type := 23, pos := "laws.go:581", after := #[{ on := 8, ground := Ground.data }, { on := 5, ground := Ground.guard }], guard := some (5, true) }) (v := ?_) rfl (by kernel_rfl) (by kernel_rfl) (by kernel_rfl) (fun _ _ _ h => h) (Or.inl ⟨by rfl, ?_⟩) (by assumption) ?_
            rotate_left
            · intro w hSw
              (try dsimp only at hSw)
              go_simp
              (try with_reducible rfl)
            (try simp only [Act.put, List.setIfInBounds_toArray, List.set_cons_zero, List.set_cons_succ])
            refine wpAnyH_ready (rs := [7]) (by kernel_rfl) (by simp) ?_
            refine AllReadyH.cons (o := { dst := some 79, op := Op.call { callee := Callee.value (Operand.func 6), args := #[Operand.tmp 78, Operand.const (Value.string { data := #[99, 111, 109, 109, 111, 110] })], argTypes := #[25, 9] }, type := 23, pos := "laws.go:581", after := #[{ on := 6, ground := Ground.data }, { on := 5, ground := Ground.chain }, { on := 5, ground := Ground.guard }], guard := some (5, true) }) rfl (fun K hK => ?_) AllReadyH.nil
            go_simp
            go_at_call 6
            refine (HC3.out _ (And.left (by assumption))).mono ?_
            rintro e w9 ⟨A3, C3, rfl, O3, b9⟩
            go_simp
            refine hK.out _ _ ?_ (fun hHeld => ?_)
            · first | assumption | exact HKS.out _ _ (by assumption) (by assumption)
            clear hK K
            (try simp only [Act.put, List.setIfInBounds_toArray, List.set_cons_zero, List.set_cons_succ])
            refine wpAnyH_ready (rs := [10]) (by kernel_rfl) (by simp) ?_
            refine AllReadyH.cons (o := { dst := some 82, op := Op.call { callee := Callee.value (Operand.func 12), args := #[Operand.tmp 81], argTypes := #[23] }, type := 23, pos := "laws.go:581", after := #[{ on := 9, ground := Ground.data }, { on := 7, ground := Ground.chain }, { on := 5, ground := Ground.guard }], guard := some (5, true) }) rfl (fun K hK => ?_) AllReadyH.nil
            go_simp
            go_at_call 12
            refine (HC4.out _ (And.left (by assumption))).mono ?_
            rintro e w9 ⟨A4, C4, rfl, O4, b9⟩
            go_simp
            refine hK.out _ _ ?_ (fun hHeld => ?_)
            · first | assumption | exact HKS.out _ _ (by assumption) (by assumption)
            clear hK K
            (try simp only [Act.put, List.setIfInBounds_toArray, List.set_cons_zero, List.set_cons_succ])
            refine wpAnyH_ready (rs := [11]) (by kernel_rfl) (by simp) ?_
            refine AllReadyH.cons (o := { dst := some 83, op := Op.call { callee := Callee.value (Operand.func 7), args := #[Operand.tmp 79, Operand.tmp 82], argTypes := #[23, 23] }, type := 4, pos := "laws.go:581", after := #[{ on := 7, ground := Ground.data }, { on := 10, ground := Ground.data }, { on := 10, ground := Ground.chain }, { on := 5, ground := Ground.guard }], guard := some (5, true) }) rfl (fun K hK => ?_) AllReadyH.nil
            go_simp
            go_at_call 7
            refine (HC5.out _ _ _ _ _ (O3.row.below b9) O4.row).mono ?_
            rintro e w9 ⟨rfl, b9⟩
            go_simp
            refine hK.out _ _ ?_ (fun hHeld => ?_)
            · first | assumption | exact HKS.out _ _ (by assumption) (by assumption)
            clear hK K
            (try simp only [Act.put, List.setIfInBounds_toArray, List.set_cons_zero, List.set_cons_succ])
            refine wpAnyH_take (i := 12) (oi := { dst := some 84, op := Op.pick (Operand.tmp 77) (Operand.tmp 83) (Operand.const (Value.bool false)), type := 4, pos := "laws.go:581", after := #[{ on := 5, ground := Ground.data }, { on := 11, ground := Ground.data }], guard := none }) (v := ?_) rfl (by kernel_rfl) (by kernel_rfl) (by kernel_rfl) (fun _ _ _ h => h) (Or.inl ⟨by rfl, ?_⟩) (by assumption) ?_
            rotate_left
            · intro w hSw
              (try dsimp only at hSw)
              go_simp
              (try with_reducible rfl)
            (try simp only [Act.put, List.setIfInBounds_toArray, List.set_cons_zero, List.set_cons_succ])
            refine wpAnyH_take (i := 13) (oi := { dst := some 85, op := Op.move (Operand.tmp 84), type := 4, pos := "laws.go:581", after := #[{ on := 12, ground := Ground.data }, { on := 11, ground := Ground.chain }], guard := none }) (v := ?_) rfl (by kernel_rfl) (by kernel_rfl) (by kernel_rfl) (fun _ _ _ h => h) (Or.inl ⟨by rfl, ?_⟩) (by assumption) ?_
            rotate_left
            · intro w hSw
              (try dsimp only at hSw)
              go_simp
              (try with_reducible rfl)
            (try simp only [Act.put, List.setIfInBounds_toArray, List.set_cons_zero, List.set_cons_succ])
            refine wpAnyH_take (i := 14) (oi := { dst := some 86, op := Op.move (Operand.tmp 6), type := 23, pos := "laws.go:581", after := #[{ on := 13, ground := Ground.guard }], guard := some (13, true) }) (v := ?_) rfl (by kernel_rfl) (by kernel_rfl) (by kernel_rfl) (fun _ _ _ h => h) (Or.inl ⟨by rfl, ?_⟩) (by assumption) ?_
            rotate_left
            · intro w hSw
              (try dsimp only at hSw)
              go_simp
              (try with_reducible rfl)
            (try simp only [Act.put, List.setIfInBounds_toArray, List.set_cons_zero, List.set_cons_succ])
            refine wpAnyH_ready (rs := [15]) (by kernel_rfl) (by simp) ?_
            refine AllReadyH.cons (o := { dst := some 87, op := Op.call { callee := Callee.value (Operand.func 13), args := #[Operand.tmp 86], argTypes := #[23] }, type := 4, pos := "laws.go:581", after := #[{ on := 14, ground := Ground.data }, { on := 13, ground := Ground.chain }, { on := 13, ground := Ground.guard }], guard := some (13, true) }) rfl (fun K hK => ?_) AllReadyH.nil
            go_simp
            go_at_call 13
            refine (HC6.out _ (And.left (by assumption))).mono ?_
            rintro e w9 ⟨rfl, b9⟩
            go_simp
            refine hK.out _ _ ?_ (fun hHeld => ?_)
            · first | assumption | exact HKS.out _ _ (by assumption) (by assumption)
            clear hK K
            (try simp only [Act.put, List.setIfInBounds_toArray, List.set_cons_zero, List.set_cons_succ])
            refine wpAnyH_take (i := 16) (oi := { dst := some 88, op := Op.pick (Operand.tmp 85) (Operand.tmp 87) (Operand.const (Value.bool false)), type := 4, pos := "laws.go:581", after := #[{ on := 13, ground := Ground.data }, { on := 15, ground := Ground.data }], guard := none }) (v := ?_) rfl (by kernel_rfl) (by kernel_rfl) (by kernel_rfl) (fun _ _ _ h => h) (Or.inl ⟨by rfl, ?_⟩) (by assumption) ?_
            rotate_left
            · intro w hSw
              (try dsimp only at hSw)
              go_simp
              (try with_reducible rfl)
            (try simp only [Act.put, List.setIfInBounds_toArray, List.set_cons_zero, List.set_cons_succ])
            refine wpAnyH_take (i := 17) (oi := { dst := some 89, op := Op.move (Operand.tmp 88), type := 4, pos := "laws.go:581", after := #[{ on := 16, ground := Ground.data }, { on := 15, ground := Ground.chain }], guard := none }) (v := ?_) rfl (by kernel_rfl) (by kernel_rfl) (by kernel_rfl) (fun _ _ _ h => h) (Or.inl ⟨by rfl, ?_⟩) (by assumption) ?_
            rotate_left
            · intro w hSw
              (try dsimp only at hSw)
              go_simp
              (try with_reducible rfl)
            (try simp only [Act.put, List.setIfInBounds_toArray, List.set_cons_zero, List.set_cons_succ])
            refine wpAnyH_take (i := 18) (oi := { dst := some 90, op := Op.load 25 (Operand.tmp 3), type := 25, pos := "laws.go:581", after := #[{ on := 17, ground := Ground.guard }], guard := some (17, true) }) (v := ?_) rfl (by kernel_rfl) (by kernel_rfl) (by kernel_rfl) (fun _ _ _ h => h) (Or.inl ⟨by rfl, ?_⟩) (by assumption) ?_
            rotate_left
            · intro w hSw
              (try dsimp only at hSw)
              go_simp
              (try with_reducible rfl)
            (try simp only [Act.put, List.setIfInBounds_toArray, List.set_cons_zero, List.set_cons_succ])
            refine wpAnyH_ready (rs := [19]) (by kernel_rfl) (by simp) ?_
            refine AllReadyH.cons (o := { dst := some 91, op := Op.call { callee := Callee.value (Operand.func 14), args := #[Operand.tmp 90], argTypes := #[25] }, type := 4, pos := "laws.go:581", after := #[{ on := 18, ground := Ground.data }, { on := 17, ground := Ground.chain }, { on := 17, ground := Ground.guard }], guard := some (17, true) }) rfl (fun K hK => ?_) AllReadyH.nil
            go_simp
            go_at_call 14
            refine (HC7.out _ (And.left (by assumption))).mono ?_
            rintro e w9 ⟨rfl, b9⟩
            go_simp
            refine hK.out _ _ ?_ (fun hHeld => ?_)
            · first | assumption | exact HKS.out _ _ (by assumption) (by assumption)
            clear hK K
            (try simp only [Act.put, List.setIfInBounds_toArray, List.set_cons_zero, List.set_cons_succ])
            refine wpAnyH_take (i := 20) (oi := { dst := some 92, op := Op.unOp UnOp.not 4 (Operand.tmp 91), type := 4, pos := "laws.go:581", after := #[{ on := 19, ground := Ground.data }, { on := 17, ground := Ground.guard }], guard := some (17, true) }) (v := ?_) rfl (by kernel_rfl) (by kernel_rfl) (by kernel_rfl) (fun _ _ _ h => h) (Or.inl ⟨by rfl, ?_⟩) (by assumption) ?_
            rotate_left
            · intro w hSw
              (try dsimp only at hSw)
              go_simp
              (try with_reducible rfl)
            (try simp only [Act.put, List.setIfInBounds_toArray, List.set_cons_zero, List.set_cons_succ])
            refine wpAnyH_take (i := 21) (oi := { dst := some 93, op := Op.move (Operand.tmp 92), type := 4, pos := "laws.go:581", after := #[{ on := 20, ground := Ground.data }, { on := 19, ground := Ground.chain }, { on := 17, ground := Ground.guard }], guard := some (17, true) }) (v := ?_) rfl (by kernel_rfl) (by kernel_rfl) (by kernel_rfl) (fun _ _ _ h => h) (Or.inl ⟨by rfl, ?_⟩) (by assumption) ?_
            rotate_left
            · intro w hSw
              (try dsimp only at hSw)
              go_simp
              (try with_reducible rfl)
            (try simp only [Act.put, List.setIfInBounds_toArray, List.set_cons_zero, List.set_cons_succ])
            refine wpAnyH_take (i := 22) (oi := { dst := some 94, op := Op.move (Operand.tmp 4), type := 9, pos := "laws.go:581", after := #[{ on := 21, ground := Ground.guard }], guard := some (21, true) }) (v := ?_) rfl (by kernel_rfl) (by kernel_rfl) (by kernel_rfl) (fun _ _ _ h => h) (Or.inl ⟨by rfl, ?_⟩) (by assumption) ?_
            rotate_left
            · intro w hSw
              (try dsimp only at hSw)
              go_simp
              (try with_reducible rfl)
            (try simp only [Act.put, List.setIfInBounds_toArray, List.set_cons_zero, List.set_cons_succ])
            refine wpAnyH_take (i := 23) (oi := { dst := some 95, op := Op.binOp BinOp.eql 9 (Operand.tmp 94) (Operand.const (Value.string { data := #[98, 101, 108, 105, 101, 118, 101, 100] })) 9, type := 4, pos := "laws.go:581", after := #[{ on := 22, ground := Ground.data }, { on := 21, ground := Ground.guard }], guard := some (21, true) }) (v := ?_) rfl (by kernel_rfl) (by kernel_rfl) (by kernel_rfl) (fun _ _ _ h => h) (Or.inl ⟨by rfl, ?_⟩) (by assumption) ?_
            rotate_left
            · intro w hSw
              (try dsimp only at hSw)
              go_simp
              (try with_reducible rfl)
            (try simp only [Act.put, List.setIfInBounds_toArray, List.set_cons_zero, List.set_cons_succ])
            refine wpAnyH_take (i := 24) (oi := { dst := some 96, op := Op.move (Operand.tmp 95), type := 4, pos := "laws.go:581", after := #[{ on := 23, ground := Ground.data }, { on := 21, ground := Ground.chain }, { on := 21, ground := Ground.guard }], guard := some (21, true) }) (v := ?_) rfl (by kernel_rfl) (by kernel_rfl) (by kernel_rfl) (fun _ _ _ h => h) (Or.inl ⟨by rfl, ?_⟩) (by assumption) ?_
            rotate_left
            · intro w hSw
              (try dsimp only at hSw)
              go_simp
              (try with_reducible rfl)
            (try simp only [Act.put, List.setIfInBounds_toArray, List.set_cons_zero, List.set_cons_succ])
            refine wpAnyH_take (i := 25) (oi := { dst := some 97, op := Op.move (Operand.tmp 4), type := 9, pos := "laws.go:581", after := #[{ on := 24, ground := Ground.guard }], guard := some (24, false) }) (v := ?_) rfl (by kernel_rfl) (by kernel_rfl) (by kernel_rfl) (fun _ _ _ h => h) (Or.inl ⟨by rfl, ?_⟩) (by assumption) ?_
            rotate_left
            · intro w hSw
              (try dsimp only at hSw)
              go_simp
              (try with_reducible rfl)
            (try simp only [Act.put, List.setIfInBounds_toArray, List.set_cons_zero, List.set_cons_succ])
            refine wpAnyH_take (i := 26) (oi := { dst := some 98, op := Op.binOp BinOp.eql 9 (Operand.tmp 97) (Operand.const (Value.string { data := #[112, 111, 115, 115, 105, 98, 108, 101] })) 9, type := 4, pos := "laws.go:581", after := #[{ on := 25, ground := Ground.data }, { on := 24, ground := Ground.guard }], guard := some (24, false) }) (v := ?_) rfl (by kernel_rfl) (by kernel_rfl) (by kernel_rfl) (fun _ _ _ h => h) (Or.inl ⟨by rfl, ?_⟩) (by assumption) ?_
            rotate_left
            · intro w hSw
              (try dsimp only at hSw)
              go_simp
              (try with_reducible rfl)
            (try simp only [Act.put, List.setIfInBounds_toArray, List.set_cons_zero, List.set_cons_succ])
            refine wpAnyH_take (i := 27) (oi := { dst := some 99, op := Op.pick (Operand.tmp 96) (Operand.const (Value.bool true)) (Operand.tmp 98), type := 4, pos := "laws.go:581", after := #[{ on := 24, ground := Ground.data }, { on := 26, ground := Ground.data }, { on := 21, ground := Ground.guard }], guard := some (21, true) }) (v := ?_) rfl (by kernel_rfl) (by kernel_rfl) (by kernel_rfl) (fun _ _ _ h => h) (Or.inl ⟨by rfl, ?_⟩) (by assumption) ?_
            rotate_left
            · intro w hSw
              (try dsimp only at hSw)
              go_simp
              (try with_reducible rfl)
            (try simp only [Act.put, List.setIfInBounds_toArray, List.set_cons_zero, List.set_cons_succ])
            refine wpAnyH_take (i := 28) (oi := { dst := some 100, op := Op.pick (Operand.tmp 93) (Operand.tmp 99) (Operand.const (Value.bool false)), type := 4, pos := "laws.go:581", after := #[{ on := 21, ground := Ground.data }, { on := 27, ground := Ground.data }, { on := 17, ground := Ground.guard }], guard := some (17, true) }) (v := ?_) rfl (by kernel_rfl) (by kernel_rfl) (by kernel_rfl) (fun _ _ _ h => h) (Or.inl ⟨by rfl, ?_⟩) (by assumption) ?_
            rotate_left
            · intro w hSw
              (try dsimp only at hSw)
              go_simp
              (try with_reducible rfl)
            (try simp only [Act.put, List.setIfInBounds_toArray, List.set_cons_zero, List.set_cons_succ])
            refine wpAnyH_take (i := 29) (oi := { dst := some 101, op := Op.move (Operand.tmp 100), type := 4, pos := "laws.go:581", after := #[{ on := 28, ground := Ground.data }, { on := 24, ground := Ground.chain }, { on := 17, ground := Ground.guard }], guard := some (17, true) }) (v := ?_) rfl (by kernel_rfl) (by kernel_rfl) (by kernel_rfl) (fun _ _ _ h => h) (Or.inl ⟨by rfl, ?_⟩) (by assumption) ?_
            rotate_left
            · intro w hSw
              (try dsimp only at hSw)
              go_simp
              (try with_reducible rfl)
            (try simp only [Act.put, List.setIfInBounds_toArray, List.set_cons_zero, List.set_cons_succ])
            refine wpAnyH_take (i := 30) (oi := { dst := some 102, op := Op.move (Operand.tmp 10), type := 4, pos := "laws.go:581", after := #[{ on := 29, ground := Ground.guard }], guard := some (29, false) }) (v := ?_) rfl (by kernel_rfl) (by kernel_rfl) (by kernel_rfl) (fun _ _ _ h => h) (Or.inl ⟨by rfl, ?_⟩) (by assumption) ?_
            rotate_left
            · intro w hSw
              (try dsimp only at hSw)
              go_simp
              (try with_reducible rfl)
            (try simp only [Act.put, List.setIfInBounds_toArray, List.set_cons_zero, List.set_cons_succ])
            refine wpAnyH_take (i := 31) (oi := { dst := some 103, op := Op.move (Operand.tmp 102), type := 4, pos := "laws.go:581", after := #[{ on := 30, ground := Ground.data }, { on := 29, ground := Ground.chain }, { on := 29, ground := Ground.guard }], guard := some (29, false) }) (v := ?_) rfl (by kernel_rfl) (by kernel_rfl) (by kernel_rfl) (fun _ _ _ h => h) (Or.inl ⟨by rfl, ?_⟩) (by assumption) ?_
            rotate_left
            · intro w hSw
              (try dsimp only at hSw)
              go_simp
              (try with_reducible rfl)
            (try simp only [Act.put, List.setIfInBounds_toArray, List.set_cons_zero, List.set_cons_succ])
            refine wpAnyH_take (i := 32) (oi := { dst := some 104, op := Op.load 25 (Operand.tmp 9), type := 25, pos := "laws.go:581", after := #[{ on := 31, ground := Ground.guard }], guard := some (31, true) }) (v := ?_) rfl (by kernel_rfl) (by kernel_rfl) (by kernel_rfl) (fun _ _ _ h => h) (Or.inl ⟨by rfl, ?_⟩) (by assumption) ?_
            rotate_left
            · intro w hSw
              (try dsimp only at hSw)
              go_simp
              (try with_reducible rfl)
            (try simp only [Act.put, List.setIfInBounds_toArray, List.set_cons_zero, List.set_cons_succ])
            refine wpAnyH_take (i := 33) (oi := { dst := some 105, op := Op.load 25 (Operand.tmp 3), type := 25, pos := "laws.go:581", after := #[{ on := 31, ground := Ground.guard }], guard := some (31, true) }) (v := ?_) rfl (by kernel_rfl) (by kernel_rfl) (by kernel_rfl) (fun _ _ _ h => h) (Or.inl ⟨by rfl, ?_⟩) (by assumption) ?_
            rotate_left
            · intro w hSw
              (try dsimp only at hSw)
              go_simp
              (try with_reducible rfl)
            (try simp only [Act.put, List.setIfInBounds_toArray, List.set_cons_zero, List.set_cons_succ])
            refine wpAnyH_ready (rs := [34]) (by kernel_rfl) (by simp) ?_
            refine AllReadyH.cons (o := { dst := some 106, op := Op.call { callee := Callee.value (Operand.func 15), args := #[Operand.tmp 104, Operand.tmp 105], argTypes := #[25, 25] }, type := 4, pos := "laws.go:581", after := #[{ on := 32, ground := Ground.data }, { on := 33, ground := Ground.data }, { on := 31, ground := Ground.chain }, { on := 31, ground := Ground.guard }], guard := some (31, true) }) rfl (fun K hK => ?_) AllReadyH.nil
            go_simp
            go_at_call 15
            refine (HC8.out _ (And.left (by assumption))).mono ?_
            rintro e w9 ⟨rfl, b9⟩
            go_simp
            refine hK.out _ _ ?_ (fun hHeld => ?_)
            · first | assumption | exact HKS.out _ _ (by assumption) (by assumption)
            clear hK K
            (try simp only [Act.put, List.setIfInBounds_toArray, List.set_cons_zero, List.set_cons_succ])
            refine wpAnyH_take (i := 35) (oi := { dst := some 107, op := Op.pick (Operand.tmp 103) (Operand.tmp 106) (Operand.const (Value.bool false)), type := 4, pos := "laws.go:581", after := #[{ on := 31, ground := Ground.data }, { on := 34, ground := Ground.data }, { on := 29, ground := Ground.guard }], guard := some (29, false) }) (v := ?_) rfl (by kernel_rfl) (by kernel_rfl) (by kernel_rfl) (fun _ _ _ h => h) (Or.inl ⟨by rfl, ?_⟩) (by assumption) ?_
            rotate_left
            · intro w hSw
              (try dsimp only at hSw)
              go_simp
              (try with_reducible rfl)
            (try simp only [Act.put, List.setIfInBounds_toArray, List.set_cons_zero, List.set_cons_succ])
            refine wpAnyH_take (i := 36) (oi := { dst := some 108, op := Op.pick (Operand.tmp 101) (Operand.const (Value.bool true)) (Operand.tmp 107), type := 4, pos := "laws.go:581", after := #[{ on := 29, ground := Ground.data }, { on := 35, ground := Ground.data }, { on := 17, ground := Ground.guard }], guard := some (17, true) }) (v := ?_) rfl (by kernel_rfl) (by kernel_rfl) (by kernel_rfl) (fun _ _ _ h => h) (Or.inl ⟨by rfl, ?_⟩) (by assumption) ?_
            rotate_left
            · intro w hSw
              (try dsimp only at hSw)
              go_simp
              (try with_reducible rfl)
            (try simp only [Act.put, List.setIfInBounds_toArray, List.set_cons_zero, List.set_cons_succ])
            refine wpAnyH_take (i := 37) (oi := { dst := some 109, op := Op.pick (Operand.tmp 89) (Operand.tmp 108) (Operand.const (Value.bool false)), type := 4, pos := "laws.go:581", after := #[{ on := 17, ground := Ground.data }, { on := 36, ground := Ground.data }], guard := none }) (v := ?_) rfl (by kernel_rfl) (by kernel_rfl) (by kernel_rfl) (fun _ _ _ h => h) (Or.inl ⟨by rfl, ?_⟩) (by assumption) ?_
            rotate_left
            · intro w hSw
              (try dsimp only at hSw)
              go_simp
              (try with_reducible rfl)
            (try simp only [Act.put, List.setIfInBounds_toArray, List.set_cons_zero, List.set_cons_succ])
            refine wpAnyH_take (i := 38) (oi := { dst := some 2, op := Op.assign (Operand.tmp 109), type := 4, pos := "laws.go:581", after := #[{ on := 37, ground := Ground.data }, { on := 34, ground := Ground.chain }, { on := 0, ground := Ground.phase }, { on := 1, ground := Ground.phase }, { on := 2, ground := Ground.phase }, { on := 3, ground := Ground.phase }, { on := 4, ground := Ground.phase }, { on := 5, ground := Ground.phase }, { on := 6, ground := Ground.phase }, { on := 7, ground := Ground.phase }, { on := 8, ground := Ground.phase }, { on := 9, ground := Ground.phase }, { on := 10, ground := Ground.phase }, { on := 11, ground := Ground.phase }, { on := 12, ground := Ground.phase }, { on := 13, ground := Ground.phase }, { on := 14, ground := Ground.phase }, { on := 15, ground := Ground.phase }, { on := 16, ground := Ground.phase }, { on := 17, ground := Ground.phase }, { on := 18, ground := Ground.phase }, { on := 19, ground := Ground.phase }, { on := 20, ground := Ground.phase }, { on := 21, ground := Ground.phase }, { on := 22, ground := Ground.phase }, { on := 23, ground := Ground.phase }, { on := 24, ground := Ground.phase }, { on := 25, ground := Ground.phase }, { on := 26, ground := Ground.phase }, { on := 27, ground := Ground.phase }, { on := 28, ground := Ground.phase }, { on := 29, ground := Ground.phase }, { on := 30, ground := Ground.phase }, { on := 31, ground := Ground.phase }, { on := 32, ground := Ground.phase }, { on := 33, ground := Ground.phase }, { on := 34, ground := Ground.phase }, { on := 35, ground := Ground.phase }, { on := 36, ground := Ground.phase }, { on := 37, ground := Ground.phase }], guard := none }) (v := ?_) rfl (by kernel_rfl) (by kernel_rfl) (by kernel_rfl) (fun _ _ _ h => h) (Or.inl ⟨by rfl, ?_⟩) (by assumption) ?_
            rotate_left
            · intro w hSw
              (try dsimp only at hSw)
              go_simp
              (try with_reducible rfl)
            (try simp only [Act.put, List.setIfInBounds_toArray, List.set_cons_zero, List.set_cons_succ])
            refine wpAnyH_done (by kernel_rfl) ?_ _
            clear HS0
            go_wp2_with fail
            go_ret
            exact ⟨by simp, HBB.out.trans (Below.mono (And.left (by assumption)) HBB.out.size)⟩
          · have hk1 := kind1 hkd
            clear hk1 HBACK
            have HMT := Lib.hid (fun W (h : Row W Aa n ls) => iMassOfTable_any s kd Aa n Ca ls W h hn)
            have hml : rN (motR s ls kd) ≤ 1048576 := motR_len (by have := Ra.1; omega)
            have HMU := Lib.hid (fun W (h : Row W Aa n ls) => (HMT.out W h).mono (fun e w' h => And.intro (RetM.any hml h.1) h.2))
            obtain ⟨m1, m2⟩ := Mm.at_ (Below.refl _ _)
            go_wp2_with fail
            clear m1 m2
            refine (HMU.out _ Ra).mono ?_
            rintro e w21 ⟨⟨bk, sk, Ak, nk, Ck, yk, rfl, hnk, Rk⟩, b21⟩
            replace Mm := Mm.below b21
            replace Ra := Ra.below b21
            replace Rc := Rc.below b21
            replace BB := BB.trans (b21.mono BB.size)
            go_upto_region 15 with fail
            obtain ⟨w22, hw22⟩ : ∃ W, W = w21.alloc (.cells #[.int .i64 sk, .slice Ak nk Ck] 25) := ⟨_, rfl⟩
            obtain ⟨Mk, b22⟩ := Mv.new Rk hw22
            rw [← hw22]
            clear hw22
            replace Mm := Mm.below b22
            replace Ra := Ra.below b22
            replace Rc := Rc.below b22
            replace BB := BB.trans (b22.mono BB.size)
            clear HMU HMT
            have Hm := Lib.hid Mm
            have Hk := Lib.hid Mk
            have HBB := Lib.hid BB
            clear BB Mm Mk
            have HRa := Lib.hid Ra
            have HRc := Lib.hid Rc
            have HC1 := Lib.hid (fun W (h : Below w22.heap.size w22 W) => iSumsBelow_any A n C xs W (Hm.out.2.below h) hn)
            rw [toldN_yes HTB.out, told_yes HTB.out, ← HLW.out] at HC1
            have HC2 := Lib.hid (fun W A2 C2 (h : Below w22.heap.size w22 W) (h2 : Row W A2 n lw) => weSame_any (some ⟨bc, offc, none⟩) A2 n Cc n C2 lw lw W (HRc.out.below h) h2 hn hn)
            rw [eqB_self] at HC2
            have HC3 := Lib.hid (fun W (h : Below w22.heap.size w22 W) => iTableOf_any s { data := #[99, 111, 109, 109, 111, 110] } A n C xs W (Hm.out.2.below h) hn)
            rw [HN3.out, HT3.out] at HC3
            have HC4 := Lib.hid (fun W (h : Below w22.heap.size w22 W) => iSumsAbove_any A n C xs W (Hm.out.2.below h) hn)
            rw [toldN_yes HTB.out, told_yes HTB.out, ← HLC.out] at HC4
            have HC5 := Lib.hid (fun W A2 C2 A3 C3 (h2 : Row W A2 n lc) (h3 : Row W A3 n lc) => weSame_any A2 A3 n C2 n C3 lc lc W h2 h3 hn hn)
            rw [eqB_self] at HC5
            have HC6 := Lib.hid (fun W (h : Below w22.heap.size w22 W) => iIsBeliefTable_any (some ⟨bc, offc, none⟩) n Cc lw W (HRc.out.below h) hn)
            rw [HBEL.out] at HC6
            have HC7 := Lib.hid (fun W (h : Below w22.heap.size w22 W) => IsNormal_any s A n C xs W (Hm.out.2.below h) hn)
            rw [HNV.out] at HC7
            clear Ra Rc
            have HIS : Hid (∀ W, Below w22.heap.size w22 W → Below w22.heap.size w22 W ∧ W.cell? ⟨w1.heap.size, 0, none⟩ = some (.int .i64 s) ∧ W.cell? ⟨w1.heap.size, 1, none⟩ = some (.slice A n C)) := fun W h => ⟨h, (Hm.out.at_ h).1, (Hm.out.at_ h).2⟩
            have HKS : Hid (∀ W W', Below W.heap.size W W' → (Below w22.heap.size w22 W ∧ W.cell? ⟨w1.heap.size, 0, none⟩ = some (.int .i64 s) ∧ W.cell? ⟨w1.heap.size, 1, none⟩ = some (.slice A n C)) → Below w22.heap.size w22 W' ∧ W'.cell? ⟨w1.heap.size, 0, none⟩ = some (.int .i64 s) ∧ W'.cell? ⟨w1.heap.size, 1, none⟩ = some (.slice A n C)) := fun W W' b h => HIS.out W' (h.1.trans (b.mono h.1.size))
            have HS0 := Lib.hid (HIS.out _ ((Below.refl _ _).drew))
            go_wp2_with fail
            refine wp_region_held_drew (S := fun W => Below w22.heap.size w22 W ∧ W.cell? ⟨w1.heap.size, 0, none⟩ = some (.int .i64 s) ∧ W.cell? ⟨w1.heap.size, 1, none⟩ = some (.slice A n C)) (by kernel_rfl) ?_ (fun hHeld => ?_)
            · exact HS0.out
            refine wpAnyH_take (i := 0) (oi := { dst := some 72, op := Op.move (Operand.tmp 6), type := 23, pos := "laws.go:581", after := #[], guard := none }) (v := ?_) rfl (by kernel_rfl) (by kernel_rfl) (by kernel_rfl) (fun _ _ _ h => h) (Or.inl ⟨by rfl, ?_⟩) (by assumption) ?_
            rotate_left
            · intro w hSw
              (try dsimp only at hSw)
              go_simp
              (try with_reducible rfl)
            (try simp only [Act.put, List.setIfInBounds_toArray, List.set_cons_zero, List.set_cons_succ])
            refine wpAnyH_take (i := 1) (oi := { dst := some 73, op := Op.fieldAddr 25 (Operand.tmp 3) 1, type := 0, pos := "laws.go:581", after := #[], guard := none }) (v := ?_) rfl (by kernel_rfl) (by kernel_rfl) (by kernel_rfl) (fun _ _ _ h => h) (Or.inl ⟨by rfl, ?_⟩) (by assumption) ?_
            rotate_left
            · intro w hSw
              (try dsimp only at hSw)
              go_simp
              (try with_reducible rfl)
            (try simp only [Act.put, List.setIfInBounds_toArray, List.set_cons_zero, List.set_cons_succ])
            refine wpAnyH_take (i := 2) (oi := { dst := some 74, op := Op.load 23 (Operand.tmp 73), type := 23, pos := "laws.go:581", after := #[{ on := 1, ground := Ground.data }], guard := none }) (v := ?_) rfl (by kernel_rfl) (by kernel_rfl) (by kernel_rfl) (fun _ _ _ h => h) (Or.inl ⟨by rfl, ?_⟩) (by assumption) ?_
            rotate_left
            · intro w hSw
              (try dsimp only at hSw)
              go_simp
              (try with_reducible rfl)
            (try simp only [Act.put, List.setIfInBounds_toArray, List.set_cons_zero, List.set_cons_succ])
            refine wpAnyH_ready (rs := [3]) (by kernel_rfl) (by simp) ?_
            refine AllReadyH.cons (o := { dst := some 75, op := Op.call { callee := Callee.value (Operand.func 11), args := #[Operand.tmp 74], argTypes := #[23] }, type := 23, pos := "laws.go:581", after := #[{ on := 2, ground := Ground.data }], guard := none }) rfl (fun K hK => ?_) AllReadyH.nil
            go_simp
            go_at_call 11
            refine (HC1.out _ (And.left (by assumption))).mono ?_
            rintro e w9 ⟨A1, C1, rfl, O1, b9⟩
            go_simp
            refine hK.out _ _ ?_ (fun hHeld => ?_)
            · first | assumption | exact HKS.out _ _ (by assumption) (by assumption)
            clear hK K
            (try simp only [Act.put, List.setIfInBounds_toArray, List.set_cons_zero, List.set_cons_succ])
            refine wpAnyH_ready (rs := [4]) (by kernel_rfl) (by simp) ?_
            refine AllReadyH.cons (o := { dst := some 76, op := Op.call { callee := Callee.value (Operand.func 7), args := #[Operand.tmp 72, Operand.tmp 75], argTypes := #[23, 23] }, type := 4, pos := "laws.go:581", after := #[{ on := 0, ground := Ground.data }, { on := 3, ground := Ground.data }, { on := 3, ground := Ground.chain }], guard := none }) rfl (fun K hK => ?_) AllReadyH.nil
            go_simp
            go_at_call 7
            refine (HC2.out _ _ _ (And.left (by assumption)) O1.row).mono ?_
            rintro e w9 ⟨rfl, b9⟩
            go_simp
            refine hK.out _ _ ?_ (fun hHeld => ?_)
            · first | assumption | exact HKS.out _ _ (by assumption) (by assumption)
            clear hK K
            (try simp only [Act.put, List.setIfInBounds_toArray, List.set_cons_zero, List.set_cons_succ])
            refine wpAnyH_take (i := 5) (oi := { dst := some 77, op := Op.move (Operand.tmp 76), type := 4, pos := "laws.go:581", after := #[{ on := 4, ground := Ground.data }, { on := 4, ground := Ground.chain }], guard := none }) (v := ?_) rfl (by kernel_rfl) (by kernel_rfl) (by kernel_rfl) (fun _ _ _ h => h) (Or.inl ⟨by rfl, ?_⟩) (by assumption) ?_
            rotate_left
            · intro w hSw
              (try dsimp only at hSw)
              go_simp
              (try with_reducible rfl)
            (try simp only [Act.put, List.setIfInBounds_toArray, List.set_cons_zero, List.set_cons_succ])
            refine wpAnyH_take (i := 6) (oi := { dst := some 78, op := Op.load 25 (Operand.tmp 3), type := 25, pos := "laws.go:581", after := #[{ on := 5, ground := Ground.guard }], guard := some (5, true) }) (v := ?_) rfl (by kernel_rfl) (by kernel_rfl) (by kernel_rfl) (fun _ _ _ h => h) (Or.inl ⟨by rfl, ?_⟩) (by assumption) ?_
            rotate_left
            · intro w hSw
              (try dsimp only at hSw)
              go_simp
              (try with_reducible rfl)
            (try simp only [Act.put, List.setIfInBounds_toArray, List.set_cons_zero, List.set_cons_succ])
            refine wpAnyH_take (i := 8) (oi := { dst := some 80, op := Op.fieldAddr 25 (Operand.tmp 3) 1, type := 0, pos := "laws.go:581", after := #[{ on := 5, ground := Ground.guard }], guard := some (5, true) }) (v := ?_) rfl (by kernel_rfl) (by kernel_rfl) (by kernel_rfl) (fun _ _ _ h => h) (Or.inl ⟨by rfl, ?_⟩) (by assumption) ?_
            rotate_left
            · intro w hSw
              (try dsimp only at hSw)
              go_simp
              (try with_reducible rfl)
            (try simp only [Act.put, List.setIfInBounds_toArray, List.set_cons_zero, List.set_cons_succ])
            refine wpAnyH_take (i := 9) (oi := { dst := some 81, op := Op.load 23 (Operand.tmp 80), type := 23, pos := "laws.go:581", after := #[{ on := 8, ground := Ground.data }, { on := 5, ground := Ground.guard }], guard := some (5, true) }) (v := ?_) rfl (by kernel_rfl) (by kernel_rfl) (by kernel_rfl) (fun _ _ _ h => h) (Or.inl ⟨by rfl, ?_⟩) (by assumption) ?_
            rotate_left
            · intro w hSw
              (try dsimp only at hSw)
              go_simp
              (try with_reducible rfl)
            (try simp only [Act.put, List.setIfInBounds_toArray, List.set_cons_zero, List.set_cons_succ])
            refine wpAnyH_ready (rs := [7]) (by kernel_rfl) (by simp) ?_
            refine AllReadyH.cons (o := { dst := some 79, op := Op.call { callee := Callee.value (Operand.func 6), args := #[Operand.tmp 78, Operand.const (Value.string { data := #[99, 111, 109, 109, 111, 110] })], argTypes := #[25, 9] }, type := 23, pos := "laws.go:581", after := #[{ on := 6, ground := Ground.data }, { on := 5, ground := Ground.chain }, { on := 5, ground := Ground.guard }], guard := some (5, true) }) rfl (fun K hK => ?_) AllReadyH.nil
            go_simp
            go_at_call 6
            refine (HC3.out _ (And.left (by assumption))).mono ?_
            rintro e w9 ⟨A3, C3, rfl, O3, b9⟩
            go_simp
            refine hK.out _ _ ?_ (fun hHeld => ?_)
            · first | assumption | exact HKS.out _ _ (by assumption) (by assumption)
            clear hK K
            (try simp only [Act.put, List.setIfInBounds_toArray, List.set_cons_zero, List.set_cons_succ])
            refine wpAnyH_ready (rs := [10]) (by kernel_rfl) (by simp) ?_
            refine AllReadyH.cons (o := { dst := some 82, op := Op.call { callee := Callee.value (Operand.func 12), args := #[Operand.tmp 81], argTypes := #[23] }, type := 23, pos := "laws.go:581", after := #[{ on := 9, ground := Ground.data }, { on := 7, ground := Ground.chain }, { on := 5, ground := Ground.guard }], guard := some (5, true) }) rfl (fun K hK => ?_) AllReadyH.nil
            go_simp
            go_at_call 12
            refine (HC4.out _ (And.left (by assumption))).mono ?_
            rintro e w9 ⟨A4, C4, rfl, O4, b9⟩
            go_simp
            refine hK.out _ _ ?_ (fun hHeld => ?_)
            · first | assumption | exact HKS.out _ _ (by assumption) (by assumption)
            clear hK K
            (try simp only [Act.put, List.setIfInBounds_toArray, List.set_cons_zero, List.set_cons_succ])
            refine wpAnyH_ready (rs := [11]) (by kernel_rfl) (by simp) ?_
            refine AllReadyH.cons (o := { dst := some 83, op := Op.call { callee := Callee.value (Operand.func 7), args := #[Operand.tmp 79, Operand.tmp 82], argTypes := #[23, 23] }, type := 4, pos := "laws.go:581", after := #[{ on := 7, ground := Ground.data }, { on := 10, ground := Ground.data }, { on := 10, ground := Ground.chain }, { on := 5, ground := Ground.guard }], guard := some (5, true) }) rfl (fun K hK => ?_) AllReadyH.nil
            go_simp
            go_at_call 7
            refine (HC5.out _ _ _ _ _ (O3.row.below b9) O4.row).mono ?_
            rintro e w9 ⟨rfl, b9⟩
            go_simp
            refine hK.out _ _ ?_ (fun hHeld => ?_)
            · first | assumption | exact HKS.out _ _ (by assumption) (by assumption)
            clear hK K
            (try simp only [Act.put, List.setIfInBounds_toArray, List.set_cons_zero, List.set_cons_succ])
            refine wpAnyH_take (i := 12) (oi := { dst := some 84, op := Op.pick (Operand.tmp 77) (Operand.tmp 83) (Operand.const (Value.bool false)), type := 4, pos := "laws.go:581", after := #[{ on := 5, ground := Ground.data }, { on := 11, ground := Ground.data }], guard := none }) (v := ?_) rfl (by kernel_rfl) (by kernel_rfl) (by kernel_rfl) (fun _ _ _ h => h) (Or.inl ⟨by rfl, ?_⟩) (by assumption) ?_
            rotate_left
            · intro w hSw
              (try dsimp only at hSw)
              go_simp
              (try with_reducible rfl)
            (try simp only [Act.put, List.setIfInBounds_toArray, List.set_cons_zero, List.set_cons_succ])
            refine wpAnyH_take (i := 13) (oi := { dst := some 85, op := Op.move (Operand.tmp 84), type := 4, pos := "laws.go:581", after := #[{ on := 12, ground := Ground.data }, { on := 11, ground := Ground.chain }], guard := none }) (v := ?_) rfl (by kernel_rfl) (by kernel_rfl) (by kernel_rfl) (fun _ _ _ h => h) (Or.inl ⟨by rfl, ?_⟩) (by assumption) ?_
            rotate_left
            · intro w hSw
              (try dsimp only at hSw)
              go_simp
              (try with_reducible rfl)
            (try simp only [Act.put, List.setIfInBounds_toArray, List.set_cons_zero, List.set_cons_succ])
            refine wpAnyH_take (i := 14) (oi := { dst := some 86, op := Op.move (Operand.tmp 6), type := 23, pos := "laws.go:581", after := #[{ on := 13, ground := Ground.guard }], guard := some (13, true) }) (v := ?_) rfl (by kernel_rfl) (by kernel_rfl) (by kernel_rfl) (fun _ _ _ h => h) (Or.inl ⟨by rfl, ?_⟩) (by assumption) ?_
            rotate_left
            · intro w hSw
              (try dsimp only at hSw)
              go_simp
              (try with_reducible rfl)
            (try simp only [Act.put, List.setIfInBounds_toArray, List.set_cons_zero, List.set_cons_succ])
            refine wpAnyH_ready (rs := [15]) (by kernel_rfl) (by simp) ?_
            refine AllReadyH.cons (o := { dst := some 87, op := Op.call { callee := Callee.value (Operand.func 13), args := #[Operand.tmp 86], argTypes := #[23] }, type := 4, pos := "laws.go:581", after := #[{ on := 14, ground := Ground.data }, { on := 13, ground := Ground.chain }, { on := 13, ground := Ground.guard }], guard := some (13, true) }) rfl (fun K hK => ?_) AllReadyH.nil
            go_simp
            go_at_call 13
            refine (HC6.out _ (And.left (by assumption))).mono ?_
            rintro e w9 ⟨rfl, b9⟩
            go_simp
            refine hK.out _ _ ?_ (fun hHeld => ?_)
            · first | assumption | exact HKS.out _ _ (by assumption) (by assumption)
            clear hK K
            (try simp only [Act.put, List.setIfInBounds_toArray, List.set_cons_zero, List.set_cons_succ])
            refine wpAnyH_take (i := 16) (oi := { dst := some 88, op := Op.pick (Operand.tmp 85) (Operand.tmp 87) (Operand.const (Value.bool false)), type := 4, pos := "laws.go:581", after := #[{ on := 13, ground := Ground.data }, { on := 15, ground := Ground.data }], guard := none }) (v := ?_) rfl (by kernel_rfl) (by kernel_rfl) (by kernel_rfl) (fun _ _ _ h => h) (Or.inl ⟨by rfl, ?_⟩) (by assumption) ?_
            rotate_left
            · intro w hSw
              (try dsimp only at hSw)
              go_simp
              (try with_reducible rfl)
            (try simp only [Act.put, List.setIfInBounds_toArray, List.set_cons_zero, List.set_cons_succ])
            refine wpAnyH_take (i := 17) (oi := { dst := some 89, op := Op.move (Operand.tmp 88), type := 4, pos := "laws.go:581", after := #[{ on := 16, ground := Ground.data }, { on := 15, ground := Ground.chain }], guard := none }) (v := ?_) rfl (by kernel_rfl) (by kernel_rfl) (by kernel_rfl) (fun _ _ _ h => h) (Or.inl ⟨by rfl, ?_⟩) (by assumption) ?_
            rotate_left
            · intro w hSw
              (try dsimp only at hSw)
              go_simp
              (try with_reducible rfl)
            (try simp only [Act.put, List.setIfInBounds_toArray, List.set_cons_zero, List.set_cons_succ])
            refine wpAnyH_take (i := 18) (oi := { dst := some 90, op := Op.load 25 (Operand.tmp 3), type := 25, pos := "laws.go:581", after := #[{ on := 17, ground := Ground.guard }], guard := some (17, true) }) (v := ?_) rfl (by kernel_rfl) (by kernel_rfl) (by kernel_rfl) (fun _ _ _ h => h) (Or.inl ⟨by rfl, ?_⟩) (by assumption) ?_
            rotate_left
            · intro w hSw
              (try dsimp only at hSw)
              go_simp
              (try with_reducible rfl)
            (try simp only [Act.put, List.setIfInBounds_toArray, List.set_cons_zero, List.set_cons_succ])
            refine wpAnyH_ready (rs := [19]) (by kernel_rfl) (by simp) ?_
            refine AllReadyH.cons (o := { dst := some 91, op := Op.call { callee := Callee.value (Operand.func 14), args := #[Operand.tmp 90], argTypes := #[25] }, type := 4, pos := "laws.go:581", after := #[{ on := 18, ground := Ground.data }, { on := 17, ground := Ground.chain }, { on := 17, ground := Ground.guard }], guard := some (17, true) }) rfl (fun K hK => ?_) AllReadyH.nil
            go_simp
            go_at_call 14
            refine (HC7.out _ (And.left (by assumption))).mono ?_
            rintro e w9 ⟨rfl, b9⟩
            go_simp
            refine hK.out _ _ ?_ (fun hHeld => ?_)
            · first | assumption | exact HKS.out _ _ (by assumption) (by assumption)
            clear hK K
            (try simp only [Act.put, List.setIfInBounds_toArray, List.set_cons_zero, List.set_cons_succ])
            refine wpAnyH_take (i := 20) (oi := { dst := some 92, op := Op.unOp UnOp.not 4 (Operand.tmp 91), type := 4, pos := "laws.go:581", after := #[{ on := 19, ground := Ground.data }, { on := 17, ground := Ground.guard }], guard := some (17, true) }) (v := ?_) rfl (by kernel_rfl) (by kernel_rfl) (by kernel_rfl) (fun _ _ _ h => h) (Or.inl ⟨by rfl, ?_⟩) (by assumption) ?_
            rotate_left
            · intro w hSw
              (try dsimp only at hSw)
              go_simp
              (try with_reducible rfl)
            (try simp only [Act.put, List.setIfInBounds_toArray, List.set_cons_zero, List.set_cons_succ])
            refine wpAnyH_take (i := 21) (oi := { dst := some 93, op := Op.move (Operand.tmp 92), type := 4, pos := "laws.go:581", after := #[{ on := 20, ground := Ground.data }, { on := 19, ground := Ground.chain }, { on := 17, ground := Ground.guard }], guard := some (17, true) }) (v := ?_) rfl (by kernel_rfl) (by kernel_rfl) (by kernel_rfl) (fun _ _ _ h => h) (Or.inl ⟨by rfl, ?_⟩) (by assumption) ?_
            rotate_left
            · intro w hSw
              (try dsimp only at hSw)
              go_simp
              (try with_reducible rfl)
            (try simp only [Act.put, List.setIfInBounds_toArray, List.set_cons_zero, List.set_cons_succ])
            refine wpAnyH_take (i := 22) (oi := { dst := some 94, op := Op.move (Operand.tmp 4), type := 9, pos := "laws.go:581", after := #[{ on := 21, ground := Ground.guard }], guard := some (21, true) }) (v := ?_) rfl (by kernel_rfl) (by kernel_rfl) (by kernel_rfl) (fun _ _ _ h => h) (Or.inl ⟨by rfl, ?_⟩) (by assumption) ?_
            rotate_left
            · intro w hSw
              (try dsimp only at hSw)
              go_simp
              (try with_reducible rfl)
            (try simp only [Act.put, List.setIfInBounds_toArray, List.set_cons_zero, List.set_cons_succ])
            refine wpAnyH_take (i := 23) (oi := { dst := some 95, op := Op.binOp BinOp.eql 9 (Operand.tmp 94) (Operand.const (Value.string { data := #[98, 101, 108, 105, 101, 118, 101, 100] })) 9, type := 4, pos := "laws.go:581", after := #[{ on := 22, ground := Ground.data }, { on := 21, ground := Ground.guard }], guard := some (21, true) }) (v := ?_) rfl (by kernel_rfl) (by kernel_rfl) (by kernel_rfl) (fun _ _ _ h => h) (Or.inl ⟨by rfl, ?_⟩) (by assumption) ?_
            rotate_left
            · intro w hSw
              (try dsimp only at hSw)
              go_simp
              (try with_reducible rfl)
            (try simp only [Act.put, List.setIfInBounds_toArray, List.set_cons_zero, List.set_cons_succ])
            refine wpAnyH_take (i := 24) (oi := { dst := some 96, op := Op.move (Operand.tmp 95), type := 4, pos := "laws.go:581", after := #[{ on := 23, ground := Ground.data }, { on := 21, ground := Ground.chain }, { on := 21, ground := Ground.guard }], guard := some (21, true) }) (v := ?_) rfl (by kernel_rfl) (by kernel_rfl) (by kernel_rfl) (fun _ _ _ h => h) (Or.inl ⟨by rfl, ?_⟩) (by assumption) ?_
            rotate_left
            · intro w hSw
              (try dsimp only at hSw)
              go_simp
              (try with_reducible rfl)
            (try simp only [Act.put, List.setIfInBounds_toArray, List.set_cons_zero, List.set_cons_succ])
            refine wpAnyH_take (i := 25) (oi := { dst := some 97, op := Op.move (Operand.tmp 4), type := 9, pos := "laws.go:581", after := #[{ on := 24, ground := Ground.guard }], guard := some (24, false) }) (v := undef) rfl (by kernel_rfl) (by kernel_rfl) (by kernel_rfl) (fun _ _ _ h => h) (Or.inr ⟨by rfl, rfl⟩) (by assumption) ?_
            (try simp only [Act.put, List.setIfInBounds_toArray, List.set_cons_zero, List.set_cons_succ])
            refine wpAnyH_take (i := 26) (oi := { dst := some 98, op := Op.binOp BinOp.eql 9 (Operand.tmp 97) (Operand.const (Value.string { data := #[112, 111, 115, 115, 105, 98, 108, 101] })) 9, type := 4, pos := "laws.go:581", after := #[{ on := 25, ground := Ground.data }, { on := 24, ground := Ground.guard }], guard := some (24, false) }) (v := undef) rfl (by kernel_rfl) (by kernel_rfl) (by kernel_rfl) (fun _ _ _ h => h) (Or.inr ⟨by rfl, rfl⟩) (by assumption) ?_
            (try simp only [Act.put, List.setIfInBounds_toArray, List.set_cons_zero, List.set_cons_succ])
            refine wpAnyH_take (i := 27) (oi := { dst := some 99, op := Op.pick (Operand.tmp 96) (Operand.const (Value.bool true)) (Operand.tmp 98), type := 4, pos := "laws.go:581", after := #[{ on := 24, ground := Ground.data }, { on := 26, ground := Ground.data }, { on := 21, ground := Ground.guard }], guard := some (21, true) }) (v := ?_) rfl (by kernel_rfl) (by kernel_rfl) (by kernel_rfl) (fun _ _ _ h => h) (Or.inl ⟨by rfl, ?_⟩) (by assumption) ?_
            rotate_left
            · intro w hSw
              (try dsimp only at hSw)
              go_simp
              (try with_reducible rfl)
            (try simp only [Act.put, List.setIfInBounds_toArray, List.set_cons_zero, List.set_cons_succ])
            refine wpAnyH_take (i := 28) (oi := { dst := some 100, op := Op.pick (Operand.tmp 93) (Operand.tmp 99) (Operand.const (Value.bool false)), type := 4, pos := "laws.go:581", after := #[{ on := 21, ground := Ground.data }, { on := 27, ground := Ground.data }, { on := 17, ground := Ground.guard }], guard := some (17, true) }) (v := ?_) rfl (by kernel_rfl) (by kernel_rfl) (by kernel_rfl) (fun _ _ _ h => h) (Or.inl ⟨by rfl, ?_⟩) (by assumption) ?_
            rotate_left
            · intro w hSw
              (try dsimp only at hSw)
              go_simp
              (try with_reducible rfl)
            (try simp only [Act.put, List.setIfInBounds_toArray, List.set_cons_zero, List.set_cons_succ])
            refine wpAnyH_take (i := 29) (oi := { dst := some 101, op := Op.move (Operand.tmp 100), type := 4, pos := "laws.go:581", after := #[{ on := 28, ground := Ground.data }, { on := 24, ground := Ground.chain }, { on := 17, ground := Ground.guard }], guard := some (17, true) }) (v := ?_) rfl (by kernel_rfl) (by kernel_rfl) (by kernel_rfl) (fun _ _ _ h => h) (Or.inl ⟨by rfl, ?_⟩) (by assumption) ?_
            rotate_left
            · intro w hSw
              (try dsimp only at hSw)
              go_simp
              (try with_reducible rfl)
            (try simp only [Act.put, List.setIfInBounds_toArray, List.set_cons_zero, List.set_cons_succ])
            refine wpAnyH_take (i := 30) (oi := { dst := some 102, op := Op.move (Operand.tmp 10), type := 4, pos := "laws.go:581", after := #[{ on := 29, ground := Ground.guard }], guard := some (29, false) }) (v := undef) rfl (by kernel_rfl) (by kernel_rfl) (by kernel_rfl) (fun _ _ _ h => h) (Or.inr ⟨by rfl, rfl⟩) (by assumption) ?_
            (try simp only [Act.put, List.setIfInBounds_toArray, List.set_cons_zero, List.set_cons_succ])
            refine wpAnyH_take (i := 31) (oi := { dst := some 103, op := Op.move (Operand.tmp 102), type := 4, pos := "laws.go:581", after := #[{ on := 30, ground := Ground.data }, { on := 29, ground := Ground.chain }, { on := 29, ground := Ground.guard }], guard := some (29, false) }) (v := undef) rfl (by kernel_rfl) (by kernel_rfl) (by kernel_rfl) (fun _ _ _ h => h) (Or.inr ⟨by rfl, rfl⟩) (by assumption) ?_
            (try simp only [Act.put, List.setIfInBounds_toArray, List.set_cons_zero, List.set_cons_succ])
            refine wpAnyH_take (i := 32) (oi := { dst := some 104, op := Op.load 25 (Operand.tmp 9), type := 25, pos := "laws.go:581", after := #[{ on := 31, ground := Ground.guard }], guard := some (31, true) }) (v := undef) rfl (by kernel_rfl) (by kernel_rfl) (by kernel_rfl) (fun _ _ _ h => h) (Or.inr ⟨by rfl, rfl⟩) (by assumption) ?_
            (try simp only [Act.put, List.setIfInBounds_toArray, List.set_cons_zero, List.set_cons_succ])
            refine wpAnyH_take (i := 33) (oi := { dst := some 105, op := Op.load 25 (Operand.tmp 3), type := 25, pos := "laws.go:581", after := #[{ on := 31, ground := Ground.guard }], guard := some (31, true) }) (v := undef) rfl (by kernel_rfl) (by kernel_rfl) (by kernel_rfl) (fun _ _ _ h => h) (Or.inr ⟨by rfl, rfl⟩) (by assumption) ?_
            (try simp only [Act.put, List.setIfInBounds_toArray, List.set_cons_zero, List.set_cons_succ])
            refine wpAnyH_take (i := 34) (oi := { dst := some 106, op := Op.call { callee := Callee.value (Operand.func 15), args := #[Operand.tmp 104, Operand.tmp 105], argTypes := #[25, 25] }, type := 4, pos := "laws.go:581", after := #[{ on := 32, ground := Ground.data }, { on := 33, ground := Ground.data }, { on := 31, ground := Ground.chain }, { on := 31, ground := Ground.guard }], guard := some (31, true) }) (v := undef) rfl (by kernel_rfl) (by kernel_rfl) (by kernel_rfl) (fun _ _ _ h => h) (Or.inr ⟨by rfl, rfl⟩) (by assumption) ?_
            (try simp only [Act.put, List.setIfInBounds_toArray, List.set_cons_zero, List.set_cons_succ])
            refine wpAnyH_take (i := 35) (oi := { dst := some 107, op := Op.pick (Operand.tmp 103) (Operand.tmp 106) (Operand.const (Value.bool false)), type := 4, pos := "laws.go:581", after := #[{ on := 31, ground := Ground.data }, { on := 34, ground := Ground.data }, { on := 29, ground := Ground.guard }], guard := some (29, false) }) (v := undef) rfl (by kernel_rfl) (by kernel_rfl) (by kernel_rfl) (fun _ _ _ h => h) (Or.inr ⟨by rfl, rfl⟩) (by assumption) ?_
            (try simp only [Act.put, List.setIfInBounds_toArray, List.set_cons_zero, List.set_cons_succ])
            refine wpAnyH_take (i := 36) (oi := { dst := some 108, op := Op.pick (Operand.tmp 101) (Operand.const (Value.bool true)) (Operand.tmp 107), type := 4, pos := "laws.go:581", after := #[{ on := 29, ground := Ground.data }, { on := 35, ground := Ground.data }, { on := 17, ground := Ground.guard }], guard := some (17, true) }) (v := ?_) rfl (by kernel_rfl) (by kernel_rfl) (by kernel_rfl) (fun _ _ _ h => h) (Or.inl ⟨by rfl, ?_⟩) (by assumption) ?_
            rotate_left
            · intro w hSw
              (try dsimp only at hSw)
              go_simp
              (try with_reducible rfl)
            (try simp only [Act.put, List.setIfInBounds_toArray, List.set_cons_zero, List.set_cons_succ])
            refine wpAnyH_take (i := 37) (oi := { dst := some 109, op := Op.pick (Operand.tmp 89) (Operand.tmp 108) (Operand.const (Value.bool false)), type := 4, pos := "laws.go:581", after := #[{ on := 17, ground := Ground.data }, { on := 36, ground := Ground.data }], guard := none }) (v := ?_) rfl (by kernel_rfl) (by kernel_rfl) (by kernel_rfl) (fun _ _ _ h => h) (Or.inl ⟨by rfl, ?_⟩) (by assumption) ?_
            rotate_left
            · intro w hSw
              (try dsimp only at hSw)
              go_simp
              (try with_reducible rfl)
            (try simp only [Act.put, List.setIfInBounds_toArray, List.set_cons_zero, List.set_cons_succ])
            refine wpAnyH_take (i := 38) (oi := { dst := some 2, op := Op.assign (Operand.tmp 109), type := 4, pos := "laws.go:581", after := #[{ on := 37, ground := Ground.data }, { on := 34, ground := Ground.chain }, { on := 0, ground := Ground.phase }, { on := 1, ground := Ground.phase }, { on := 2, ground := Ground.phase }, { on := 3, ground := Ground.phase }, { on := 4, ground := Ground.phase }, { on := 5, ground := Ground.phase }, { on := 6, ground := Ground.phase }, { on := 7, ground := Ground.phase }, { on := 8, ground := Ground.phase }, { on := 9, ground := Ground.phase }, { on := 10, ground := Ground.phase }, { on := 11, ground := Ground.phase }, { on := 12, ground := Ground.phase }, { on := 13, ground := Ground.phase }, { on := 14, ground := Ground.phase }, { on := 15, ground := Ground.phase }, { on := 16, ground := Ground.phase }, { on := 17, ground := Ground.phase }, { on := 18, ground := Ground.phase }, { on := 19, ground := Ground.phase }, { on := 20, ground := Ground.phase }, { on := 21, ground := Ground.phase }, { on := 22, ground := Ground.phase }, { on := 23, ground := Ground.phase }, { on := 24, ground := Ground.phase }, { on := 25, ground := Ground.phase }, { on := 26, ground := Ground.phase }, { on := 27, ground := Ground.phase }, { on := 28, ground := Ground.phase }, { on := 29, ground := Ground.phase }, { on := 30, ground := Ground.phase }, { on := 31, ground := Ground.phase }, { on := 32, ground := Ground.phase }, { on := 33, ground := Ground.phase }, { on := 34, ground := Ground.phase }, { on := 35, ground := Ground.phase }, { on := 36, ground := Ground.phase }, { on := 37, ground := Ground.phase }], guard := none }) (v := ?_) rfl (by kernel_rfl) (by kernel_rfl) (by kernel_rfl) (fun _ _ _ h => h) (Or.inl ⟨by rfl, ?_⟩) (by assumption) ?_
            rotate_left
            · intro w hSw
              (try dsimp only at hSw)
              go_simp
              (try with_reducible rfl)
            (try simp only [Act.put, List.setIfInBounds_toArray, List.set_cons_zero, List.set_cons_succ])
            refine wpAnyH_done (by kernel_rfl) ?_ _
            clear HS0
            go_wp2_with fail
            go_ret
            exact ⟨by simp, HBB.out.trans (Below.mono (And.left (by assumption)) HBB.out.size)⟩
          · have hk2 := kind2 hkd
            have hq1 : (kd.toList == [98, 101, 108, 105, 101, 118, 101, 100]) = false := by rw [hkd]; decide
            clear hk2 HBACK
            have HMT := Lib.hid (fun W (h : Row W Aa n ls) => iMassOfTable_any s kd Aa n Ca ls W h hn)
            have hml : rN (motR s ls kd) ≤ 1048576 := motR_len (by have := Ra.1; omega)
            have HMU := Lib.hid (fun W (h : Row W Aa n ls) => (HMT.out W h).mono (fun e w' h => And.intro (RetM.any hml h.1) h.2))
            obtain ⟨m1, m2⟩ := Mm.at_ (Below.refl _ _)
            go_wp2_with fail
            clear m1 m2
            refine (HMU.out _ Ra).mono ?_
            rintro e w21 ⟨⟨bk, sk, Ak, nk, Ck, yk, rfl, hnk, Rk⟩, b21⟩
            replace Mm := Mm.below b21
            replace Ra := Ra.below b21
            replace Rc := Rc.below b21
            replace BB := BB.trans (b21.mono BB.size)
            go_upto_region 15 with fail
            obtain ⟨w22, hw22⟩ : ∃ W, W = w21.alloc (.cells #[.int .i64 sk, .slice Ak nk Ck] 25) := ⟨_, rfl⟩
            obtain ⟨Mk, b22⟩ := Mv.new Rk hw22
            rw [← hw22]
            clear hw22
            replace Mm := Mm.below b22
            replace Ra := Ra.below b22
            replace Rc := Rc.below b22
            replace BB := BB.trans (b22.mono BB.size)
            clear HMU HMT
            have Hm := Lib.hid Mm
            have Hk := Lib.hid Mk
            have HBB := Lib.hid BB
            clear BB Mm Mk
            have HRa := Lib.hid Ra
            have HRc := Lib.hid Rc
            have HC1 := Lib.hid (fun W (h : Below w22.heap.size w22 W) => iSumsBelow_any A n C xs W (Hm.out.2.below h) hn)
            rw [toldN_yes HTB.out, told_yes HTB.out, ← HLW.out] at HC1
            have HC2 := Lib.hid (fun W A2 C2 (h : Below w22.heap.size w22 W) (h2 : Row W A2 n lw) => weSame_any (some ⟨bc, offc, none⟩) A2 n Cc n C2 lw lw W (HRc.out.below h) h2 hn hn)
            rw [eqB_self] at HC2
            have HC3 := Lib.hid (fun W (h : Below w22.heap.size w22 W) => iTableOf_any s { data := #[99, 111, 109, 109, 111, 110] } A n C xs W (Hm.out.2.below h) hn)
            rw [HN3.out, HT3.out] at HC3
            have HC4 := Lib.hid (fun W (h : Below w22.heap.size w22 W) => iSumsAbove_any A n C xs W (Hm.out.2.below h) hn)
            rw [toldN_yes HTB.out, told_yes HTB.out, ← HLC.out] at HC4
            have HC5 := Lib.hid (fun W A2 C2 A3 C3 (h2 : Row W A2 n lc) (h3 : Row W A3 n lc) => weSame_any A2 A3 n C2 n C3 lc lc W h2 h3 hn hn)
            rw [eqB_self] at HC5
            have HC6 := Lib.hid (fun W (h : Below w22.heap.size w22 W) => iIsBeliefTable_any (some ⟨bc, offc, none⟩) n Cc lw W (HRc.out.below h) hn)
            rw [HBEL.out] at HC6
            have HC7 := Lib.hid (fun W (h : Below w22.heap.size w22 W) => IsNormal_any s A n C xs W (Hm.out.2.below h) hn)
            rw [HNV.out] at HC7
            clear Ra Rc
            have HIS : Hid (∀ W, Below w22.heap.size w22 W → Below w22.heap.size w22 W ∧ W.cell? ⟨w1.heap.size, 0, none⟩ = some (.int .i64 s) ∧ W.cell? ⟨w1.heap.size, 1, none⟩ = some (.slice A n C)) := fun W h => ⟨h, (Hm.out.at_ h).1, (Hm.out.at_ h).2⟩
            have HKS : Hid (∀ W W', Below W.heap.size W W' → (Below w22.heap.size w22 W ∧ W.cell? ⟨w1.heap.size, 0, none⟩ = some (.int .i64 s) ∧ W.cell? ⟨w1.heap.size, 1, none⟩ = some (.slice A n C)) → Below w22.heap.size w22 W' ∧ W'.cell? ⟨w1.heap.size, 0, none⟩ = some (.int .i64 s) ∧ W'.cell? ⟨w1.heap.size, 1, none⟩ = some (.slice A n C)) := fun W W' b h => HIS.out W' (h.1.trans (b.mono h.1.size))
            have HS0 := Lib.hid (HIS.out _ ((Below.refl _ _).drew))
            go_wp2_with fail
            refine wp_region_held_drew (S := fun W => Below w22.heap.size w22 W ∧ W.cell? ⟨w1.heap.size, 0, none⟩ = some (.int .i64 s) ∧ W.cell? ⟨w1.heap.size, 1, none⟩ = some (.slice A n C)) (by kernel_rfl) ?_ (fun hHeld => ?_)
            · exact HS0.out
            refine wpAnyH_take (i := 0) (oi := { dst := some 72, op := Op.move (Operand.tmp 6), type := 23, pos := "laws.go:581", after := #[], guard := none }) (v := ?_) rfl (by kernel_rfl) (by kernel_rfl) (by kernel_rfl) (fun _ _ _ h => h) (Or.inl ⟨by rfl, ?_⟩) (by assumption) ?_
            rotate_left
            · intro w hSw
              (try dsimp only at hSw)
              go_simp
              (try with_reducible rfl)
            (try simp only [Act.put, List.setIfInBounds_toArray, List.set_cons_zero, List.set_cons_succ])
            refine wpAnyH_take (i := 1) (oi := { dst := some 73, op := Op.fieldAddr 25 (Operand.tmp 3) 1, type := 0, pos := "laws.go:581", after := #[], guard := none }) (v := ?_) rfl (by kernel_rfl) (by kernel_rfl) (by kernel_rfl) (fun _ _ _ h => h) (Or.inl ⟨by rfl, ?_⟩) (by assumption) ?_
            rotate_left
            · intro w hSw
              (try dsimp only at hSw)
              go_simp
              (try with_reducible rfl)
            (try simp only [Act.put, List.setIfInBounds_toArray, List.set_cons_zero, List.set_cons_succ])
            refine wpAnyH_take (i := 2) (oi := { dst := some 74, op := Op.load 23 (Operand.tmp 73), type := 23, pos := "laws.go:581", after := #[{ on := 1, ground := Ground.data }], guard := none }) (v := ?_) rfl (by kernel_rfl) (by kernel_rfl) (by kernel_rfl) (fun _ _ _ h => h) (Or.inl ⟨by rfl, ?_⟩) (by assumption) ?_
            rotate_left
            · intro w hSw
              (try dsimp only at hSw)
              go_simp
              (try with_reducible rfl)
            (try simp only [Act.put, List.setIfInBounds_toArray, List.set_cons_zero, List.set_cons_succ])
            refine wpAnyH_ready (rs := [3]) (by kernel_rfl) (by simp) ?_
            refine AllReadyH.cons (o := { dst := some 75, op := Op.call { callee := Callee.value (Operand.func 11), args := #[Operand.tmp 74], argTypes := #[23] }, type := 23, pos := "laws.go:581", after := #[{ on := 2, ground := Ground.data }], guard := none }) rfl (fun K hK => ?_) AllReadyH.nil
            go_simp
            go_at_call 11
            refine (HC1.out _ (And.left (by assumption))).mono ?_
            rintro e w9 ⟨A1, C1, rfl, O1, b9⟩
            go_simp
            refine hK.out _ _ ?_ (fun hHeld => ?_)
            · first | assumption | exact HKS.out _ _ (by assumption) (by assumption)
            clear hK K
            (try simp only [Act.put, List.setIfInBounds_toArray, List.set_cons_zero, List.set_cons_succ])
            refine wpAnyH_ready (rs := [4]) (by kernel_rfl) (by simp) ?_
            refine AllReadyH.cons (o := { dst := some 76, op := Op.call { callee := Callee.value (Operand.func 7), args := #[Operand.tmp 72, Operand.tmp 75], argTypes := #[23, 23] }, type := 4, pos := "laws.go:581", after := #[{ on := 0, ground := Ground.data }, { on := 3, ground := Ground.data }, { on := 3, ground := Ground.chain }], guard := none }) rfl (fun K hK => ?_) AllReadyH.nil
            go_simp
            go_at_call 7
            refine (HC2.out _ _ _ (And.left (by assumption)) O1.row).mono ?_
            rintro e w9 ⟨rfl, b9⟩
            go_simp
            refine hK.out _ _ ?_ (fun hHeld => ?_)
            · first | assumption | exact HKS.out _ _ (by assumption) (by assumption)
            clear hK K
            (try simp only [Act.put, List.setIfInBounds_toArray, List.set_cons_zero, List.set_cons_succ])
            refine wpAnyH_take (i := 5) (oi := { dst := some 77, op := Op.move (Operand.tmp 76), type := 4, pos := "laws.go:581", after := #[{ on := 4, ground := Ground.data }, { on := 4, ground := Ground.chain }], guard := none }) (v := ?_) rfl (by kernel_rfl) (by kernel_rfl) (by kernel_rfl) (fun _ _ _ h => h) (Or.inl ⟨by rfl, ?_⟩) (by assumption) ?_
            rotate_left
            · intro w hSw
              (try dsimp only at hSw)
              go_simp
              (try with_reducible rfl)
            (try simp only [Act.put, List.setIfInBounds_toArray, List.set_cons_zero, List.set_cons_succ])
            refine wpAnyH_take (i := 6) (oi := { dst := some 78, op := Op.load 25 (Operand.tmp 3), type := 25, pos := "laws.go:581", after := #[{ on := 5, ground := Ground.guard }], guard := some (5, true) }) (v := ?_) rfl (by kernel_rfl) (by kernel_rfl) (by kernel_rfl) (fun _ _ _ h => h) (Or.inl ⟨by rfl, ?_⟩) (by assumption) ?_
            rotate_left
            · intro w hSw
              (try dsimp only at hSw)
              go_simp
              (try with_reducible rfl)
            (try simp only [Act.put, List.setIfInBounds_toArray, List.set_cons_zero, List.set_cons_succ])
            refine wpAnyH_take (i := 8) (oi := { dst := some 80, op := Op.fieldAddr 25 (Operand.tmp 3) 1, type := 0, pos := "laws.go:581", after := #[{ on := 5, ground := Ground.guard }], guard := some (5, true) }) (v := ?_) rfl (by kernel_rfl) (by kernel_rfl) (by kernel_rfl) (fun _ _ _ h => h) (Or.inl ⟨by rfl, ?_⟩) (by assumption) ?_
            rotate_left
            · intro w hSw
              (try dsimp only at hSw)
              go_simp
              (try with_reducible rfl)
            (try simp only [Act.put, List.setIfInBounds_toArray, List.set_cons_zero, List.set_cons_succ])
            refine wpAnyH_take (i := 9) (oi := { dst := some 81, op := Op.load 23 (Operand.tmp 80), type := 23, pos := "laws.go:581", after := #[{ on := 8, ground := Ground.data }, { on := 5, ground := Ground.guard }], guard := some (5, true) }) (v := ?_) rfl (by kernel_rfl) (by kernel_rfl) (by kernel_rfl) (fun _ _ _ h => h) (Or.inl ⟨by rfl, ?_⟩) (by assumption) ?_
            rotate_left
            · intro w hSw
              (try dsimp only at hSw)
              go_simp
              (try with_reducible rfl)
            (try simp only [Act.put, List.setIfInBounds_toArray, List.set_cons_zero, List.set_cons_succ])
            refine wpAnyH_ready (rs := [7]) (by kernel_rfl) (by simp) ?_
            refine AllReadyH.cons (o := { dst := some 79, op := Op.call { callee := Callee.value (Operand.func 6), args := #[Operand.tmp 78, Operand.const (Value.string { data := #[99, 111, 109, 109, 111, 110] })], argTypes := #[25, 9] }, type := 23, pos := "laws.go:581", after := #[{ on := 6, ground := Ground.data }, { on := 5, ground := Ground.chain }, { on := 5, ground := Ground.guard }], guard := some (5, true) }) rfl (fun K hK => ?_) AllReadyH.nil
            go_simp
            go_at_call 6
            refine (HC3.out _ (And.left (by assumption))).mono ?_
            rintro e w9 ⟨A3, C3, rfl, O3, b9⟩
            go_simp
            refine hK.out _ _ ?_ (fun hHeld => ?_)
            · first | assumption | exact HKS.out _ _ (by assumption) (by assumption)
            clear hK K
            (try simp only [Act.put, List.setIfInBounds_toArray, List.set_cons_zero, List.set_cons_succ])
            refine wpAnyH_ready (rs := [10]) (by kernel_rfl) (by simp) ?_
            refine AllReadyH.cons (o := { dst := some 82, op := Op.call { callee := Callee.value (Operand.func 12), args := #[Operand.tmp 81], argTypes := #[23] }, type := 23, pos := "laws.go:581", after := #[{ on := 9, ground := Ground.data }, { on := 7, ground := Ground.chain }, { on := 5, ground := Ground.guard }], guard := some (5, true) }) rfl (fun K hK => ?_) AllReadyH.nil
            go_simp
            go_at_call 12
            refine (HC4.out _ (And.left (by assumption))).mono ?_
            rintro e w9 ⟨A4, C4, rfl, O4, b9⟩
            go_simp
            refine hK.out _ _ ?_ (fun hHeld => ?_)
            · first | assumption | exact HKS.out _ _ (by assumption) (by assumption)
            clear hK K
            (try simp only [Act.put, List.setIfInBounds_toArray, List.set_cons_zero, List.set_cons_succ])
            refine wpAnyH_ready (rs := [11]) (by kernel_rfl) (by simp) ?_
            refine AllReadyH.cons (o := { dst := some 83, op := Op.call { callee := Callee.value (Operand.func 7), args := #[Operand.tmp 79, Operand.tmp 82], argTypes := #[23, 23] }, type := 4, pos := "laws.go:581", after := #[{ on := 7, ground := Ground.data }, { on := 10, ground := Ground.data }, { on := 10, ground := Ground.chain }, { on := 5, ground := Ground.guard }], guard := some (5, true) }) rfl (fun K hK => ?_) AllReadyH.nil
            go_simp
            go_at_call 7
            refine (HC5.out _ _ _ _ _ (O3.row.below b9) O4.row).mono ?_
            rintro e w9 ⟨rfl, b9⟩
            go_simp
            refine hK.out _ _ ?_ (fun hHeld => ?_)
            · first | assumption | exact HKS.out _ _ (by assumption) (by assumption)
            clear hK K
            (try simp only [Act.put, List.setIfInBounds_toArray, List.set_cons_zero, List.set_cons_succ])
            refine wpAnyH_take (i := 12) (oi := { dst := some 84, op := Op.pick (Operand.tmp 77) (Operand.tmp 83) (Operand.const (Value.bool false)), type := 4, pos := "laws.go:581", after := #[{ on := 5, ground := Ground.data }, { on := 11, ground := Ground.data }], guard := none }) (v := ?_) rfl (by kernel_rfl) (by kernel_rfl) (by kernel_rfl) (fun _ _ _ h => h) (Or.inl ⟨by rfl, ?_⟩) (by assumption) ?_
            rotate_left
            · intro w hSw
              (try dsimp only at hSw)
              go_simp
              (try with_reducible rfl)
            (try simp only [Act.put, List.setIfInBounds_toArray, List.set_cons_zero, List.set_cons_succ])
            refine wpAnyH_take (i := 13) (oi := { dst := some 85, op := Op.move (Operand.tmp 84), type := 4, pos := "laws.go:581", after := #[{ on := 12, ground := Ground.data }, { on := 11, ground := Ground.chain }], guard := none }) (v := ?_) rfl (by kernel_rfl) (by kernel_rfl) (by kernel_rfl) (fun _ _ _ h => h) (Or.inl ⟨by rfl, ?_⟩) (by assumption) ?_
            rotate_left
            · intro w hSw
              (try dsimp only at hSw)
              go_simp
              (try with_reducible rfl)
            (try simp only [Act.put, List.setIfInBounds_toArray, List.set_cons_zero, List.set_cons_succ])
            refine wpAnyH_take (i := 14) (oi := { dst := some 86, op := Op.move (Operand.tmp 6), type := 23, pos := "laws.go:581", after := #[{ on := 13, ground := Ground.guard }], guard := some (13, true) }) (v := ?_) rfl (by kernel_rfl) (by kernel_rfl) (by kernel_rfl) (fun _ _ _ h => h) (Or.inl ⟨by rfl, ?_⟩) (by assumption) ?_
            rotate_left
            · intro w hSw
              (try dsimp only at hSw)
              go_simp
              (try with_reducible rfl)
            (try simp only [Act.put, List.setIfInBounds_toArray, List.set_cons_zero, List.set_cons_succ])
            refine wpAnyH_ready (rs := [15]) (by kernel_rfl) (by simp) ?_
            refine AllReadyH.cons (o := { dst := some 87, op := Op.call { callee := Callee.value (Operand.func 13), args := #[Operand.tmp 86], argTypes := #[23] }, type := 4, pos := "laws.go:581", after := #[{ on := 14, ground := Ground.data }, { on := 13, ground := Ground.chain }, { on := 13, ground := Ground.guard }], guard := some (13, true) }) rfl (fun K hK => ?_) AllReadyH.nil
            go_simp
            go_at_call 13
            refine (HC6.out _ (And.left (by assumption))).mono ?_
            rintro e w9 ⟨rfl, b9⟩
            go_simp
            refine hK.out _ _ ?_ (fun hHeld => ?_)
            · first | assumption | exact HKS.out _ _ (by assumption) (by assumption)
            clear hK K
            (try simp only [Act.put, List.setIfInBounds_toArray, List.set_cons_zero, List.set_cons_succ])
            refine wpAnyH_take (i := 16) (oi := { dst := some 88, op := Op.pick (Operand.tmp 85) (Operand.tmp 87) (Operand.const (Value.bool false)), type := 4, pos := "laws.go:581", after := #[{ on := 13, ground := Ground.data }, { on := 15, ground := Ground.data }], guard := none }) (v := ?_) rfl (by kernel_rfl) (by kernel_rfl) (by kernel_rfl) (fun _ _ _ h => h) (Or.inl ⟨by rfl, ?_⟩) (by assumption) ?_
            rotate_left
            · intro w hSw
              (try dsimp only at hSw)
              go_simp
              (try with_reducible rfl)
            (try simp only [Act.put, List.setIfInBounds_toArray, List.set_cons_zero, List.set_cons_succ])
            refine wpAnyH_take (i := 17) (oi := { dst := some 89, op := Op.move (Operand.tmp 88), type := 4, pos := "laws.go:581", after := #[{ on := 16, ground := Ground.data }, { on := 15, ground := Ground.chain }], guard := none }) (v := ?_) rfl (by kernel_rfl) (by kernel_rfl) (by kernel_rfl) (fun _ _ _ h => h) (Or.inl ⟨by rfl, ?_⟩) (by assumption) ?_
            rotate_left
            · intro w hSw
              (try dsimp only at hSw)
              go_simp
              (try with_reducible rfl)
            (try simp only [Act.put, List.setIfInBounds_toArray, List.set_cons_zero, List.set_cons_succ])
            refine wpAnyH_take (i := 18) (oi := { dst := some 90, op := Op.load 25 (Operand.tmp 3), type := 25, pos := "laws.go:581", after := #[{ on := 17, ground := Ground.guard }], guard := some (17, true) }) (v := ?_) rfl (by kernel_rfl) (by kernel_rfl) (by kernel_rfl) (fun _ _ _ h => h) (Or.inl ⟨by rfl, ?_⟩) (by assumption) ?_
            rotate_left
            · intro w hSw
              (try dsimp only at hSw)
              go_simp
              (try with_reducible rfl)
            (try simp only [Act.put, List.setIfInBounds_toArray, List.set_cons_zero, List.set_cons_succ])
            refine wpAnyH_ready (rs := [19]) (by kernel_rfl) (by simp) ?_
            refine AllReadyH.cons (o := { dst := some 91, op := Op.call { callee := Callee.value (Operand.func 14), args := #[Operand.tmp 90], argTypes := #[25] }, type := 4, pos := "laws.go:581", after := #[{ on := 18, ground := Ground.data }, { on := 17, ground := Ground.chain }, { on := 17, ground := Ground.guard }], guard := some (17, true) }) rfl (fun K hK => ?_) AllReadyH.nil
            go_simp
            go_at_call 14
            refine (HC7.out _ (And.left (by assumption))).mono ?_
            rintro e w9 ⟨rfl, b9⟩
            go_simp
            refine hK.out _ _ ?_ (fun hHeld => ?_)
            · first | assumption | exact HKS.out _ _ (by assumption) (by assumption)
            clear hK K
            (try simp only [Act.put, List.setIfInBounds_toArray, List.set_cons_zero, List.set_cons_succ])
            refine wpAnyH_take (i := 20) (oi := { dst := some 92, op := Op.unOp UnOp.not 4 (Operand.tmp 91), type := 4, pos := "laws.go:581", after := #[{ on := 19, ground := Ground.data }, { on := 17, ground := Ground.guard }], guard := some (17, true) }) (v := ?_) rfl (by kernel_rfl) (by kernel_rfl) (by kernel_rfl) (fun _ _ _ h => h) (Or.inl ⟨by rfl, ?_⟩) (by assumption) ?_
            rotate_left
            · intro w hSw
              (try dsimp only at hSw)
              go_simp
              (try with_reducible rfl)
            (try simp only [Act.put, List.setIfInBounds_toArray, List.set_cons_zero, List.set_cons_succ])
            refine wpAnyH_take (i := 21) (oi := { dst := some 93, op := Op.move (Operand.tmp 92), type := 4, pos := "laws.go:581", after := #[{ on := 20, ground := Ground.data }, { on := 19, ground := Ground.chain }, { on := 17, ground := Ground.guard }], guard := some (17, true) }) (v := ?_) rfl (by kernel_rfl) (by kernel_rfl) (by kernel_rfl) (fun _ _ _ h => h) (Or.inl ⟨by rfl, ?_⟩) (by assumption) ?_
            rotate_left
            · intro w hSw
              (try dsimp only at hSw)
              go_simp
              (try with_reducible rfl)
            (try simp only [Act.put, List.setIfInBounds_toArray, List.set_cons_zero, List.set_cons_succ])
            refine wpAnyH_take (i := 22) (oi := { dst := some 94, op := Op.move (Operand.tmp 4), type := 9, pos := "laws.go:581", after := #[{ on := 21, ground := Ground.guard }], guard := some (21, true) }) (v := ?_) rfl (by kernel_rfl) (by kernel_rfl) (by kernel_rfl) (fun _ _ _ h => h) (Or.inl ⟨by rfl, ?_⟩) (by assumption) ?_
            rotate_left
            · intro w hSw
              (try dsimp only at hSw)
              go_simp
              (try with_reducible rfl)
            (try simp only [Act.put, List.setIfInBounds_toArray, List.set_cons_zero, List.set_cons_succ])
            refine wpAnyH_take (i := 23) (oi := { dst := some 95, op := Op.binOp BinOp.eql 9 (Operand.tmp 94) (Operand.const (Value.string { data := #[98, 101, 108, 105, 101, 118, 101, 100] })) 9, type := 4, pos := "laws.go:581", after := #[{ on := 22, ground := Ground.data }, { on := 21, ground := Ground.guard }], guard := some (21, true) }) (v := ?_) rfl (by kernel_rfl) (by kernel_rfl) (by kernel_rfl) (fun _ _ _ h => h) (Or.inl ⟨by rfl, ?_⟩) (by assumption) ?_
            rotate_left
            · intro w hSw
              (try dsimp only at hSw)
              go_simp
              (try with_reducible rfl)
            (try simp only [Act.put, List.setIfInBounds_toArray, List.set_cons_zero, List.set_cons_succ])
            refine wpAnyH_take (i := 24) (oi := { dst := some 96, op := Op.move (Operand.tmp 95), type := 4, pos := "laws.go:581", after := #[{ on := 23, ground := Ground.data }, { on := 21, ground := Ground.chain }, { on := 21, ground := Ground.guard }], guard := some (21, true) }) (v := ?_) rfl (by kernel_rfl) (by kernel_rfl) (by kernel_rfl) (fun _ _ _ h => h) (Or.inl ⟨by rfl, ?_⟩) (by assumption) ?_
            rotate_left
            · intro w hSw
              (try dsimp only at hSw)
              go_simp
              (try with_reducible rfl)
            (try simp only [Act.put, List.setIfInBounds_toArray, List.set_cons_zero, List.set_cons_succ])
            refine wpAnyH_take (i := 25) (oi := { dst := some 97, op := Op.move (Operand.tmp 4), type := 9, pos := "laws.go:581", after := #[{ on := 24, ground := Ground.guard }], guard := some (24, false) }) (v := ?_) rfl (by kernel_rfl) (by kernel_rfl) (by kernel_rfl) (fun _ _ _ h => h) (Or.inl ⟨by rfl, ?_⟩) (by assumption) ?_
            rotate_left
            · intro w hSw
              (try dsimp only at hSw)
              go_simp
              (try with_reducible rfl)
            (try simp only [Act.put, List.setIfInBounds_toArray, List.set_cons_zero, List.set_cons_succ])
            refine wpAnyH_take (i := 26) (oi := { dst := some 98, op := Op.binOp BinOp.eql 9 (Operand.tmp 97) (Operand.const (Value.string { data := #[112, 111, 115, 115, 105, 98, 108, 101] })) 9, type := 4, pos := "laws.go:581", after := #[{ on := 25, ground := Ground.data }, { on := 24, ground := Ground.guard }], guard := some (24, false) }) (v := ?_) rfl (by kernel_rfl) (by kernel_rfl) (by kernel_rfl) (fun _ _ _ h => h) (Or.inl ⟨by rfl, ?_⟩) (by assumption) ?_
            rotate_left
            · intro w hSw
              (try dsimp only at hSw)
              go_simp
              (try with_reducible rfl)
            (try simp only [Act.put, List.setIfInBounds_toArray, List.set_cons_zero, List.set_cons_succ])
            refine wpAnyH_take (i := 27) (oi := { dst := some 99, op := Op.pick (Operand.tmp 96) (Operand.const (Value.bool true)) (Operand.tmp 98), type := 4, pos := "laws.go:581", after := #[{ on := 24, ground := Ground.data }, { on := 26, ground := Ground.data }, { on := 21, ground := Ground.guard }], guard := some (21, true) }) (v := ?_) rfl (by kernel_rfl) (by kernel_rfl) (by kernel_rfl) (fun _ _ _ h => h) (Or.inl ⟨by rfl, ?_⟩) (by assumption) ?_
            rotate_left
            · intro w hSw
              (try dsimp only at hSw)
              go_simp
              (try with_reducible rfl)
            (try simp only [Act.put, List.setIfInBounds_toArray, List.set_cons_zero, List.set_cons_succ])
            refine wpAnyH_take (i := 28) (oi := { dst := some 100, op := Op.pick (Operand.tmp 93) (Operand.tmp 99) (Operand.const (Value.bool false)), type := 4, pos := "laws.go:581", after := #[{ on := 21, ground := Ground.data }, { on := 27, ground := Ground.data }, { on := 17, ground := Ground.guard }], guard := some (17, true) }) (v := ?_) rfl (by kernel_rfl) (by kernel_rfl) (by kernel_rfl) (fun _ _ _ h => h) (Or.inl ⟨by rfl, ?_⟩) (by assumption) ?_
            rotate_left
            · intro w hSw
              (try dsimp only at hSw)
              go_simp
              (try with_reducible rfl)
            (try simp only [Act.put, List.setIfInBounds_toArray, List.set_cons_zero, List.set_cons_succ])
            refine wpAnyH_take (i := 29) (oi := { dst := some 101, op := Op.move (Operand.tmp 100), type := 4, pos := "laws.go:581", after := #[{ on := 28, ground := Ground.data }, { on := 24, ground := Ground.chain }, { on := 17, ground := Ground.guard }], guard := some (17, true) }) (v := ?_) rfl (by kernel_rfl) (by kernel_rfl) (by kernel_rfl) (fun _ _ _ h => h) (Or.inl ⟨by rfl, ?_⟩) (by assumption) ?_
            rotate_left
            · intro w hSw
              (try dsimp only at hSw)
              go_simp
              (try with_reducible rfl)
            (try simp only [Act.put, List.setIfInBounds_toArray, List.set_cons_zero, List.set_cons_succ])
            refine wpAnyH_take (i := 30) (oi := { dst := some 102, op := Op.move (Operand.tmp 10), type := 4, pos := "laws.go:581", after := #[{ on := 29, ground := Ground.guard }], guard := some (29, false) }) (v := undef) rfl (by kernel_rfl) (by kernel_rfl) (by kernel_rfl) (fun _ _ _ h => h) (Or.inr ⟨by rfl, rfl⟩) (by assumption) ?_
            (try simp only [Act.put, List.setIfInBounds_toArray, List.set_cons_zero, List.set_cons_succ])
            refine wpAnyH_take (i := 31) (oi := { dst := some 103, op := Op.move (Operand.tmp 102), type := 4, pos := "laws.go:581", after := #[{ on := 30, ground := Ground.data }, { on := 29, ground := Ground.chain }, { on := 29, ground := Ground.guard }], guard := some (29, false) }) (v := undef) rfl (by kernel_rfl) (by kernel_rfl) (by kernel_rfl) (fun _ _ _ h => h) (Or.inr ⟨by rfl, rfl⟩) (by assumption) ?_
            (try simp only [Act.put, List.setIfInBounds_toArray, List.set_cons_zero, List.set_cons_succ])
            refine wpAnyH_take (i := 32) (oi := { dst := some 104, op := Op.load 25 (Operand.tmp 9), type := 25, pos := "laws.go:581", after := #[{ on := 31, ground := Ground.guard }], guard := some (31, true) }) (v := undef) rfl (by kernel_rfl) (by kernel_rfl) (by kernel_rfl) (fun _ _ _ h => h) (Or.inr ⟨by rfl, rfl⟩) (by assumption) ?_
            (try simp only [Act.put, List.setIfInBounds_toArray, List.set_cons_zero, List.set_cons_succ])
            refine wpAnyH_take (i := 33) (oi := { dst := some 105, op := Op.load 25 (Operand.tmp 3), type := 25, pos := "laws.go:581", after := #[{ on := 31, ground := Ground.guard }], guard := some (31, true) }) (v := undef) rfl (by kernel_rfl) (by kernel_rfl) (by kernel_rfl) (fun _ _ _ h => h) (Or.inr ⟨by rfl, rfl⟩) (by assumption) ?_
            (try simp only [Act.put, List.setIfInBounds_toArray, List.set_cons_zero, List.set_cons_succ])
            refine wpAnyH_take (i := 34) (oi := { dst := some 106, op := Op.call { callee := Callee.value (Operand.func 15), args := #[Operand.tmp 104, Operand.tmp 105], argTypes := #[25, 25] }, type := 4, pos := "laws.go:581", after := #[{ on := 32, ground := Ground.data }, { on := 33, ground := Ground.data }, { on := 31, ground := Ground.chain }, { on := 31, ground := Ground.guard }], guard := some (31, true) }) (v := undef) rfl (by kernel_rfl) (by kernel_rfl) (by kernel_rfl) (fun _ _ _ h => h) (Or.inr ⟨by rfl, rfl⟩) (by assumption) ?_
            (try simp only [Act.put, List.setIfInBounds_toArray, List.set_cons_zero, List.set_cons_succ])
            refine wpAnyH_take (i := 35) (oi := { dst := some 107, op := Op.pick (Operand.tmp 103) (Operand.tmp 106) (Operand.const (Value.bool false)), type := 4, pos := "laws.go:581", after := #[{ on := 31, ground := Ground.data }, { on := 34, ground := Ground.data }, { on := 29, ground := Ground.guard }], guard := some (29, false) }) (v := undef) rfl (by kernel_rfl) (by kernel_rfl) (by kernel_rfl) (fun _ _ _ h => h) (Or.inr ⟨by rfl, rfl⟩) (by assumption) ?_
            (try simp only [Act.put, List.setIfInBounds_toArray, List.set_cons_zero, List.set_cons_succ])
            refine wpAnyH_take (i := 36) (oi := { dst := some 108, op := Op.pick (Operand.tmp 101) (Operand.const (Value.bool true)) (Operand.tmp 107), type := 4, pos := "laws.go:581", after := #[{ on := 29, ground := Ground.data }, { on := 35, ground := Ground.data }, { on := 17, ground := Ground.guard }], guard := some (17, true) }) (v := ?_) rfl (by kernel_rfl) (by kernel_rfl) (by kernel_rfl) (fun _ _ _ h => h) (Or.inl ⟨by rfl, ?_⟩) (by assumption) ?_
            rotate_left
            · intro w hSw
              (try dsimp only at hSw)
              go_simp
              (try with_reducible rfl)
            (try simp only [Act.put, List.setIfInBounds_toArray, List.set_cons_zero, List.set_cons_succ])
            refine wpAnyH_take (i := 37) (oi := { dst := some 109, op := Op.pick (Operand.tmp 89) (Operand.tmp 108) (Operand.const (Value.bool false)), type := 4, pos := "laws.go:581", after := #[{ on := 17, ground := Ground.data }, { on := 36, ground := Ground.data }], guard := none }) (v := ?_) rfl (by kernel_rfl) (by kernel_rfl) (by kernel_rfl) (fun _ _ _ h => h) (Or.inl ⟨by rfl, ?_⟩) (by assumption) ?_
            rotate_left
            · intro w hSw
              (try dsimp only at hSw)
              go_simp
              (try with_reducible rfl)
            (try simp only [Act.put, List.setIfInBounds_toArray, List.set_cons_zero, List.set_cons_succ])
            refine wpAnyH_take (i := 38) (oi := { dst := some 2, op := Op.assign (Operand.tmp 109), type := 4, pos := "laws.go:581", after := #[{ on := 37, ground := Ground.data }, { on := 34, ground := Ground.chain }, { on := 0, ground := Ground.phase }, { on := 1, ground := Ground.phase }, { on := 2, ground := Ground.phase }, { on := 3, ground := Ground.phase }, { on := 4, ground := Ground.phase }, { on := 5, ground := Ground.phase }, { on := 6, ground := Ground.phase }, { on := 7, ground := Ground.phase }, { on := 8, ground := Ground.phase }, { on := 9, ground := Ground.phase }, { on := 10, ground := Ground.phase }, { on := 11, ground := Ground.phase }, { on := 12, ground := Ground.phase }, { on := 13, ground := Ground.phase }, { on := 14, ground := Ground.phase }, { on := 15, ground := Ground.phase }, { on := 16, ground := Ground.phase }, { on := 17, ground := Ground.phase }, { on := 18, ground := Ground.phase }, { on := 19, ground := Ground.phase }, { on := 20, ground := Ground.phase }, { on := 21, ground := Ground.phase }, { on := 22, ground := Ground.phase }, { on := 23, ground := Ground.phase }, { on := 24, ground := Ground.phase }, { on := 25, ground := Ground.phase }, { on := 26, ground := Ground.phase }, { on := 27, ground := Ground.phase }, { on := 28, ground := Ground.phase }, { on := 29, ground := Ground.phase }, { on := 30, ground := Ground.phase }, { on := 31, ground := Ground.phase }, { on := 32, ground := Ground.phase }, { on := 33, ground := Ground.phase }, { on := 34, ground := Ground.phase }, { on := 35, ground := Ground.phase }, { on := 36, ground := Ground.phase }, { on := 37, ground := Ground.phase }], guard := none }) (v := ?_) rfl (by kernel_rfl) (by kernel_rfl) (by kernel_rfl) (fun _ _ _ h => h) (Or.inl ⟨by rfl, ?_⟩) (by assumption) ?_
            rotate_left
            · intro w hSw
              (try dsimp only at hSw)
              go_simp
              (try with_reducible rfl)
            (try simp only [Act.put, List.setIfInBounds_toArray, List.set_cons_zero, List.set_cons_succ])
            refine wpAnyH_done (by kernel_rfl) ?_ _
            clear HS0
            go_wp2_with fail
            go_ret
            exact ⟨by simp, HBB.out.trans (Below.mono (And.left (by assumption)) HBB.out.size)⟩
          · have hk3 := kind3 hkd
            have HBK := Lib.hid (HBACK.out (.inl (by rw [HJK.out]; omega)))
            have hq1 : (kd.toList == [98, 101, 108, 105, 101, 118, 101, 100]) = false := by rw [hkd]; decide
            have hq2 : (kd.toList == [112, 111, 115, 115, 105, 98, 108, 101]) = false := by rw [hkd]; decide
            have HKD := Lib.hid hkd
            clear hkd hk3 HBACK
            have HMT := Lib.hid (fun W (h : Row W Aa n ls) => iMassOfTable_any s kd Aa n Ca ls W h hn)
            have HMU := Lib.hid (fun W (h : Row W Aa n ls) => (HMT.out W h).mono (fun e w' h => And.intro (RetM.yes HBK.out HLX.out h.1) h.2))
            obtain ⟨m1, m2⟩ := Mm.at_ (Below.refl _ _)
            go_wp2_with fail
            clear m1 m2
            refine (HMU.out _ Ra).mono ?_
            rintro e w21 ⟨⟨Ak, Ck, rfl, Rk⟩, b21⟩
            replace Mm := Mm.below b21
            replace Ra := Ra.below b21
            replace Rc := Rc.below b21
            replace BB := BB.trans (b21.mono BB.size)
            go_upto_region 15 with fail
            obtain ⟨w22, hw22⟩ : ∃ W, W = w21.alloc (.cells #[.int .i64 s, .slice Ak n Ck] 25) := ⟨_, rfl⟩
            obtain ⟨Mk, b22⟩ := Mv.new Rk hw22
            rw [← hw22]
            clear hw22
            replace Mm := Mm.below b22
            replace Ra := Ra.below b22
            replace Rc := Rc.below b22
            replace BB := BB.trans (b22.mono BB.size)
            clear HMU HMT
            have Hm := Lib.hid Mm
            have Hk := Lib.hid Mk
            have HBB := Lib.hid BB
            clear BB Mm Mk
            have HRa := Lib.hid Ra
            have HRc := Lib.hid Rc
            have HC1 := Lib.hid (fun W (h : Below w22.heap.size w22 W) => iSumsBelow_any A n C xs W (Hm.out.2.below h) hn)
            rw [toldN_yes HTB.out, told_yes HTB.out, ← HLW.out] at HC1
            have HC2 := Lib.hid (fun W A2 C2 (h : Below w22.heap.size w22 W) (h2 : Row W A2 n lw) => weSame_any (some ⟨bc, offc, none⟩) A2 n Cc n C2 lw lw W (HRc.out.below h) h2 hn hn)
            rw [eqB_self] at HC2
            have HC3 := Lib.hid (fun W (h : Below w22.heap.size w22 W) => iTableOf_any s { data := #[99, 111, 109, 109, 111, 110] } A n C xs W (Hm.out.2.below h) hn)
            rw [HN3.out, HT3.out] at HC3
            have HC4 := Lib.hid (fun W (h : Below w22.heap.size w22 W) => iSumsAbove_any A n C xs W (Hm.out.2.below h) hn)
            rw [toldN_yes HTB.out, told_yes HTB.out, ← HLC.out] at HC4
            have HC5 := Lib.hid (fun W A2 C2 A3 C3 (h2 : Row W A2 n lc) (h3 : Row W A3 n lc) => weSame_any A2 A3 n C2 n C3 lc lc W h2 h3 hn hn)
            rw [eqB_self] at HC5
            have HC6 := Lib.hid (fun W (h : Below w22.heap.size w22 W) => iIsBeliefTable_any (some ⟨bc, offc, none⟩) n Cc lw W (HRc.out.below h) hn)
            rw [HBEL.out] at HC6
            have HC7 := Lib.hid (fun W (h : Below w22.heap.size w22 W) => IsNormal_any s A n C xs W (Hm.out.2.below h) hn)
            rw [HNV.out] at HC7
            have HC8 := Lib.hid (fun W (h : Below w22.heap.size w22 W) => weEqual_any s s Ak A n Ck n C xs xs W (Hk.out.2.below h) (Hm.out.2.below h) hn hn)
            rw [eq_self2] at HC8
            clear Ra Rc
            have HIS : Hid (∀ W, Below w22.heap.size w22 W → Below w22.heap.size w22 W ∧ W.cell? ⟨w1.heap.size, 0, none⟩ = some (.int .i64 s) ∧ W.cell? ⟨w1.heap.size, 1, none⟩ = some (.slice A n C) ∧ W.cell? ⟨w21.heap.size, 0, none⟩ = some (.int .i64 s) ∧ W.cell? ⟨w21.heap.size, 1, none⟩ = some (.slice Ak n Ck)) := fun W h => ⟨h, (Hm.out.at_ h).1, (Hm.out.at_ h).2, (Hk.out.at_ h).1, (Hk.out.at_ h).2⟩
            have HKS : Hid (∀ W W', Below W.heap.size W W' → (Below w22.heap.size w22 W ∧ W.cell? ⟨w1.heap.size, 0, none⟩ = some (.int .i64 s) ∧ W.cell? ⟨w1.heap.size, 1, none⟩ = some (.slice A n C) ∧ W.cell? ⟨w21.heap.size, 0, none⟩ = some (.int .i64 s) ∧ W.cell? ⟨w21.heap.size, 1, none⟩ = some (.slice Ak n Ck)) → Below w22.heap.size w22 W' ∧ W'.cell? ⟨w1.heap.size, 0, none⟩ = some (.int .i64 s) ∧ W'.cell? ⟨w1.heap.size, 1, none⟩ = some (.slice A n C) ∧ W'.cell? ⟨w21.heap.size, 0, none⟩ = some (.int .i64 s) ∧ W'.cell? ⟨w21.heap.size, 1, none⟩ = some (.slice Ak n Ck)) := fun W W' b h => HIS.out W' (h.1.trans (b.mono h.1.size))
            have HS0 := Lib.hid (HIS.out _ ((Below.refl _ _).drew))
            go_wp2_with fail
            refine wp_region_held_drew (S := fun W => Below w22.heap.size w22 W ∧ W.cell? ⟨w1.heap.size, 0, none⟩ = some (.int .i64 s) ∧ W.cell? ⟨w1.heap.size, 1, none⟩ = some (.slice A n C) ∧ W.cell? ⟨w21.heap.size, 0, none⟩ = some (.int .i64 s) ∧ W.cell? ⟨w21.heap.size, 1, none⟩ = some (.slice Ak n Ck)) (by kernel_rfl) ?_ (fun hHeld => ?_)
            · exact HS0.out
            refine wpAnyH_take (i := 0) (oi := { dst := some 72, op := Op.move (Operand.tmp 6), type := 23, pos := "laws.go:581", after := #[], guard := none }) (v := ?_) rfl (by kernel_rfl) (by kernel_rfl) (by kernel_rfl) (fun _ _ _ h => h) (Or.inl ⟨by rfl, ?_⟩) (by assumption) ?_
            rotate_left
            · intro w hSw
              (try dsimp only at hSw)
              go_simp
              (try with_reducible rfl)
            (try simp only [Act.put, List.setIfInBounds_toArray, List.set_cons_zero, List.set_cons_succ])
            refine wpAnyH_take (i := 1) (oi := { dst := some 73, op := Op.fieldAddr 25 (Operand.tmp 3) 1, type := 0, pos := "laws.go:581", after := #[], guard := none }) (v := ?_) rfl (by kernel_rfl) (by kernel_rfl) (by kernel_rfl) (fun _ _ _ h => h) (Or.inl ⟨by rfl, ?_⟩) (by assumption) ?_
            rotate_left
            · intro w hSw
              (try dsimp only at hSw)
              go_simp
              (try with_reducible rfl)
            (try simp only [Act.put, List.setIfInBounds_toArray, List.set_cons_zero, List.set_cons_succ])
            refine wpAnyH_take (i := 2) (oi := { dst := some 74, op := Op.load 23 (Operand.tmp 73), type := 23, pos := "laws.go:581", after := #[{ on := 1, ground := Ground.data }], guard := none }) (v := ?_) rfl (by kernel_rfl) (by kernel_rfl) (by kernel_rfl) (fun _ _ _ h => h) (Or.inl ⟨by rfl, ?_⟩) (by assumption) ?_
            rotate_left
            · intro w hSw
              (try dsimp only at hSw)
              go_simp
              (try with_reducible rfl)
            (try simp only [Act.put, List.setIfInBounds_toArray, List.set_cons_zero, List.set_cons_succ])
            refine wpAnyH_ready (rs := [3]) (by kernel_rfl) (by simp) ?_
            refine AllReadyH.cons (o := { dst := some 75, op := Op.call { callee := Callee.value (Operand.func 11), args := #[Operand.tmp 74], argTypes := #[23] }, type := 23, pos := "laws.go:581", after := #[{ on := 2, ground := Ground.data }], guard := none }) rfl (fun K hK => ?_) AllReadyH.nil
            go_simp
            go_at_call 11
            refine (HC1.out _ (And.left (by assumption))).mono ?_
            rintro e w9 ⟨A1, C1, rfl, O1, b9⟩
            go_simp
            refine hK.out _ _ ?_ (fun hHeld => ?_)
            · first | assumption | exact HKS.out _ _ (by assumption) (by assumption)
            clear hK K
            (try simp only [Act.put, List.setIfInBounds_toArray, List.set_cons_zero, List.set_cons_succ])
            refine wpAnyH_ready (rs := [4]) (by kernel_rfl) (by simp) ?_
            refine AllReadyH.cons (o := { dst := some 76, op := Op.call { callee := Callee.value (Operand.func 7), args := #[Operand.tmp 72, Operand.tmp 75], argTypes := #[23, 23] }, type := 4, pos := "laws.go:581", after := #[{ on := 0, ground := Ground.data }, { on := 3, ground := Ground.data }, { on := 3, ground := Ground.chain }], guard := none }) rfl (fun K hK => ?_) AllReadyH.nil
            go_simp
            go_at_call 7
            refine (HC2.out _ _ _ (And.left (by assumption)) O1.row).mono ?_
            rintro e w9 ⟨rfl, b9⟩
            go_simp
            refine hK.out _ _ ?_ (fun hHeld => ?_)
            · first | assumption | exact HKS.out _ _ (by assumption) (by assumption)
            clear hK K
            (try simp only [Act.put, List.setIfInBounds_toArray, List.set_cons_zero, List.set_cons_succ])
            refine wpAnyH_take (i := 5) (oi := { dst := some 77, op := Op.move (Operand.tmp 76), type := 4, pos := "laws.go:581", after := #[{ on := 4, ground := Ground.data }, { on := 4, ground := Ground.chain }], guard := none }) (v := ?_) rfl (by kernel_rfl) (by kernel_rfl) (by kernel_rfl) (fun _ _ _ h => h) (Or.inl ⟨by rfl, ?_⟩) (by assumption) ?_
            rotate_left
            · intro w hSw
              (try dsimp only at hSw)
              go_simp
              (try with_reducible rfl)
            (try simp only [Act.put, List.setIfInBounds_toArray, List.set_cons_zero, List.set_cons_succ])
            refine wpAnyH_take (i := 6) (oi := { dst := some 78, op := Op.load 25 (Operand.tmp 3), type := 25, pos := "laws.go:581", after := #[{ on := 5, ground := Ground.guard }], guard := some (5, true) }) (v := ?_) rfl (by kernel_rfl) (by kernel_rfl) (by kernel_rfl) (fun _ _ _ h => h) (Or.inl ⟨by rfl, ?_⟩) (by assumption) ?_
            rotate_left
            · intro w hSw
              (try dsimp only at hSw)
              go_simp
              (try with_reducible rfl)
            (try simp only [Act.put, List.setIfInBounds_toArray, List.set_cons_zero, List.set_cons_succ])
            refine wpAnyH_take (i := 8) (oi := { dst := some 80, op := Op.fieldAddr 25 (Operand.tmp 3) 1, type := 0, pos := "laws.go:581", after := #[{ on := 5, ground := Ground.guard }], guard := some (5, true) }) (v := ?_) rfl (by kernel_rfl) (by kernel_rfl) (by kernel_rfl) (fun _ _ _ h => h) (Or.inl ⟨by rfl, ?_⟩) (by assumption) ?_
            rotate_left
            · intro w hSw
              (try dsimp only at hSw)
              go_simp
              (try with_reducible rfl)
            (try simp only [Act.put, List.setIfInBounds_toArray, List.set_cons_zero, List.set_cons_succ])
            refine wpAnyH_take (i := 9) (oi := { dst := some 81, op := Op.load 23 (Operand.tmp 80), type := 23, pos := "laws.go:581", after := #[{ on := 8, ground := Ground.data }, { on := 5, ground := Ground.guard }], guard := some (5, true) }) (v := ?_) rfl (by kernel_rfl) (by kernel_rfl) (by kernel_rfl) (fun _ _ _ h => h) (Or.inl ⟨by rfl, ?_⟩) (by assumption) ?_
            rotate_left
            · intro w hSw
              (try dsimp only at hSw)
              go_simp
              (try with_reducible rfl)
            (try simp only [Act.put, List.setIfInBounds_toArray, List.set_cons_zero, List.set_cons_succ])
            refine wpAnyH_ready (rs := [7]) (by kernel_rfl) (by simp) ?_
            refine AllReadyH.cons (o := { dst := some 79, op := Op.call { callee := Callee.value (Operand.func 6), args := #[Operand.tmp 78, Operand.const (Value.string { data := #[99, 111, 109, 109, 111, 110] })], argTypes := #[25, 9] }, type := 23, pos := "laws.go:581", after := #[{ on := 6, ground := Ground.data }, { on := 5, ground := Ground.chain }, { on := 5, ground := Ground.guard }], guard := some (5, true) }) rfl (fun K hK => ?_) AllReadyH.nil
            go_simp
            go_at_call 6
            refine (HC3.out _ (And.left (by assumption))).mono ?_
            rintro e w9 ⟨A3, C3, rfl, O3, b9⟩
            go_simp
            refine hK.out _ _ ?_ (fun hHeld => ?_)
            · first | assumption | exact HKS.out _ _ (by assumption) (by assumption)
            clear hK K
            (try simp only [Act.put, List.setIfInBounds_toArray, List.set_cons_zero, List.set_cons_succ])
            refine wpAnyH_ready (rs := [10]) (by kernel_rfl) (by simp) ?_
            refine AllReadyH.cons (o := { dst := some 82, op := Op.call { callee := Callee.value (Operand.func 12), args := #[Operand.tmp 81], argTypes := #[23] }, type := 23, pos := "laws.go:581", after := #[{ on := 9, ground := Ground.data }, { on := 7, ground := Ground.chain }, { on := 5, ground := Ground.guard }], guard := some (5, true) }) rfl (fun K hK => ?_) AllReadyH.nil
            go_simp
            go_at_call 12
            refine (HC4.out _ (And.left (by assumption))).mono ?_
            rintro e w9 ⟨A4, C4, rfl, O4, b9⟩
            go_simp
            refine hK.out _ _ ?_ (fun hHeld => ?_)
            · first | assumption | exact HKS.out _ _ (by assumption) (by assumption)
            clear hK K
            (try simp only [Act.put, List.setIfInBounds_toArray, List.set_cons_zero, List.set_cons_succ])
            refine wpAnyH_ready (rs := [11]) (by kernel_rfl) (by simp) ?_
            refine AllReadyH.cons (o := { dst := some 83, op := Op.call { callee := Callee.value (Operand.func 7), args := #[Operand.tmp 79, Operand.tmp 82], argTypes := #[23, 23] }, type := 4, pos := "laws.go:581", after := #[{ on := 7, ground := Ground.data }, { on := 10, ground := Ground.data }, { on := 10, ground := Ground.chain }, { on := 5, ground := Ground.guard }], guard := some (5, true) }) rfl (fun K hK => ?_) AllReadyH.nil
            go_simp
            go_at_call 7
            refine (HC5.out _ _ _ _ _ (O3.row.below b9) O4.row).mono ?_
            rintro e w9 ⟨rfl, b9⟩
            go_simp
            refine hK.out _ _ ?_ (fun hHeld => ?_)
            · first | assumption | exact HKS.out _ _ (by assumption) (by assumption)
            clear hK K
            (try simp only [Act.put, List.setIfInBounds_toArray, List.set_cons_zero, List.set_cons_succ])
            refine wpAnyH_take (i := 12) (oi := { dst := some 84, op := Op.pick (Operand.tmp 77) (Operand.tmp 83) (Operand.const (Value.bool false)), type := 4, pos := "laws.go:581", after := #[{ on := 5, ground := Ground.data }, { on := 11, ground := Ground.data }], guard := none }) (v := ?_) rfl (by kernel_rfl) (by kernel_rfl) (by kernel_rfl) (fun _ _ _ h => h) (Or.inl ⟨by rfl, ?_⟩) (by assumption) ?_
            rotate_left
            · intro w hSw
              (try dsimp only at hSw)
              go_simp
              (try with_reducible rfl)
            (try simp only [Act.put, List.setIfInBounds_toArray, List.set_cons_zero, List.set_cons_succ])
            refine wpAnyH_take (i := 13) (oi := { dst := some 85, op := Op.move (Operand.tmp 84), type := 4, pos := "laws.go:581", after := #[{ on := 12, ground := Ground.data }, { on := 11, ground := Ground.chain }], guard := none }) (v := ?_) rfl (by kernel_rfl) (by kernel_rfl) (by kernel_rfl) (fun _ _ _ h => h) (Or.inl ⟨by rfl, ?_⟩) (by assumption) ?_
            rotate_left
            · intro w hSw
              (try dsimp only at hSw)
              go_simp
              (try with_reducible rfl)
            (try simp only [Act.put, List.setIfInBounds_toArray, List.set_cons_zero, List.set_cons_succ])
            refine wpAnyH_take (i := 14) (oi := { dst := some 86, op := Op.move (Operand.tmp 6), type := 23, pos := "laws.go:581", after := #[{ on := 13, ground := Ground.guard }], guard := some (13, true) }) (v := ?_) rfl (by kernel_rfl) (by kernel_rfl) (by kernel_rfl) (fun _ _ _ h => h) (Or.inl ⟨by rfl, ?_⟩) (by assumption) ?_
            rotate_left
            · intro w hSw
              (try dsimp only at hSw)
              go_simp
              (try with_reducible rfl)
            (try simp only [Act.put, List.setIfInBounds_toArray, List.set_cons_zero, List.set_cons_succ])
            refine wpAnyH_ready (rs := [15]) (by kernel_rfl) (by simp) ?_
            refine AllReadyH.cons (o := { dst := some 87, op := Op.call { callee := Callee.value (Operand.func 13), args := #[Operand.tmp 86], argTypes := #[23] }, type := 4, pos := "laws.go:581", after := #[{ on := 14, ground := Ground.data }, { on := 13, ground := Ground.chain }, { on := 13, ground := Ground.guard }], guard := some (13, true) }) rfl (fun K hK => ?_) AllReadyH.nil
            go_simp
            go_at_call 13
            refine (HC6.out _ (And.left (by assumption))).mono ?_
            rintro e w9 ⟨rfl, b9⟩
            go_simp
            refine hK.out _ _ ?_ (fun hHeld => ?_)
            · first | assumption | exact HKS.out _ _ (by assumption) (by assumption)
            clear hK K
            (try simp only [Act.put, List.setIfInBounds_toArray, List.set_cons_zero, List.set_cons_succ])
            refine wpAnyH_take (i := 16) (oi := { dst := some 88, op := Op.pick (Operand.tmp 85) (Operand.tmp 87) (Operand.const (Value.bool false)), type := 4, pos := "laws.go:581", after := #[{ on := 13, ground := Ground.data }, { on := 15, ground := Ground.data }], guard := none }) (v := ?_) rfl (by kernel_rfl) (by kernel_rfl) (by kernel_rfl) (fun _ _ _ h => h) (Or.inl ⟨by rfl, ?_⟩) (by assumption) ?_
            rotate_left
            · intro w hSw
              (try dsimp only at hSw)
              go_simp
              (try with_reducible rfl)
            (try simp only [Act.put, List.setIfInBounds_toArray, List.set_cons_zero, List.set_cons_succ])
            refine wpAnyH_take (i := 17) (oi := { dst := some 89, op := Op.move (Operand.tmp 88), type := 4, pos := "laws.go:581", after := #[{ on := 16, ground := Ground.data }, { on := 15, ground := Ground.chain }], guard := none }) (v := ?_) rfl (by kernel_rfl) (by kernel_rfl) (by kernel_rfl) (fun _ _ _ h => h) (Or.inl ⟨by rfl, ?_⟩) (by assumption) ?_
            rotate_left
            · intro w hSw
              (try dsimp only at hSw)
              go_simp
              (try with_reducible rfl)
            (try simp only [Act.put, List.setIfInBounds_toArray, List.set_cons_zero, List.set_cons_succ])
            refine wpAnyH_take (i := 18) (oi := { dst := some 90, op := Op.load 25 (Operand.tmp 3), type := 25, pos := "laws.go:581", after := #[{ on := 17, ground := Ground.guard }], guard := some (17, true) }) (v := ?_) rfl (by kernel_rfl) (by kernel_rfl) (by kernel_rfl) (fun _ _ _ h => h) (Or.inl ⟨by rfl, ?_⟩) (by assumption) ?_
            rotate_left
            · intro w hSw
              (try dsimp only at hSw)
              go_simp
              (try with_reducible rfl)
            (try simp only [Act.put, List.setIfInBounds_toArray, List.set_cons_zero, List.set_cons_succ])
            refine wpAnyH_ready (rs := [19]) (by kernel_rfl) (by simp) ?_
            refine AllReadyH.cons (o := { dst := some 91, op := Op.call { callee := Callee.value (Operand.func 14), args := #[Operand.tmp 90], argTypes := #[25] }, type := 4, pos := "laws.go:581", after := #[{ on := 18, ground := Ground.data }, { on := 17, ground := Ground.chain }, { on := 17, ground := Ground.guard }], guard := some (17, true) }) rfl (fun K hK => ?_) AllReadyH.nil
            go_simp
            go_at_call 14
            refine (HC7.out _ (And.left (by assumption))).mono ?_
            rintro e w9 ⟨rfl, b9⟩
            go_simp
            refine hK.out _ _ ?_ (fun hHeld => ?_)
            · first | assumption | exact HKS.out _ _ (by assumption) (by assumption)
            clear hK K
            (try simp only [Act.put, List.setIfInBounds_toArray, List.set_cons_zero, List.set_cons_succ])
            refine wpAnyH_take (i := 20) (oi := { dst := some 92, op := Op.unOp UnOp.not 4 (Operand.tmp 91), type := 4, pos := "laws.go:581", after := #[{ on := 19, ground := Ground.data }, { on := 17, ground := Ground.guard }], guard := some (17, true) }) (v := ?_) rfl (by kernel_rfl) (by kernel_rfl) (by kernel_rfl) (fun _ _ _ h => h) (Or.inl ⟨by rfl, ?_⟩) (by assumption) ?_
            rotate_left
            · intro w hSw
              (try dsimp only at hSw)
              go_simp
              (try with_reducible rfl)
            (try simp only [Act.put, List.setIfInBounds_toArray, List.set_cons_zero, List.set_cons_succ])
            refine wpAnyH_take (i := 21) (oi := { dst := some 93, op := Op.move (Operand.tmp 92), type := 4, pos := "laws.go:581", after := #[{ on := 20, ground := Ground.data }, { on := 19, ground := Ground.chain }, { on := 17, ground := Ground.guard }], guard := some (17, true) }) (v := ?_) rfl (by kernel_rfl) (by kernel_rfl) (by kernel_rfl) (fun _ _ _ h => h) (Or.inl ⟨by rfl, ?_⟩) (by assumption) ?_
            rotate_left
            · intro w hSw
              (try dsimp only at hSw)
              go_simp
              (try with_reducible rfl)
            (try simp only [Act.put, List.setIfInBounds_toArray, List.set_cons_zero, List.set_cons_succ])
            refine wpAnyH_take (i := 22) (oi := { dst := some 94, op := Op.move (Operand.tmp 4), type := 9, pos := "laws.go:581", after := #[{ on := 21, ground := Ground.guard }], guard := some (21, true) }) (v := ?_) rfl (by kernel_rfl) (by kernel_rfl) (by kernel_rfl) (fun _ _ _ h => h) (Or.inl ⟨by rfl, ?_⟩) (by assumption) ?_
            rotate_left
            · intro w hSw
              (try dsimp only at hSw)
              go_simp
              (try with_reducible rfl)
            (try simp only [Act.put, List.setIfInBounds_toArray, List.set_cons_zero, List.set_cons_succ])
            refine wpAnyH_take (i := 23) (oi := { dst := some 95, op := Op.binOp BinOp.eql 9 (Operand.tmp 94) (Operand.const (Value.string { data := #[98, 101, 108, 105, 101, 118, 101, 100] })) 9, type := 4, pos := "laws.go:581", after := #[{ on := 22, ground := Ground.data }, { on := 21, ground := Ground.guard }], guard := some (21, true) }) (v := ?_) rfl (by kernel_rfl) (by kernel_rfl) (by kernel_rfl) (fun _ _ _ h => h) (Or.inl ⟨by rfl, ?_⟩) (by assumption) ?_
            rotate_left
            · intro w hSw
              (try dsimp only at hSw)
              go_simp
              (try with_reducible rfl)
            (try simp only [Act.put, List.setIfInBounds_toArray, List.set_cons_zero, List.set_cons_succ])
            refine wpAnyH_take (i := 24) (oi := { dst := some 96, op := Op.move (Operand.tmp 95), type := 4, pos := "laws.go:581", after := #[{ on := 23, ground := Ground.data }, { on := 21, ground := Ground.chain }, { on := 21, ground := Ground.guard }], guard := some (21, true) }) (v := ?_) rfl (by kernel_rfl) (by kernel_rfl) (by kernel_rfl) (fun _ _ _ h => h) (Or.inl ⟨by rfl, ?_⟩) (by assumption) ?_
            rotate_left
            · intro w hSw
              (try dsimp only at hSw)
              go_simp
              (try with_reducible rfl)
            (try simp only [Act.put, List.setIfInBounds_toArray, List.set_cons_zero, List.set_cons_succ])
            refine wpAnyH_take (i := 25) (oi := { dst := some 97, op := Op.move (Operand.tmp 4), type := 9, pos := "laws.go:581", after := #[{ on := 24, ground := Ground.guard }], guard := some (24, false) }) (v := ?_) rfl (by kernel_rfl) (by kernel_rfl) (by kernel_rfl) (fun _ _ _ h => h) (Or.inl ⟨by rfl, ?_⟩) (by assumption) ?_
            rotate_left
            · intro w hSw
              (try dsimp only at hSw)
              go_simp
              (try with_reducible rfl)
            (try simp only [Act.put, List.setIfInBounds_toArray, List.set_cons_zero, List.set_cons_succ])
            refine wpAnyH_take (i := 26) (oi := { dst := some 98, op := Op.binOp BinOp.eql 9 (Operand.tmp 97) (Operand.const (Value.string { data := #[112, 111, 115, 115, 105, 98, 108, 101] })) 9, type := 4, pos := "laws.go:581", after := #[{ on := 25, ground := Ground.data }, { on := 24, ground := Ground.guard }], guard := some (24, false) }) (v := ?_) rfl (by kernel_rfl) (by kernel_rfl) (by kernel_rfl) (fun _ _ _ h => h) (Or.inl ⟨by rfl, ?_⟩) (by assumption) ?_
            rotate_left
            · intro w hSw
              (try dsimp only at hSw)
              go_simp
              (try with_reducible rfl)
            (try simp only [Act.put, List.setIfInBounds_toArray, List.set_cons_zero, List.set_cons_succ])
            refine wpAnyH_take (i := 27) (oi := { dst := some 99, op := Op.pick (Operand.tmp 96) (Operand.const (Value.bool true)) (Operand.tmp 98), type := 4, pos := "laws.go:581", after := #[{ on := 24, ground := Ground.data }, { on := 26, ground := Ground.data }, { on := 21, ground := Ground.guard }], guard := some (21, true) }) (v := ?_) rfl (by kernel_rfl) (by kernel_rfl) (by kernel_rfl) (fun _ _ _ h => h) (Or.inl ⟨by rfl, ?_⟩) (by assumption) ?_
            rotate_left
            · intro w hSw
              (try dsimp only at hSw)
              go_simp
              (try with_reducible rfl)
            (try simp only [Act.put, List.setIfInBounds_toArray, List.set_cons_zero, List.set_cons_succ])
            refine wpAnyH_take (i := 28) (oi := { dst := some 100, op := Op.pick (Operand.tmp 93) (Operand.tmp 99) (Operand.const (Value.bool false)), type := 4, pos := "laws.go:581", after := #[{ on := 21, ground := Ground.data }, { on := 27, ground := Ground.data }, { on := 17, ground := Ground.guard }], guard := some (17, true) }) (v := ?_) rfl (by kernel_rfl) (by kernel_rfl) (by kernel_rfl) (fun _ _ _ h => h) (Or.inl ⟨by rfl, ?_⟩) (by assumption) ?_
            rotate_left
            · intro w hSw
              (try dsimp only at hSw)
              go_simp
              (try with_reducible rfl)
            (try simp only [Act.put, List.setIfInBounds_toArray, List.set_cons_zero, List.set_cons_succ])
            refine wpAnyH_take (i := 29) (oi := { dst := some 101, op := Op.move (Operand.tmp 100), type := 4, pos := "laws.go:581", after := #[{ on := 28, ground := Ground.data }, { on := 24, ground := Ground.chain }, { on := 17, ground := Ground.guard }], guard := some (17, true) }) (v := ?_) rfl (by kernel_rfl) (by kernel_rfl) (by kernel_rfl) (fun _ _ _ h => h) (Or.inl ⟨by rfl, ?_⟩) (by assumption) ?_
            rotate_left
            · intro w hSw
              (try dsimp only at hSw)
              go_simp
              (try with_reducible rfl)
            (try simp only [Act.put, List.setIfInBounds_toArray, List.set_cons_zero, List.set_cons_succ])
            refine wpAnyH_take (i := 30) (oi := { dst := some 102, op := Op.move (Operand.tmp 10), type := 4, pos := "laws.go:581", after := #[{ on := 29, ground := Ground.guard }], guard := some (29, false) }) (v := ?_) rfl (by kernel_rfl) (by kernel_rfl) (by kernel_rfl) (fun _ _ _ h => h) (Or.inl ⟨by rfl, ?_⟩) (by assumption) ?_
            rotate_left
            · intro w hSw
              (try dsimp only at hSw)
              go_simp
              (try with_reducible rfl)
            (try simp only [Act.put, List.setIfInBounds_toArray, List.set_cons_zero, List.set_cons_succ])
            refine wpAnyH_take (i := 31) (oi := { dst := some 103, op := Op.move (Operand.tmp 102), type := 4, pos := "laws.go:581", after := #[{ on := 30, ground := Ground.data }, { on := 29, ground := Ground.chain }, { on := 29, ground := Ground.guard }], guard := some (29, false) }) (v := ?_) rfl (by kernel_rfl) (by kernel_rfl) (by kernel_rfl) (fun _ _ _ h => h) (Or.inl ⟨by rfl, ?_⟩) (by assumption) ?_
            rotate_left
            · intro w hSw
              (try dsimp only at hSw)
              go_simp
              (try with_reducible rfl)
            (try simp only [Act.put, List.setIfInBounds_toArray, List.set_cons_zero, List.set_cons_succ])
            refine wpAnyH_take (i := 32) (oi := { dst := some 104, op := Op.load 25 (Operand.tmp 9), type := 25, pos := "laws.go:581", after := #[{ on := 31, ground := Ground.guard }], guard := some (31, true) }) (v := ?_) rfl (by kernel_rfl) (by kernel_rfl) (by kernel_rfl) (fun _ _ _ h => h) (Or.inl ⟨by rfl, ?_⟩) (by assumption) ?_
            rotate_left
            · intro w hSw
              (try dsimp only at hSw)
              go_simp
              (try with_reducible rfl)
            (try simp only [Act.put, List.setIfInBounds_toArray, List.set_cons_zero, List.set_cons_succ])
            refine wpAnyH_take (i := 33) (oi := { dst := some 105, op := Op.load 25 (Operand.tmp 3), type := 25, pos := "laws.go:581", after := #[{ on := 31, ground := Ground.guard }], guard := some (31, true) }) (v := ?_) rfl (by kernel_rfl) (by kernel_rfl) (by kernel_rfl) (fun _ _ _ h => h) (Or.inl ⟨by rfl, ?_⟩) (by assumption) ?_
            rotate_left
            · intro w hSw
              (try dsimp only at hSw)
              go_simp
              (try with_reducible rfl)
            (try simp only [Act.put, List.setIfInBounds_toArray, List.set_cons_zero, List.set_cons_succ])
            refine wpAnyH_ready (rs := [34]) (by kernel_rfl) (by simp) ?_
            refine AllReadyH.cons (o := { dst := some 106, op := Op.call { callee := Callee.value (Operand.func 15), args := #[Operand.tmp 104, Operand.tmp 105], argTypes := #[25, 25] }, type := 4, pos := "laws.go:581", after := #[{ on := 32, ground := Ground.data }, { on := 33, ground := Ground.data }, { on := 31, ground := Ground.chain }, { on := 31, ground := Ground.guard }], guard := some (31, true) }) rfl (fun K hK => ?_) AllReadyH.nil
            go_simp
            go_at_call 15
            refine (HC8.out _ (And.left (by assumption))).mono ?_
            rintro e w9 ⟨rfl, b9⟩
            go_simp
            refine hK.out _ _ ?_ (fun hHeld => ?_)
            · first | assumption | exact HKS.out _ _ (by assumption) (by assumption)
            clear hK K
            (try simp only [Act.put, List.setIfInBounds_toArray, List.set_cons_zero, List.set_cons_succ])
            refine wpAnyH_take (i := 35) (oi := { dst := some 107, op := Op.pick (Operand.tmp 103) (Operand.tmp 106) (Operand.const (Value.bool false)), type := 4, pos := "laws.go:581", after := #[{ on := 31, ground := Ground.data }, { on := 34, ground := Ground.data }, { on := 29, ground := Ground.guard }], guard := some (29, false) }) (v := ?_) rfl (by kernel_rfl) (by kernel_rfl) (by kernel_rfl) (fun _ _ _ h => h) (Or.inl ⟨by rfl, ?_⟩) (by assumption) ?_
            rotate_left
            · intro w hSw
              (try dsimp only at hSw)
              go_simp
              (try with_reducible rfl)
            (try simp only [Act.put, List.setIfInBounds_toArray, List.set_cons_zero, List.set_cons_succ])
            refine wpAnyH_take (i := 36) (oi := { dst := some 108, op := Op.pick (Operand.tmp 101) (Operand.const (Value.bool true)) (Operand.tmp 107), type := 4, pos := "laws.go:581", after := #[{ on := 29, ground := Ground.data }, { on := 35, ground := Ground.data }, { on := 17, ground := Ground.guard }], guard := some (17, true) }) (v := ?_) rfl (by kernel_rfl) (by kernel_rfl) (by kernel_rfl) (fun _ _ _ h => h) (Or.inl ⟨by rfl, ?_⟩) (by assumption) ?_
            rotate_left
            · intro w hSw
              (try dsimp only at hSw)
              go_simp
              (try with_reducible rfl)
            (try simp only [Act.put, List.setIfInBounds_toArray, List.set_cons_zero, List.set_cons_succ])
            refine wpAnyH_take (i := 37) (oi := { dst := some 109, op := Op.pick (Operand.tmp 89) (Operand.tmp 108) (Operand.const (Value.bool false)), type := 4, pos := "laws.go:581", after := #[{ on := 17, ground := Ground.data }, { on := 36, ground := Ground.data }], guard := none }) (v := ?_) rfl (by kernel_rfl) (by kernel_rfl) (by kernel_rfl) (fun _ _ _ h => h) (Or.inl ⟨by rfl, ?_⟩) (by assumption) ?_
            rotate_left
            · intro w hSw
              (try dsimp only at hSw)
              go_simp
              (try with_reducible rfl)
            (try simp only [Act.put, List.setIfInBounds_toArray, List.set_cons_zero, List.set_cons_succ])
            refine wpAnyH_take (i := 38) (oi := { dst := some 2, op := Op.assign (Operand.tmp 109), type := 4, pos := "laws.go:581", after := #[{ on := 37, ground := Ground.data }, { on := 34, ground := Ground.chain }, { on := 0, ground := Ground.phase }, { on := 1, ground := Ground.phase }, { on := 2, ground := Ground.phase }, { on := 3, ground := Ground.phase }, { on := 4, ground := Ground.phase }, { on := 5, ground := Ground.phase }, { on := 6, ground := Ground.phase }, { on := 7, ground := Ground.phase }, { on := 8, ground := Ground.phase }, { on := 9, ground := Ground.phase }, { on := 10, ground := Ground.phase }, { on := 11, ground := Ground.phase }, { on := 12, ground := Ground.phase }, { on := 13, ground := Ground.phase }, { on := 14, ground := Ground.phase }, { on := 15, ground := Ground.phase }, { on := 16, ground := Ground.phase }, { on := 17, ground := Ground.phase }, { on := 18, ground := Ground.phase }, { on := 19, ground := Ground.phase }, { on := 20, ground := Ground.phase }, { on := 21, ground := Ground.phase }, { on := 22, ground := Ground.phase }, { on := 23, ground := Ground.phase }, { on := 24, ground := Ground.phase }, { on := 25, ground := Ground.phase }, { on := 26, ground := Ground.phase }, { on := 27, ground := Ground.phase }, { on := 28, ground := Ground.phase }, { on := 29, ground := Ground.phase }, { on := 30, ground := Ground.phase }, { on := 31, ground := Ground.phase }, { on := 32, ground := Ground.phase }, { on := 33, ground := Ground.phase }, { on := 34, ground := Ground.phase }, { on := 35, ground := Ground.phase }, { on := 36, ground := Ground.phase }, { on := 37, ground := Ground.phase }], guard := none }) (v := ?_) rfl (by kernel_rfl) (by kernel_rfl) (by kernel_rfl) (fun _ _ _ h => h) (Or.inl ⟨by rfl, ?_⟩) (by assumption) ?_
            rotate_left
            · intro w hSw
              (try dsimp only at hSw)
              go_simp
              (try with_reducible rfl)
            (try simp only [Act.put, List.setIfInBounds_toArray, List.set_cons_zero, List.set_cons_succ])
            refine wpAnyH_done (by kernel_rfl) ?_ _
            clear HS0
            go_wp2_with fail
            go_ret
            exact ⟨by simp, HBB.out.trans (Below.mono (And.left (by assumption)) HBB.out.size)⟩
          · have := kind4 e0 e1 e2 e3
            rw [← HJK.out] at this
            omega
  · obtain ⟨hN, hT⟩ := tab_no (s := s) (xs := xs) (kd := kd) (by
      by_cases hm : massB s xs = true
      · right
        have h4 : kindN kd = 0 ∨ kindN kd = 1 ∨ kindN kd = 2 ∨ kindN kd = 3 ∨ kindN kd = 4 := by unfold kindN; split <;> (try split) <;> (try split) <;> (try split) <;> simp
        have h5 : ¬ kindN kd < 4 := fun h => htk ⟨hm, h⟩
        omega
      · left; simpa using hm)
    have HN := Lib.hid hN
    have HT := Lib.hid hT
    clear htk hN hT
    have HXa := Lib.hid (fun W (h : Row W A n xs) => iTableOf_any s kd A n C xs W h hn)
    rw [HN.out, HT.out] at HXa
    obtain ⟨m1, m2⟩ := Mm.at_ (Below.refl _ _)
    go_wp2_with fail
    clear m1 m2
    refine (HXa.out _ Mm.2).mono ?_
    rintro e w3 ⟨Aa, Ca, rfl, Oa, b3⟩
    replace Mm := Mm.below b3
    replace BB := BB.trans (b3.mono BB.size)
    have Ra := Oa.row
    clear Oa HXa
    have HXb := Lib.hid (fun W (h : Row W A n xs) => sTableOf_any s kd A n C xs W h hn)
    rw [HN.out, HT.out] at HXb
    obtain ⟨m1, m2⟩ := Mm.at_ (Below.refl _ _)
    go_wp2_with fail
    clear m1 m2
    refine (HXb.out _ Mm.2).mono ?_
    rintro e w4 ⟨Ab, Cb, rfl, Ob, b4⟩
    replace Mm := Mm.below b4
    replace Ra := Ra.below b4
    replace BB := BB.trans (b4.mono BB.size)
    have Rb := Ob.row
    clear Ob HXb
    have HE := Lib.hid (weSame_any Aa Ab 0 Ca 0 Cb [] [] w4 Ra Rb (by omega) (by omega))
    rw [eqB_self] at HE
    go_wp2_with fail
    refine (HE.out).mono ?_
    rintro e w5 ⟨rfl, b5⟩
    replace Mm := Mm.below b5
    replace Ra := Ra.below b5
    replace Rb := Rb.below b5
    replace BB := BB.trans (b5.mono BB.size)
    clear HE
    clear Rb
    have HXb := Lib.hid (fun W (h : Row W A n xs) => sTableOf_any s kd A n C xs W h hn)
    rw [HN.out, HT.out] at HXb
    obtain ⟨m1, m2⟩ := Mm.at_ (Below.refl _ _)
    go_wp2_with fail
    clear m1 m2
    refine (HXb.out _ Mm.2).mono ?_
    rintro e w6 ⟨Ab, Cb, rfl, Ob, b6⟩
    replace Mm := Mm.below b6
    replace Ra := Ra.below b6
    replace BB := BB.trans (b6.mono BB.size)
    have Rb := Ob.row
    clear Ob HXb
    have HE := Lib.hid (weSame_any Aa Ab 0 Ca 0 Cb [] [] w6 Ra Rb (by omega) (by omega))
    rw [eqB_self] at HE
    go_wp2_with fail
    refine (HE.out).mono ?_
    rintro e w7 ⟨rfl, b7⟩
    replace Mm := Mm.below b7
    replace Ra := Ra.below b7
    replace Rb := Rb.below b7
    replace BB := BB.trans (b7.mono BB.size)
    clear HE
    go_wp2_with fail
    go_ret
    exact ⟨by simp, BB⟩
end Go.Proofs.Ytlfajalhoifliaa
