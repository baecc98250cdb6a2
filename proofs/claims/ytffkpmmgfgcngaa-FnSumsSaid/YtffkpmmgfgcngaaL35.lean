/- The walk of the law FnSums. -/
import Derived.Test.YtffkpmmgfgcngaaBase7
import Derived.Test.YtffkpmmgfgcngaaLaw
import Derived.Test.YtffkpmmgfgcngaaW8
import Derived.Test.YtffkpmmgfgcngaaW10
import Derived.Test.YtffkpmmgfgcngaaW53
import Derived.Test.YtffkpmmgfgcngaaW60
import Derived.Deep.RegionHeld3
import Derived.Deep.QuietTactic
import Derived.BigQuiet
namespace Go.Proofs.Ytffkpmmgfgcngaa
open Go.RowKit

set_option maxHeartbeats 6400000 in
set_option maxRecDepth 100000 in
theorem walkSums (a : Option Addr) (l c : Nat) (bs : List Int) (w : World) (hr : BRow w a l bs) (hlc : l ≤ c) :
    Calls Try.prog 13 #[.slice a l c] w fun e w' => e = .returned (.bool true) ∧ Below w.heap.size w w' := by
  by_cases hl : 1048576 < (l : Int)
  · clear hr
    go_enter Try.func13, Try.ntmps13
    go_wp2_with fail
    go_ret
    exact ⟨rfl, Below.refl _ _⟩
  have HD := Lib.hid (DrawSumsBelow_any a l c bs w hr (.inl hlc))
  clear hr
  go_enter Try.func13, Try.ntmps13
  go_wp2_with fail
  refine HD.out.mono ?_
  rintro e w1 ⟨A, n, C, xs, rfl, hn17, Rl, b1⟩
  have BB := b1
  have hn : n ≤ 1048576 := by omega
  have hlx := Rl.1
  by_cases ht : tableB xs = true
  · have HT := Lib.hid ht
    have h4 := (table_part hlx ht).1
    obtain ⟨ps, hps⟩ : ∃ ps, ps = sums false false xs := ⟨_, rfl⟩
    obtain ⟨qs, hqs⟩ : ∃ qs, qs = sums true false xs := ⟨_, rfl⟩
    obtain ⟨ts, hts⟩ : ∃ ts, ts = turned xs := ⟨_, rfl⟩
    have htt : tableB ts = true := by rw [hts]; exact table_turned ht
    obtain ⟨cs, hcs⟩ : ∃ cs, cs = sums true false ts := ⟨_, rfl⟩
    have HTT := Lib.hid htt
    have HCS := Lib.hid hcs
    have HTS : Hid (tab n (fun k => xs.getD (n - 1 - k) 0) = ts) := by show _ = _; rw [hts, turned, hlx]
    have HMI := Lib.hid (fun (i : Nat) (hi : i < n) => sums_turned hlx h4 hi)
    rw [← hts, ← hps, ← hcs] at HMI
    have HPS := Lib.hid hps
    have HQS := Lib.hid hqs
    have HLX := Lib.hid hlx
    have H4 := Lib.hid h4
    have hn2 : 2 ≤ n := by omega
    have hne : ((n : Int) == 0) = false := by simp; omega
    clear ht hps hqs hlx h4 htt hcs hts
    have HXa := Lib.hid (fun W (h : Row W A n xs) => iSumsBelow_any A n C xs W h (by omega))
    rw [toldN_yes HT.out, told_yes HT.out, ← HPS.out] at HXa
    go_wp2_with fail
    refine (HXa.out _ Rl).mono ?_
    rintro e w2 ⟨Aa, Ca, rfl, Oa, b2⟩
    replace Rl := Rl.below b2
    replace BB := BB.trans (b2.mono BB.size)
    have Ra := Oa.row
    clear Oa HXa
    have HXb := Lib.hid (fun W (h : Row W A n xs) => iSumsAbove_any A n C xs W h (by omega))
    rw [toldN_yes HT.out, told_yes HT.out, ← HQS.out] at HXb
    go_wp2_with fail
    refine (HXb.out _ Rl).mono ?_
    rintro e w3 ⟨Ab, Cb, rfl, Ob, b3⟩
    replace Rl := Rl.below b3
    replace Ra := Ra.below b3
    replace BB := BB.trans (b3.mono BB.size)
    have Rb := Ob.row
    clear Ob HXb
    have HXs := Lib.hid (fun W (h : Row W A n xs) => sSumsBelow_any A n C xs W h (by omega))
    rw [toldN_yes HT.out, told_yes HT.out, ← HPS.out] at HXs
    go_wp2_with fail
    refine (HXs.out _ Rl).mono ?_
    rintro e w4 ⟨As, Cs, rfl, Os, b4⟩
    replace Rl := Rl.below b4
    replace Ra := Ra.below b4
    replace Rb := Rb.below b4
    replace BB := BB.trans (b4.mono BB.size)
    have Rs := Os.row
    clear Os HXs
    have HE := Lib.hid (weSame_any Aa As n Ca n Cs ps ps w4 Ra Rs (by omega) (by omega))
    rw [eqB_self] at HE
    go_wp2_with fail
    refine (HE.out).mono ?_
    rintro e w5 ⟨rfl, b5⟩
    replace Rl := Rl.below b5
    replace Ra := Ra.below b5
    replace Rb := Rb.below b5
    replace Rs := Rs.below b5
    replace BB := BB.trans (b5.mono BB.size)
    clear HE
    clear Rs
    have HXu := Lib.hid (fun W (h : Row W A n xs) => sSumsAbove_any A n C xs W h (by omega))
    rw [toldN_yes HT.out, told_yes HT.out, ← HQS.out] at HXu
    go_wp2_with fail
    refine (HXu.out _ Rl).mono ?_
    rintro e w6 ⟨Au, Cu, rfl, Ou, b6⟩
    replace Rl := Rl.below b6
    replace Ra := Ra.below b6
    replace Rb := Rb.below b6
    replace BB := BB.trans (b6.mono BB.size)
    have Ru := Ou.row
    clear Ou HXu
    have HE := Lib.hid (weSame_any Ab Au n Cb n Cu qs qs w6 Rb Ru (by omega) (by omega))
    rw [eqB_self] at HE
    go_wp2_with fail
    refine (HE.out).mono ?_
    rintro e w7 ⟨rfl, b7⟩
    replace Rl := Rl.below b7
    replace Ra := Ra.below b7
    replace Rb := Rb.below b7
    replace Ru := Ru.below b7
    replace BB := BB.trans (b7.mono BB.size)
    clear HE
    clear Ru
    obtain ⟨b0, off0, rfl⟩ := Rl.form (by omega)
    have HBB := Lib.hid BB
    clear BB 
    have HRl := Lib.hid Rl
    have HRa := Lib.hid Ra
    have HRb := Lib.hid Rb
    have hown0 : Own w7.heap.size (w7.alloc (.cells #[] 3)) (some ⟨w7.heap.size, 0, none⟩) 0 0 [] := World.ownsRow_lit w7 #[] 0 (Nat.le_refl _) (by unfold maxLen; omega) rfl
    have HO0 := Lib.hid hown0
    have HB0 := Lib.hid (show Below w7.heap.size w7 (w7.alloc (.cells #[] 3)) from (Below.refl _ _).alloc (Nat.le_refl _) _)
    clear Rl Ra Rb hown0
    have hw1 : IntKind.i64.wrap ((n : Int) - 1) = (n : Int) - 1 := IntWalk.i64_in _ (by omega)
    go_wp2_with fail
    go_loopw [6, 7] (fun v i wr => ∃ (j : Nat) (q : Int) (A' : Option Addr) (C' : Nat), j ≤ n ∧ i = .int .i64 q ∧ v = .slice A' j C' ∧ q ≤ 16 ∧ -1 ≤ q ∧ Hid (q + j + 1 = n) ∧ Hid (Own w7.heap.size wr A' j C' (tab j (fun k => xs.getD (n - 1 - k) 0))) ∧ Hid (Below w7.heap.size w7 wr)) (fun _ i _ => (intOf i + 1).toNat)
    case atStart => exact ⟨0, (n : Int) - 1, _, 0, Nat.zero_le _, by go_num, rfl, by omega, by omega, by show _ = _; omega, HO0, HB0⟩
    case round =>
      obtain ⟨j, q, A', C', hj, rfl, rfl, hq1, hq2, HQ, HO, HB⟩ := hrel
      clear HO0 HB0
      by_cases hlt : j < n
      · obtain ⟨z, rfl⟩ : ∃ z : Nat, q = z := ⟨q.toNat, by have := HQ.out; omega⟩
        have hzn : z < n := by have := HQ.out; omega
        have hzi : (z : Int) < (n : Int) := by omega
        have hz0 : (0 : Int) ≤ (z : Int) := by omega
        obtain ⟨v, hv⟩ : ∃ v, v = xs.getD z 0 := ⟨_, rfl⟩
        have pc := HRl.out.cellAt HB.out hzn
        rw [← hv] at pc
        have HT2 : Hid (tab j (fun k => xs.getD (n - 1 - k) 0) ++ [v] = tab (j + 1) (fun k => xs.getD (n - 1 - k) 0)) := by show _ = _; rw [tab_succ, hv, show n - 1 - j = z by have := HQ.out; omega]
        obtain ⟨ys, hys⟩ : ∃ ys, ys = tab j (fun k => xs.getD (n - 1 - k) 0) := ⟨_, rfl⟩
        rw [← hys] at HT2 HO
        have hown := HO.out
        have hbr := HB.out
        have hsz := hbr.size
        clear hv hys HO
        go_wp2_with (at_builtin; refine wpList_push _ rfl _ _ rfl _ _ _ ys v w7.heap.size w7 rfl rfl hown hbr hsz (by omega) ?_)
        intro A9 C9 w9 ho9 hb9
        rw [HT2.out] at ho9
        have HO9 := Lib.hid ho9
        have HB9 := Lib.hid hb9
        clear ho9 hb9 hown hbr pc hsz
        go_wp2_with fail
        go_roundw
        case rel => exact ⟨j + 1, (z : Int) - 1, A9, C9, by omega, by go_num, rfl, by omega, by omega, by have := HQ.out; show _ = _; omega, HO9, HB9⟩
        case measure => simp [intOf] <;> omega
      · obtain rfl : n = j := by omega
        have hqm : q = -1 := by have := HQ.out; omega
        subst hqm
        obtain ⟨wz, hwz⟩ : ∃ W, W = wr := ⟨_, rfl⟩
        rw [← hwz] at HO HB ⊢
        have Rl := HRl.out.below HB.out
        have Ra := HRa.out.below HB.out
        have Rb := HRb.out.below HB.out
        have BB := HBB.out.trans (HB.out.mono HBB.out.size)
        have Rt := HO.out.row
        rw [HTS.out] at Rt
        clear HRl HRa HRb HBB HO HB hwz HQ
        have HXc := Lib.hid (fun W (h : Row W A' n ts) => iSumsAbove_any A' n C' ts W h (by omega))
        rw [toldN_yes HTT.out, told_yes HTT.out, ← HCS.out] at HXc
        go_wp2_with fail
        refine (HXc.out _ Rt).mono ?_
        rintro e w8 ⟨Ac, Cc, rfl, Oc, b8⟩
        replace Rl := Rl.below b8
        replace Ra := Ra.below b8
        replace Rb := Rb.below b8
        replace Rt := Rt.below b8
        replace BB := BB.trans (b8.mono BB.size)
        have Rc := Oc.row
        clear Oc HXc
        clear Rt
        obtain ⟨ba, offa, rfl⟩ := Ra.form (by omega)
        obtain ⟨bc, offc, rfl⟩ := Rc.form (by omega)
        have HBB := Lib.hid BB
        clear BB 
        have HRl := Lib.hid Rl
        have HRa := Lib.hid Ra
        have HRb := Lib.hid Rb
        have HRc := Lib.hid Rc
        clear Rl Ra Rb Rc
        go_wp2_with fail
        go_loopw [9] (fun i wr => ∃ j : Nat, j ≤ n ∧ i = .int .i64 j ∧ Hid (Below w8.heap.size w8 wr)) (fun i _ => n - (intOf i).toNat)
        case atStart => exact ⟨0, Nat.zero_le _, rfl, Lib.hid (Below.refl _ _)⟩
        case round =>
          obtain ⟨j, hj, rfl, HB⟩ := hrel
          by_cases hlt : j < n
          · obtain ⟨z, hz⟩ : ∃ z : Nat, z = n - 1 - j := ⟨_, rfl⟩
            have hzn : z < n := by omega
            have hzi : (z : Int) < (n : Int) := by omega
            have hji : (j : Int) < (n : Int) := by omega
            have hw2 : IntKind.i64.wrap ((n : Int) - 1 - (j : Int)) = (z : Int) := by rw [show (n : Int) - 1 - (j : Int) = (z : Int) by omega]; exact IntWalk.i64_in _ (by omega)
            have hmi := HMI.out j hlt
            rw [← hz] at hmi
            obtain ⟨v, hv⟩ : ∃ v, v = ps.getD j 0 := ⟨_, rfl⟩
            have pa := HRa.out.cellAt HB.out hlt
            have pc := HRc.out.cellAt HB.out hzn
            rw [← hv] at pa
            rw [hmi, ← hv] at pc
            have pa2 : wr.drew.cell? ⟨ba, offa + j, none⟩ = some (.int .i64 v) := pa
            have pc2 : wr.drew.cell? ⟨bc, offc + z, none⟩ = some (.int .i64 v) := pc
            clear hz hmi hv
            go_wp2_with fail
            go_region
            all_goals
              clear pa pc pa2 pc2 hw2
              go_wp2_with fail
              go_roundw
              case rel => exact ⟨j + 1, by omega, by go_num, Lib.hid HB.out.drew⟩
              case measure => simp [intOf]; omega
          · obtain rfl : n = j := by omega
            obtain ⟨wy, hwy⟩ : ∃ W, W = wr := ⟨_, rfl⟩
            rw [← hwy] at HB ⊢
            have Rl := HRl.out.below HB.out
            have Ra := HRa.out.below HB.out
            have Rb := HRb.out.below HB.out
            have BB := HBB.out.trans (HB.out.mono HBB.out.size)
            clear HRl HRa HRb HRc HBB HB hwy HMI
            by_cases hp : tableB ps = true
            · have HP := Lib.hid hp
              clear hp
              by_cases hq : tableB qs = true
              · have HQ := Lib.hid hq
                clear hq
                have HX1 : Hid (sums false true ps = xs) := by show _ = _; rw [HPS.out]; exact parts_sums HLX.out H4.out false
                have HXx := Lib.hid (fun W (h : Row W (some ⟨ba, offa, none⟩) n ps) => iPartsBelow_any (some ⟨ba, offa, none⟩) n Ca ps W h (by omega))
                rw [toldN_yes HP.out, told_yes HP.out, HX1.out] at HXx
                go_wp2_with fail
                refine (HXx.out _ Ra).mono ?_
                rintro e w9 ⟨Ax, Cx, rfl, Ox, b9⟩
                replace Rl := Rl.below b9
                replace Ra := Ra.below b9
                replace Rb := Rb.below b9
                replace BB := BB.trans (b9.mono BB.size)
                have Rx := Ox.row
                clear Ox HXx
                have HX2 : Hid (sums true true qs = xs) := by show _ = _; rw [HQS.out]; exact parts_sums HLX.out H4.out true
                have HXy := Lib.hid (fun W (h : Row W Ab n qs) => iPartsAbove_any Ab n Cb qs W h (by omega))
                rw [toldN_yes HQ.out, told_yes HQ.out, HX2.out] at HXy
                go_wp2_with fail
                refine (HXy.out _ Rb).mono ?_
                rintro e w10 ⟨Ay, Cy, rfl, Oy, b10⟩
                replace Rl := Rl.below b10
                replace Ra := Ra.below b10
                replace Rb := Rb.below b10
                replace Rx := Rx.below b10
                replace BB := BB.trans (b10.mono BB.size)
                have Ry := Oy.row
                clear Oy HXy
                have HE := Lib.hid (weSame_any Ax (some ⟨b0, off0, none⟩) n Cx n C xs xs w10 Rx Rl (by omega) (by omega))
                rw [eqB_self] at HE
                go_wp2_with fail
                refine (HE.out).mono ?_
                rintro e w11 ⟨rfl, b11⟩
                replace Rl := Rl.below b11
                replace Ra := Ra.below b11
                replace Rb := Rb.below b11
                replace Rx := Rx.below b11
                replace Ry := Ry.below b11
                replace BB := BB.trans (b11.mono BB.size)
                clear HE
                have HE := Lib.hid (weSame_any Ax (some ⟨b0, off0, none⟩) n Cx n C xs xs w11 Rx Rl (by omega) (by omega))
                rw [eqB_self] at HE
                go_wp2_with fail
                refine (HE.out).mono ?_
                rintro e w12 ⟨rfl, b12⟩
                replace Rl := Rl.below b12
                replace Ra := Ra.below b12
                replace Rb := Rb.below b12
                replace Rx := Rx.below b12
                replace Ry := Ry.below b12
                replace BB := BB.trans (b12.mono BB.size)
                clear HE
                have HE := Lib.hid (weSame_any Ay (some ⟨b0, off0, none⟩) n Cy n C xs xs w12 Ry Rl (by omega) (by omega))
                rw [eqB_self] at HE
                go_wp2_with fail
                refine (HE.out).mono ?_
                rintro e w13 ⟨rfl, b13⟩
                replace Rl := Rl.below b13
                replace Ra := Ra.below b13
                replace Rb := Rb.below b13
                replace Rx := Rx.below b13
                replace Ry := Ry.below b13
                replace BB := BB.trans (b13.mono BB.size)
                clear HE
                go_wp2_with fail
                go_ret
                exact ⟨by simp, BB⟩
              · have HQ := Lib.hid (show tableB qs = false by simpa using hq)
                clear hq
                have HX1 : Hid (sums false true ps = xs) := by show _ = _; rw [HPS.out]; exact parts_sums HLX.out H4.out false
                have HXx := Lib.hid (fun W (h : Row W (some ⟨ba, offa, none⟩) n ps) => iPartsBelow_any (some ⟨ba, offa, none⟩) n Ca ps W h (by omega))
                rw [toldN_yes HP.out, told_yes HP.out, HX1.out] at HXx
                go_wp2_with fail
                refine (HXx.out _ Ra).mono ?_
                rintro e w9 ⟨Ax, Cx, rfl, Ox, b9⟩
                replace Rl := Rl.below b9
                replace Ra := Ra.below b9
                replace Rb := Rb.below b9
                replace BB := BB.trans (b9.mono BB.size)
                have Rx := Ox.row
                clear Ox HXx
                have HXy := Lib.hid (fun W (h : Row W Ab n qs) => iPartsAbove_any Ab n Cb qs W h (by omega))
                rw [toldN_no HQ.out, told_no HQ.out] at HXy
                go_wp2_with fail
                refine (HXy.out _ Rb).mono ?_
                rintro e w10 ⟨Ay, Cy, rfl, Oy, b10⟩
                replace Rl := Rl.below b10
                replace Ra := Ra.below b10
                replace Rb := Rb.below b10
                replace Rx := Rx.below b10
                replace BB := BB.trans (b10.mono BB.size)
                have Ry := Oy.row
                clear Oy HXy
                have HE := Lib.hid (weSame_any Ax (some ⟨b0, off0, none⟩) n Cx n C xs xs w10 Rx Rl (by omega) (by omega))
                rw [eqB_self] at HE
                go_wp2_with fail
                refine (HE.out).mono ?_
                rintro e w11 ⟨rfl, b11⟩
                replace Rl := Rl.below b11
                replace Ra := Ra.below b11
                replace Rb := Rb.below b11
                replace Rx := Rx.below b11
                replace Ry := Ry.below b11
                replace BB := BB.trans (b11.mono BB.size)
                clear HE
                go_wp2_with fail
                go_ret
                exact ⟨by simp, BB⟩
            · have HP := Lib.hid (show tableB ps = false by simpa using hp)
              clear hp
              by_cases hq : tableB qs = true
              · have HQ := Lib.hid hq
                clear hq
                have HXx := Lib.hid (fun W (h : Row W (some ⟨ba, offa, none⟩) n ps) => iPartsBelow_any (some ⟨ba, offa, none⟩) n Ca ps W h (by omega))
                rw [toldN_no HP.out, told_no HP.out] at HXx
                go_wp2_with fail
                refine (HXx.out _ Ra).mono ?_
                rintro e w9 ⟨Ax, Cx, rfl, Ox, b9⟩
                replace Rl := Rl.below b9
                replace Ra := Ra.below b9
                replace Rb := Rb.below b9
                replace BB := BB.trans (b9.mono BB.size)
                have Rx := Ox.row
                clear Ox HXx
                have HX2 : Hid (sums true true qs = xs) := by show _ = _; rw [HQS.out]; exact parts_sums HLX.out H4.out true
                have HXy := Lib.hid (fun W (h : Row W Ab n qs) => iPartsAbove_any Ab n Cb qs W h (by omega))
                rw [toldN_yes HQ.out, told_yes HQ.out, HX2.out] at HXy
                go_wp2_with fail
                refine (HXy.out _ Rb).mono ?_
                rintro e w10 ⟨Ay, Cy, rfl, Oy, b10⟩
                replace Rl := Rl.below b10
                replace Ra := Ra.below b10
                replace Rb := Rb.below b10
                replace Rx := Rx.below b10
                replace BB := BB.trans (b10.mono BB.size)
                have Ry := Oy.row
                clear Oy HXy
                go_wp2_with fail
                go_ret
                exact ⟨by simp, BB⟩
              · have HQ := Lib.hid (show tableB qs = false by simpa using hq)
                clear hq
                have HXx := Lib.hid (fun W (h : Row W (some ⟨ba, offa, none⟩) n ps) => iPartsBelow_any (some ⟨ba, offa, none⟩) n Ca ps W h (by omega))
                rw [toldN_no HP.out, told_no HP.out] at HXx
                go_wp2_with fail
                refine (HXx.out _ Ra).mono ?_
                rintro e w9 ⟨Ax, Cx, rfl, Ox, b9⟩
                replace Rl := Rl.below b9
                replace Ra := Ra.below b9
                replace Rb := Rb.below b9
                replace BB := BB.trans (b9.mono BB.size)
                have Rx := Ox.row
                clear Ox HXx
                have HXy := Lib.hid (fun W (h : Row W Ab n qs) => iPartsAbove_any Ab n Cb qs W h (by omega))
                rw [toldN_no HQ.out, told_no HQ.out] at HXy
                go_wp2_with fail
                refine (HXy.out _ Rb).mono ?_
                rintro e w10 ⟨Ay, Cy, rfl, Oy, b10⟩
                replace Rl := Rl.below b10
                replace Ra := Ra.below b10
                replace Rb := Rb.below b10
                replace Rx := Rx.below b10
                replace BB := BB.trans (b10.mono BB.size)
                have Ry := Oy.row
                clear Oy HXy
                go_wp2_with fail
                go_ret
                exact ⟨by simp, BB⟩
  · have HT := Lib.hid (show tableB xs = false by simpa using ht)
    clear ht
    have HXa := Lib.hid (fun W (h : Row W A n xs) => iSumsBelow_any A n C xs W h (by omega))
    rw [toldN_no HT.out, told_no HT.out] at HXa
    go_wp2_with fail
    refine (HXa.out _ Rl).mono ?_
    rintro e w2 ⟨Aa, Ca, rfl, Oa, b2⟩
    replace Rl := Rl.below b2
    replace BB := BB.trans (b2.mono BB.size)
    have Ra := Oa.row
    clear Oa HXa
    have HXb := Lib.hid (fun W (h : Row W A n xs) => iSumsAbove_any A n C xs W h (by omega))
    rw [toldN_no HT.out, told_no HT.out] at HXb
    go_wp2_with fail
    refine (HXb.out _ Rl).mono ?_
    rintro e w3 ⟨Ab, Cb, rfl, Ob, b3⟩
    replace Rl := Rl.below b3
    replace Ra := Ra.below b3
    replace BB := BB.trans (b3.mono BB.size)
    have Rb := Ob.row
    clear Ob HXb
    have HXs := Lib.hid (fun W (h : Row W A n xs) => sSumsBelow_any A n C xs W h (by omega))
    rw [toldN_no HT.out, told_no HT.out] at HXs
    go_wp2_with fail
    refine (HXs.out _ Rl).mono ?_
    rintro e w4 ⟨As, Cs, rfl, Os, b4⟩
    replace Rl := Rl.below b4
    replace Ra := Ra.below b4
    replace Rb := Rb.below b4
    replace BB := BB.trans (b4.mono BB.size)
    have Rs := Os.row
    clear Os HXs
    have HE := Lib.hid (weSame_any Aa As 0 Ca 0 Cs [] [] w4 Ra Rs (by omega) (by omega))
    rw [eqB_self] at HE
    go_wp2_with fail
    refine (HE.out).mono ?_
    rintro e w5 ⟨rfl, b5⟩
    replace Rl := Rl.below b5
    replace Ra := Ra.below b5
    replace Rb := Rb.below b5
    replace Rs := Rs.below b5
    replace BB := BB.trans (b5.mono BB.size)
    clear HE
    clear Rs
    have HXu := Lib.hid (fun W (h : Row W A n xs) => sSumsAbove_any A n C xs W h (by omega))
    rw [toldN_no HT.out, told_no HT.out] at HXu
    go_wp2_with fail
    refine (HXu.out _ Rl).mono ?_
    rintro e w6 ⟨Au, Cu, rfl, Ou, b6⟩
    replace Rl := Rl.below b6
    replace Ra := Ra.below b6
    replace Rb := Rb.below b6
    replace BB := BB.trans (b6.mono BB.size)
    have Ru := Ou.row
    clear Ou HXu
    have HE := Lib.hid (weSame_any Ab Au 0 Cb 0 Cu [] [] w6 Rb Ru (by omega) (by omega))
    rw [eqB_self] at HE
    go_wp2_with fail
    refine (HE.out).mono ?_
    rintro e w7 ⟨rfl, b7⟩
    replace Rl := Rl.below b7
    replace Ra := Ra.below b7
    replace Rb := Rb.below b7
    replace Ru := Ru.below b7
    replace BB := BB.trans (b7.mono BB.size)
    clear HE
    clear Ru
    have HXs := Lib.hid (fun W (h : Row W A n xs) => sSumsBelow_any A n C xs W h (by omega))
    rw [toldN_no HT.out, told_no HT.out] at HXs
    go_wp2_with fail
    refine (HXs.out _ Rl).mono ?_
    rintro e w8 ⟨As, Cs, rfl, Os, b8⟩
    replace Rl := Rl.below b8
    replace Ra := Ra.below b8
    replace Rb := Rb.below b8
    replace BB := BB.trans (b8.mono BB.size)
    have Rs := Os.row
    clear Os HXs
    have HE := Lib.hid (weSame_any Aa As 0 Ca 0 Cs [] [] w8 Ra Rs (by omega) (by omega))
    rw [eqB_self] at HE
    go_wp2_with fail
    refine (HE.out).mono ?_
    rintro e w9 ⟨rfl, b9⟩
    replace Rl := Rl.below b9
    replace Ra := Ra.below b9
    replace Rb := Rb.below b9
    replace Rs := Rs.below b9
    replace BB := BB.trans (b9.mono BB.size)
    clear HE
    clear Rs
    have HXu := Lib.hid (fun W (h : Row W A n xs) => sSumsAbove_any A n C xs W h (by omega))
    rw [toldN_no HT.out, told_no HT.out] at HXu
    go_wp2_with fail
    refine (HXu.out _ Rl).mono ?_
    rintro e w10 ⟨Au, Cu, rfl, Ou, b10⟩
    replace Rl := Rl.below b10
    replace Ra := Ra.below b10
    replace Rb := Rb.below b10
    replace BB := BB.trans (b10.mono BB.size)
    have Ru := Ou.row
    clear Ou HXu
    have HE := Lib.hid (weSame_any Ab Au 0 Cb 0 Cu [] [] w10 Rb Ru (by omega) (by omega))
    rw [eqB_self] at HE
    go_wp2_with fail
    refine (HE.out).mono ?_
    rintro e w11 ⟨rfl, b11⟩
    replace Rl := Rl.below b11
    replace Ra := Ra.below b11
    replace Rb := Rb.below b11
    replace Ru := Ru.below b11
    replace BB := BB.trans (b11.mono BB.size)
    clear HE
    clear Ru
    go_wp2_with fail
    go_ret
    exact ⟨by simp, BB⟩
end Go.Proofs.Ytffkpmmgfgcngaa
