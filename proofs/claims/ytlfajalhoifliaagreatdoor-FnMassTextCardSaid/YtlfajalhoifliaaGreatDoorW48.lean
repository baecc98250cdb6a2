/- Contract: a mass is drawn. -/
import Derived.Test.YtlfajalhoifliaaGreatDoorW47
import Derived.Test.YtlfajalhoifliaaGreatDoorW17
import Derived.Deep.RegionWith
import Derived.Deep.Cut
namespace Go.Proofs.YtlfajalhoifliaaGreatDoor
open Go.RowKit

theorem shl_nat {x y : Nat} (h : x < 4) (hy : y = 2 ^ x) : wrap64 (2 ^ x) = (y : Int) := by
  have h : x = 0 ∨ x = 1 ∨ x = 2 ∨ x = 3 := by omega
  subst hy
  rcases h with rfl | rfl | rfl | rfl <;> decide +kernel
theorem pow_lt_of {x y m n : Nat} (hy : y = 2 ^ x) (hn : n = 2 ^ m) (h : x < m) : y < n := by rw [hy, hn]; exact Nat.pow_lt_pow_right (by decide) h
theorem set_grown {w w' : World} {k : Nat} {p : Addr} {u : Value} (hg : w.grownBy w' (some k)) (hp : w.heap.size ≤ p.block) : w.grownBy (w'.setCell p u) (some k) := by
  have hgs := grown_setCell w' p u
  refine ⟨(hgs.os).trans hg.os, (hgs.tape).trans hg.tape, (hgs.output).trans hg.output, Nat.le_trans hg.size hgs.size, fun i hi hne => ?_⟩
  rw [← hg.block i hi hne]
  exact hgs.block i (Nat.lt_of_lt_of_le hi hg.size) (fun e => by simp at e; omega)
set_option maxHeartbeats 6400000 in
set_option maxRecDepth 100000 in
theorem l3Draw_any {w0 : World} (k : Nat) (q : Int) (m n : Nat) (w : World) (hsz : sizeB m = true) (hfit : fitB m n = true) (hB : Below w0.heap.size w0 w) (hk : w0.heap.size ≤ k) (hx : Src w0 k q w) (hq : 0 ≤ q ∧ q ≤ 900000) :
    Calls Tryz.prog 54 #[.pointer (some ⟨k, 0, none⟩), .int .i64 m] w fun e w' => DrawnV w0 k q 40 w e w' := by
  have hkw := hx.lt
  have hm4 : 1 ≤ m ∧ m ≤ 4 := by simp [sizeB] at hsz; omega
  have hnn : n = 2 ^ m := by
    have h : (n : Int) = 2 ^ (m : Int).toNat := by simpa [fitB] using hfit
    rw [Int.toNat_natCast] at h
    exact_mod_cast h
  have hn16 : n ≤ 16 ∧ 2 ≤ n := by have h : m = 1 ∨ m = 2 ∨ m = 3 ∨ m = 4 := (by omega); rcases h with rfl | rfl | rfl | rfl <;> simp at hnn <;> omega
  have hsh : wrap64 (2 ^ m) = (n : Int) := by
    have h : m = 1 ∨ m = 2 ∨ m = 3 ∨ m = 4 := (by omega)
    rcases h with rfl | rfl | rfl | rfl <;> (rw [hnn]; decide +kernel)
  obtain ⟨g, hg⟩ : ∃ g, g = n - 1 := ⟨_, rfl⟩
  have hgn : g < n := by omega
  have hgw : (n : Int) - 1 = (g : Int) := by omega
  have HNN := Lib.hid hnn
  have HSZ := Lib.hid hsz
  have HFT := Lib.hid hfit
  clear hnn hg
  obtain ⟨wx, hwx⟩ : ∃ wx, wx = w.alloc (.cells #[.int .i64 0, .slice none 0 0] 25) := ⟨_, rfl⟩
  have hbx : Box wx w.heap.size 25 (.int .i64 0) (.slice none 0 0) := by rw [hwx]; exact Box.new _ _ _ _
  have hbw0 : Below w.heap.size w wx := by rw [hwx]; exact (Below.refl _ _).alloc (Nat.le_refl _) _
  have hsx : wx.heap.size = w.heap.size + 1 := by rw [hwx]; simp
  have HWX := Lib.hid hwx; clear hwx
  obtain ⟨i0, hi, hz0, hz1, hz2⟩ := info_parts info_int
  go_enter Tryz.func54, Tryz.ntmps54
  go_wp2_with (at_make; go_loud (refine wpList_make_full _ rfl _ _ 23 rfl (w.heap.size + 1) 3 i0 (.int .i64 0) 1 Tryz.underlying23 hi hz0 hz1 _ _ _ _ n rfl rfl (by first | exact hsh | rfl | simp) (by first | exact hsh | rfl | simp) (by rw [hz2]; omega) (by unfold maxLen; omega) (by simp) ?_))
  intro w1 hown hgr
  rw [toList_madeCells_one, ← List.map_replicate (f := Value.int .i64) (a := 0)] at hown
  rw [← HWX.out] at hgr
  have how : Own (w.heap.size + 1) w1 (some ⟨w.heap.size + 1, 0, none⟩) n n (List.replicate n 0) := hown
  have hbw : Below (w.heap.size + 1) wx w1 := (Below.refl _ _).grown hgr (by omega) (fun k h => by cases h)
  have hbw2 : Below w.heap.size w w1 := hbw0.trans (hbw.mono (by omega))
  have D0 : Dr w0 w k q n (w.heap.size + 1) 0 0 w1 := ⟨_, q, how, fun j hj => by simp [hj], hx.below hbw2, by omega, grown_of_below hbw2 _, hbx.below hbw (by omega), hB.trans (hbw2.mono hB.size)⟩
  have HD0 := Lib.hid D0
  clear hown hgr how hbw hbw2 D0 hi hz0 hz1 hz2 hx hbx hbw0 hsx hsh
  go_wp2_with fail
  refine (HD0.out.pick (by omega) ⟨by omega, by omega⟩ (by omega) (by omega)).mono ?_
  rintro e w2 ⟨z, rfl, hz, D1⟩
  have h6 : z = 0 ∨ z = 1 ∨ z = 2 ∨ 3 ≤ z := by omega
  have HD1 := Lib.hid (D1.wide (show (0 : Int) ≤ 1000 by omega))
  clear D1 hsz hfit hB HD0
  rcases h6 with rfl | rfl | rfl | h6
  · go_wp2_with fail
    go_loopw [7] (fun i wr => ∃ x : Nat, x ≤ m ∧ i = .int .i64 x ∧ Hid (Dr w0 w k q n (w.heap.size + 1) (0 + 1 + (x : Int)) (1000) wr)) (fun i _ => m - (intOf i).toNat)
    case atStart => exact ⟨0, Nat.zero_le _, rfl, HD1.out.mono (by omega)⟩
    case round =>
      obtain ⟨x, hx, rfl, HD⟩ := hrel
      by_cases hlt : x < m
      · obtain ⟨y, hy⟩ : ∃ y : Nat, y = 2 ^ x := ⟨_, rfl⟩
        have hyn : y < n := pow_lt_of hy HNN.out hlt
        have hyi : (y : Int) < (n : Int) := by omega
        have hsy : wrap64 (2 ^ x) = (y : Int) := shl_nat (Nat.lt_of_lt_of_le hlt hm4.2) hy
        clear hy
        go_wp2_with fail
        refine (HD.out.pick hk (by clear hsy; omega) (by clear hsy; omega) (by decide)).mono ?_
        rintro e w3 ⟨v, rfl, hv, D3⟩
        obtain ⟨t, pc, _, pf⟩ := D3.cell hyn
        have HD4 := Lib.hid (D3.set (v := v) (B' := 1000) (j := y) (by clear hsy; omega) (by clear hsy; omega) (by clear hsy; omega) (by decide))
        clear D3 HD
        go_wp2_with fail
        clear pc pf hsy
        go_roundw
        case rel => exact ⟨x + 1, by omega, by go_num, by have := HD4.out; rw [show (0 : Int) + 1 + ((x + 1 : Nat) : Int) = 0 + 1 + (x : Int) + 1 by omega]; exact this⟩
        case measure => simp [intOf]; omega
      · have hx' : x = m := by omega
        have HDT := Lib.hid (HD.out.mono (show (0 : Int) + 1 + (x : Int) ≤ 5 by omega))
        clear HD
        obtain ⟨ps, q', ho, hb, hsrc, hqq, hgr, hbx, hBw⟩ := HDT.out
        have hpl := ho.len
        have HMD := Lib.hid (l3Made_any m (some ⟨w.heap.size + 1, 0, none⟩) n n ps wr ho.row (by omega) (fun j hj => by have := hb j hj; omega))
        have HQ := Lib.hid hqq
        have HG := Lib.hid hgr
        have HX := Lib.hid hbx
        have HSR := Lib.hid hsrc
        have hmono : w.heap.size ≤ wr.heap.size := hgr.size
        have hlen : ∀ p, makeM m ps = some p → p.2.length = n ∧ massB p.1 p.2 = true := fun p h => makeM_facts hpl h
        obtain ⟨r, hr⟩ : ∃ r, r = makeM m ps := ⟨_, rfl⟩
        rw [← hr] at HMD hlen
        clear hr ho hb hsrc hqq hgr hbx hBw hpl HDT
        go_wp2_with fail
        refine HMD.out.mono ?_
        rintro e w4 ⟨⟨A, C, rfl, o4⟩, b4⟩
        obtain ⟨d1, d2, f1, f2⟩ := (HX.out.below b4 HX.out.lt).cells
        have hXl : w.heap.size < w4.heap.size := Nat.lt_of_lt_of_le HX.out.lt b4.size
        have HX4 := Lib.hid (HX.out.below b4 HX.out.lt)
        have HSR4 := Lib.hid (HSR.out.below b4)
        have HG4 := Lib.hid (grown_trans HG.out (grown_of_below b4 (some k)))
        have hx3 := HX.out.lt
        cases r with
        | some p =>
          obtain ⟨rs, rl⟩ := p
          have hrl : rl.length = n := (hlen _ rfl).1
          have HMV := Lib.hid (hlen _ rfl).2
          have HO4 : Hid (Own wr.heap.size w4 A n C rl) := by have := o4; simp only [rN, rL, hrl] at this; exact this
          simp only [rS, rN, rL, rB, hrl]
          clear o4 b4 hlen HMD
          go_upto_region 26 with fail
          obtain ⟨w5, hw5⟩ : ∃ W, W = w4.alloc (.cells #[.int .i64 rs, .slice A n C] 25) := ⟨_, rfl⟩
          have ba : Below w4.heap.size w4 w5 := by rw [hw5]; exact (Below.refl _ _).alloc (Nat.le_refl _) _
          have hb5 : Box w5 w4.heap.size 25 (.int .i64 rs) (.slice A n C) := by rw [hw5]; exact Box.new _ _ _ _
          rw [← hw5]
          have HO5 := Lib.hid (HO4.out.below ba)
          have HS5 := Lib.hid (HSR4.out.below ba)
          have HG5 := Lib.hid (grown_trans HG4.out (grown_of_below ba _))
          have hx5 := HX4.out.below ba HX4.out.lt
          clear hw5 ba d1 d2 f1 f2
          obtain ⟨c1, c2, _, _⟩ := hb5.cells
          obtain ⟨d1, d2, f1, f2⟩ := hx5.cells
          clear hb5 hx5
          go_wp2_with fail
          refine bodyPost_ret (v := massV rs A n C) (by simp [results, Tryz.results54, go_sem, d1, d2]) rfl ?_
          exact ⟨rs, A, n, C, rl, q', rfl, HMV.out, (HO5.out.setBox hx3 _ _).mono hmono, ((HS5.out.grown (grown_setCell _ _ _) (by simp; omega)).grown (grown_setCell _ _ _) (by simp; omega)), by have := HQ.out; omega, set_grown (set_grown HG5.out (by simp)) (by simp)⟩
        | none =>
          have HSU := Lib.hid (fun W => l3Sure_any m g n W HSZ.out HFT.out (by omega))
          simp only [rS, rN, rL, rB]
          have ba : Below w4.heap.size w4 (w4.alloc (.cells #[.int .i64 0, .slice A 0 C] 25)) := (Below.refl _ _).alloc (Nat.le_refl _) _
          have HBA := Lib.hid ba
          clear o4 b4 hlen HMD ba
          go_wp2_with fail
          refine (HSU.out _).mono ?_
          rintro e w5 ⟨A5, C5, rfl, o5, b5⟩
          have b45 := HBA.out.trans (b5.mono HBA.out.size)
          obtain ⟨e1, e2, f3, f4⟩ := (HX4.out.below b45 HX4.out.lt).cells
          have HO5 := Lib.hid o5
          have hsz5 : w.heap.size < w4.heap.size + 1 := by omega
          have hbs : (w4.alloc (.cells #[.int .i64 0, .slice A 0 C] 25)).heap.size = w4.heap.size + 1 := by simp
          rw [hbs] at HO5
          have HB45 := Lib.hid b45
          clear o5 b5 b45 d1 d2 f1 f2
          go_wp2_with fail
          refine bodyPost_ret (v := massV m A5 n C5) (by simp [results, Tryz.results54, go_sem, e1, e2]) rfl ?_
          exact ⟨m, A5, n, C5, _, q', rfl, sure_mass HSZ.out HFT.out hgn, (HO5.out.setBox hsz5 _ _).mono (by omega), (((HSR4.out.below HB45.out).grown (grown_setCell _ _ _) (by simp; omega)).grown (grown_setCell _ _ _) (by simp; omega)), by have := HQ.out; omega, set_grown (set_grown (grown_trans HG4.out (grown_of_below HB45.out _)) (by simp)) (by simp)⟩
  · go_wp2_with fail
    refine (HD1.out.pick (by omega) ⟨by omega, by omega⟩ (by omega) (by omega)).mono ?_
    rintro e w3 ⟨z3, rfl, hz3, D3⟩
    obtain ⟨y3, rfl⟩ : ∃ y : Nat, z3 = y := ⟨z3.toNat, by omega⟩
    have hy3 : y3 < m := by omega
    obtain ⟨av, hav⟩ : ∃ y : Nat, y = 2 ^ y3 := ⟨_, rfl⟩
    have havn : av < n := pow_lt_of hav HNN.out hy3
    have hsy : wrap64 (2 ^ y3) = (av : Int) := shl_nat (Nat.lt_of_lt_of_le hy3 hm4.2) hav
    have HD3 := Lib.hid (D3.wide (show (1000 : Int) ≤ 1000 + 4 * ((0 : Nat) : Int) by decide))
    clear D3 HD1 hav
    go_wp2_with fail
    rw [hsy]
    clear hsy
    go_loopw [8, 9] (fun a i wr => ∃ (av x : Nat), av < n ∧ x ≤ m ∧ a = .int .i64 av ∧ i = .int .i64 x ∧ Hid (Dr w0 w k q n (w.heap.size + 1) (2 + 2 * (x : Int)) (1000 + 4 * (x : Int)) wr)) (fun _ i _ => m - (intOf i).toNat)
    case atStart => exact ⟨av, 0, havn, Nat.zero_le _, rfl, rfl, HD3.out.mono (by omega)⟩
    case round =>
      obtain ⟨av, x, havn, hx, rfl, rfl, HD⟩ := hrel
      by_cases hlt : x < m
      · have hai : (av : Int) < (n : Int) := by omega
        go_wp2_with fail
        obtain ⟨t6, pc6, ht6, pf6⟩ := HD.out.drew.cell havn
        have HDW := Lib.hid HD.out.drew
        clear HD
        go_region_with (go_at_call 34; refine (HDW.out.pickc (by omega) ⟨by omega, by omega⟩ (by omega) (by omega)).mono ?_; rintro e w7 ⟨v7, rfl, hv7, D7, hc7⟩; have pc7 := (hc7 av).trans pc6; obtain ⟨t7, _, _, pf7⟩ := D7.cell havn; have e7 : IntKind.i64.wrap (t6 + v7) = t6 + v7 := IntWalk.i64_in _ (by omega))
        all_goals
          have HD8 := Lib.hid (D7.set (v := t6 + v7) (B' := 1000 + 4 * (x : Int) + 3) (j := av) ⟨by omega, by omega⟩ (by omega) (by omega) (by omega))
          obtain ⟨w8, hw8⟩ : ∃ W, W = w7.setCell ⟨w.heap.size + 1, av, none⟩ (.int .i64 (t6 + v7)) := ⟨_, rfl⟩
          rw [← hw8] at HD8
          rw [← hw8]
          clear hw8 D7 pc7 pf7 pc6 pf6 HDW hc7 e7
          go_wp2_with fail
          refine (HD8.out.pick (by omega) ⟨by omega, by omega⟩ (by omega) (by omega)).mono ?_
          rintro e w9 ⟨z9, rfl, hz9, D9⟩
          obtain ⟨y9, rfl⟩ : ∃ y : Nat, z9 = y := ⟨z9.toNat, by omega⟩
          have hy9 : y9 < m := by omega
          obtain ⟨a2, ha2⟩ : ∃ y : Nat, y = 2 ^ y9 := ⟨_, rfl⟩
          have ha2n : a2 < n := pow_lt_of ha2 HNN.out hy9
          have hob : bits .or .i64 (av : Int) (a2 : Int) = ((av ||| a2 : Nat) : Int) := bits_or av a2 (by omega) (by omega)
          have hon : av ||| a2 < n := by rw [HNN.out] at havn ha2n ⊢; exact Nat.or_lt_two_pow havn ha2n
          have HD9 := Lib.hid ((D9.mono (show 2 + 2 * (x : Int) + 1 + 1 ≤ 2 + 2 * ((x + 1 : Nat) : Int) by omega)).wide (show 1000 + 4 * (x : Int) + 3 ≤ 1000 + 4 * ((x + 1 : Nat) : Int) by omega))
          have hsy : wrap64 (2 ^ y9) = (a2 : Int) := shl_nat (Nat.lt_of_lt_of_le hy9 hm4.2) ha2
          clear D9 HD8 ha2
          go_wp2_with fail
          clear hsy
          go_roundw
          case rel => exact ⟨av ||| a2, x + 1, hon, by omega, by first | rfl | rw [hob], by go_num, HD9.out⟩
          case measure => simp [intOf]; omega
      · have hx' : x = m := by omega
        have HDT := Lib.hid ((HD.out.mono (show 2 + 2 * (x : Int) ≤ 10 by omega)).wide (show 1000 + 4 * (x : Int) ≤ 1100 by omega))
        clear HD
        obtain ⟨ps, q', ho, hb, hsrc, hqq, hgr, hbx, hBw⟩ := HDT.out
        have hpl := ho.len
        have HMD := Lib.hid (l3Made_any m (some ⟨w.heap.size + 1, 0, none⟩) n n ps wr ho.row (by omega) (fun j hj => by have := hb j hj; omega))
        have HQ := Lib.hid hqq
        have HG := Lib.hid hgr
        have HX := Lib.hid hbx
        have HSR := Lib.hid hsrc
        have hmono : w.heap.size ≤ wr.heap.size := hgr.size
        have hlen : ∀ p, makeM m ps = some p → p.2.length = n ∧ massB p.1 p.2 = true := fun p h => makeM_facts hpl h
        obtain ⟨r, hr⟩ : ∃ r, r = makeM m ps := ⟨_, rfl⟩
        rw [← hr] at HMD hlen
        clear hr ho hb hsrc hqq hgr hbx hBw hpl HDT
        go_wp2_with fail
        refine HMD.out.mono ?_
        rintro e w4 ⟨⟨A, C, rfl, o4⟩, b4⟩
        obtain ⟨d1, d2, f1, f2⟩ := (HX.out.below b4 HX.out.lt).cells
        have hXl : w.heap.size < w4.heap.size := Nat.lt_of_lt_of_le HX.out.lt b4.size
        have HX4 := Lib.hid (HX.out.below b4 HX.out.lt)
        have HSR4 := Lib.hid (HSR.out.below b4)
        have HG4 := Lib.hid (grown_trans HG.out (grown_of_below b4 (some k)))
        have hx3 := HX.out.lt
        cases r with
        | some p =>
          obtain ⟨rs, rl⟩ := p
          have hrl : rl.length = n := (hlen _ rfl).1
          have HMV := Lib.hid (hlen _ rfl).2
          have HO4 : Hid (Own wr.heap.size w4 A n C rl) := by have := o4; simp only [rN, rL, hrl] at this; exact this
          simp only [rS, rN, rL, rB, hrl]
          clear o4 b4 hlen HMD
          go_upto_region 26 with fail
          obtain ⟨w5, hw5⟩ : ∃ W, W = w4.alloc (.cells #[.int .i64 rs, .slice A n C] 25) := ⟨_, rfl⟩
          have ba : Below w4.heap.size w4 w5 := by rw [hw5]; exact (Below.refl _ _).alloc (Nat.le_refl _) _
          have hb5 : Box w5 w4.heap.size 25 (.int .i64 rs) (.slice A n C) := by rw [hw5]; exact Box.new _ _ _ _
          rw [← hw5]
          have HO5 := Lib.hid (HO4.out.below ba)
          have HS5 := Lib.hid (HSR4.out.below ba)
          have HG5 := Lib.hid (grown_trans HG4.out (grown_of_below ba _))
          have hx5 := HX4.out.below ba HX4.out.lt
          clear hw5 ba d1 d2 f1 f2
          obtain ⟨c1, c2, _, _⟩ := hb5.cells
          obtain ⟨d1, d2, f1, f2⟩ := hx5.cells
          clear hb5 hx5
          go_wp2_with fail
          refine bodyPost_ret (v := massV rs A n C) (by simp [results, Tryz.results54, go_sem, d1, d2]) rfl ?_
          exact ⟨rs, A, n, C, rl, q', rfl, HMV.out, (HO5.out.setBox hx3 _ _).mono hmono, ((HS5.out.grown (grown_setCell _ _ _) (by simp; omega)).grown (grown_setCell _ _ _) (by simp; omega)), by have := HQ.out; omega, set_grown (set_grown HG5.out (by simp)) (by simp)⟩
        | none =>
          have HSU := Lib.hid (fun W => l3Sure_any m g n W HSZ.out HFT.out (by omega))
          simp only [rS, rN, rL, rB]
          have ba : Below w4.heap.size w4 (w4.alloc (.cells #[.int .i64 0, .slice A 0 C] 25)) := (Below.refl _ _).alloc (Nat.le_refl _) _
          have HBA := Lib.hid ba
          clear o4 b4 hlen HMD ba
          go_wp2_with fail
          refine (HSU.out _).mono ?_
          rintro e w5 ⟨A5, C5, rfl, o5, b5⟩
          have b45 := HBA.out.trans (b5.mono HBA.out.size)
          obtain ⟨e1, e2, f3, f4⟩ := (HX4.out.below b45 HX4.out.lt).cells
          have HO5 := Lib.hid o5
          have hsz5 : w.heap.size < w4.heap.size + 1 := by omega
          have hbs : (w4.alloc (.cells #[.int .i64 0, .slice A 0 C] 25)).heap.size = w4.heap.size + 1 := by simp
          rw [hbs] at HO5
          have HB45 := Lib.hid b45
          clear o5 b5 b45 d1 d2 f1 f2
          go_wp2_with fail
          refine bodyPost_ret (v := massV m A5 n C5) (by simp [results, Tryz.results54, go_sem, e1, e2]) rfl ?_
          exact ⟨m, A5, n, C5, _, q', rfl, sure_mass HSZ.out HFT.out hgn, (HO5.out.setBox hsz5 _ _).mono (by omega), (((HSR4.out.below HB45.out).grown (grown_setCell _ _ _) (by simp; omega)).grown (grown_setCell _ _ _) (by simp; omega)), by have := HQ.out; omega, set_grown (set_grown (grown_trans HG4.out (grown_of_below HB45.out _)) (by simp)) (by simp)⟩
  · go_wp2_with fail
    refine (HD1.out.pick (by omega) ⟨by omega, by omega⟩ (by omega) (by omega)).mono ?_
    rintro e w3 ⟨z3, rfl, hz3, D3⟩
    obtain ⟨y3, rfl⟩ : ∃ y : Nat, z3 = y := ⟨z3.toNat, by omega⟩
    have hy3 : y3 < n := by omega
    have hyi3 : (y3 : Int) < (n : Int) := by omega
    have HD3 := Lib.hid D3
    clear D3 HD1
    go_wp2_with fail
    refine (HD3.out.pick (by omega) ⟨by omega, by omega⟩ (by omega) (by omega)).mono ?_
    rintro e w4 ⟨v4, rfl, hv4, D4⟩
    obtain ⟨t4, pc4, _, pf4⟩ := D4.cell hy3
    have HD5 := Lib.hid (D4.set (v := 1 + v4) (B' := 1000) (j := y3) ⟨by omega, by omega⟩ (by omega) (by omega) (by omega))
    clear D4 HD3
    go_wp2_with fail
    obtain ⟨w5, hw5⟩ : ∃ W, W = w4.setCell ⟨w.heap.size + 1, y3, none⟩ (.int .i64 (1 + v4)) := ⟨_, rfl⟩
    rw [← hw5] at HD5
    rw [← hw5]
    clear hw5 pc4 pf4
    have hgi : (g : Int) < (n : Int) := by omega
    obtain ⟨t6, pc6, ht6, pf6⟩ := HD5.out.drew.cell hgn
    have HDW := Lib.hid HD5.out.drew
    clear HD5
    go_region_with (go_at_call 34; refine (HDW.out.pickc (by omega) ⟨by omega, by omega⟩ (by omega) (by omega)).mono ?_; rintro e w7 ⟨v7, rfl, hv7, D7, hc7⟩; have pc7 := (hc7 g).trans pc6; obtain ⟨t7, _, _, pf7⟩ := D7.cell hgn; have e7 : IntKind.i64.wrap (t6 + v7) = t6 + v7 := IntWalk.i64_in _ (by omega))
    all_goals
      have HD8 := Lib.hid (D7.set (v := t6 + v7) (B' := 1100) (j := g) ⟨by omega, by omega⟩ (by omega) (by omega) (by omega))
      obtain ⟨w8, hw8⟩ : ∃ W, W = w7.setCell ⟨w.heap.size + 1, g, none⟩ (.int .i64 (t6 + v7)) := ⟨_, rfl⟩
      rw [← hw8] at HD8
      rw [← hw8]
      clear hw8 D7 pc7 pf7 pc6 pf6 HDW hc7 e7
      have HDT := Lib.hid (HD8.out.mono (show (0 : Int) + 1 + 1 + 1 + 1 ≤ 10 by omega))
      clear HD8
      go_upto_region 25 with fail
      obtain ⟨ps, q', ho, hb, hsrc, hqq, hgr, hbx, hBw⟩ := HDT.out
      have hpl := ho.len
      have HMD := Lib.hid (l3Made_any m (some ⟨w.heap.size + 1, 0, none⟩) n n ps w8 ho.row (by omega) (fun j hj => by have := hb j hj; omega))
      have HQ := Lib.hid hqq
      have HG := Lib.hid hgr
      have HX := Lib.hid hbx
      have HSR := Lib.hid hsrc
      have hmono : w.heap.size ≤ w8.heap.size := hgr.size
      have hlen : ∀ p, makeM m ps = some p → p.2.length = n ∧ massB p.1 p.2 = true := fun p h => makeM_facts hpl h
      obtain ⟨r, hr⟩ : ∃ r, r = makeM m ps := ⟨_, rfl⟩
      rw [← hr] at HMD hlen
      clear hr ho hb hsrc hqq hgr hbx hBw hpl HDT
      go_wp2_with fail
      refine HMD.out.mono ?_
      rintro e w4 ⟨⟨A, C, rfl, o4⟩, b4⟩
      obtain ⟨d1, d2, f1, f2⟩ := (HX.out.below b4 HX.out.lt).cells
      have hXl : w.heap.size < w4.heap.size := Nat.lt_of_lt_of_le HX.out.lt b4.size
      have HX4 := Lib.hid (HX.out.below b4 HX.out.lt)
      have HSR4 := Lib.hid (HSR.out.below b4)
      have HG4 := Lib.hid (grown_trans HG.out (grown_of_below b4 (some k)))
      have hx3 := HX.out.lt
      cases r with
      | some p =>
        obtain ⟨rs, rl⟩ := p
        have hrl : rl.length = n := (hlen _ rfl).1
        have HMV := Lib.hid (hlen _ rfl).2
        have HO4 : Hid (Own w8.heap.size w4 A n C rl) := by have := o4; simp only [rN, rL, hrl] at this; exact this
        simp only [rS, rN, rL, rB, hrl]
        clear o4 b4 hlen HMD
        go_upto_region 26 with fail
        obtain ⟨w5, hw5⟩ : ∃ W, W = w4.alloc (.cells #[.int .i64 rs, .slice A n C] 25) := ⟨_, rfl⟩
        have ba : Below w4.heap.size w4 w5 := by rw [hw5]; exact (Below.refl _ _).alloc (Nat.le_refl _) _
        have hb5 : Box w5 w4.heap.size 25 (.int .i64 rs) (.slice A n C) := by rw [hw5]; exact Box.new _ _ _ _
        rw [← hw5]
        have HO5 := Lib.hid (HO4.out.below ba)
        have HS5 := Lib.hid (HSR4.out.below ba)
        have HG5 := Lib.hid (grown_trans HG4.out (grown_of_below ba _))
        have hx5 := HX4.out.below ba HX4.out.lt
        clear hw5 ba d1 d2 f1 f2
        obtain ⟨c1, c2, _, _⟩ := hb5.cells
        obtain ⟨d1, d2, f1, f2⟩ := hx5.cells
        clear hb5 hx5
        go_wp2_with fail
        refine bodyPost_ret (v := massV rs A n C) (by simp [results, Tryz.results54, go_sem, d1, d2]) rfl ?_
        exact ⟨rs, A, n, C, rl, q', rfl, HMV.out, (HO5.out.setBox hx3 _ _).mono hmono, ((HS5.out.grown (grown_setCell _ _ _) (by simp; omega)).grown (grown_setCell _ _ _) (by simp; omega)), by have := HQ.out; omega, set_grown (set_grown HG5.out (by simp)) (by simp)⟩
      | none =>
        have HSU := Lib.hid (fun W => l3Sure_any m g n W HSZ.out HFT.out (by omega))
        simp only [rS, rN, rL, rB]
        have ba : Below w4.heap.size w4 (w4.alloc (.cells #[.int .i64 0, .slice A 0 C] 25)) := (Below.refl _ _).alloc (Nat.le_refl _) _
        have HBA := Lib.hid ba
        clear o4 b4 hlen HMD ba
        go_wp2_with fail
        refine (HSU.out _).mono ?_
        rintro e w5 ⟨A5, C5, rfl, o5, b5⟩
        have b45 := HBA.out.trans (b5.mono HBA.out.size)
        obtain ⟨e1, e2, f3, f4⟩ := (HX4.out.below b45 HX4.out.lt).cells
        have HO5 := Lib.hid o5
        have hsz5 : w.heap.size < w4.heap.size + 1 := by omega
        have hbs : (w4.alloc (.cells #[.int .i64 0, .slice A 0 C] 25)).heap.size = w4.heap.size + 1 := by simp
        rw [hbs] at HO5
        have HB45 := Lib.hid b45
        clear o5 b5 b45 d1 d2 f1 f2
        go_wp2_with fail
        refine bodyPost_ret (v := massV m A5 n C5) (by simp [results, Tryz.results54, go_sem, e1, e2]) rfl ?_
        exact ⟨m, A5, n, C5, _, q', rfl, sure_mass HSZ.out HFT.out hgn, (HO5.out.setBox hsz5 _ _).mono (by omega), (((HSR4.out.below HB45.out).grown (grown_setCell _ _ _) (by simp; omega)).grown (grown_setCell _ _ _) (by simp; omega)), by have := HQ.out; omega, set_grown (set_grown (grown_trans HG4.out (grown_of_below HB45.out _)) (by simp)) (by simp)⟩
  · go_wp2_with fail
    refine (HD1.out.pick (by omega) ⟨by omega, by omega⟩ (by omega) (by omega)).mono ?_
    rintro e w3 ⟨z3, rfl, hz3, D3⟩
    obtain ⟨y3, rfl⟩ : ∃ y : Nat, z3 = y := ⟨z3.toNat, by omega⟩
    have HD3 := Lib.hid D3
    clear D3 HD1
    go_wp2_with fail
    go_loopw [10] (fun i wr => ∃ x : Nat, x ≤ 4 ∧ i = .int .i64 x ∧ Hid (Dr w0 w k q n (w.heap.size + 1) (2 + 2 * (4 - (x : Int))) (1000) wr)) (fun i _ => (intOf i).toNat)
    case atStart => exact ⟨2 + y3, by omega, by go_num, HD3.out.mono (by omega)⟩
    case round =>
      obtain ⟨x, hx, rfl, HD⟩ := hrel
      by_cases hlt : 0 < x
      · go_wp2_with fail
        refine (HD.out.pick (by omega) ⟨by omega, by omega⟩ (by omega) (by omega)).mono ?_
        rintro e w4 ⟨z4, rfl, hz4, D4⟩
        obtain ⟨y, rfl⟩ : ∃ y : Nat, z4 = y := ⟨z4.toNat, by omega⟩
        have hyn : y < n := by omega
        have hyi : (y : Int) < (n : Int) := by omega
        have HD4 := Lib.hid D4
        clear D4 HD
        go_wp2_with fail
        refine (HD4.out.pick (by omega) ⟨by omega, by omega⟩ (by omega) (by omega)).mono ?_
        rintro e w5 ⟨v, rfl, hv, D5⟩
        obtain ⟨t, pc, _, pf⟩ := D5.cell hyn
        have HD6 := Lib.hid (D5.set (v := v) (B' := 1000) (j := y) ⟨by omega, by omega⟩ (by omega) (by omega) (by omega))
        clear D5 HD4
        go_wp2_with fail
        clear pc pf
        go_roundw
        case rel => exact ⟨x - 1, by omega, by go_num, HD6.out.mono (by omega)⟩
        case measure => simp [intOf]; omega
      · have hx' : x = 0 := by omega
        subst hx'
        have HDT0 := Lib.hid (HD.out.mono (show (2 : Int) + 2 * (4 - ((0 : Nat) : Int)) ≤ 10 by omega))
        clear HD
        go_wp2_with fail
        refine (HDT0.out.pick (by omega) ⟨by omega, by omega⟩ (by omega) (by omega)).mono ?_
        rintro e w6 ⟨v, rfl, hv, D6⟩
        by_cases hv0 : 0 < v
        · obtain ⟨t, pc, _, pf⟩ := D6.cell (show 0 < n by omega)
          have hn0 : (0 : Int) < (n : Int) := by omega
          have HDS := Lib.hid (D6.set (v := 0) (B' := 1000) (j := 0) ⟨by omega, by omega⟩ (by omega) (by omega) (by omega))
          clear D6 HDT0
          go_upto_region 25 with fail
          obtain ⟨w7, hw7⟩ : ∃ W, W = w6.setCell ⟨w.heap.size + 1, 0, none⟩ (.int .i64 0) := ⟨_, rfl⟩
          have HDT := Lib.hid (HDS.out.mono (show (10 : Int) + 1 ≤ 11 by omega))
          rw [← hw7] at HDT
          rw [← hw7]
          clear pc pf HDS hw7
          obtain ⟨ps, q', ho, hb, hsrc, hqq, hgr, hbx, hBw⟩ := HDT.out
          have hpl := ho.len
          have HMD := Lib.hid (l3Made_any m (some ⟨w.heap.size + 1, 0, none⟩) n n ps w7 ho.row (by omega) (fun j hj => by have := hb j hj; omega))
          have HQ := Lib.hid hqq
          have HG := Lib.hid hgr
          have HX := Lib.hid hbx
          have HSR := Lib.hid hsrc
          have hmono : w.heap.size ≤ w7.heap.size := hgr.size
          have hlen : ∀ p, makeM m ps = some p → p.2.length = n ∧ massB p.1 p.2 = true := fun p h => makeM_facts hpl h
          obtain ⟨r, hr⟩ : ∃ r, r = makeM m ps := ⟨_, rfl⟩
          rw [← hr] at HMD hlen
          clear hr ho hb hsrc hqq hgr hbx hBw hpl HDT
          go_wp2_with fail
          refine HMD.out.mono ?_
          rintro e w4 ⟨⟨A, C, rfl, o4⟩, b4⟩
          obtain ⟨d1, d2, f1, f2⟩ := (HX.out.below b4 HX.out.lt).cells
          have hXl : w.heap.size < w4.heap.size := Nat.lt_of_lt_of_le HX.out.lt b4.size
          have HX4 := Lib.hid (HX.out.below b4 HX.out.lt)
          have HSR4 := Lib.hid (HSR.out.below b4)
          have HG4 := Lib.hid (grown_trans HG.out (grown_of_below b4 (some k)))
          have hx3 := HX.out.lt
          cases r with
          | some p =>
            obtain ⟨rs, rl⟩ := p
            have hrl : rl.length = n := (hlen _ rfl).1
            have HMV := Lib.hid (hlen _ rfl).2
            have HO4 : Hid (Own w7.heap.size w4 A n C rl) := by have := o4; simp only [rN, rL, hrl] at this; exact this
            simp only [rS, rN, rL, rB, hrl]
            clear o4 b4 hlen HMD
            go_upto_region 26 with fail
            obtain ⟨w5, hw5⟩ : ∃ W, W = w4.alloc (.cells #[.int .i64 rs, .slice A n C] 25) := ⟨_, rfl⟩
            have ba : Below w4.heap.size w4 w5 := by rw [hw5]; exact (Below.refl _ _).alloc (Nat.le_refl _) _
            have hb5 : Box w5 w4.heap.size 25 (.int .i64 rs) (.slice A n C) := by rw [hw5]; exact Box.new _ _ _ _
            rw [← hw5]
            have HO5 := Lib.hid (HO4.out.below ba)
            have HS5 := Lib.hid (HSR4.out.below ba)
            have HG5 := Lib.hid (grown_trans HG4.out (grown_of_below ba _))
            have hx5 := HX4.out.below ba HX4.out.lt
            clear hw5 ba d1 d2 f1 f2
            obtain ⟨c1, c2, _, _⟩ := hb5.cells
            obtain ⟨d1, d2, f1, f2⟩ := hx5.cells
            clear hb5 hx5
            go_wp2_with fail
            refine bodyPost_ret (v := massV rs A n C) (by simp [results, Tryz.results54, go_sem, d1, d2]) rfl ?_
            exact ⟨rs, A, n, C, rl, q', rfl, HMV.out, (HO5.out.setBox hx3 _ _).mono hmono, ((HS5.out.grown (grown_setCell _ _ _) (by simp; omega)).grown (grown_setCell _ _ _) (by simp; omega)), by have := HQ.out; omega, set_grown (set_grown HG5.out (by simp)) (by simp)⟩
          | none =>
            have HSU := Lib.hid (fun W => l3Sure_any m g n W HSZ.out HFT.out (by omega))
            simp only [rS, rN, rL, rB]
            have ba : Below w4.heap.size w4 (w4.alloc (.cells #[.int .i64 0, .slice A 0 C] 25)) := (Below.refl _ _).alloc (Nat.le_refl _) _
            have HBA := Lib.hid ba
            clear o4 b4 hlen HMD ba
            go_wp2_with fail
            refine (HSU.out _).mono ?_
            rintro e w5 ⟨A5, C5, rfl, o5, b5⟩
            have b45 := HBA.out.trans (b5.mono HBA.out.size)
            obtain ⟨e1, e2, f3, f4⟩ := (HX4.out.below b45 HX4.out.lt).cells
            have HO5 := Lib.hid o5
            have hsz5 : w.heap.size < w4.heap.size + 1 := by omega
            have hbs : (w4.alloc (.cells #[.int .i64 0, .slice A 0 C] 25)).heap.size = w4.heap.size + 1 := by simp
            rw [hbs] at HO5
            have HB45 := Lib.hid b45
            clear o5 b5 b45 d1 d2 f1 f2
            go_wp2_with fail
            refine bodyPost_ret (v := massV m A5 n C5) (by simp [results, Tryz.results54, go_sem, e1, e2]) rfl ?_
            exact ⟨m, A5, n, C5, _, q', rfl, sure_mass HSZ.out HFT.out hgn, (HO5.out.setBox hsz5 _ _).mono (by omega), (((HSR4.out.below HB45.out).grown (grown_setCell _ _ _) (by simp; omega)).grown (grown_setCell _ _ _) (by simp; omega)), by have := HQ.out; omega, set_grown (set_grown (grown_trans HG4.out (grown_of_below HB45.out _)) (by simp)) (by simp)⟩
        · have HDT := Lib.hid (D6.mono (show (10 : Int) + 1 ≤ 11 by omega))
          clear D6 HDT0
          go_upto_region 25 with fail
          obtain ⟨ps, q', ho, hb, hsrc, hqq, hgr, hbx, hBw⟩ := HDT.out
          have hpl := ho.len
          have HMD := Lib.hid (l3Made_any m (some ⟨w.heap.size + 1, 0, none⟩) n n ps w6 ho.row (by omega) (fun j hj => by have := hb j hj; omega))
          have HQ := Lib.hid hqq
          have HG := Lib.hid hgr
          have HX := Lib.hid hbx
          have HSR := Lib.hid hsrc
          have hmono : w.heap.size ≤ w6.heap.size := hgr.size
          have hlen : ∀ p, makeM m ps = some p → p.2.length = n ∧ massB p.1 p.2 = true := fun p h => makeM_facts hpl h
          obtain ⟨r, hr⟩ : ∃ r, r = makeM m ps := ⟨_, rfl⟩
          rw [← hr] at HMD hlen
          clear hr ho hb hsrc hqq hgr hbx hBw hpl HDT
          go_wp2_with fail
          refine HMD.out.mono ?_
          rintro e w4 ⟨⟨A, C, rfl, o4⟩, b4⟩
          obtain ⟨d1, d2, f1, f2⟩ := (HX.out.below b4 HX.out.lt).cells
          have hXl : w.heap.size < w4.heap.size := Nat.lt_of_lt_of_le HX.out.lt b4.size
          have HX4 := Lib.hid (HX.out.below b4 HX.out.lt)
          have HSR4 := Lib.hid (HSR.out.below b4)
          have HG4 := Lib.hid (grown_trans HG.out (grown_of_below b4 (some k)))
          have hx3 := HX.out.lt
          cases r with
          | some p =>
            obtain ⟨rs, rl⟩ := p
            have hrl : rl.length = n := (hlen _ rfl).1
            have HMV := Lib.hid (hlen _ rfl).2
            have HO4 : Hid (Own w6.heap.size w4 A n C rl) := by have := o4; simp only [rN, rL, hrl] at this; exact this
            simp only [rS, rN, rL, rB, hrl]
            clear o4 b4 hlen HMD
            go_upto_region 26 with fail
            obtain ⟨w5, hw5⟩ : ∃ W, W = w4.alloc (.cells #[.int .i64 rs, .slice A n C] 25) := ⟨_, rfl⟩
            have ba : Below w4.heap.size w4 w5 := by rw [hw5]; exact (Below.refl _ _).alloc (Nat.le_refl _) _
            have hb5 : Box w5 w4.heap.size 25 (.int .i64 rs) (.slice A n C) := by rw [hw5]; exact Box.new _ _ _ _
            rw [← hw5]
            have HO5 := Lib.hid (HO4.out.below ba)
            have HS5 := Lib.hid (HSR4.out.below ba)
            have HG5 := Lib.hid (grown_trans HG4.out (grown_of_below ba _))
            have hx5 := HX4.out.below ba HX4.out.lt
            clear hw5 ba d1 d2 f1 f2
            obtain ⟨c1, c2, _, _⟩ := hb5.cells
            obtain ⟨d1, d2, f1, f2⟩ := hx5.cells
            clear hb5 hx5
            go_wp2_with fail
            refine bodyPost_ret (v := massV rs A n C) (by simp [results, Tryz.results54, go_sem, d1, d2]) rfl ?_
            exact ⟨rs, A, n, C, rl, q', rfl, HMV.out, (HO5.out.setBox hx3 _ _).mono hmono, ((HS5.out.grown (grown_setCell _ _ _) (by simp; omega)).grown (grown_setCell _ _ _) (by simp; omega)), by have := HQ.out; omega, set_grown (set_grown HG5.out (by simp)) (by simp)⟩
          | none =>
            have HSU := Lib.hid (fun W => l3Sure_any m g n W HSZ.out HFT.out (by omega))
            simp only [rS, rN, rL, rB]
            have ba : Below w4.heap.size w4 (w4.alloc (.cells #[.int .i64 0, .slice A 0 C] 25)) := (Below.refl _ _).alloc (Nat.le_refl _) _
            have HBA := Lib.hid ba
            clear o4 b4 hlen HMD ba
            go_wp2_with fail
            refine (HSU.out _).mono ?_
            rintro e w5 ⟨A5, C5, rfl, o5, b5⟩
            have b45 := HBA.out.trans (b5.mono HBA.out.size)
            obtain ⟨e1, e2, f3, f4⟩ := (HX4.out.below b45 HX4.out.lt).cells
            have HO5 := Lib.hid o5
            have hsz5 : w.heap.size < w4.heap.size + 1 := by omega
            have hbs : (w4.alloc (.cells #[.int .i64 0, .slice A 0 C] 25)).heap.size = w4.heap.size + 1 := by simp
            rw [hbs] at HO5
            have HB45 := Lib.hid b45
            clear o5 b5 b45 d1 d2 f1 f2
            go_wp2_with fail
            refine bodyPost_ret (v := massV m A5 n C5) (by simp [results, Tryz.results54, go_sem, e1, e2]) rfl ?_
            exact ⟨m, A5, n, C5, _, q', rfl, sure_mass HSZ.out HFT.out hgn, (HO5.out.setBox hsz5 _ _).mono (by omega), (((HSR4.out.below HB45.out).grown (grown_setCell _ _ _) (by simp; omega)).grown (grown_setCell _ _ _) (by simp; omega)), by have := HQ.out; omega, set_grown (set_grown (grown_trans HG4.out (grown_of_below HB45.out _)) (by simp)) (by simp)⟩
end Go.Proofs.YtlfajalhoifliaaGreatDoor
