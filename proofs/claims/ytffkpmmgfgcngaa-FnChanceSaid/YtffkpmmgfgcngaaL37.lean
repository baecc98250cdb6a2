/- The walk of the law FnChance. -/
import Derived.Test.YtffkpmmgfgcngaaBase7
import Derived.Test.YtffkpmmgfgcngaaLaw
import Derived.Test.YtffkpmmgfgcngaaLaw13
import Derived.Test.YtffkpmmgfgcngaaW15
import Derived.Test.YtffkpmmgfgcngaaW35
import Derived.Test.YtffkpmmgfgcngaaW53
import Derived.Test.YtffkpmmgfgcngaaW56
import Derived.Deep.RegionHeld3
import Derived.Test.YtffkpmmgfgcngaaBase5
import Derived.Deep.CutRange
import Derived.Deep.QuietTactic
import Derived.BigQuiet
namespace Go.Proofs.Ytffkpmmgfgcngaa
open Go.RowKit

theorem below_on {B W W2 : World} {P : Prop} (h : Below B.heap.size B W ∧ P) (b : Below W.heap.size W W2) : Below B.heap.size B W2 := h.1.trans (b.mono h.1.size)
set_option maxHeartbeats 6400000 in
set_option maxRecDepth 100000 in
theorem walkChance (a : Option Addr) (l c : Nat) (bs : List Int) (w : World) (hr : BRow w a l bs) (hlc : l ≤ c) :
    Calls Try.prog 11 #[.slice a l c] w fun e w' => e = .returned (.bool true) ∧ Below w.heap.size w w' := by
  by_cases hl : 1048576 < (l : Int)
  · clear hr
    go_enter Try.func11, Try.ntmps11
    go_wp2_with fail
    go_ret
    exact ⟨rfl, Below.refl _ _⟩
  have HD := Lib.hid (DrawChanceOf_any a l c bs w hr (.inl hlc))
  clear hr
  go_enter Try.func11, Try.ntmps11
  go_wp2_with fail
  refine HD.out.mono ?_
  rintro e w1 ⟨s, A, n, C, xs, x, rfl, hn17, Rm, b1⟩
  have BB := b1
  have hn : n ≤ 1048576 := by omega
  go_upto_region 4 with fail
  obtain ⟨w2, hw2⟩ : ∃ W, W = w1.alloc (.cells #[.int .i64 s, .slice A n C] 25) := ⟨_, rfl⟩
  obtain ⟨Mm, b2⟩ := Mv.new Rm hw2
  rw [← hw2]
  clear hw2
  replace BB := BB.trans (b2.mono BB.size)
  cases hr1 : chanceR s xs x with
  | none =>
    have HR1 := Lib.hid hr1
    clear hr1
    have HN := Lib.hid (fun W (h : Row W A n xs) => (iChanceOf_any s x A n C xs W h hn).mono (fun e w' h => And.intro (RetF.no HR1.out h.1) h.2))
    have HN2 := Lib.hid (fun W (h : Row W A n xs) => (sChanceOf_any s x A n C xs W h hn).mono (fun e w' h => And.intro (RetF.no HR1.out h.1) h.2))
    obtain ⟨m1, m2⟩ := Mm.at_ (Below.refl _ _)
    go_wp2_with fail
    clear m1 m2
    refine (HN.out _ Mm.2).mono ?_
    rintro e w3 ⟨rfl, b3⟩
    replace Mm := Mm.below b3
    replace BB := BB.trans (b3.mono BB.size)
    go_upto_region 5 with fail
    obtain ⟨w4, hw4⟩ : ∃ W, W = w3.alloc (.cells #[.int .i64 0, .int .i64 0] 40) := ⟨_, rfl⟩
    obtain ⟨Mf, b4⟩ := Fv.new w3 (0) (0) hw4
    rw [← hw4]
    clear hw4
    replace Mm := Mm.below b4
    replace BB := BB.trans (b4.mono BB.size)
    obtain ⟨m1, m2⟩ := Mm.at_ (Below.refl _ _)
    go_wp2_with fail
    clear m1 m2
    refine (HN2.out _ Mm.2).mono ?_
    rintro e w5 ⟨rfl, b5⟩
    replace Mm := Mm.below b5
    replace Mf := Mf.below b5
    replace BB := BB.trans (b5.mono BB.size)
    go_upto_region 6 with fail
    obtain ⟨w6, hw6⟩ : ∃ W, W = w5.alloc (.cells #[.int .i64 0, .int .i64 0] 40) := ⟨_, rfl⟩
    obtain ⟨Mv, b6⟩ := Fv.new w5 (0) (0) hw6
    rw [← hw6]
    clear hw6
    replace Mm := Mm.below b6
    replace Mf := Mf.below b6
    replace BB := BB.trans (b6.mono BB.size)
    obtain ⟨f1, f2⟩ := Mf.at_ (Below.refl _ _)
    obtain ⟨v1, v2⟩ := Mv.at_ (Below.refl _ _)
    go_wp2_with fail
    go_ret
    exact ⟨rfl, BB⟩
  | some r =>
    obtain ⟨p, q⟩ := r
    have hcb : chanceB s xs x = true := by
      cases h : chanceB s xs x with
      | true => rfl
      | false => unfold chanceR fracM at hr1; rw [if_neg (by simp [h])] at hr1; cases hr1
    obtain ⟨⟨hm, hset⟩, hz⟩ : (massB s xs = true ∧ setB s x = true) ∧ ¬ sumL xs = xs.getD 0 0 := by simpa [chanceB] using hcb
    have hI := massB_is Rm.1 hm
    obtain ⟨y, rfl, hy⟩ := set_nat hI hset
    have hlx := Rm.1
    obtain ⟨z, hzz⟩ : ∃ z, z = n - 1 - y := ⟨_, rfl⟩
    have hzn : z < n := by omega
    obtain ⟨p', q', hr1', hf1⟩ := chance_some hlx hm hz hy hset
    rw [hr1] at hr1'
    cases hr1'
    obtain ⟨p2, q2, hr2, hf2⟩ := chance_some hlx hm hz hzn (set_mk hI.fit hzn)
    have heb := even_both hlx hI.nums hy
    rw [← hzz] at heb
    have hbt := even_between hlx hm hy
    have h0 := hI.part 0 (by omega)
    have hle := sum_first hlx (by omega) (fun k hk => (hI.part k hk).1)
    have hwh := hI.whole
    have hbp := partOf_bound (pr := fun j => subB j y) hlx hI.part
    have hpp := partOf_bound (pr := fun j => meetB y j) hlx hI.part
    have hn16 : n ≤ 16 := by have := hI.nums; omega
    obtain ⟨dd, hdd⟩ : ∃ d, d = sumL xs - xs.getD 0 0 := ⟨_, rfl⟩
    have hd1 : 1 ≤ dd := by omega
    have hd2 : dd ≤ 1000000 := by omega
    have hbel0 : xs.getD 0 0 ≤ partOf (fun j => subB j y) xs := by
      have h1 := part_le (p := fun k => decide (k = 0)) (q := fun j => subB j y) hlx (fun k hk => (hI.part k hk).1) (fun k hk h => by simp at h; subst h; simp [subB])
      have h2 : partOf (fun k => decide (k = 0)) xs = xs.getD 0 0 := by
        unfold partOf
        rw [hlx, sumTo_congr (g := fun k => if k = 0 then xs.getD 0 0 else 0) n (fun k hk => by by_cases e : k = 0 <;> simp [partF, e]), sumTo_one, if_pos (by omega)]
      omega
    obtain ⟨u, hu⟩ : ∃ u, u = partOf (fun j => subB j y) xs - xs.getD 0 0 := ⟨_, rfl⟩
    obtain ⟨v, hv⟩ : ∃ u, u = partOf (fun j => meetB y j) xs := ⟨_, rfl⟩
    have hu1 : 0 ≤ u ∧ u ≤ 16000000 := by omega
    have hv1 : 0 ≤ v ∧ v ≤ 16000000 := by omega
    obtain ⟨p3, q3, hf3⟩ := frac_ok (num := u) (den := dd) (by omega) (by omega)
    obtain ⟨p4, q4, hf4⟩ := frac_ok (num := v) (den := dd) (by omega) (by omega)
    rw [← hdd] at hf1 hf2 heb
    rw [← hu, ← hv] at hbt
    have ha1 := add_one (show 1 ≤ 12 * dd by omega) heb hf1 hf2
    have hsum : fracOf (p * q2 + p2 * q) (q * q2) = some (1, 1) := by
      rw [ha1.1]
      have h := fracOf_scale (g := q * q2) (a := 1) (b := 1) ha1.2 (by omega)
      rw [Int.mul_one] at h
      rw [h]; decide
    have hb1 : fracB p q = true := by obtain ⟨_, _, _, _, _, _, h⟩ := fracOf_is (show 1 ≤ 12 * dd by omega) hf1; exact h
    have hb2 : fracB p2 q2 = true := by obtain ⟨_, _, _, _, _, _, h⟩ := fracOf_is (show 1 ≤ 12 * dd by omega) hf2; exact h
    have hb3 : fracB p3 q3 = true := by obtain ⟨_, _, _, _, _, _, h⟩ := fracOf_is hd1 hf3; exact h
    have hb4 : fracB p4 q4 = true := by obtain ⟨_, _, _, _, _, _, h⟩ := fracOf_is hd1 hf4; exact h
    have hl1 : decide (p * q3 < p3 * q) = false := decide_eq_false (fun h => by
      have h2 := (cross_gen (show 1 ≤ 12 * dd by omega) hd1 hf1 hf3).1 h
      have h3 : evenOf y xs * dd < u * 12 * dd := by rw [Int.mul_assoc]; exact h2
      have h4 := Int.lt_of_mul_lt_mul_right h3 (by omega)
      omega)
    have hl2 : decide (p4 * q < p * q4) = false := decide_eq_false (fun h => by
      have h2 := (cross_gen hd1 (show 1 ≤ 12 * dd by omega) hf4 hf1).1 h
      have h3 : v * 12 * dd < evenOf y xs * dd := by rw [Int.mul_assoc]; exact h2
      have h4 := Int.lt_of_mul_lt_mul_right h3 (by omega)
      omega)
    have hbm : measure s xs (y : Int) (partOf (fun j => subB j ((y : Int)).toNat) xs - xs.getD 0 0) = u := by rw [measure_yes hm hset, Int.toNat_natCast, hu]
    have hpm : measure s xs (y : Int) (partOf (fun j => meetB ((y : Int)).toNat j) xs) = v := by rw [measure_yes hm hset, Int.toNat_natCast, hv]
    have hw0 : wholeR s xs - xs.getD 0 0 = dd := by rw [wholeR_yes hm, hdd]
    have hv0b := h0
    obtain ⟨v0, hv0⟩ : ∃ v, v = xs.getD 0 0 := ⟨_, rfl⟩
    rw [← hv0] at hw0 hv0b
    obtain ⟨wh, hwh'⟩ : ∃ v, v = wholeR s xs := ⟨_, rfl⟩
    rw [← hwh'] at hw0
    have HR1 := Lib.hid hr1
    have HR2 := Lib.hid hr2
    have HI := Lib.hid hI
    have HLX := Lib.hid hlx
    have HSUM := Lib.hid hsum
    have HF3 := Lib.hid hf3
    have HF4 := Lib.hid hf4
    have HB1 := Lib.hid hb1
    have HB2 := Lib.hid hb2
    have HB3 := Lib.hid hb3
    have HB4 := Lib.hid hb4
    have HBM := Lib.hid hbm
    have HPM := Lib.hid hpm
    have HWH := Lib.hid hwh'
    have HV0 := Lib.hid hv0
    have HZ := Lib.hid hzz
    have HL1 := Lib.hid hl1
    have HL2 := Lib.hid hl2
    have kw : IntKind.i64.wrap (wh - v0) = dd := by rw [hw0]; exact IntWalk.i64_in _ (by omega)
    clear hr1 hr2 hI hlx hsum hf1 hf2 hf3 hf4 hb1 hb2 hb3 hb4 hbm hpm hwh' hv0 hzz hl1 hl2 hcb hm hset hz heb hbt h0 hle hwh hbp hpp hdd hbel0 hu hv ha1 hw0
    have HN := Lib.hid (fun W (h : Row W A n xs) => (iChanceOf_any s (y : Int) A n C xs W h hn).mono (fun e w' h => And.intro (RetF.yes HR1.out h.1) h.2))
    have HN2 := Lib.hid (fun W (h : Row W A n xs) => (sChanceOf_any s (y : Int) A n C xs W h hn).mono (fun e w' h => And.intro (RetF.yes HR1.out h.1) h.2))
    obtain ⟨m1, m2⟩ := Mm.at_ (Below.refl _ _)
    go_wp2_with fail
    clear m1 m2
    refine (HN.out _ Mm.2).mono ?_
    rintro e w3 ⟨rfl, b3⟩
    replace Mm := Mm.below b3
    replace BB := BB.trans (b3.mono BB.size)
    go_upto_region 5 with fail
    obtain ⟨w4, hw4⟩ : ∃ W, W = w3.alloc (.cells #[.int .i64 p, .int .i64 q] 40) := ⟨_, rfl⟩
    obtain ⟨Mf, b4⟩ := Fv.new w3 (p) (q) hw4
    rw [← hw4]
    clear hw4
    replace Mm := Mm.below b4
    replace BB := BB.trans (b4.mono BB.size)
    obtain ⟨m1, m2⟩ := Mm.at_ (Below.refl _ _)
    go_wp2_with fail
    clear m1 m2
    refine (HN2.out _ Mm.2).mono ?_
    rintro e w5 ⟨rfl, b5⟩
    replace Mm := Mm.below b5
    replace Mf := Mf.below b5
    replace BB := BB.trans (b5.mono BB.size)
    go_upto_region 6 with fail
    obtain ⟨w6, hw6⟩ : ∃ W, W = w5.alloc (.cells #[.int .i64 p, .int .i64 q] 40) := ⟨_, rfl⟩
    obtain ⟨Mv, b6⟩ := Fv.new w5 (p) (q) hw6
    rw [← hw6]
    clear hw6
    replace Mm := Mm.below b6
    replace Mf := Mf.below b6
    replace BB := BB.trans (b6.mono BB.size)
    obtain ⟨f1, f2⟩ := Mf.at_ (Below.refl _ _)
    obtain ⟨v1, v2⟩ := Mv.at_ (Below.refl _ _)
    go_upto_region 8 with fail
    clear f1 f2
    clear v1 v2
    clear Mv
    have Hm := Lib.hid Mm
    have Hf := Lib.hid Mf
    have HBB := Lib.hid BB
    clear BB Mm Mf
    have HCH := Lib.hid (fun W (h : Below w6.heap.size w6 W) => (iChanceOf_any s (z : Int) A n C xs W (Hm.out.2.below h) hn).mono (fun e w' h => And.intro (RetF.yes HR2.out h.1) h.2))
    have HOS := Lib.hid (fun W => (OtherSet_any s n y W HI.out.size HI.out.fit hy).mono (fun e w' h => And.intro h.1 (show Below W.heap.size W w' from h.2 ▸ Below.refl _ _)))
    rw [← HZ.out] at HOS
    have HID : Hid (∀ W, Below w6.heap.size w6 W → Below w6.heap.size w6 W ∧ W.cell? ⟨w1.heap.size, 0, none⟩ = some (.int .i64 s) ∧ W.cell? ⟨w1.heap.size, 1, none⟩ = some (.slice A n C)) := fun W h => ⟨h, (Hm.out.at_ h).1, (Hm.out.at_ h).2⟩
    have HKD : Hid (∀ W W', Below W.heap.size W W' → (Below w6.heap.size w6 W ∧ W.cell? ⟨w1.heap.size, 0, none⟩ = some (.int .i64 s) ∧ W.cell? ⟨w1.heap.size, 1, none⟩ = some (.slice A n C)) → Below w6.heap.size w6 W' ∧ W'.cell? ⟨w1.heap.size, 0, none⟩ = some (.int .i64 s) ∧ W'.cell? ⟨w1.heap.size, 1, none⟩ = some (.slice A n C)) := fun W W' b h => HID.out W' (h.1.trans (b.mono h.1.size))
    have HAD : Hid (∀ W o, (Below w6.heap.size w6 W ∧ W.cell? ⟨w1.heap.size, 0, none⟩ = some (.int .i64 s) ∧ W.cell? ⟨w1.heap.size, 1, none⟩ = some (.slice A n C)) → Below w6.heap.size w6 (W.alloc o) ∧ (W.alloc o).cell? ⟨w1.heap.size, 0, none⟩ = some (.int .i64 s) ∧ (W.alloc o).cell? ⟨w1.heap.size, 1, none⟩ = some (.slice A n C)) := fun W o h => HID.out _ (h.1.alloc h.1.size _)
    have HSD := Lib.hid (HID.out _ ((Below.refl _ _).drew : Below w6.heap.size w6 w6.drew))
    have HRD := Lib.hid (HID.out _ (((Below.refl _ _).alloc (Nat.le_refl _) _).drew : Below w6.heap.size w6 (World.drew (w6.alloc (.cells #[.int .i64 0, .int .i64 0] 40)))))
    go_cut [9, 10] from 57 to 65 (fun sp so wx => ∃ kx, sp = .pointer (some ⟨kx, 0, none⟩) ∧ so = .bool true ∧ Fv wx kx (p2) (q2) ∧ Below w6.heap.size w6 wx)
    case first =>
      go_region_held3 (fun W => Below w6.heap.size w6 W ∧ W.cell? ⟨w1.heap.size, 0, none⟩ = some (.int .i64 s) ∧ W.cell? ⟨w1.heap.size, 1, none⟩ = some (.slice A n C))
        (first | with_reducible exact HSD.out | with_reducible exact HRD.out | with_reducible assumption | with_reducible exact HID.out _ hBN0 | with_reducible exact HID.out _ hBN1 | with_reducible exact HAD.out _ _ (by assumption) | with_reducible exact HID.out _ (hBN1.alloc hBN1.size _) | with_reducible exact HID.out _ ((hBN1.setCell hle _).setCell hle _) | go_keep)
        (first | (have _t := TK0; go_at_call 67; (first | ((with_reducible show Calls Try.prog _ _ (World.alloc wq0 (.cells #[.int .i64 0, .int .i64 0] 40)) _); have BXZ : Box (World.alloc wq0 (.cells #[.int .i64 0, .int .i64 0] 40)) wq0.heap.size 40 (.int .i64 0) (.int .i64 0) := Box.new _ _ _ _; have hle : w6.heap.size ≤ wq0.heap.size := Below.size (show Below w6.heap.size w6 wq0 from by first | exact And.left (by assumption) | assumption)) | skip); refine (HCH.out _ (And.left (by assumption))).mono ?_; rintro e wq1 ⟨rfl, b9⟩; have hBN1 : Below w6.heap.size w6 wq1 := below_on (by assumption) b9; (try (replace BXZ := BXZ.below b9 BXZ.lt)); (try (obtain ⟨d1, d2, f1, f2⟩ := BXZ.cells)); have TK1 : True := trivial) | (go_at_call 60; (first | ((with_reducible show Calls Try.prog _ _ (World.drew (World.alloc w6 (.cells #[.int .i64 0, .int .i64 0] 40))) _); have BXZ : Box (World.drew (World.alloc w6 (.cells #[.int .i64 0, .int .i64 0] 40))) w6.heap.size 40 (.int .i64 0) (.int .i64 0) := Box.new _ _ _ _; have hle : w6.heap.size ≤ w6.heap.size := Nat.le_refl _) | skip); refine (HOS.out _).mono ?_; rintro e wq0 ⟨rfl, b9⟩; have hBN0 : Below w6.heap.size w6 wq0 := below_on (by assumption) b9; (try (replace BXZ := BXZ.below b9 BXZ.lt)); have TK0 : True := trivial))
      all_goals
        go_wp2_with fail
        go_meet
        first | exact ⟨_, rfl, rfl, (BXZ.set0 _).set1 _, (hBN1.setCell hle _).setCell hle _⟩ | exact ⟨_, rfl, rfl, Box.new _ _ _ _, hBN1.alloc hBN1.size _⟩
    case rest =>
    obtain ⟨kg, rfl, rfl, Mg, bx⟩ := hcut
    obtain ⟨w7, rfl⟩ : ∃ X, X = wc := ⟨_, rfl⟩
    have Mm := Hm.out.below bx
    have Mf := Hf.out.below bx
    have BB := HBB.out.trans (bx.mono HBB.out.size)
    clear HID HKD HAD HSD HRD HBB bx Hm Hf
    clear HCH HOS
    have HAF := Lib.hid (fun W => (AddFractions_any p q p2 q2 W HB1.out HB2.out).mono (fun e w' h => And.intro (RetF.yes HSUM.out h.1) h.2))
    have hn0 : (0 : Int) < (n : Int) := by omega
    have hn1 : 0 < n := by omega
    obtain ⟨f1, f2⟩ := Mf.at_ (Below.refl _ _)
    obtain ⟨g1, g2⟩ := Mg.at_ (Below.refl _ _)
    go_wp2_with fail
    clear f1 f2
    clear g1 g2
    refine (HAF.out _).mono ?_
    rintro e w8 ⟨rfl, b8⟩
    replace Mm := Mm.below b8
    replace Mf := Mf.below b8
    replace Mg := Mg.below b8
    replace BB := BB.trans (b8.mono BB.size)
    go_upto_region 10 with fail
    obtain ⟨w9, hw9⟩ : ∃ W, W = w8.alloc (.cells #[.int .i64 1, .int .i64 1] 40) := ⟨_, rfl⟩
    obtain ⟨Mu, b9⟩ := Fv.new w8 (1) (1) hw9
    rw [← hw9]
    clear hw9
    replace Mm := Mm.below b9
    replace Mf := Mf.below b9
    replace Mg := Mg.below b9
    replace BB := BB.trans (b9.mono BB.size)
    clear Mg HAF
    obtain ⟨bA, offA, rfl⟩ := Mm.2.form hn1
    have Hm := Lib.hid Mm
    have Hf := Lib.hid Mf
    have Hu := Lib.hid Mu
    have HBB := Lib.hid BB
    clear BB Mm Mf Mu
    have HBP := Lib.hid (fun W (h : Below w9.heap.size w9 W) => iBelievedPart_any s (y : Int) (some ⟨bA, offA, none⟩) n C xs W (Hm.out.2.below h) hn)
    rw [HBM.out] at HBP
    have HWO := Lib.hid (fun W (h : Below w9.heap.size w9 W) => WholeOf_any s (some ⟨bA, offA, none⟩) n C xs W (Hm.out.2.below h) hn)
    rw [← HWH.out] at HWO
    have HFR := Lib.hid (fun W => (Fractional_any u dd W (by simp [isPartB]; omega) (by simp [isPartB]; omega) hd1).mono (fun e w' h => And.intro (RetF.yes HF3.out h.1) h.2))
    have HC0 := Lib.hid (fun W (h : Below w9.heap.size w9 W) => Hm.out.2.cellAt h (k := 0) hn1)
    rw [← HV0.out] at HC0
    have HIE : Hid (∀ W, Below w9.heap.size w9 W → Below w9.heap.size w9 W ∧ W.cell? ⟨w1.heap.size, 0, none⟩ = some (.int .i64 s) ∧ W.cell? ⟨w1.heap.size, 1, none⟩ = some (.slice (some ⟨bA, offA, none⟩) n C) ∧ W.cell? ⟨bA, offA, none⟩ = some (.int .i64 v0)) := fun W h => ⟨h, (Hm.out.at_ h).1, (Hm.out.at_ h).2, HC0.out W h⟩
    have HKE : Hid (∀ W W', Below W.heap.size W W' → (Below w9.heap.size w9 W ∧ W.cell? ⟨w1.heap.size, 0, none⟩ = some (.int .i64 s) ∧ W.cell? ⟨w1.heap.size, 1, none⟩ = some (.slice (some ⟨bA, offA, none⟩) n C) ∧ W.cell? ⟨bA, offA, none⟩ = some (.int .i64 v0)) → Below w9.heap.size w9 W' ∧ W'.cell? ⟨w1.heap.size, 0, none⟩ = some (.int .i64 s) ∧ W'.cell? ⟨w1.heap.size, 1, none⟩ = some (.slice (some ⟨bA, offA, none⟩) n C) ∧ W'.cell? ⟨bA, offA, none⟩ = some (.int .i64 v0)) := fun W W' b h => HIE.out W' (h.1.trans (b.mono h.1.size))
    have HAE : Hid (∀ W o, (Below w9.heap.size w9 W ∧ W.cell? ⟨w1.heap.size, 0, none⟩ = some (.int .i64 s) ∧ W.cell? ⟨w1.heap.size, 1, none⟩ = some (.slice (some ⟨bA, offA, none⟩) n C) ∧ W.cell? ⟨bA, offA, none⟩ = some (.int .i64 v0)) → Below w9.heap.size w9 (W.alloc o) ∧ (W.alloc o).cell? ⟨w1.heap.size, 0, none⟩ = some (.int .i64 s) ∧ (W.alloc o).cell? ⟨w1.heap.size, 1, none⟩ = some (.slice (some ⟨bA, offA, none⟩) n C) ∧ (W.alloc o).cell? ⟨bA, offA, none⟩ = some (.int .i64 v0)) := fun W o h => HIE.out _ (h.1.alloc h.1.size _)
    have HSE := Lib.hid (HIE.out _ ((Below.refl _ _).drew : Below w9.heap.size w9 w9.drew))
    have HRE := Lib.hid (HIE.out _ (((Below.refl _ _).alloc (Nat.le_refl _) _).drew : Below w9.heap.size w9 (World.drew (w9.alloc (.cells #[.int .i64 0, .int .i64 0] 40)))))
    go_cut [13, 14] from 72 to 85 (fun sp so wx => ∃ kx, sp = .pointer (some ⟨kx, 0, none⟩) ∧ so = .bool true ∧ Fv wx kx (p3) (q3) ∧ Below w9.heap.size w9 wx)
    case first =>
      go_region_held3 (fun W => Below w9.heap.size w9 W ∧ W.cell? ⟨w1.heap.size, 0, none⟩ = some (.int .i64 s) ∧ W.cell? ⟨w1.heap.size, 1, none⟩ = some (.slice (some ⟨bA, offA, none⟩) n C) ∧ W.cell? ⟨bA, offA, none⟩ = some (.int .i64 v0))
        (first | with_reducible exact HSE.out | with_reducible exact HRE.out | with_reducible assumption | with_reducible exact HIE.out _ hBN0 | with_reducible exact HIE.out _ hBN1 | with_reducible exact HIE.out _ hBN2 | with_reducible exact HAE.out _ _ (by assumption) | with_reducible exact HIE.out _ (hBN2.alloc hBN2.size _) | with_reducible exact HIE.out _ ((hBN2.setCell hle _).setCell hle _) | go_keep)
        (first | (have _t := TK1; go_at_call 70; (first | ((with_reducible show Calls Try.prog _ _ (World.alloc wq1 (.cells #[.int .i64 0, .int .i64 0] 40)) _); have BXZ : Box (World.alloc wq1 (.cells #[.int .i64 0, .int .i64 0] 40)) wq1.heap.size 40 (.int .i64 0) (.int .i64 0) := Box.new _ _ _ _; have hle : w9.heap.size ≤ wq1.heap.size := Below.size (show Below w9.heap.size w9 wq1 from by first | exact And.left (by assumption) | assumption)) | skip); refine (HFR.out _).mono ?_; rintro e wq2 ⟨rfl, b9⟩; have hBN2 : Below w9.heap.size w9 wq2 := below_on (by assumption) b9; (try (replace BXZ := BXZ.below b9 BXZ.lt)); (try (obtain ⟨d1, d2, f1, f2⟩ := BXZ.cells)); have TK2 : True := trivial) | (have _t := TK0; go_at_call 20; (first | ((with_reducible show Calls Try.prog _ _ (World.alloc wq0 (.cells #[.int .i64 0, .int .i64 0] 40)) _); have BXZ : Box (World.alloc wq0 (.cells #[.int .i64 0, .int .i64 0] 40)) wq0.heap.size 40 (.int .i64 0) (.int .i64 0) := Box.new _ _ _ _; have hle : w9.heap.size ≤ wq0.heap.size := Below.size (show Below w9.heap.size w9 wq0 from by first | exact And.left (by assumption) | assumption)) | skip); refine (HWO.out _ (And.left (by assumption))).mono ?_; rintro e wq1 ⟨rfl, b9⟩; have hBN1 : Below w9.heap.size w9 wq1 := below_on (by assumption) b9; (try (replace BXZ := BXZ.below b9 BXZ.lt)); have TK1 : True := trivial) | (go_at_call 36; (first | ((with_reducible show Calls Try.prog _ _ (World.drew (World.alloc w9 (.cells #[.int .i64 0, .int .i64 0] 40))) _); have BXZ : Box (World.drew (World.alloc w9 (.cells #[.int .i64 0, .int .i64 0] 40))) w9.heap.size 40 (.int .i64 0) (.int .i64 0) := Box.new _ _ _ _; have hle : w9.heap.size ≤ w9.heap.size := Nat.le_refl _) | skip); refine (HBP.out _ (And.left (by assumption))).mono ?_; rintro e wq0 ⟨rfl, b9⟩; have hBN0 : Below w9.heap.size w9 wq0 := below_on (by assumption) b9; (try (replace BXZ := BXZ.below b9 BXZ.lt)); have TK0 : True := trivial))
      all_goals
        go_wp2_with fail
        go_meet
        first | exact ⟨_, rfl, rfl, (BXZ.set0 _).set1 _, (hBN2.setCell hle _).setCell hle _⟩ | exact ⟨_, rfl, rfl, Box.new _ _ _ _, hBN2.alloc hBN2.size _⟩
    case rest =>
    obtain ⟨ki, rfl, rfl, Mi, bx⟩ := hcut
    obtain ⟨w10, rfl⟩ : ∃ X, X = wc := ⟨_, rfl⟩
    have Mm := Hm.out.below bx
    have Mf := Hf.out.below bx
    have Mu := Hu.out.below bx
    have BB := HBB.out.trans (bx.mono HBB.out.size)
    clear HIE HKE HAE HSE HRE HBB bx Hm Hf Hu
    clear HBP HWO HFR HC0
    go_upto_region 11 with fail
    have Hm := Lib.hid Mm
    have Hf := Lib.hid Mf
    have Hu := Lib.hid Mu
    have Hi := Lib.hid Mi
    have HBB := Lib.hid BB
    clear BB Mm Mf Mu Mi
    have HBP := Lib.hid (fun W (h : Below w10.heap.size w10 W) => iPossiblePart_any s (y : Int) (some ⟨bA, offA, none⟩) n C xs W (Hm.out.2.below h) hn)
    rw [HPM.out] at HBP
    have HWO := Lib.hid (fun W (h : Below w10.heap.size w10 W) => WholeOf_any s (some ⟨bA, offA, none⟩) n C xs W (Hm.out.2.below h) hn)
    rw [← HWH.out] at HWO
    have HFR := Lib.hid (fun W => (Fractional_any v dd W (by simp [isPartB]; omega) (by simp [isPartB]; omega) hd1).mono (fun e w' h => And.intro (RetF.yes HF4.out h.1) h.2))
    have HC0 := Lib.hid (fun W (h : Below w10.heap.size w10 W) => Hm.out.2.cellAt h (k := 0) hn1)
    rw [← HV0.out] at HC0
    have HIF : Hid (∀ W, Below w10.heap.size w10 W → Below w10.heap.size w10 W ∧ W.cell? ⟨w1.heap.size, 0, none⟩ = some (.int .i64 s) ∧ W.cell? ⟨w1.heap.size, 1, none⟩ = some (.slice (some ⟨bA, offA, none⟩) n C) ∧ W.cell? ⟨bA, offA, none⟩ = some (.int .i64 v0)) := fun W h => ⟨h, (Hm.out.at_ h).1, (Hm.out.at_ h).2, HC0.out W h⟩
    have HKF : Hid (∀ W W', Below W.heap.size W W' → (Below w10.heap.size w10 W ∧ W.cell? ⟨w1.heap.size, 0, none⟩ = some (.int .i64 s) ∧ W.cell? ⟨w1.heap.size, 1, none⟩ = some (.slice (some ⟨bA, offA, none⟩) n C) ∧ W.cell? ⟨bA, offA, none⟩ = some (.int .i64 v0)) → Below w10.heap.size w10 W' ∧ W'.cell? ⟨w1.heap.size, 0, none⟩ = some (.int .i64 s) ∧ W'.cell? ⟨w1.heap.size, 1, none⟩ = some (.slice (some ⟨bA, offA, none⟩) n C) ∧ W'.cell? ⟨bA, offA, none⟩ = some (.int .i64 v0)) := fun W W' b h => HIF.out W' (h.1.trans (b.mono h.1.size))
    have HAF : Hid (∀ W o, (Below w10.heap.size w10 W ∧ W.cell? ⟨w1.heap.size, 0, none⟩ = some (.int .i64 s) ∧ W.cell? ⟨w1.heap.size, 1, none⟩ = some (.slice (some ⟨bA, offA, none⟩) n C) ∧ W.cell? ⟨bA, offA, none⟩ = some (.int .i64 v0)) → Below w10.heap.size w10 (W.alloc o) ∧ (W.alloc o).cell? ⟨w1.heap.size, 0, none⟩ = some (.int .i64 s) ∧ (W.alloc o).cell? ⟨w1.heap.size, 1, none⟩ = some (.slice (some ⟨bA, offA, none⟩) n C) ∧ (W.alloc o).cell? ⟨bA, offA, none⟩ = some (.int .i64 v0)) := fun W o h => HIF.out _ (h.1.alloc h.1.size _)
    have HSF := Lib.hid (HIF.out _ ((Below.refl _ _).drew : Below w10.heap.size w10 w10.drew))
    have HRF := Lib.hid (HIF.out _ (((Below.refl _ _).alloc (Nat.le_refl _) _).drew : Below w10.heap.size w10 (World.drew (w10.alloc (.cells #[.int .i64 0, .int .i64 0] 40)))))
    go_cut [15, 16] from 86 to 99 (fun sp so wx => ∃ kx, sp = .pointer (some ⟨kx, 0, none⟩) ∧ so = .bool true ∧ Fv wx kx (p4) (q4) ∧ Below w10.heap.size w10 wx)
    case first =>
      go_region_held3 (fun W => Below w10.heap.size w10 W ∧ W.cell? ⟨w1.heap.size, 0, none⟩ = some (.int .i64 s) ∧ W.cell? ⟨w1.heap.size, 1, none⟩ = some (.slice (some ⟨bA, offA, none⟩) n C) ∧ W.cell? ⟨bA, offA, none⟩ = some (.int .i64 v0))
        (first | with_reducible exact HSF.out | with_reducible exact HRF.out | with_reducible assumption | with_reducible exact HIF.out _ hBN0 | with_reducible exact HIF.out _ hBN1 | with_reducible exact HIF.out _ hBN2 | with_reducible exact HAF.out _ _ (by assumption) | with_reducible exact HIF.out _ (hBN2.alloc hBN2.size _) | with_reducible exact HIF.out _ ((hBN2.setCell hle _).setCell hle _) | go_keep)
        (first | (have _t := TK1; go_at_call 70; (first | ((with_reducible show Calls Try.prog _ _ (World.alloc wq1 (.cells #[.int .i64 0, .int .i64 0] 40)) _); have BXZ : Box (World.alloc wq1 (.cells #[.int .i64 0, .int .i64 0] 40)) wq1.heap.size 40 (.int .i64 0) (.int .i64 0) := Box.new _ _ _ _; have hle : w10.heap.size ≤ wq1.heap.size := Below.size (show Below w10.heap.size w10 wq1 from by first | exact And.left (by assumption) | assumption)) | skip); refine (HFR.out _).mono ?_; rintro e wq2 ⟨rfl, b9⟩; have hBN2 : Below w10.heap.size w10 wq2 := below_on (by assumption) b9; (try (replace BXZ := BXZ.below b9 BXZ.lt)); (try (obtain ⟨d1, d2, f1, f2⟩ := BXZ.cells)); have TK2 : True := trivial) | (have _t := TK0; go_at_call 20; (first | ((with_reducible show Calls Try.prog _ _ (World.alloc wq0 (.cells #[.int .i64 0, .int .i64 0] 40)) _); have BXZ : Box (World.alloc wq0 (.cells #[.int .i64 0, .int .i64 0] 40)) wq0.heap.size 40 (.int .i64 0) (.int .i64 0) := Box.new _ _ _ _; have hle : w10.heap.size ≤ wq0.heap.size := Below.size (show Below w10.heap.size w10 wq0 from by first | exact And.left (by assumption) | assumption)) | skip); refine (HWO.out _ (And.left (by assumption))).mono ?_; rintro e wq1 ⟨rfl, b9⟩; have hBN1 : Below w10.heap.size w10 wq1 := below_on (by assumption) b9; (try (replace BXZ := BXZ.below b9 BXZ.lt)); have TK1 : True := trivial) | (go_at_call 37; (first | ((with_reducible show Calls Try.prog _ _ (World.drew (World.alloc w10 (.cells #[.int .i64 0, .int .i64 0] 40))) _); have BXZ : Box (World.drew (World.alloc w10 (.cells #[.int .i64 0, .int .i64 0] 40))) w10.heap.size 40 (.int .i64 0) (.int .i64 0) := Box.new _ _ _ _; have hle : w10.heap.size ≤ w10.heap.size := Nat.le_refl _) | skip); refine (HBP.out _ (And.left (by assumption))).mono ?_; rintro e wq0 ⟨rfl, b9⟩; have hBN0 : Below w10.heap.size w10 wq0 := below_on (by assumption) b9; (try (replace BXZ := BXZ.below b9 BXZ.lt)); have TK0 : True := trivial))
      all_goals
        go_wp2_with fail
        go_meet
        first | exact ⟨_, rfl, rfl, (BXZ.set0 _).set1 _, (hBN2.setCell hle _).setCell hle _⟩ | exact ⟨_, rfl, rfl, Box.new _ _ _ _, hBN2.alloc hBN2.size _⟩
    case rest =>
    obtain ⟨kj, rfl, rfl, Mj, bx⟩ := hcut
    obtain ⟨w11, rfl⟩ : ∃ X, X = wc := ⟨_, rfl⟩
    have Mm := Hm.out.below bx
    have Mf := Hf.out.below bx
    have Mu := Hu.out.below bx
    have Mi := Hi.out.below bx
    have BB := HBB.out.trans (bx.mono HBB.out.size)
    clear HIF HKF HAF HSF HRF HBB bx Hm Hf Hu Hi
    clear HBP HWO HFR HC0
    have HQ1 := Lib.hid (fun W => LessFraction_any p q p3 q3 W HB1.out HB3.out)
    rw [HL1.out] at HQ1
    have HQ2 := Lib.hid (fun W => LessFraction_any p4 q4 p q W HB4.out HB1.out)
    rw [HL2.out] at HQ2
    obtain ⟨u1, u2⟩ := Mu.at_ (Below.refl _ _)
    obtain ⟨f1, f2⟩ := Mf.at_ (Below.refl _ _)
    obtain ⟨i1, i2⟩ := Mi.at_ (Below.refl _ _)
    go_wp2_with fail
    clear u1 u2
    clear f1 f2
    clear i1 i2
    refine (HQ1.out _).mono ?_
    rintro e w12 ⟨rfl, b12⟩
    replace Mm := Mm.below b12
    replace Mf := Mf.below b12
    replace Mu := Mu.below b12
    replace Mi := Mi.below b12
    replace Mj := Mj.below b12
    replace BB := BB.trans (b12.mono BB.size)
    obtain ⟨f1, f2⟩ := Mf.at_ (Below.refl _ _)
    obtain ⟨j1, j2⟩ := Mj.at_ (Below.refl _ _)
    go_wp2_with fail
    clear f1 f2
    clear j1 j2
    refine (HQ2.out _).mono ?_
    rintro e w13 ⟨rfl, b13⟩
    replace Mm := Mm.below b13
    replace Mf := Mf.below b13
    replace Mu := Mu.below b13
    replace Mi := Mi.below b13
    replace Mj := Mj.below b13
    replace BB := BB.trans (b13.mono BB.size)
    go_wp2_with fail
    go_ret
    exact ⟨by simp, BB⟩
end Go.Proofs.Ytffkpmmgfgcngaa
