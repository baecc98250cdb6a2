/- The walk of the statement FnExactDiscountMass. -/
import Derived.Test.YtapkppnjgbcklaaW39
import Derived.Test.YtapkppnjgbcklaaW40
import Derived.Test.YtapkppnjgbcklaaBase5
import Derived.Deep.RegionHeld3
import Derived.Deep.CutRange
namespace Go.Proofs.Ytapkppnjgbcklaa
open Go.RowKit

set_option maxHeartbeats 6400000 in
set_option maxRecDepth 100000 in
theorem walkDiscountMass (sM : Int) (aM : Option Addr) (nM cM : Nat) (xsM : List Int) (p q : Int) (w : World) (hrM : Row w aM nM xsM) (hbigM : nM ≤ 9223372036854775807) :
    Calls Try.prog 4 #[massV sM aM nM cM, fracV p q] w fun e w' => e = .returned (.bool true) ∧ Below w.heap.size w w' := by
  have hB0 : Below w.heap.size w ((w.alloc (.cells #[.int .i64 sM, .slice aM nM cM] 24)).alloc (.cells #[.int .i64 p, .int .i64 q] 35)) := ((Below.refl w.heap.size w).alloc (Nat.le_refl _) _).alloc (by simp) _
  have HZM := Lib.hid (fun W => szMass_any sM aM nM cM (1048576) W hbigM (by omega))
  by_cases hnM : (nM : Int) ≤ 1048576
  · rw [if_neg (by omega)] at HZM
    have hnM1 : nM ≤ 1048576 := by omega
    have hrM0 := hrM.below hB0
    have HB0 := Lib.hid hB0; clear hB0 hrM
    have HEM : Hid ((sM == sM && eqB xsM xsM) = true) := by show _ = _; simp [eqB_self]
    have hm1 : rN (discR sM xsM p q) ≤ 1048576 := discR_len (by rw [hrM0.1]; exact hnM1)
    have HS := Lib.hid (fun aM cM W (h : Row W aM nM xsM) => sDiscountMass_any sM p q aM nM cM xsM W h hnM1)
    have HI := Lib.hid (fun aM cM W (h : Row W aM nM xsM) => iDiscountMass_any sM p q aM nM cM xsM W h hnM1)
    have HTF := Lib.hid (fun W => toFraction_any p q W)
    obtain ⟨r, hr1⟩ : ∃ r, r = discR sM xsM p q := ⟨_, rfl⟩
    rw [← hr1] at hm1 HS HI
    clear hr1
    obtain ⟨t, ht⟩ : ∃ q, q = rS r := ⟨_, rfl⟩
    obtain ⟨m, hm⟩ : ∃ q, q = rN r := ⟨_, rfl⟩
    obtain ⟨ys, hys⟩ : ∃ q, q = rL r := ⟨_, rfl⟩
    obtain ⟨ok, hok⟩ : ∃ q, q = rB r := ⟨_, rfl⟩
    simp only [RetM, ← ht, ← hm, ← hys, ← hok] at HS HI
    rw [← hm] at hm1
    clear ht hm hys hok
    have HY : Hid ((t == t && eqB ys ys) = true) := by show _ = _; simp [eqB_self]
    obtain ⟨w0, hW0⟩ : ∃ W0, W0 = (w.alloc (.cells #[.int .i64 sM, .slice aM nM cM] 24)).alloc (.cells #[.int .i64 p, .int .i64 q] 35) := ⟨_, rfl⟩
    have BXM : Box w0 w.heap.size 24 (.int .i64 sM) (.slice aM nM cM) := by rw [hW0]; exact (Box.new _ _ _ _).alloc _
    have BXF : Box w0 (w.heap.size + 1) 35 (.int .i64 p) (.int .i64 q) := by rw [hW0]; exact alloc_at (by simp)
    rw [← hW0] at HB0 hrM0
    have HW0 := Lib.hid hW0; clear hW0
    have BB := Below.refl w0.heap.size w0
    go_enter Try.func4, Try.ntmps4
    go_wp2_with fail
    rw [← HW0.out]
    refine (HZM.out _).mono ?_
    rintro e w1 ⟨rfl, b1⟩
    replace BXM := BXM.below b1 BXM.lt
    replace BXF := BXF.below b1 BXF.lt
    replace BB := BB.trans (b1.mono BB.size)
    go_wp2_with fail
    go_cut [6, 7] from 21 to 28 (fun sp so wx => ∃ kx As Cs, sp = .pointer (some ⟨kx, 0, none⟩) ∧ so = .bool ok ∧ Box wx kx 30 (.int .i64 t) (.slice As m Cs) ∧ (∃ B, Own B wx As m Cs ys) ∧ Box wx w.heap.size 24 (.int .i64 sM) (.slice aM nM cM) ∧ Box wx (w.heap.size + 1) 35 (.int .i64 p) (.int .i64 q) ∧ Below w0.heap.size w0 wx)
    case first =>
      obtain ⟨M1, M2, _, _⟩ := BXM.cells
      obtain ⟨F1, F2, _, _⟩ := BXF.cells
      replace BXM := BXM.drew
      replace BXF := BXF.drew
      replace BB := BB.drew
      go_region_held3 (fun W => W.cell? ⟨w.heap.size, 0, none⟩ = some (.int .i64 sM) ∧ W.cell? ⟨w.heap.size, 1, none⟩ = some (.slice aM nM cM) ∧ W.cell? ⟨w.heap.size + 1, 0, none⟩ = some (.int .i64 p) ∧ W.cell? ⟨w.heap.size + 1, 1, none⟩ = some (.int .i64 q))
        (first | exact ⟨(BXM).cells.1, (BXM).cells.2.1, (BXF).cells.1, (BXF).cells.2.1⟩ | exact ⟨(BXM.alloc _).cells.1, (BXM.alloc _).cells.2.1, (BXF.alloc _).cells.1, (BXF.alloc _).cells.2.1⟩ | exact ⟨((BXM.far kqM _).far kqM _).cells.1, ((BXM.far kqM _).far kqM _).cells.2.1, ((BXF.far kqF _).far kqF _).cells.1, ((BXF.far kqF _).far kqF _).cells.2.1⟩ | go_keep)
        (first | (have _t := T3; go_at_call 19; (first | (show Calls Try.prog _ _ (World.alloc w3 (.cells #[.int .i64 0, .slice none 0 0] 30)) _; obtain ⟨wq, hwq⟩ : ∃ X, X = (World.alloc w3 (.cells #[.int .i64 0, .slice none 0 0] 30)) := ⟨_, rfl⟩; rw [← hwq]; have bq : Below w3.heap.size w3 wq := (by rw [hwq]; exact (Below.refl _ _).alloc (Nat.le_refl _) _); have BXZ : Box wq w3.heap.size 30 (.int .i64 0) (.slice none 0 0) := (by rw [hwq]; exact Box.new _ _ _ _); have BBQ := BB.size; have kqM := Nat.ne_of_lt BXM.lt; have kqF := Nat.ne_of_lt BXF.lt; clear hwq; replace BXM := BXM.below bq BXM.lt; replace BXF := BXF.below bq BXF.lt; replace op := op.below bq; replace BB := BB.trans (bq.mono BB.size)) | skip); (try (have hqb4 := BXZ.lt)); refine (HS.out _ _ _ op.row).mono ?_; rintro e w4 ⟨⟨As, Cs, rfl, OS⟩, b4⟩; replace BXM := BXM.below b4 BXM.lt; replace BXF := BXF.below b4 BXF.lt; replace op := op.below b4; replace BB := BB.trans (b4.mono BB.size); (try (replace BXZ := BXZ.below b4 BXZ.lt)); (try (obtain ⟨d1, d2, f1, f2⟩ := BXZ.cells)); have T4 : True := trivial) | (have _t := T2; go_at_call 20; (first | (show Calls Try.prog _ _ (World.alloc w2 (.cells #[.int .i64 0, .slice none 0 0] 30)) _; obtain ⟨wq, hwq⟩ : ∃ X, X = (World.alloc w2 (.cells #[.int .i64 0, .slice none 0 0] 30)) := ⟨_, rfl⟩; rw [← hwq]; have bq : Below w2.heap.size w2 wq := (by rw [hwq]; exact (Below.refl _ _).alloc (Nat.le_refl _) _); have BXZ : Box wq w2.heap.size 30 (.int .i64 0) (.slice none 0 0) := (by rw [hwq]; exact Box.new _ _ _ _); have BBQ := BB.size; have kqM := Nat.ne_of_lt BXM.lt; have kqF := Nat.ne_of_lt BXF.lt; clear hwq; replace BXM := BXM.below bq BXM.lt; replace BXF := BXF.below bq BXF.lt; replace op := op.below bq; replace BB := BB.trans (bq.mono BB.size)) | skip); (try (have hqb3 := BXZ.lt)); refine (HTF.out _).mono ?_; rintro e w3 ⟨rfl, b3⟩; replace BXM := BXM.below b3 BXM.lt; replace BXF := BXF.below b3 BXF.lt; replace op := op.below b3; replace BB := BB.trans (b3.mono BB.size); (try (replace BXZ := BXZ.below b3 BXZ.lt)); have T3 : True := trivial) | (go_at_call 15; (first | (show Calls Try.prog _ _ (World.drew (World.alloc w1 (.cells #[.int .i64 0, .slice none 0 0] 30))) _; obtain ⟨wq, hwq⟩ : ∃ X, X = (World.drew (World.alloc w1 (.cells #[.int .i64 0, .slice none 0 0] 30))) := ⟨_, rfl⟩; rw [← hwq]; have bq : Below w1.heap.size w1.drew wq := (by rw [hwq]; exact below_alloc_drew _ _); have BXZ : Box wq w1.heap.size 30 (.int .i64 0) (.slice none 0 0) := (by rw [hwq]; exact Box.new _ _ _ _); have BBQ := BB.size; have kqM := Nat.ne_of_lt BXM.lt; have kqF := Nat.ne_of_lt BXF.lt; clear hwq; replace BXM := BXM.below bq BXM.lt; replace BXF := BXF.below bq BXF.lt; replace BB := BB.trans (bq.mono BB.size)) | skip); (try (have hqb2 := BXZ.lt)); refine (toMass_any sM aM nM cM xsM _ (by exact hrM0.below BB) hnM1).mono ?_; rintro e w2 ⟨gp, rfl, op, b2⟩; replace BXM := BXM.below b2 BXM.lt; replace BXF := BXF.below b2 BXF.lt; replace BB := BB.trans (b2.mono BB.size); (try (replace BXZ := BXZ.below b2 BXZ.lt)); have T2 : True := trivial))
      all_goals
        go_wp2_with fail
        go_meet
        first | exact ⟨_, _, _, rfl, rfl, Box.new _ _ _ _, ⟨_, OS.below ((Below.refl w4.heap.size w4).alloc (Nat.le_refl _) _)⟩, BXM.alloc _, BXF.alloc _, BB.alloc BB.size _⟩ | exact ⟨_, _, _, rfl, rfl, (BXZ.set0 _).set1 _, ⟨_, OS.setBox hqb4 _ _⟩, (BXM.far kqM _).far kqM _, (BXF.far kqF _).far kqF _, (BB.setCell BBQ _).setCell BBQ _⟩
    case rest =>
    obtain ⟨kQx, As, Cs, rfl, rfl, BXQ, ⟨_, OS⟩, BXM, BXF, BB⟩ := hcut
    obtain ⟨w5, rfl⟩ : ∃ X, X = wc := ⟨_, rfl⟩
    obtain ⟨M1, M2, _, _⟩ := BXM.cells
    go_wp2_with fail
    clear M1 M2
    have USX := OS.under
    have hsX := BB.size
    refine (toMass_any sM aM nM cM xsM _ (by exact hrM0.below BB) hnM1).mono ?_
    rintro e w6 ⟨gXx, rfl, OX, b6⟩
    replace BXM := BXM.below b6 BXM.lt
    replace BXF := BXF.below b6 BXF.lt
    replace BXQ := BXQ.below b6 BXQ.lt
    replace OS := OS.below b6
    replace BB := BB.trans (b6.mono BB.size)
    go_wp2_with fail
    obtain ⟨w7, hw7⟩ : ∃ W, W = w6.alloc (.cells #[.int .i64 sM, .slice (some ⟨gXx, 0, none⟩) nM nM] 30) := ⟨_, rfl⟩
    have b7 : Below w6.heap.size w6 w7 := by rw [hw7]; exact (Below.refl _ _).alloc (Nat.le_refl _) _
    replace BXM := BXM.below b7 BXM.lt
    replace BXF := BXF.below b7 BXF.lt
    replace BXQ := BXQ.below b7 BXQ.lt
    replace OS := OS.below b7
    replace OX := OX.below b7
    replace BB := BB.trans (b7.mono BB.size)
    have BXX : Box w7 w6.heap.size 30 (.int .i64 sM) (.slice (some ⟨gXx, 0, none⟩) nM nM) := by rw [hw7]; exact Box.new _ _ _ _
    rw [← hw7]
    clear hw7
    go_wp2_with fail
    go_cut [9, 10] from 31 to 37 (fun sp so wx => ∃ kx Ag Cg, sp = .pointer (some ⟨kx, 0, none⟩) ∧ so = .bool ok ∧ Box wx kx 30 (.int .i64 t) (.slice Ag m Cg) ∧ (∃ B, Own B wx Ag m Cg ys ∧ w0.heap.size ≤ B ∧ Under B As ∧ Under B (some ⟨gXx, 0, none⟩)) ∧ Box wx w.heap.size 24 (.int .i64 sM) (.slice aM nM cM) ∧ Box wx (w.heap.size + 1) 35 (.int .i64 p) (.int .i64 q) ∧ Box wx kQx 30 (.int .i64 t) (.slice As m Cs) ∧ Box wx w6.heap.size 30 (.int .i64 sM) (.slice (some ⟨gXx, 0, none⟩) nM nM) ∧ (∃ B, Own B wx As m Cs ys) ∧ Own w5.heap.size wx (some ⟨gXx, 0, none⟩) nM nM xsM ∧ Below w0.heap.size w0 wx)
    case first =>
      obtain ⟨X1, X2, _, _⟩ := BXX.cells
      obtain ⟨F1, F2, _, _⟩ := BXF.cells
      replace BXM := BXM.drew
      replace BXF := BXF.drew
      replace BXQ := BXQ.drew
      replace BXX := BXX.drew
      replace OS := OS.below (w' := w7.drew) (Below.refl _ _).drew
      replace OX := OX.below (w' := w7.drew) (Below.refl _ _).drew
      replace BB := BB.drew
      go_region_held3 (fun W => W.cell? ⟨w6.heap.size, 0, none⟩ = some (.int .i64 sM) ∧ W.cell? ⟨w6.heap.size, 1, none⟩ = some (.slice (some ⟨gXx, 0, none⟩) nM nM) ∧ W.cell? ⟨w.heap.size + 1, 0, none⟩ = some (.int .i64 p) ∧ W.cell? ⟨w.heap.size + 1, 1, none⟩ = some (.int .i64 q))
        (first | exact ⟨(BXX).cells.1, (BXX).cells.2.1, (BXF).cells.1, (BXF).cells.2.1⟩ | exact ⟨(BXX.alloc _).cells.1, (BXX.alloc _).cells.2.1, (BXF.alloc _).cells.1, (BXF.alloc _).cells.2.1⟩ | exact ⟨((BXX.far kqX _).far kqX _).cells.1, ((BXX.far kqX _).far kqX _).cells.2.1, ((BXF.far kqF _).far kqF _).cells.1, ((BXF.far kqF _).far kqF _).cells.2.1⟩ | go_keep)
        (first | (have _t := T8; go_at_call 21; (first | (show Calls Try.prog _ _ (World.alloc w8 (.cells #[.int .i64 0, .slice none 0 0] 30)) _; obtain ⟨wq, hwq⟩ : ∃ X, X = (World.alloc w8 (.cells #[.int .i64 0, .slice none 0 0] 30)) := ⟨_, rfl⟩; rw [← hwq]; have bq : Below w8.heap.size w8 wq := (by rw [hwq]; exact (Below.refl _ _).alloc (Nat.le_refl _) _); have BXZ : Box wq w8.heap.size 30 (.int .i64 0) (.slice none 0 0) := (by rw [hwq]; exact Box.new _ _ _ _); have BBQ := BB.size; have kqM := Nat.ne_of_lt BXM.lt; have kqF := Nat.ne_of_lt BXF.lt; have kqQ := Nat.ne_of_lt BXQ.lt; have kqX := Nat.ne_of_lt BXX.lt; have uqS := OS.under; have uqX := OX.under; clear hwq; replace BXM := BXM.below bq BXM.lt; replace BXF := BXF.below bq BXF.lt; replace BXQ := BXQ.below bq BXQ.lt; replace BXX := BXX.below bq BXX.lt; replace OS := OS.below bq; replace OX := OX.below bq; replace BB := BB.trans (bq.mono BB.size)) | skip); (try (have hqb9 := BXZ.lt)); have hsG := BB.size; have USG := OS.under; have UXG := OX.under; refine (HI.out _ _ _ OX.row).mono ?_; rintro e w9 ⟨⟨Ag, Cg, rfl, OG⟩, b9⟩; replace BXM := BXM.below b9 BXM.lt; replace BXF := BXF.below b9 BXF.lt; replace BXQ := BXQ.below b9 BXQ.lt; replace BXX := BXX.below b9 BXX.lt; replace OS := OS.below b9; replace OX := OX.below b9; replace BB := BB.trans (b9.mono BB.size); (try (replace BXZ := BXZ.below b9 BXZ.lt)); (try (obtain ⟨d1, d2, f1, f2⟩ := BXZ.cells)); have T9 : True := trivial) | (go_at_call 20; (first | (show Calls Try.prog _ _ (World.drew (World.alloc w7 (.cells #[.int .i64 0, .slice none 0 0] 30))) _; obtain ⟨wq, hwq⟩ : ∃ X, X = (World.drew (World.alloc w7 (.cells #[.int .i64 0, .slice none 0 0] 30))) := ⟨_, rfl⟩; rw [← hwq]; have bq : Below w7.heap.size w7.drew wq := (by rw [hwq]; exact below_alloc_drew _ _); have BXZ : Box wq w7.heap.size 30 (.int .i64 0) (.slice none 0 0) := (by rw [hwq]; exact Box.new _ _ _ _); have BBQ := BB.size; have kqM := Nat.ne_of_lt BXM.lt; have kqF := Nat.ne_of_lt BXF.lt; have kqQ := Nat.ne_of_lt BXQ.lt; have kqX := Nat.ne_of_lt BXX.lt; have uqS := OS.under; have uqX := OX.under; clear hwq; replace BXM := BXM.below bq BXM.lt; replace BXF := BXF.below bq BXF.lt; replace BXQ := BXQ.below bq BXQ.lt; replace BXX := BXX.below bq BXX.lt; replace OS := OS.below bq; replace OX := OX.below bq; replace BB := BB.trans (bq.mono BB.size)) | skip); (try (have hqb8 := BXZ.lt)); refine (HTF.out _).mono ?_; rintro e w8 ⟨rfl, b8⟩; replace BXM := BXM.below b8 BXM.lt; replace BXF := BXF.below b8 BXF.lt; replace BXQ := BXQ.below b8 BXQ.lt; replace BXX := BXX.below b8 BXX.lt; replace OS := OS.below b8; replace OX := OX.below b8; replace BB := BB.trans (b8.mono BB.size); (try (replace BXZ := BXZ.below b8 BXZ.lt)); have T8 : True := trivial))
      all_goals
        go_wp2_with fail
        go_meet
        first | exact ⟨_, _, _, rfl, rfl, Box.new _ _ _ _, ⟨_, OG.below ((Below.refl w9.heap.size w9).alloc (Nat.le_refl _) _), hsG, USG, UXG⟩, BXM.alloc _, BXF.alloc _, BXQ.alloc _, BXX.alloc _, ⟨_, OS.below ((Below.refl w9.heap.size w9).alloc (Nat.le_refl _) _)⟩, OX.below ((Below.refl w9.heap.size w9).alloc (Nat.le_refl _) _), BB.alloc BB.size _⟩ | exact ⟨_, _, _, rfl, rfl, (BXZ.set0 _).set1 _, ⟨_, OG.setBox hqb9 _ _, hsG, USG, UXG⟩, (BXM.far kqM _).far kqM _, (BXF.far kqF _).far kqF _, (BXQ.far kqQ _).far kqQ _, (BXX.far kqX _).far kqX _, ⟨_, OS.setUnder uqS _ _⟩, OX.setUnder uqX _ _, (BB.setCell BBQ _).setCell BBQ _⟩
    case rest =>
    obtain ⟨kGx, Ag, Cg, rfl, rfl, BXG, ⟨_, OG, hsG, USG, UXG⟩, BXM, BXF, BXQ, BXX, ⟨_, OS⟩, OX, BB⟩ := hcut
    obtain ⟨w10, rfl⟩ : ∃ X, X = wc := ⟨_, rfl⟩
    obtain ⟨G1, G2, _, _⟩ := BXG.cells
    obtain ⟨Q1, Q2, _, _⟩ := BXQ.cells
    go_wp2_with fail
    clear G1 G2
    clear Q1 Q2
    refine (eqMass_any t t _ _ m _ m _ ys ys _ OG.row OS.row hm1 hm1).mono ?_
    rw [HY.out]
    rintro e w11 ⟨rfl, b11⟩
    replace BXM := BXM.below b11 BXM.lt
    replace BXF := BXF.below b11 BXF.lt
    replace BXQ := BXQ.below b11 BXQ.lt
    replace BXX := BXX.below b11 BXX.lt
    replace BXG := BXG.below b11 BXG.lt
    replace OS := OS.below b11
    replace OX := OX.below b11
    replace OG := OG.below b11
    replace BB := BB.trans (b11.mono BB.size)
    obtain ⟨M1, M2, _, _⟩ := BXM.cells
    obtain ⟨X1, X2, _, _⟩ := BXX.cells
    replace BXM := BXM.drew
    replace BXF := BXF.drew
    replace BXQ := BXQ.drew
    replace BXX := BXX.drew
    replace BXG := BXG.drew
    replace OS := OS.below (w' := w11.drew) (Below.refl _ _).drew
    replace OX := OX.below (w' := w11.drew) (Below.refl _ _).drew
    replace OG := OG.below (w' := w11.drew) (Below.refl _ _).drew
    replace BB := BB.drew
    go_wp2_with fail
    go_region_held3 (fun W => W.cell? ⟨w.heap.size, 0, none⟩ = some (.int .i64 sM) ∧ W.cell? ⟨w.heap.size, 1, none⟩ = some (.slice aM nM cM) ∧ W.cell? ⟨w6.heap.size, 0, none⟩ = some (.int .i64 sM) ∧ W.cell? ⟨w6.heap.size, 1, none⟩ = some (.slice (some ⟨gXx, 0, none⟩) nM nM))
      (first | go_keep | exact ⟨BXM.cells.1, BXM.cells.2.1, BXX.cells.1, BXX.cells.2.1⟩)
      (first | (have _t := T12; go_at_call 18; refine (eqMass_any sM sM _ _ nM nM nM nM xsM xsM _ OX.row ocM.row hnM1 hnM1).mono ?_; rw [HEM.out]; rintro e w13 ⟨rfl, b13⟩; replace BXM := BXM.below b13 BXM.lt; replace BXF := BXF.below b13 BXF.lt; replace BXQ := BXQ.below b13 BXQ.lt; replace BXX := BXX.below b13 BXX.lt; replace BXG := BXG.below b13 BXG.lt; replace OS := OS.below b13; replace OX := OX.below b13; replace OG := OG.below b13; replace BB := BB.trans (b13.mono BB.size); have T13 : True := trivial) | (go_at_call 15; refine (toMass_any sM aM nM cM xsM _ (by exact hrM0.below BB) hnM1).mono ?_; rintro e w12 ⟨gcM, rfl, ocM, b12⟩; replace BXM := BXM.below b12 BXM.lt; replace BXF := BXF.below b12 BXF.lt; replace BXQ := BXQ.below b12 BXQ.lt; replace BXX := BXX.below b12 BXX.lt; replace BXG := BXG.below b12 BXG.lt; replace OS := OS.below b12; replace OX := OX.below b12; replace OG := OG.below b12; replace BB := BB.trans (b12.mono BB.size); have T12 : True := trivial))
    clear M1 M2
    clear X1 X2
    clear ocM
    obtain ⟨X1, X2, _, _⟩ := BXX.cells
    go_wp2_with fail
    clear X1 X2
    refine (markMass_any _ sM _ nM _ xsM (1) _ OX hnM1 (by omega)).mono ?_
    rintro e w14 ⟨rfl, NX, g14⟩
    replace BXM := BXM.marked OX g14 (by decide)
    replace BXF := BXF.marked OX g14 (by decide)
    replace BXQ := BXQ.marked OX g14 (by decide)
    replace BXX := BXX.marked OX g14 (by decide)
    replace BXG := BXG.marked OX g14 (by decide)
    replace OS := OS.stays USX OX g14
    replace OG := OG.stays' UXG OX g14
    replace BB := below_marked BB OX g14 hsX BB.size
    clear OX g14
    have OX := NX; clear NX
    clear OX
    obtain ⟨G1, G2, _, _⟩ := BXG.cells
    obtain ⟨Q1, Q2, _, _⟩ := BXQ.cells
    go_wp2_with fail
    clear G1 G2
    clear Q1 Q2
    refine (eqMass_any t t _ _ m _ m _ ys ys _ OG.row OS.row hm1 hm1).mono ?_
    rw [HY.out]
    rintro e w15 ⟨rfl, b15⟩
    replace BXM := BXM.below b15 BXM.lt
    replace BXF := BXF.below b15 BXF.lt
    replace BXQ := BXQ.below b15 BXQ.lt
    replace BXX := BXX.below b15 BXX.lt
    replace BXG := BXG.below b15 BXG.lt
    replace OS := OS.below b15
    replace OG := OG.below b15
    replace BB := BB.trans (b15.mono BB.size)
    obtain ⟨G1, G2, _, _⟩ := BXG.cells
    go_wp2_with fail
    clear G1 G2
    refine (markMass_any _ t _ m _ ys 1 _ OG hm1 (by omega)).mono ?_
    rintro e w16 ⟨rfl, NG, g16⟩
    replace BXM := BXM.marked OG g16 (by decide)
    replace BXF := BXF.marked OG g16 (by decide)
    replace BXQ := BXQ.marked OG g16 (by decide)
    replace BXX := BXX.marked OG g16 (by decide)
    replace BXG := BXG.marked OG g16 (by decide)
    replace OS := OS.stays USG OG g16
    replace BB := below_marked BB OG g16 hsG BB.size
    clear OG g16
    have OG := NG; clear NG
    obtain ⟨G1, G2, _, _⟩ := BXG.cells
    go_wp2_with fail
    clear G1 G2
    refine (heldMass_any t _ m _ 1 _ OG.row hm1 (by omega)).mono ?_
    rintro e w17 ⟨rfl, b17⟩
    replace BXM := BXM.below b17 BXM.lt
    replace BXF := BXF.below b17 BXF.lt
    replace BXQ := BXQ.below b17 BXQ.lt
    replace BXX := BXX.below b17 BXX.lt
    replace BXG := BXG.below b17 BXG.lt
    replace OS := OS.below b17
    replace OG := OG.below b17
    replace BB := BB.trans (b17.mono BB.size)
    go_wp2_with fail
    go_cut [14, 15] from 79 to 86 (fun sp so wx => ∃ kx Ah Ch, sp = .pointer (some ⟨kx, 0, none⟩) ∧ so = .bool ok ∧ Box wx kx 30 (.int .i64 t) (.slice Ah m Ch) ∧ (∃ B, Own B wx Ah m Ch ys) ∧ Box wx kQx 30 (.int .i64 t) (.slice As m Cs) ∧ Box wx kGx 30 (.int .i64 t) (.slice Ag m Cg) ∧ (∃ B, Own B wx As m Cs ys) ∧ (∃ B, Own B wx Ag m Cg (marks m 1)) ∧ Below w0.heap.size w0 wx)
    case first =>
      obtain ⟨M1, M2, _, _⟩ := BXM.cells
      obtain ⟨F1, F2, _, _⟩ := BXF.cells
      replace BXM := BXM.drew
      replace BXF := BXF.drew
      replace BXQ := BXQ.drew
      replace BXX := BXX.drew
      replace BXG := BXG.drew
      replace OS := OS.below (w' := w17.drew) (Below.refl _ _).drew
      replace OG := OG.below (w' := w17.drew) (Below.refl _ _).drew
      replace BB := BB.drew
      go_region_held3 (fun W => W.cell? ⟨w.heap.size, 0, none⟩ = some (.int .i64 sM) ∧ W.cell? ⟨w.heap.size, 1, none⟩ = some (.slice aM nM cM) ∧ W.cell? ⟨w.heap.size + 1, 0, none⟩ = some (.int .i64 p) ∧ W.cell? ⟨w.heap.size + 1, 1, none⟩ = some (.int .i64 q))
        (first | exact ⟨(BXM).cells.1, (BXM).cells.2.1, (BXF).cells.1, (BXF).cells.2.1⟩ | exact ⟨(BXM.alloc _).cells.1, (BXM.alloc _).cells.2.1, (BXF.alloc _).cells.1, (BXF.alloc _).cells.2.1⟩ | exact ⟨((BXM.far kqM _).far kqM _).cells.1, ((BXM.far kqM _).far kqM _).cells.2.1, ((BXF.far kqF _).far kqF _).cells.1, ((BXF.far kqF _).far kqF _).cells.2.1⟩ | go_keep)
        (first | (have _t := T19; go_at_call 21; (first | (show Calls Try.prog _ _ (World.alloc w19 (.cells #[.int .i64 0, .slice none 0 0] 30)) _; obtain ⟨wq, hwq⟩ : ∃ X, X = (World.alloc w19 (.cells #[.int .i64 0, .slice none 0 0] 30)) := ⟨_, rfl⟩; rw [← hwq]; have bq : Below w19.heap.size w19 wq := (by rw [hwq]; exact (Below.refl _ _).alloc (Nat.le_refl _) _); have BXZ : Box wq w19.heap.size 30 (.int .i64 0) (.slice none 0 0) := (by rw [hwq]; exact Box.new _ _ _ _); have BBQ := BB.size; have kqM := Nat.ne_of_lt BXM.lt; have kqF := Nat.ne_of_lt BXF.lt; have kqQ := Nat.ne_of_lt BXQ.lt; have kqX := Nat.ne_of_lt BXX.lt; have kqG := Nat.ne_of_lt BXG.lt; have uqS := OS.under; have uqG := OG.under; clear hwq; replace BXM := BXM.below bq BXM.lt; replace BXF := BXF.below bq BXF.lt; replace BXQ := BXQ.below bq BXQ.lt; replace BXX := BXX.below bq BXX.lt; replace BXG := BXG.below bq BXG.lt; replace OS := OS.below bq; replace OG := OG.below bq; replace ou := ou.below bq; replace BB := BB.trans (bq.mono BB.size)) | skip); (try (have hqb20 := BXZ.lt)); refine (HI.out _ _ _ ou.row).mono ?_; rintro e w20 ⟨⟨Ah, Ch, rfl, OH⟩, b20⟩; replace BXM := BXM.below b20 BXM.lt; replace BXF := BXF.below b20 BXF.lt; replace BXQ := BXQ.below b20 BXQ.lt; replace BXX := BXX.below b20 BXX.lt; replace BXG := BXG.below b20 BXG.lt; replace OS := OS.below b20; replace OG := OG.below b20; replace ou := ou.below b20; replace BB := BB.trans (b20.mono BB.size); (try (replace BXZ := BXZ.below b20 BXZ.lt)); (try (obtain ⟨d1, d2, f1, f2⟩ := BXZ.cells)); have T20 : True := trivial) | (have _t := T18; go_at_call 20; (first | (show Calls Try.prog _ _ (World.alloc w18 (.cells #[.int .i64 0, .slice none 0 0] 30)) _; obtain ⟨wq, hwq⟩ : ∃ X, X = (World.alloc w18 (.cells #[.int .i64 0, .slice none 0 0] 30)) := ⟨_, rfl⟩; rw [← hwq]; have bq : Below w18.heap.size w18 wq := (by rw [hwq]; exact (Below.refl _ _).alloc (Nat.le_refl _) _); have BXZ : Box wq w18.heap.size 30 (.int .i64 0) (.slice none 0 0) := (by rw [hwq]; exact Box.new _ _ _ _); have BBQ := BB.size; have kqM := Nat.ne_of_lt BXM.lt; have kqF := Nat.ne_of_lt BXF.lt; have kqQ := Nat.ne_of_lt BXQ.lt; have kqX := Nat.ne_of_lt BXX.lt; have kqG := Nat.ne_of_lt BXG.lt; have uqS := OS.under; have uqG := OG.under; clear hwq; replace BXM := BXM.below bq BXM.lt; replace BXF := BXF.below bq BXF.lt; replace BXQ := BXQ.below bq BXQ.lt; replace BXX := BXX.below bq BXX.lt; replace BXG := BXG.below bq BXG.lt; replace OS := OS.below bq; replace OG := OG.below bq; replace ou := ou.below bq; replace BB := BB.trans (bq.mono BB.size)) | skip); (try (have hqb19 := BXZ.lt)); refine (HTF.out _).mono ?_; rintro e w19 ⟨rfl, b19⟩; replace BXM := BXM.below b19 BXM.lt; replace BXF := BXF.below b19 BXF.lt; replace BXQ := BXQ.below b19 BXQ.lt; replace BXX := BXX.below b19 BXX.lt; replace BXG := BXG.below b19 BXG.lt; replace OS := OS.below b19; replace OG := OG.below b19; replace ou := ou.below b19; replace BB := BB.trans (b19.mono BB.size); (try (replace BXZ := BXZ.below b19 BXZ.lt)); have T19 : True := trivial) | (go_at_call 15; (first | (show Calls Try.prog _ _ (World.drew (World.alloc w17 (.cells #[.int .i64 0, .slice none 0 0] 30))) _; obtain ⟨wq, hwq⟩ : ∃ X, X = (World.drew (World.alloc w17 (.cells #[.int .i64 0, .slice none 0 0] 30))) := ⟨_, rfl⟩; rw [← hwq]; have bq : Below w17.heap.size w17.drew wq := (by rw [hwq]; exact below_alloc_drew _ _); have BXZ : Box wq w17.heap.size 30 (.int .i64 0) (.slice none 0 0) := (by rw [hwq]; exact Box.new _ _ _ _); have BBQ := BB.size; have kqM := Nat.ne_of_lt BXM.lt; have kqF := Nat.ne_of_lt BXF.lt; have kqQ := Nat.ne_of_lt BXQ.lt; have kqX := Nat.ne_of_lt BXX.lt; have kqG := Nat.ne_of_lt BXG.lt; have uqS := OS.under; have uqG := OG.under; clear hwq; replace BXM := BXM.below bq BXM.lt; replace BXF := BXF.below bq BXF.lt; replace BXQ := BXQ.below bq BXQ.lt; replace BXX := BXX.below bq BXX.lt; replace BXG := BXG.below bq BXG.lt; replace OS := OS.below bq; replace OG := OG.below bq; replace BB := BB.trans (bq.mono BB.size)) | skip); (try (have hqb18 := BXZ.lt)); refine (toMass_any sM aM nM cM xsM _ (by exact hrM0.below BB) hnM1).mono ?_; rintro e w18 ⟨gu, rfl, ou, b18⟩; replace BXM := BXM.below b18 BXM.lt; replace BXF := BXF.below b18 BXF.lt; replace BXQ := BXQ.below b18 BXQ.lt; replace BXX := BXX.below b18 BXX.lt; replace BXG := BXG.below b18 BXG.lt; replace OS := OS.below b18; replace OG := OG.below b18; replace BB := BB.trans (b18.mono BB.size); (try (replace BXZ := BXZ.below b18 BXZ.lt)); have T18 : True := trivial))
      all_goals
        go_wp2_with fail
        go_meet
        first | exact ⟨_, _, _, rfl, rfl, Box.new _ _ _ _, ⟨_, OH.below ((Below.refl w20.heap.size w20).alloc (Nat.le_refl _) _)⟩, BXQ.alloc _, BXG.alloc _, ⟨_, OS.below ((Below.refl w20.heap.size w20).alloc (Nat.le_refl _) _)⟩, ⟨_, OG.below ((Below.refl w20.heap.size w20).alloc (Nat.le_refl _) _)⟩, BB.alloc BB.size _⟩ | exact ⟨_, _, _, rfl, rfl, (BXZ.set0 _).set1 _, ⟨_, OH.setBox hqb20 _ _⟩, (BXQ.far kqQ _).far kqQ _, (BXG.far kqG _).far kqG _, ⟨_, OS.setUnder uqS _ _⟩, ⟨_, OG.setUnder uqG _ _⟩, (BB.setCell BBQ _).setCell BBQ _⟩
    case rest =>
    obtain ⟨kHx, Ah, Ch, rfl, rfl, BXH, ⟨_, OH⟩, BXQ, BXG, ⟨_, OS⟩, ⟨_, OG⟩, BB⟩ := hcut
    obtain ⟨w21, rfl⟩ : ∃ X, X = wc := ⟨_, rfl⟩
    obtain ⟨H1, H2, _, _⟩ := BXH.cells
    obtain ⟨Q1, Q2, _, _⟩ := BXQ.cells
    go_wp2_with fail
    clear H1 H2
    clear Q1 Q2
    refine (eqMass_any t t _ _ m _ m _ ys ys _ OH.row OS.row hm1 hm1).mono ?_
    rw [HY.out]
    rintro e w22 ⟨rfl, b22⟩
    replace BXQ := BXQ.below b22 BXQ.lt
    replace BXG := BXG.below b22 BXG.lt
    replace BXH := BXH.below b22 BXH.lt
    replace OS := OS.below b22
    replace OG := OG.below b22
    replace OH := OH.below b22
    replace BB := BB.trans (b22.mono BB.size)
    obtain ⟨G1, G2, _, _⟩ := BXG.cells
    go_wp2_with fail
    clear G1 G2
    refine (heldMass_any t _ m _ 1 _ OG.row hm1 (by omega)).mono ?_
    rintro e w23 ⟨rfl, b23⟩
    replace BXQ := BXQ.below b23 BXQ.lt
    replace BXG := BXG.below b23 BXG.lt
    replace BXH := BXH.below b23 BXH.lt
    replace OS := OS.below b23
    replace OG := OG.below b23
    replace OH := OH.below b23
    replace BB := BB.trans (b23.mono BB.size)
    go_wp2_with fail
    go_ret
    exact ⟨rfl, HB0.out.trans (BB.mono HB0.out.size)⟩
  · rw [if_pos (by omega)] at HZM
    have HB0 := Lib.hid hB0; clear hB0
    go_enter Try.func4, Try.ntmps4
    go_wp2_with fail
    refine (HZM.out _).mono ?_
    rintro e v0 ⟨rfl, d0⟩
    go_wp2_with fail
    go_ret
    exact ⟨rfl, HB0.out.trans (d0.mono HB0.out.size)⟩
end Go.Proofs.Ytapkppnjgbcklaa
