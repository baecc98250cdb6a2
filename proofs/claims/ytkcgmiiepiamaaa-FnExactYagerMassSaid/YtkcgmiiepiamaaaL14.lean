/- The walk of the statement FnExactYagerMass. -/
import Derived.Test.YtkcgmiiepiamaaaW34
import Derived.Test.YtkcgmiiepiamaaaBase5
import Derived.Deep.RegionHeld3
import Derived.Deep.CutRange
namespace Go.Proofs.Ytkcgmiiepiamaaa
open Go.RowKit

set_option maxHeartbeats 6400000 in
set_option maxRecDepth 100000 in
theorem walkYagerMass (sM : Int) (aM : Option Addr) (nM cM : Nat) (xsM : List Int) (sN : Int) (aN : Option Addr) (nN cN : Nat) (xsN : List Int) (w : World) (hrM : Row w aM nM xsM) (hbigM : nM ≤ 9223372036854775807) (hrN : Row w aN nN xsN) (hbigN : nN ≤ 9223372036854775807) :
    Calls Try.prog 12 #[massV sM aM nM cM, massV sN aN nN cN] w fun e w' => e = .returned (.bool true) ∧ Below w.heap.size w w' := by
  have hB0 : Below w.heap.size w ((w.alloc (.cells #[.int .i64 sM, .slice aM nM cM] 24)).alloc (.cells #[.int .i64 sN, .slice aN nN cN] 24)) := ((Below.refl w.heap.size w).alloc (Nat.le_refl _) _).alloc (by simp) _
  have HZM := Lib.hid (fun W => szMass_any sM aM nM cM (1048576) W hbigM (by omega))
  by_cases hnM : (nM : Int) ≤ 1048576
  · rw [if_neg (by omega)] at HZM
    have HZN := Lib.hid (fun W => szMass_any sN aN nN cN (1048576 - nM) W hbigN (by omega))
    by_cases hnN : (nN : Int) ≤ 1048576 - nM
    · rw [if_neg (by omega)] at HZN
      have hnM1 : nM ≤ 1048576 := by omega
      have hnN1 : nN ≤ 1048576 := by omega
      have hrM0 := hrM.below hB0
      have hrN0 := hrN.below hB0
      have HB0 := Lib.hid hB0; clear hB0 hrM hrN
      have HEM : Hid ((sM == sM && eqB xsM xsM) = true) := by show _ = _; simp [eqB_self]
      have HEN : Hid ((sN == sN && eqB xsN xsN) = true) := by show _ = _; simp [eqB_self]
      have hm1 : rN (yagerR sM xsM sN xsN) ≤ 1048576 := yagerR_len (by rw [hrM0.1]; exact hnM1) (by rw [hrN0.1]; exact hnN1)
      have HS := Lib.hid (fun aM cM aN cN W (hM : Row W aM nM xsM) (hN : Row W aN nN xsN) => sYagerMass_any sM sN aM aN nM nN cM cN xsM xsN W hM hN hnM1 hnN1)
      have HI := Lib.hid (fun aM cM aN cN W (hM : Row W aM nM xsM) (hN : Row W aN nN xsN) => iYagerMass_any sM sN aM aN nM nN cM cN xsM xsN W hM hN hnM1 hnN1)
      obtain ⟨r, hr1⟩ : ∃ r, r = yagerR sM xsM sN xsN := ⟨_, rfl⟩
      rw [← hr1] at hm1 HS HI
      clear hr1
      obtain ⟨t, ht⟩ : ∃ q, q = rS r := ⟨_, rfl⟩
      obtain ⟨m, hm⟩ : ∃ q, q = rN r := ⟨_, rfl⟩
      obtain ⟨ys, hys⟩ : ∃ q, q = rL r := ⟨_, rfl⟩
      obtain ⟨ok, hok⟩ : ∃ q, q = rB r := ⟨_, rfl⟩
      simp only [RetM, ← ht, ← hm, ← hys, ← hok] at HS HI
      rw [← hm] at hm1
      clear ht hm hys hok
      have HY : Hid ((t == t && eqB ys ys) = true) := by show _ = _; simp [eqB_self]
      obtain ⟨w0, hW0⟩ : ∃ W0, W0 = (w.alloc (.cells #[.int .i64 sM, .slice aM nM cM] 24)).alloc (.cells #[.int .i64 sN, .slice aN nN cN] 24) := ⟨_, rfl⟩
      have BXM : Box w0 w.heap.size 24 (.int .i64 sM) (.slice aM nM cM) := by rw [hW0]; exact (Box.new _ _ _ _).alloc _
      have BXN : Box w0 (w.heap.size + 1) 24 (.int .i64 sN) (.slice aN nN cN) := by rw [hW0]; exact alloc_at (by simp)
      rw [← hW0] at HB0 hrM0 hrN0
      have HW0 := Lib.hid hW0; clear hW0
      have BB := Below.refl w0.heap.size w0
      go_enter Try.func12, Try.ntmps12
      go_wp2_with fail
      rw [← HW0.out]
      refine (HZM.out _).mono ?_
      rintro e w1 ⟨rfl, b1⟩
      replace BXM := BXM.below b1 BXM.lt
      replace BXN := BXN.below b1 BXN.lt
      replace BB := BB.trans (b1.mono BB.size)
      obtain ⟨N1, N2, _, _⟩ := BXN.cells
      go_wp2_with fail
      clear N1 N2
      refine (HZN.out _).mono ?_
      rintro e w2 ⟨rfl, b2⟩
      replace BXM := BXM.below b2 BXM.lt
      replace BXN := BXN.below b2 BXN.lt
      replace BB := BB.trans (b2.mono BB.size)
      go_wp2_with fail
      go_cut [6, 7] from 27 to 34 (fun sp so wx => ∃ kx As Cs, sp = .pointer (some ⟨kx, 0, none⟩) ∧ so = .bool ok ∧ Box wx kx 26 (.int .i64 t) (.slice As m Cs) ∧ (∃ B, Own B wx As m Cs ys) ∧ Box wx w.heap.size 24 (.int .i64 sM) (.slice aM nM cM) ∧ Box wx (w.heap.size + 1) 24 (.int .i64 sN) (.slice aN nN cN) ∧ Below w0.heap.size w0 wx)
      case first =>
        obtain ⟨M1, M2, _, _⟩ := BXM.cells
        obtain ⟨N1, N2, _, _⟩ := BXN.cells
        replace BXM := BXM.drew
        replace BXN := BXN.drew
        replace BB := BB.drew
        go_region_held3 (fun W => W.cell? ⟨w.heap.size, 0, none⟩ = some (.int .i64 sM) ∧ W.cell? ⟨w.heap.size, 1, none⟩ = some (.slice aM nM cM) ∧ W.cell? ⟨w.heap.size + 1, 0, none⟩ = some (.int .i64 sN) ∧ W.cell? ⟨w.heap.size + 1, 1, none⟩ = some (.slice aN nN cN))
          (first | exact ⟨(BXM).cells.1, (BXM).cells.2.1, (BXN).cells.1, (BXN).cells.2.1⟩ | exact ⟨(BXM.alloc _).cells.1, (BXM.alloc _).cells.2.1, (BXN.alloc _).cells.1, (BXN.alloc _).cells.2.1⟩ | exact ⟨((BXM.far kqM _).far kqM _).cells.1, ((BXM.far kqM _).far kqM _).cells.2.1, ((BXN.far kqN _).far kqN _).cells.1, ((BXN.far kqN _).far kqN _).cells.2.1⟩ | go_keep)
          (first | (have _t := T4; go_at_call 39; (first | (show Calls Try.prog _ _ (World.alloc w4 (.cells #[.int .i64 0, .slice none 0 0] 26)) _; obtain ⟨wq, hwq⟩ : ∃ X, X = (World.alloc w4 (.cells #[.int .i64 0, .slice none 0 0] 26)) := ⟨_, rfl⟩; rw [← hwq]; have bq : Below w4.heap.size w4 wq := (by rw [hwq]; exact (Below.refl _ _).alloc (Nat.le_refl _) _); have BXZ : Box wq w4.heap.size 26 (.int .i64 0) (.slice none 0 0) := (by rw [hwq]; exact Box.new _ _ _ _); have BBQ := BB.size; have kqM := Nat.ne_of_lt BXM.lt; have kqN := Nat.ne_of_lt BXN.lt; clear hwq; replace BXM := BXM.below bq BXM.lt; replace BXN := BXN.below bq BXN.lt; replace op := op.below bq; replace oq := oq.below bq; replace BB := BB.trans (bq.mono BB.size)) | skip); (try (have hqb5 := BXZ.lt)); refine (HS.out _ _ _ _ _ op.row oq.row).mono ?_; rintro e w5 ⟨⟨As, Cs, rfl, OS⟩, b5⟩; replace BXM := BXM.below b5 BXM.lt; replace BXN := BXN.below b5 BXN.lt; replace op := op.below b5; replace oq := oq.below b5; replace BB := BB.trans (b5.mono BB.size); (try (replace BXZ := BXZ.below b5 BXZ.lt)); (try (obtain ⟨d1, d2, f1, f2⟩ := BXZ.cells)); have T5 : True := trivial) | (have _t := T3; go_at_call 17; (first | (show Calls Try.prog _ _ (World.alloc w3 (.cells #[.int .i64 0, .slice none 0 0] 26)) _; obtain ⟨wq, hwq⟩ : ∃ X, X = (World.alloc w3 (.cells #[.int .i64 0, .slice none 0 0] 26)) := ⟨_, rfl⟩; rw [← hwq]; have bq : Below w3.heap.size w3 wq := (by rw [hwq]; exact (Below.refl _ _).alloc (Nat.le_refl _) _); have BXZ : Box wq w3.heap.size 26 (.int .i64 0) (.slice none 0 0) := (by rw [hwq]; exact Box.new _ _ _ _); have BBQ := BB.size; have kqM := Nat.ne_of_lt BXM.lt; have kqN := Nat.ne_of_lt BXN.lt; clear hwq; replace BXM := BXM.below bq BXM.lt; replace BXN := BXN.below bq BXN.lt; replace op := op.below bq; replace BB := BB.trans (bq.mono BB.size)) | skip); (try (have hqb4 := BXZ.lt)); refine (toMass_any sN aN nN cN xsN _ (by exact hrN0.below BB) hnN1).mono ?_; rintro e w4 ⟨gq, rfl, oq, b4⟩; replace BXM := BXM.below b4 BXM.lt; replace BXN := BXN.below b4 BXN.lt; replace op := op.below b4; replace BB := BB.trans (b4.mono BB.size); (try (replace BXZ := BXZ.below b4 BXZ.lt)); have T4 : True := trivial) | (go_at_call 17; (first | (show Calls Try.prog _ _ (World.drew (World.alloc w2 (.cells #[.int .i64 0, .slice none 0 0] 26))) _; obtain ⟨wq, hwq⟩ : ∃ X, X = (World.drew (World.alloc w2 (.cells #[.int .i64 0, .slice none 0 0] 26))) := ⟨_, rfl⟩; rw [← hwq]; have bq : Below w2.heap.size w2.drew wq := (by rw [hwq]; exact below_alloc_drew _ _); have BXZ : Box wq w2.heap.size 26 (.int .i64 0) (.slice none 0 0) := (by rw [hwq]; exact Box.new _ _ _ _); have BBQ := BB.size; have kqM := Nat.ne_of_lt BXM.lt; have kqN := Nat.ne_of_lt BXN.lt; clear hwq; replace BXM := BXM.below bq BXM.lt; replace BXN := BXN.below bq BXN.lt; replace BB := BB.trans (bq.mono BB.size)) | skip); (try (have hqb3 := BXZ.lt)); refine (toMass_any sM aM nM cM xsM _ (by exact hrM0.below BB) hnM1).mono ?_; rintro e w3 ⟨gp, rfl, op, b3⟩; replace BXM := BXM.below b3 BXM.lt; replace BXN := BXN.below b3 BXN.lt; replace BB := BB.trans (b3.mono BB.size); (try (replace BXZ := BXZ.below b3 BXZ.lt)); have T3 : True := trivial))
        all_goals
          go_wp2_with fail
          go_meet
          first | exact ⟨_, _, _, rfl, rfl, Box.new _ _ _ _, ⟨_, OS.below ((Below.refl w5.heap.size w5).alloc (Nat.le_refl _) _)⟩, BXM.alloc _, BXN.alloc _, BB.alloc BB.size _⟩ | exact ⟨_, _, _, rfl, rfl, (BXZ.set0 _).set1 _, ⟨_, OS.setBox hqb5 _ _⟩, (BXM.far kqM _).far kqM _, (BXN.far kqN _).far kqN _, (BB.setCell BBQ _).setCell BBQ _⟩
      case rest =>
      obtain ⟨kQx, As, Cs, rfl, rfl, BXQ, ⟨_, OS⟩, BXM, BXN, BB⟩ := hcut
      obtain ⟨w6, rfl⟩ : ∃ X, X = wc := ⟨_, rfl⟩
      obtain ⟨M1, M2, _, _⟩ := BXM.cells
      go_wp2_with fail
      clear M1 M2
      have USX := OS.under
      have hsX := BB.size
      refine (toMass_any sM aM nM cM xsM _ (by exact hrM0.below BB) hnM1).mono ?_
      rintro e w7 ⟨gXx, rfl, OX, b7⟩
      replace BXM := BXM.below b7 BXM.lt
      replace BXN := BXN.below b7 BXN.lt
      replace BXQ := BXQ.below b7 BXQ.lt
      replace OS := OS.below b7
      replace BB := BB.trans (b7.mono BB.size)
      obtain ⟨N1, N2, _, _⟩ := BXN.cells
      have zN := BXN.lt
      go_wp2_with fail
      clear N1 N2 zN
      obtain ⟨w8, hw8⟩ : ∃ W, W = w7.alloc (.cells #[.int .i64 sM, .slice (some ⟨gXx, 0, none⟩) nM nM] 26) := ⟨_, rfl⟩
      have b8 : Below w7.heap.size w7 w8 := by rw [hw8]; exact (Below.refl _ _).alloc (Nat.le_refl _) _
      replace BXM := BXM.below b8 BXM.lt
      replace BXN := BXN.below b8 BXN.lt
      replace BXQ := BXQ.below b8 BXQ.lt
      replace OS := OS.below b8
      replace OX := OX.below b8
      replace BB := BB.trans (b8.mono BB.size)
      have BXX : Box w8 w7.heap.size 26 (.int .i64 sM) (.slice (some ⟨gXx, 0, none⟩) nM nM) := by rw [hw8]; exact Box.new _ _ _ _
      rw [← hw8]
      clear hw8
      have USY := OS.under
      have UXY := OX.under
      have hsY := BB.size
      refine (toMass_any sN aN nN cN xsN _ (by exact hrN0.below BB) hnN1).mono ?_
      rintro e w9 ⟨gYx, rfl, OY, b9⟩
      replace BXM := BXM.below b9 BXM.lt
      replace BXN := BXN.below b9 BXN.lt
      replace BXQ := BXQ.below b9 BXQ.lt
      replace BXX := BXX.below b9 BXX.lt
      replace OS := OS.below b9
      replace OX := OX.below b9
      replace BB := BB.trans (b9.mono BB.size)
      obtain ⟨X1, X2, _, _⟩ := BXX.cells
      have zX := BXX.lt
      go_wp2_with fail
      clear X1 X2 zX
      obtain ⟨w10, hw10⟩ : ∃ W, W = w9.alloc (.cells #[.int .i64 sN, .slice (some ⟨gYx, 0, none⟩) nN nN] 26) := ⟨_, rfl⟩
      have b10 : Below w9.heap.size w9 w10 := by rw [hw10]; exact (Below.refl _ _).alloc (Nat.le_refl _) _
      replace BXM := BXM.below b10 BXM.lt
      replace BXN := BXN.below b10 BXN.lt
      replace BXQ := BXQ.below b10 BXQ.lt
      replace BXX := BXX.below b10 BXX.lt
      replace OS := OS.below b10
      replace OX := OX.below b10
      replace OY := OY.below b10
      replace BB := BB.trans (b10.mono BB.size)
      have BXY : Box w10 w9.heap.size 26 (.int .i64 sN) (.slice (some ⟨gYx, 0, none⟩) nN nN) := by rw [hw10]; exact Box.new _ _ _ _
      rw [← hw10]
      clear hw10
      have USG := OS.under
      have UXG := OX.under
      have UYG := OY.under
      have hsG := BB.size
      refine (HI.out _ _ _ _ _ OX.row OY.row).mono ?_
      rintro e w11 ⟨⟨Ag, Cg, rfl, OG⟩, b11⟩
      replace BXM := BXM.below b11 BXM.lt
      replace BXN := BXN.below b11 BXN.lt
      replace BXQ := BXQ.below b11 BXQ.lt
      replace BXX := BXX.below b11 BXX.lt
      replace BXY := BXY.below b11 BXY.lt
      replace OS := OS.below b11
      replace OX := OX.below b11
      replace OY := OY.below b11
      replace BB := BB.trans (b11.mono BB.size)
      obtain ⟨Q1, Q2, _, _⟩ := BXQ.cells
      have zQ := BXQ.lt
      go_wp2_with fail
      clear Q1 Q2 zQ
      obtain ⟨w12, hw12⟩ : ∃ W, W = w11.alloc (.cells #[.int .i64 t, .slice Ag m Cg] 26) := ⟨_, rfl⟩
      have b12 : Below w11.heap.size w11 w12 := by rw [hw12]; exact (Below.refl _ _).alloc (Nat.le_refl _) _
      replace BXM := BXM.below b12 BXM.lt
      replace BXN := BXN.below b12 BXN.lt
      replace BXQ := BXQ.below b12 BXQ.lt
      replace BXX := BXX.below b12 BXX.lt
      replace BXY := BXY.below b12 BXY.lt
      replace OS := OS.below b12
      replace OX := OX.below b12
      replace OY := OY.below b12
      replace OG := OG.below b12
      replace BB := BB.trans (b12.mono BB.size)
      have BXG : Box w12 w11.heap.size 26 (.int .i64 t) (.slice Ag m Cg) := by rw [hw12]; exact Box.new _ _ _ _
      rw [← hw12]
      clear hw12
      refine (eqMass_any t t _ _ m _ m _ ys ys _ OG.row OS.row hm1 hm1).mono ?_
      rw [HY.out]
      rintro e w13 ⟨rfl, b13⟩
      replace BXM := BXM.below b13 BXM.lt
      replace BXN := BXN.below b13 BXN.lt
      replace BXQ := BXQ.below b13 BXQ.lt
      replace BXX := BXX.below b13 BXX.lt
      replace BXY := BXY.below b13 BXY.lt
      replace BXG := BXG.below b13 BXG.lt
      replace OS := OS.below b13
      replace OX := OX.below b13
      replace OY := OY.below b13
      replace OG := OG.below b13
      replace BB := BB.trans (b13.mono BB.size)
      obtain ⟨M1, M2, _, _⟩ := BXM.cells
      obtain ⟨X1, X2, _, _⟩ := BXX.cells
      replace BXM := BXM.drew
      replace BXN := BXN.drew
      replace BXQ := BXQ.drew
      replace BXX := BXX.drew
      replace BXY := BXY.drew
      replace BXG := BXG.drew
      replace OS := OS.below (w' := w13.drew) (Below.refl _ _).drew
      replace OX := OX.below (w' := w13.drew) (Below.refl _ _).drew
      replace OY := OY.below (w' := w13.drew) (Below.refl _ _).drew
      replace OG := OG.below (w' := w13.drew) (Below.refl _ _).drew
      replace BB := BB.drew
      go_wp2_with fail
      go_region_held3 (fun W => W.cell? ⟨w.heap.size, 0, none⟩ = some (.int .i64 sM) ∧ W.cell? ⟨w.heap.size, 1, none⟩ = some (.slice aM nM cM) ∧ W.cell? ⟨w7.heap.size, 0, none⟩ = some (.int .i64 sM) ∧ W.cell? ⟨w7.heap.size, 1, none⟩ = some (.slice (some ⟨gXx, 0, none⟩) nM nM))
        (first | go_keep | exact ⟨BXM.cells.1, BXM.cells.2.1, BXX.cells.1, BXX.cells.2.1⟩)
        (first | (have _t := T14; go_at_call 19; refine (eqMass_any sM sM _ _ nM nM nM nM xsM xsM _ OX.row ocM.row hnM1 hnM1).mono ?_; rw [HEM.out]; rintro e w15 ⟨rfl, b15⟩; replace BXM := BXM.below b15 BXM.lt; replace BXN := BXN.below b15 BXN.lt; replace BXQ := BXQ.below b15 BXQ.lt; replace BXX := BXX.below b15 BXX.lt; replace BXY := BXY.below b15 BXY.lt; replace BXG := BXG.below b15 BXG.lt; replace OS := OS.below b15; replace OX := OX.below b15; replace OY := OY.below b15; replace OG := OG.below b15; replace BB := BB.trans (b15.mono BB.size); have T15 : True := trivial) | (go_at_call 17; refine (toMass_any sM aM nM cM xsM _ (by exact hrM0.below BB) hnM1).mono ?_; rintro e w14 ⟨gcM, rfl, ocM, b14⟩; replace BXM := BXM.below b14 BXM.lt; replace BXN := BXN.below b14 BXN.lt; replace BXQ := BXQ.below b14 BXQ.lt; replace BXX := BXX.below b14 BXX.lt; replace BXY := BXY.below b14 BXY.lt; replace BXG := BXG.below b14 BXG.lt; replace OS := OS.below b14; replace OX := OX.below b14; replace OY := OY.below b14; replace OG := OG.below b14; replace BB := BB.trans (b14.mono BB.size); have T14 : True := trivial))
      clear M1 M2
      clear X1 X2
      clear ocM
      obtain ⟨N1, N2, _, _⟩ := BXN.cells
      obtain ⟨Y1, Y2, _, _⟩ := BXY.cells
      replace BXM := BXM.drew
      replace BXN := BXN.drew
      replace BXQ := BXQ.drew
      replace BXX := BXX.drew
      replace BXY := BXY.drew
      replace BXG := BXG.drew
      replace OS := OS.below (w' := w15.drew) (Below.refl _ _).drew
      replace OX := OX.below (w' := w15.drew) (Below.refl _ _).drew
      replace OY := OY.below (w' := w15.drew) (Below.refl _ _).drew
      replace OG := OG.below (w' := w15.drew) (Below.refl _ _).drew
      replace BB := BB.drew
      go_wp2_with fail
      go_region_held3 (fun W => W.cell? ⟨w.heap.size + 1, 0, none⟩ = some (.int .i64 sN) ∧ W.cell? ⟨w.heap.size + 1, 1, none⟩ = some (.slice aN nN cN) ∧ W.cell? ⟨w9.heap.size, 0, none⟩ = some (.int .i64 sN) ∧ W.cell? ⟨w9.heap.size, 1, none⟩ = some (.slice (some ⟨gYx, 0, none⟩) nN nN))
        (first | go_keep | exact ⟨BXN.cells.1, BXN.cells.2.1, BXY.cells.1, BXY.cells.2.1⟩)
        (first | (have _t := T16; go_at_call 19; refine (eqMass_any sN sN _ _ nN nN nN nN xsN xsN _ OY.row ocN.row hnN1 hnN1).mono ?_; rw [HEN.out]; rintro e w17 ⟨rfl, b17⟩; replace BXM := BXM.below b17 BXM.lt; replace BXN := BXN.below b17 BXN.lt; replace BXQ := BXQ.below b17 BXQ.lt; replace BXX := BXX.below b17 BXX.lt; replace BXY := BXY.below b17 BXY.lt; replace BXG := BXG.below b17 BXG.lt; replace OS := OS.below b17; replace OX := OX.below b17; replace OY := OY.below b17; replace OG := OG.below b17; replace BB := BB.trans (b17.mono BB.size); have T17 : True := trivial) | (go_at_call 17; refine (toMass_any sN aN nN cN xsN _ (by exact hrN0.below BB) hnN1).mono ?_; rintro e w16 ⟨gcN, rfl, ocN, b16⟩; replace BXM := BXM.below b16 BXM.lt; replace BXN := BXN.below b16 BXN.lt; replace BXQ := BXQ.below b16 BXQ.lt; replace BXX := BXX.below b16 BXX.lt; replace BXY := BXY.below b16 BXY.lt; replace BXG := BXG.below b16 BXG.lt; replace OS := OS.below b16; replace OX := OX.below b16; replace OY := OY.below b16; replace OG := OG.below b16; replace BB := BB.trans (b16.mono BB.size); have T16 : True := trivial))
      clear N1 N2
      clear Y1 Y2
      clear ocN
      obtain ⟨X1, X2, _, _⟩ := BXX.cells
      go_wp2_with fail
      clear X1 X2
      refine (markMass_any _ sM _ nM _ xsM (1) _ OX hnM1 (by omega)).mono ?_
      rintro e w18 ⟨rfl, NX, g18⟩
      replace BXM := BXM.marked OX g18 (by decide)
      replace BXN := BXN.marked OX g18 (by decide)
      replace BXQ := BXQ.marked OX g18 (by decide)
      replace BXX := BXX.marked OX g18 (by decide)
      replace BXY := BXY.marked OX g18 (by decide)
      replace BXG := BXG.marked OX g18 (by decide)
      replace OS := OS.stays USX OX g18
      replace OY := OY.stays' UXY OX g18
      replace OG := OG.stays' UXG OX g18
      replace BB := below_marked BB OX g18 hsX BB.size
      clear OX g18
      have OX := NX; clear NX
      clear OX
      obtain ⟨Y1, Y2, _, _⟩ := BXY.cells
      go_wp2_with fail
      clear Y1 Y2
      refine (markMass_any _ sN _ nN _ xsN (1 + (nM : Int)) _ OY hnN1 (by omega)).mono ?_
      rintro e w19 ⟨rfl, NY, g19⟩
      replace BXM := BXM.marked OY g19 (by decide)
      replace BXN := BXN.marked OY g19 (by decide)
      replace BXQ := BXQ.marked OY g19 (by decide)
      replace BXX := BXX.marked OY g19 (by decide)
      replace BXY := BXY.marked OY g19 (by decide)
      replace BXG := BXG.marked OY g19 (by decide)
      replace OS := OS.stays USY OY g19
      replace OG := OG.stays' UYG OY g19
      replace BB := below_marked BB OY g19 hsY BB.size
      clear OY g19
      have OY := NY; clear NY
      clear OY
      obtain ⟨G1, G2, _, _⟩ := BXG.cells
      obtain ⟨Q1, Q2, _, _⟩ := BXQ.cells
      go_wp2_with fail
      clear G1 G2
      clear Q1 Q2
      refine (eqMass_any t t _ _ m _ m _ ys ys _ OG.row OS.row hm1 hm1).mono ?_
      rw [HY.out]
      rintro e w20 ⟨rfl, b20⟩
      replace BXM := BXM.below b20 BXM.lt
      replace BXN := BXN.below b20 BXN.lt
      replace BXQ := BXQ.below b20 BXQ.lt
      replace BXX := BXX.below b20 BXX.lt
      replace BXY := BXY.below b20 BXY.lt
      replace BXG := BXG.below b20 BXG.lt
      replace OS := OS.below b20
      replace OG := OG.below b20
      replace BB := BB.trans (b20.mono BB.size)
      obtain ⟨G1, G2, _, _⟩ := BXG.cells
      go_wp2_with fail
      clear G1 G2
      refine (markMass_any _ t _ m _ ys 1 _ OG hm1 (by omega)).mono ?_
      rintro e w21 ⟨rfl, NG, g21⟩
      replace BXM := BXM.marked OG g21 (by decide)
      replace BXN := BXN.marked OG g21 (by decide)
      replace BXQ := BXQ.marked OG g21 (by decide)
      replace BXX := BXX.marked OG g21 (by decide)
      replace BXY := BXY.marked OG g21 (by decide)
      replace BXG := BXG.marked OG g21 (by decide)
      replace OS := OS.stays USG OG g21
      replace BB := below_marked BB OG g21 hsG BB.size
      clear OG g21
      have OG := NG; clear NG
      obtain ⟨G1, G2, _, _⟩ := BXG.cells
      go_wp2_with fail
      clear G1 G2
      refine (heldMass_any t _ m _ 1 _ OG.row hm1 (by omega)).mono ?_
      rintro e w22 ⟨rfl, b22⟩
      replace BXM := BXM.below b22 BXM.lt
      replace BXN := BXN.below b22 BXN.lt
      replace BXQ := BXQ.below b22 BXQ.lt
      replace BXX := BXX.below b22 BXX.lt
      replace BXY := BXY.below b22 BXY.lt
      replace BXG := BXG.below b22 BXG.lt
      replace OS := OS.below b22
      replace OG := OG.below b22
      replace BB := BB.trans (b22.mono BB.size)
      go_wp2_with fail
      go_cut [15, 16] from 94 to 101 (fun sp so wx => ∃ kx Ah Ch, sp = .pointer (some ⟨kx, 0, none⟩) ∧ so = .bool ok ∧ Box wx kx 26 (.int .i64 t) (.slice Ah m Ch) ∧ (∃ B, Own B wx Ah m Ch ys) ∧ Box wx kQx 26 (.int .i64 t) (.slice As m Cs) ∧ Box wx w11.heap.size 26 (.int .i64 t) (.slice Ag m Cg) ∧ (∃ B, Own B wx As m Cs ys) ∧ (∃ B, Own B wx Ag m Cg (marks m 1)) ∧ Below w0.heap.size w0 wx)
      case first =>
        obtain ⟨M1, M2, _, _⟩ := BXM.cells
        obtain ⟨N1, N2, _, _⟩ := BXN.cells
        replace BXM := BXM.drew
        replace BXN := BXN.drew
        replace BXQ := BXQ.drew
        replace BXX := BXX.drew
        replace BXY := BXY.drew
        replace BXG := BXG.drew
        replace OS := OS.below (w' := w22.drew) (Below.refl _ _).drew
        replace OG := OG.below (w' := w22.drew) (Below.refl _ _).drew
        replace BB := BB.drew
        go_region_held3 (fun W => W.cell? ⟨w.heap.size, 0, none⟩ = some (.int .i64 sM) ∧ W.cell? ⟨w.heap.size, 1, none⟩ = some (.slice aM nM cM) ∧ W.cell? ⟨w.heap.size + 1, 0, none⟩ = some (.int .i64 sN) ∧ W.cell? ⟨w.heap.size + 1, 1, none⟩ = some (.slice aN nN cN))
          (first | exact ⟨(BXM).cells.1, (BXM).cells.2.1, (BXN).cells.1, (BXN).cells.2.1⟩ | exact ⟨(BXM.alloc _).cells.1, (BXM.alloc _).cells.2.1, (BXN.alloc _).cells.1, (BXN.alloc _).cells.2.1⟩ | exact ⟨((BXM.far kqM _).far kqM _).cells.1, ((BXM.far kqM _).far kqM _).cells.2.1, ((BXN.far kqN _).far kqN _).cells.1, ((BXN.far kqN _).far kqN _).cells.2.1⟩ | go_keep)
          (first | (have _t := T24; go_at_call 40; (first | (show Calls Try.prog _ _ (World.alloc w24 (.cells #[.int .i64 0, .slice none 0 0] 26)) _; obtain ⟨wq, hwq⟩ : ∃ X, X = (World.alloc w24 (.cells #[.int .i64 0, .slice none 0 0] 26)) := ⟨_, rfl⟩; rw [← hwq]; have bq : Below w24.heap.size w24 wq := (by rw [hwq]; exact (Below.refl _ _).alloc (Nat.le_refl _) _); have BXZ : Box wq w24.heap.size 26 (.int .i64 0) (.slice none 0 0) := (by rw [hwq]; exact Box.new _ _ _ _); have BBQ := BB.size; have kqM := Nat.ne_of_lt BXM.lt; have kqN := Nat.ne_of_lt BXN.lt; have kqQ := Nat.ne_of_lt BXQ.lt; have kqX := Nat.ne_of_lt BXX.lt; have kqY := Nat.ne_of_lt BXY.lt; have kqG := Nat.ne_of_lt BXG.lt; have uqS := OS.under; have uqG := OG.under; clear hwq; replace BXM := BXM.below bq BXM.lt; replace BXN := BXN.below bq BXN.lt; replace BXQ := BXQ.below bq BXQ.lt; replace BXX := BXX.below bq BXX.lt; replace BXY := BXY.below bq BXY.lt; replace BXG := BXG.below bq BXG.lt; replace OS := OS.below bq; replace OG := OG.below bq; replace ou := ou.below bq; replace ov := ov.below bq; replace BB := BB.trans (bq.mono BB.size)) | skip); (try (have hqb25 := BXZ.lt)); refine (HI.out _ _ _ _ _ ou.row ov.row).mono ?_; rintro e w25 ⟨⟨Ah, Ch, rfl, OH⟩, b25⟩; replace BXM := BXM.below b25 BXM.lt; replace BXN := BXN.below b25 BXN.lt; replace BXQ := BXQ.below b25 BXQ.lt; replace BXX := BXX.below b25 BXX.lt; replace BXY := BXY.below b25 BXY.lt; replace BXG := BXG.below b25 BXG.lt; replace OS := OS.below b25; replace OG := OG.below b25; replace ou := ou.below b25; replace ov := ov.below b25; replace BB := BB.trans (b25.mono BB.size); (try (replace BXZ := BXZ.below b25 BXZ.lt)); (try (obtain ⟨d1, d2, f1, f2⟩ := BXZ.cells)); have T25 : True := trivial) | (have _t := T23; go_at_call 17; (first | (show Calls Try.prog _ _ (World.alloc w23 (.cells #[.int .i64 0, .slice none 0 0] 26)) _; obtain ⟨wq, hwq⟩ : ∃ X, X = (World.alloc w23 (.cells #[.int .i64 0, .slice none 0 0] 26)) := ⟨_, rfl⟩; rw [← hwq]; have bq : Below w23.heap.size w23 wq := (by rw [hwq]; exact (Below.refl _ _).alloc (Nat.le_refl _) _); have BXZ : Box wq w23.heap.size 26 (.int .i64 0) (.slice none 0 0) := (by rw [hwq]; exact Box.new _ _ _ _); have BBQ := BB.size; have kqM := Nat.ne_of_lt BXM.lt; have kqN := Nat.ne_of_lt BXN.lt; have kqQ := Nat.ne_of_lt BXQ.lt; have kqX := Nat.ne_of_lt BXX.lt; have kqY := Nat.ne_of_lt BXY.lt; have kqG := Nat.ne_of_lt BXG.lt; have uqS := OS.under; have uqG := OG.under; clear hwq; replace BXM := BXM.below bq BXM.lt; replace BXN := BXN.below bq BXN.lt; replace BXQ := BXQ.below bq BXQ.lt; replace BXX := BXX.below bq BXX.lt; replace BXY := BXY.below bq BXY.lt; replace BXG := BXG.below bq BXG.lt; replace OS := OS.below bq; replace OG := OG.below bq; replace ou := ou.below bq; replace BB := BB.trans (bq.mono BB.size)) | skip); (try (have hqb24 := BXZ.lt)); refine (toMass_any sN aN nN cN xsN _ (by exact hrN0.below BB) hnN1).mono ?_; rintro e w24 ⟨gv, rfl, ov, b24⟩; replace BXM := BXM.below b24 BXM.lt; replace BXN := BXN.below b24 BXN.lt; replace BXQ := BXQ.below b24 BXQ.lt; replace BXX := BXX.below b24 BXX.lt; replace BXY := BXY.below b24 BXY.lt; replace BXG := BXG.below b24 BXG.lt; replace OS := OS.below b24; replace OG := OG.below b24; replace ou := ou.below b24; replace BB := BB.trans (b24.mono BB.size); (try (replace BXZ := BXZ.below b24 BXZ.lt)); have T24 : True := trivial) | (go_at_call 17; (first | (show Calls Try.prog _ _ (World.drew (World.alloc w22 (.cells #[.int .i64 0, .slice none 0 0] 26))) _; obtain ⟨wq, hwq⟩ : ∃ X, X = (World.drew (World.alloc w22 (.cells #[.int .i64 0, .slice none 0 0] 26))) := ⟨_, rfl⟩; rw [← hwq]; have bq : Below w22.heap.size w22.drew wq := (by rw [hwq]; exact below_alloc_drew _ _); have BXZ : Box wq w22.heap.size 26 (.int .i64 0) (.slice none 0 0) := (by rw [hwq]; exact Box.new _ _ _ _); have BBQ := BB.size; have kqM := Nat.ne_of_lt BXM.lt; have kqN := Nat.ne_of_lt BXN.lt; have kqQ := Nat.ne_of_lt BXQ.lt; have kqX := Nat.ne_of_lt BXX.lt; have kqY := Nat.ne_of_lt BXY.lt; have kqG := Nat.ne_of_lt BXG.lt; have uqS := OS.under; have uqG := OG.under; clear hwq; replace BXM := BXM.below bq BXM.lt; replace BXN := BXN.below bq BXN.lt; replace BXQ := BXQ.below bq BXQ.lt; replace BXX := BXX.below bq BXX.lt; replace BXY := BXY.below bq BXY.lt; replace BXG := BXG.below bq BXG.lt; replace OS := OS.below bq; replace OG := OG.below bq; replace BB := BB.trans (bq.mono BB.size)) | skip); (try (have hqb23 := BXZ.lt)); refine (toMass_any sM aM nM cM xsM _ (by exact hrM0.below BB) hnM1).mono ?_; rintro e w23 ⟨gu, rfl, ou, b23⟩; replace BXM := BXM.below b23 BXM.lt; replace BXN := BXN.below b23 BXN.lt; replace BXQ := BXQ.below b23 BXQ.lt; replace BXX := BXX.below b23 BXX.lt; replace BXY := BXY.below b23 BXY.lt; replace BXG := BXG.below b23 BXG.lt; replace OS := OS.below b23; replace OG := OG.below b23; replace BB := BB.trans (b23.mono BB.size); (try (replace BXZ := BXZ.below b23 BXZ.lt)); have T23 : True := trivial))
        all_goals
          go_wp2_with fail
          go_meet
          first | exact ⟨_, _, _, rfl, rfl, Box.new _ _ _ _, ⟨_, OH.below ((Below.refl w25.heap.size w25).alloc (Nat.le_refl _) _)⟩, BXQ.alloc _, BXG.alloc _, ⟨_, OS.below ((Below.refl w25.heap.size w25).alloc (Nat.le_refl _) _)⟩, ⟨_, OG.below ((Below.refl w25.heap.size w25).alloc (Nat.le_refl _) _)⟩, BB.alloc BB.size _⟩ | exact ⟨_, _, _, rfl, rfl, (BXZ.set0 _).set1 _, ⟨_, OH.setBox hqb25 _ _⟩, (BXQ.far kqQ _).far kqQ _, (BXG.far kqG _).far kqG _, ⟨_, OS.setUnder uqS _ _⟩, ⟨_, OG.setUnder uqG _ _⟩, (BB.setCell BBQ _).setCell BBQ _⟩
      case rest =>
      obtain ⟨kHx, Ah, Ch, rfl, rfl, BXH, ⟨_, OH⟩, BXQ, BXG, ⟨_, OS⟩, ⟨_, OG⟩, BB⟩ := hcut
      obtain ⟨w26, rfl⟩ : ∃ X, X = wc := ⟨_, rfl⟩
      obtain ⟨H1, H2, _, _⟩ := BXH.cells
      obtain ⟨Q1, Q2, _, _⟩ := BXQ.cells
      go_wp2_with fail
      clear H1 H2
      clear Q1 Q2
      refine (eqMass_any t t _ _ m _ m _ ys ys _ OH.row OS.row hm1 hm1).mono ?_
      rw [HY.out]
      rintro e w27 ⟨rfl, b27⟩
      replace BXQ := BXQ.below b27 BXQ.lt
      replace BXG := BXG.below b27 BXG.lt
      replace BXH := BXH.below b27 BXH.lt
      replace OS := OS.below b27
      replace OG := OG.below b27
      replace OH := OH.below b27
      replace BB := BB.trans (b27.mono BB.size)
      obtain ⟨G1, G2, _, _⟩ := BXG.cells
      go_wp2_with fail
      clear G1 G2
      refine (heldMass_any t _ m _ 1 _ OG.row hm1 (by omega)).mono ?_
      rintro e w28 ⟨rfl, b28⟩
      replace BXQ := BXQ.below b28 BXQ.lt
      replace BXG := BXG.below b28 BXG.lt
      replace BXH := BXH.below b28 BXH.lt
      replace OS := OS.below b28
      replace OG := OG.below b28
      replace OH := OH.below b28
      replace BB := BB.trans (b28.mono BB.size)
      go_wp2_with fail
      go_ret
      exact ⟨rfl, HB0.out.trans (BB.mono HB0.out.size)⟩
    · rw [if_pos (by omega)] at HZN
      have HB0 := Lib.hid hB0; clear hB0
      go_enter Try.func12, Try.ntmps12
      go_wp2_with fail
      refine (HZM.out _).mono ?_
      rintro e v0 ⟨rfl, d0⟩
      obtain ⟨q1, q2, _, _⟩ := box2 (k := w.heap.size + 1) (alloc_at (by simp)) d0
      go_wp2_with fail
      refine (HZN.out _).mono ?_
      rintro e v1 ⟨rfl, d1⟩
      replace d0 := d0.trans (d1.mono d0.size)
      go_wp2_with fail
      go_ret
      exact ⟨rfl, HB0.out.trans (d0.mono HB0.out.size)⟩
  · rw [if_pos (by omega)] at HZM
    have HB0 := Lib.hid hB0; clear hB0
    go_enter Try.func12, Try.ntmps12
    go_wp2_with fail
    refine (HZM.out _).mono ?_
    rintro e v0 ⟨rfl, d0⟩
    go_wp2_with fail
    go_ret
    exact ⟨rfl, HB0.out.trans (d0.mono HB0.out.size)⟩
end Go.Proofs.Ytkcgmiiepiamaaa
