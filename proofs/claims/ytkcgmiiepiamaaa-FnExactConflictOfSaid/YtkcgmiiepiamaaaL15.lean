/- The walk of the statement FnExactConflictOf. -/
import Derived.Test.YtkcgmiiepiamaaaW33
import Derived.Test.YtkcgmiiepiamaaaW25
import Derived.Test.YtkcgmiiepiamaaaBase5
import Derived.Deep.RegionHeld3
import Derived.Deep.CutRange
namespace Go.Proofs.Ytkcgmiiepiamaaa
open Go.RowKit

set_option maxHeartbeats 6400000 in
set_option maxRecDepth 100000 in
theorem walkConflictOf (sM : Int) (aM : Option Addr) (nM cM : Nat) (xsM : List Int) (sN : Int) (aN : Option Addr) (nN cN : Nat) (xsN : List Int) (w : World) (hrM : Row w aM nM xsM) (hbigM : nM ≤ 9223372036854775807) (hrN : Row w aN nN xsN) (hbigN : nN ≤ 9223372036854775807) :
    Calls Try.prog 5 #[massV sM aM nM cM, massV sN aN nN cN] w fun e w' => e = .returned (.bool true) ∧ Below w.heap.size w w' := by
  have hB0 : Below w.heap.size w ((w.alloc (.cells #[.int .i64 sM, .slice aM nM cM] 24)).alloc (.cells #[.int .i64 sN, .slice aN nN cN] 24)) := ((Below.refl w.heap.size w).alloc (Nat.le_refl _) _).alloc (by simp) _
  have HZM := Lib.hid (fun W => szMass_any sM aM nM cM (1048576) W hbigM (by omega))
  by_cases hnM : (nM : Int) ≤ 1048576
  · rw [if_neg (by omega)] at HZM
    have HZN := Lib.hid (fun W => szMass_any sN aN nN cN (1048576 - nM) W hbigN (by omega))
    by_cases hnN : (nN : Int) ≤ 1048576 - nM
    · rw [if_neg (by omega)] at HZN
      have hnM1 : nM ≤ 1048576 := by omega
      have hnN1 : nN ≤ 1048576 := by omega
      have hrM0 := hrM.below hB0
      have hrN0 := hrN.below hB0
      have HB0 := Lib.hid hB0; clear hB0 hrM hrN
      have HEM : Hid ((sM == sM && eqB xsM xsM) = true) := by show _ = _; simp [eqB_self]
      have HEN : Hid ((sN == sN && eqB xsN xsN) = true) := by show _ = _; simp [eqB_self]
      have HS := Lib.hid (fun aM cM aN cN W (hM : Row W aM nM xsM) (hN : Row W aN nN xsN) => sConflictOf_any sM sN aM aN nM nN cM cN xsM xsN W hM hN hnM1 hnN1)
      have HI := Lib.hid (fun aM cM aN cN W (hM : Row W aM nM xsM) (hN : Row W aN nN xsN) => iConflictOf_any sM sN aM aN nM nN cM cN xsM xsN W hM hN hnM1 hnN1)
      obtain ⟨r, hr1⟩ : ∃ r, r = conflR sM xsM sN xsN := ⟨_, rfl⟩
      rw [← hr1] at HS HI
      clear hr1
      obtain ⟨p, hp⟩ : ∃ q, q = fN r := ⟨_, rfl⟩
      obtain ⟨q, hq⟩ : ∃ q, q = fD r := ⟨_, rfl⟩
      obtain ⟨ok, hok⟩ : ∃ q, q = fB r := ⟨_, rfl⟩
      simp only [RetF, ← hp, ← hq, ← hok] at HS HI
      clear hp hq hok
      obtain ⟨w0, hW0⟩ : ∃ W0, W0 = (w.alloc (.cells #[.int .i64 sM, .slice aM nM cM] 24)).alloc (.cells #[.int .i64 sN, .slice aN nN cN] 24) := ⟨_, rfl⟩
      have BXM : Box w0 w.heap.size 24 (.int .i64 sM) (.slice aM nM cM) := by rw [hW0]; exact (Box.new _ _ _ _).alloc _
      have BXN : Box w0 (w.heap.size + 1) 24 (.int .i64 sN) (.slice aN nN cN) := by rw [hW0]; exact alloc_at (by simp)
      rw [← hW0] at HB0 hrM0 hrN0
      have HW0 := Lib.hid hW0; clear hW0
      have BB := Below.refl w0.heap.size w0
      go_enter Try.func5, Try.ntmps5
      go_wp2_with fail
      rw [← HW0.out]
      refine (HZM.out _).mono ?_
      rintro e w1 ⟨rfl, b1⟩
      replace BXM := BXM.below b1 BXM.lt
      replace BXN := BXN.below b1 BXN.lt
      replace BB := BB.trans (b1.mono BB.size)
      obtain ⟨N1, N2, _, _⟩ := BXN.cells
      go_wp2_with fail
      clear N1 N2
      refine (HZN.out _).mono ?_
      rintro e w2 ⟨rfl, b2⟩
      replace BXM := BXM.below b2 BXM.lt
      replace BXN := BXN.below b2 BXN.lt
      replace BB := BB.trans (b2.mono BB.size)
      go_wp2_with fail
      go_cut [6, 7] from 22 to 29 (fun sp so wx => ∃ kx, sp = .pointer (some ⟨kx, 0, none⟩) ∧ so = .bool ok ∧ Box wx kx 34 (.int .i64 p) (.int .i64 q) ∧ Box wx w.heap.size 24 (.int .i64 sM) (.slice aM nM cM) ∧ Box wx (w.heap.size + 1) 24 (.int .i64 sN) (.slice aN nN cN) ∧ Below w0.heap.size w0 wx)
      case first =>
        obtain ⟨M1, M2, _, _⟩ := BXM.cells
        obtain ⟨N1, N2, _, _⟩ := BXN.cells
        replace BXM := BXM.drew
        replace BXN := BXN.drew
        replace BB := BB.drew
        go_region_held3 (fun W => W.cell? ⟨w.heap.size, 0, none⟩ = some (.int .i64 sM) ∧ W.cell? ⟨w.heap.size, 1, none⟩ = some (.slice aM nM cM) ∧ W.cell? ⟨w.heap.size + 1, 0, none⟩ = some (.int .i64 sN) ∧ W.cell? ⟨w.heap.size + 1, 1, none⟩ = some (.slice aN nN cN))
          (first | exact ⟨(BXM).cells.1, (BXM).cells.2.1, (BXN).cells.1, (BXN).cells.2.1⟩ | exact ⟨(BXM.alloc _).cells.1, (BXM.alloc _).cells.2.1, (BXN.alloc _).cells.1, (BXN.alloc _).cells.2.1⟩ | exact ⟨((BXM.far kqM _).far kqM _).cells.1, ((BXM.far kqM _).far kqM _).cells.2.1, ((BXN.far kqN _).far kqN _).cells.1, ((BXN.far kqN _).far kqN _).cells.2.1⟩ | go_keep)
          (first | (have _t := T4; go_at_call 24; (first | (show Calls Try.prog _ _ (World.alloc w4 (.cells #[.int .i64 0, .int .i64 0] 34)) _; obtain ⟨wq, hwq⟩ : ∃ X, X = (World.alloc w4 (.cells #[.int .i64 0, .int .i64 0] 34)) := ⟨_, rfl⟩; rw [← hwq]; have bq : Below w4.heap.size w4 wq := (by rw [hwq]; exact (Below.refl _ _).alloc (Nat.le_refl _) _); have BXZ : Box wq w4.heap.size 34 (.int .i64 0) (.int .i64 0) := (by rw [hwq]; exact Box.new _ _ _ _); have BBQ := BB.size; have kqM := Nat.ne_of_lt BXM.lt; have kqN := Nat.ne_of_lt BXN.lt; clear hwq; replace BXM := BXM.below bq BXM.lt; replace BXN := BXN.below bq BXN.lt; replace op := op.below bq; replace oq := oq.below bq; replace BB := BB.trans (bq.mono BB.size)) | skip); (try (have hqb5 := BXZ.lt)); refine (HS.out _ _ _ _ _ op.row oq.row).mono ?_; rintro e w5 ⟨rfl, b5⟩; replace BXM := BXM.below b5 BXM.lt; replace BXN := BXN.below b5 BXN.lt; replace op := op.below b5; replace oq := oq.below b5; replace BB := BB.trans (b5.mono BB.size); (try (replace BXZ := BXZ.below b5 BXZ.lt)); (try (obtain ⟨d1, d2, f1, f2⟩ := BXZ.cells)); have T5 : True := trivial) | (have _t := T3; go_at_call 17; (first | (show Calls Try.prog _ _ (World.alloc w3 (.cells #[.int .i64 0, .int .i64 0] 34)) _; obtain ⟨wq, hwq⟩ : ∃ X, X = (World.alloc w3 (.cells #[.int .i64 0, .int .i64 0] 34)) := ⟨_, rfl⟩; rw [← hwq]; have bq : Below w3.heap.size w3 wq := (by rw [hwq]; exact (Below.refl _ _).alloc (Nat.le_refl _) _); have BXZ : Box wq w3.heap.size 34 (.int .i64 0) (.int .i64 0) := (by rw [hwq]; exact Box.new _ _ _ _); have BBQ := BB.size; have kqM := Nat.ne_of_lt BXM.lt; have kqN := Nat.ne_of_lt BXN.lt; clear hwq; replace BXM := BXM.below bq BXM.lt; replace BXN := BXN.below bq BXN.lt; replace op := op.below bq; replace BB := BB.trans (bq.mono BB.size)) | skip); (try (have hqb4 := BXZ.lt)); refine (toMass_any sN aN nN cN xsN _ (by exact hrN0.below BB) hnN1).mono ?_; rintro e w4 ⟨gq, rfl, oq, b4⟩; replace BXM := BXM.below b4 BXM.lt; replace BXN := BXN.below b4 BXN.lt; replace op := op.below b4; replace BB := BB.trans (b4.mono BB.size); (try (replace BXZ := BXZ.below b4 BXZ.lt)); have T4 : True := trivial) | (go_at_call 17; (first | (show Calls Try.prog _ _ (World.drew (World.alloc w2 (.cells #[.int .i64 0, .int .i64 0] 34))) _; obtain ⟨wq, hwq⟩ : ∃ X, X = (World.drew (World.alloc w2 (.cells #[.int .i64 0, .int .i64 0] 34))) := ⟨_, rfl⟩; rw [← hwq]; have bq : Below w2.heap.size w2.drew wq := (by rw [hwq]; exact below_alloc_drew _ _); have BXZ : Box wq w2.heap.size 34 (.int .i64 0) (.int .i64 0) := (by rw [hwq]; exact Box.new _ _ _ _); have BBQ := BB.size; have kqM := Nat.ne_of_lt BXM.lt; have kqN := Nat.ne_of_lt BXN.lt; clear hwq; replace BXM := BXM.below bq BXM.lt; replace BXN := BXN.below bq BXN.lt; replace BB := BB.trans (bq.mono BB.size)) | skip); (try (have hqb3 := BXZ.lt)); refine (toMass_any sM aM nM cM xsM _ (by exact hrM0.below BB) hnM1).mono ?_; rintro e w3 ⟨gp, rfl, op, b3⟩; replace BXM := BXM.below b3 BXM.lt; replace BXN := BXN.below b3 BXN.lt; replace BB := BB.trans (b3.mono BB.size); (try (replace BXZ := BXZ.below b3 BXZ.lt)); have T3 : True := trivial))
        all_goals
          go_wp2_with fail
          go_meet
          first | exact ⟨_, rfl, rfl, Box.new _ _ _ _, BXM.alloc _, BXN.alloc _, BB.alloc BB.size _⟩ | exact ⟨_, rfl, rfl, (BXZ.set0 _).set1 _, (BXM.far kqM _).far kqM _, (BXN.far kqN _).far kqN _, (BB.setCell BBQ _).setCell BBQ _⟩
      case rest =>
      obtain ⟨kWx, rfl, rfl, BXW, BXM, BXN, BB⟩ := hcut
      obtain ⟨w6, rfl⟩ : ∃ X, X = wc := ⟨_, rfl⟩
      obtain ⟨M1, M2, _, _⟩ := BXM.cells
      go_wp2_with fail
      clear M1 M2
      have hsX := BB.size
      refine (toMass_any sM aM nM cM xsM _ (by exact hrM0.below BB) hnM1).mono ?_
      rintro e w7 ⟨gXx, rfl, OX, b7⟩
      replace BXM := BXM.below b7 BXM.lt
      replace BXN := BXN.below b7 BXN.lt
      replace BXW := BXW.below b7 BXW.lt
      replace BB := BB.trans (b7.mono BB.size)
      obtain ⟨N1, N2, _, _⟩ := BXN.cells
      have zN := BXN.lt
      go_wp2_with fail
      clear N1 N2 zN
      obtain ⟨w8, hw8⟩ : ∃ W, W = w7.alloc (.cells #[.int .i64 sM, .slice (some ⟨gXx, 0, none⟩) nM nM] 26) := ⟨_, rfl⟩
      have b8 : Below w7.heap.size w7 w8 := by rw [hw8]; exact (Below.refl _ _).alloc (Nat.le_refl _) _
      replace BXM := BXM.below b8 BXM.lt
      replace BXN := BXN.below b8 BXN.lt
      replace BXW := BXW.below b8 BXW.lt
      replace OX := OX.below b8
      replace BB := BB.trans (b8.mono BB.size)
      have BXX : Box w8 w7.heap.size 26 (.int .i64 sM) (.slice (some ⟨gXx, 0, none⟩) nM nM) := by rw [hw8]; exact Box.new _ _ _ _
      rw [← hw8]
      clear hw8
      have UXY := OX.under
      have hsY := BB.size
      refine (toMass_any sN aN nN cN xsN _ (by exact hrN0.below BB) hnN1).mono ?_
      rintro e w9 ⟨gYx, rfl, OY, b9⟩
      replace BXM := BXM.below b9 BXM.lt
      replace BXN := BXN.below b9 BXN.lt
      replace BXW := BXW.below b9 BXW.lt
      replace BXX := BXX.below b9 BXX.lt
      replace OX := OX.below b9
      replace BB := BB.trans (b9.mono BB.size)
      obtain ⟨X1, X2, _, _⟩ := BXX.cells
      have zX := BXX.lt
      go_wp2_with fail
      clear X1 X2 zX
      obtain ⟨w10, hw10⟩ : ∃ W, W = w9.alloc (.cells #[.int .i64 sN, .slice (some ⟨gYx, 0, none⟩) nN nN] 26) := ⟨_, rfl⟩
      have b10 : Below w9.heap.size w9 w10 := by rw [hw10]; exact (Below.refl _ _).alloc (Nat.le_refl _) _
      replace BXM := BXM.below b10 BXM.lt
      replace BXN := BXN.below b10 BXN.lt
      replace BXW := BXW.below b10 BXW.lt
      replace BXX := BXX.below b10 BXX.lt
      replace OX := OX.below b10
      replace OY := OY.below b10
      replace BB := BB.trans (b10.mono BB.size)
      have BXY : Box w10 w9.heap.size 26 (.int .i64 sN) (.slice (some ⟨gYx, 0, none⟩) nN nN) := by rw [hw10]; exact Box.new _ _ _ _
      rw [← hw10]
      clear hw10
      refine (HI.out _ _ _ _ _ OX.row OY.row).mono ?_
      rintro e w11 ⟨rfl, b11⟩
      replace BXM := BXM.below b11 BXM.lt
      replace BXN := BXN.below b11 BXN.lt
      replace BXW := BXW.below b11 BXW.lt
      replace BXX := BXX.below b11 BXX.lt
      replace BXY := BXY.below b11 BXY.lt
      replace OX := OX.below b11
      replace OY := OY.below b11
      replace BB := BB.trans (b11.mono BB.size)
      obtain ⟨W1, W2, _, _⟩ := BXW.cells
      have zW := BXW.lt
      go_wp2_with fail
      clear W1 W2 zW
      obtain ⟨w12, hw12⟩ : ∃ W, W = w11.alloc (.cells #[.int .i64 p, .int .i64 q] 34) := ⟨_, rfl⟩
      have b12 : Below w11.heap.size w11 w12 := by rw [hw12]; exact (Below.refl _ _).alloc (Nat.le_refl _) _
      replace BXM := BXM.below b12 BXM.lt
      replace BXN := BXN.below b12 BXN.lt
      replace BXW := BXW.below b12 BXW.lt
      replace BXX := BXX.below b12 BXX.lt
      replace BXY := BXY.below b12 BXY.lt
      replace OX := OX.below b12
      replace OY := OY.below b12
      replace BB := BB.trans (b12.mono BB.size)
      have BXV : Box w12 w11.heap.size 34 (.int .i64 p) (.int .i64 q) := by rw [hw12]; exact Box.new _ _ _ _
      rw [← hw12]
      clear hw12
      refine (eqFraction_any p q _).mono ?_
      rintro e w13 ⟨rfl, b13⟩
      replace BXM := BXM.below b13 BXM.lt
      replace BXN := BXN.below b13 BXN.lt
      replace BXW := BXW.below b13 BXW.lt
      replace BXX := BXX.below b13 BXX.lt
      replace BXY := BXY.below b13 BXY.lt
      replace BXV := BXV.below b13 BXV.lt
      replace OX := OX.below b13
      replace OY := OY.below b13
      replace BB := BB.trans (b13.mono BB.size)
      obtain ⟨M1, M2, _, _⟩ := BXM.cells
      obtain ⟨X1, X2, _, _⟩ := BXX.cells
      replace BXM := BXM.drew
      replace BXN := BXN.drew
      replace BXW := BXW.drew
      replace BXX := BXX.drew
      replace BXY := BXY.drew
      replace BXV := BXV.drew
      replace OX := OX.below (w' := w13.drew) (Below.refl _ _).drew
      replace OY := OY.below (w' := w13.drew) (Below.refl _ _).drew
      replace BB := BB.drew
      go_wp2_with fail
      go_region_held3 (fun W => W.cell? ⟨w.heap.size, 0, none⟩ = some (.int .i64 sM) ∧ W.cell? ⟨w.heap.size, 1, none⟩ = some (.slice aM nM cM) ∧ W.cell? ⟨w7.heap.size, 0, none⟩ = some (.int .i64 sM) ∧ W.cell? ⟨w7.heap.size, 1, none⟩ = some (.slice (some ⟨gXx, 0, none⟩) nM nM))
        (first | go_keep | exact ⟨BXM.cells.1, BXM.cells.2.1, BXX.cells.1, BXX.cells.2.1⟩)
        (first | (have _t := T14; go_at_call 19; refine (eqMass_any sM sM _ _ nM nM nM nM xsM xsM _ OX.row ocM.row hnM1 hnM1).mono ?_; rw [HEM.out]; rintro e w15 ⟨rfl, b15⟩; replace BXM := BXM.below b15 BXM.lt; replace BXN := BXN.below b15 BXN.lt; replace BXW := BXW.below b15 BXW.lt; replace BXX := BXX.below b15 BXX.lt; replace BXY := BXY.below b15 BXY.lt; replace BXV := BXV.below b15 BXV.lt; replace OX := OX.below b15; replace OY := OY.below b15; replace BB := BB.trans (b15.mono BB.size); have T15 : True := trivial) | (go_at_call 17; refine (toMass_any sM aM nM cM xsM _ (by exact hrM0.below BB) hnM1).mono ?_; rintro e w14 ⟨gcM, rfl, ocM, b14⟩; replace BXM := BXM.below b14 BXM.lt; replace BXN := BXN.below b14 BXN.lt; replace BXW := BXW.below b14 BXW.lt; replace BXX := BXX.below b14 BXX.lt; replace BXY := BXY.below b14 BXY.lt; replace BXV := BXV.below b14 BXV.lt; replace OX := OX.below b14; replace OY := OY.below b14; replace BB := BB.trans (b14.mono BB.size); have T14 : True := trivial))
      clear M1 M2
      clear X1 X2
      clear ocM
      obtain ⟨N1, N2, _, _⟩ := BXN.cells
      obtain ⟨Y1, Y2, _, _⟩ := BXY.cells
      replace BXM := BXM.drew
      replace BXN := BXN.drew
      replace BXW := BXW.drew
      replace BXX := BXX.drew
      replace BXY := BXY.drew
      replace BXV := BXV.drew
      replace OX := OX.below (w' := w15.drew) (Below.refl _ _).drew
      replace OY := OY.below (w' := w15.drew) (Below.refl _ _).drew
      replace BB := BB.drew
      go_wp2_with fail
      go_region_held3 (fun W => W.cell? ⟨w.heap.size + 1, 0, none⟩ = some (.int .i64 sN) ∧ W.cell? ⟨w.heap.size + 1, 1, none⟩ = some (.slice aN nN cN) ∧ W.cell? ⟨w9.heap.size, 0, none⟩ = some (.int .i64 sN) ∧ W.cell? ⟨w9.heap.size, 1, none⟩ = some (.slice (some ⟨gYx, 0, none⟩) nN nN))
        (first | go_keep | exact ⟨BXN.cells.1, BXN.cells.2.1, BXY.cells.1, BXY.cells.2.1⟩)
        (first | (have _t := T16; go_at_call 19; refine (eqMass_any sN sN _ _ nN nN nN nN xsN xsN _ OY.row ocN.row hnN1 hnN1).mono ?_; rw [HEN.out]; rintro e w17 ⟨rfl, b17⟩; replace BXM := BXM.below b17 BXM.lt; replace BXN := BXN.below b17 BXN.lt; replace BXW := BXW.below b17 BXW.lt; replace BXX := BXX.below b17 BXX.lt; replace BXY := BXY.below b17 BXY.lt; replace BXV := BXV.below b17 BXV.lt; replace OX := OX.below b17; replace OY := OY.below b17; replace BB := BB.trans (b17.mono BB.size); have T17 : True := trivial) | (go_at_call 17; refine (toMass_any sN aN nN cN xsN _ (by exact hrN0.below BB) hnN1).mono ?_; rintro e w16 ⟨gcN, rfl, ocN, b16⟩; replace BXM := BXM.below b16 BXM.lt; replace BXN := BXN.below b16 BXN.lt; replace BXW := BXW.below b16 BXW.lt; replace BXX := BXX.below b16 BXX.lt; replace BXY := BXY.below b16 BXY.lt; replace BXV := BXV.below b16 BXV.lt; replace OX := OX.below b16; replace OY := OY.below b16; replace BB := BB.trans (b16.mono BB.size); have T16 : True := trivial))
      clear N1 N2
      clear Y1 Y2
      clear ocN
      go_wp2_with fail
      go_ret
      exact ⟨rfl, HB0.out.trans (BB.mono HB0.out.size)⟩
    · rw [if_pos (by omega)] at HZN
      have HB0 := Lib.hid hB0; clear hB0
      go_enter Try.func5, Try.ntmps5
      go_wp2_with fail
      refine (HZM.out _).mono ?_
      rintro e v0 ⟨rfl, d0⟩
      obtain ⟨q1, q2, _, _⟩ := box2 (k := w.heap.size + 1) (alloc_at (by simp)) d0
      go_wp2_with fail
      refine (HZN.out _).mono ?_
      rintro e v1 ⟨rfl, d1⟩
      replace d0 := d0.trans (d1.mono d0.size)
      go_wp2_with fail
      go_ret
      exact ⟨rfl, HB0.out.trans (d0.mono HB0.out.size)⟩
  · rw [if_pos (by omega)] at HZM
    have HB0 := Lib.hid hB0; clear hB0
    go_enter Try.func5, Try.ntmps5
    go_wp2_with fail
    refine (HZM.out _).mono ?_
    rintro e v0 ⟨rfl, d0⟩
    go_wp2_with fail
    go_ret
    exact ⟨rfl, HB0.out.trans (d0.mono HB0.out.size)⟩
end Go.Proofs.Ytkcgmiiepiamaaa
