/- The walks of the statements FnExactNormalMass and FnExactNegateMass. -/
import Derived.Test.YtkcgmiiepiamaaaW19
import Derived.Test.YtkcgmiiepiamaaaBase4
import Derived.Deep.RegionHeld3
namespace Go.Proofs.Ytkcgmiiepiamaaa
open Go.RowKit

set_option maxHeartbeats 6400000 in
set_option maxRecDepth 100000 in
theorem walkNegateMass (sM : Int) (aM : Option Addr) (nM cM : Nat) (xsM : List Int) (w : World) (hrM : Row w aM nM xsM) (hbigM : nM ≤ 9223372036854775807) :
    Calls Try.prog 3 #[massV sM aM nM cM] w fun e w' => e = .returned (.bool true) ∧ Below w.heap.size w w' := by
  have hB0 : Below w.heap.size w (w.alloc (.cells #[.int .i64 sM, .slice aM nM cM] 24)) := (Below.refl w.heap.size w).alloc (Nat.le_refl _) _
  have HZM := Lib.hid (fun W => szMass_any sM aM nM cM (1048576) W hbigM (by omega))
  by_cases hnM : (nM : Int) ≤ 1048576
  · rw [if_neg (by omega)] at HZM
    have hnM1 : nM ≤ 1048576 := by omega
    have hrM0 := hrM.below hB0
    have HB0 := Lib.hid hB0; clear hB0 hrM
    have HEM : Hid ((sM == sM && eqB xsM xsM) = true) := by show _ = _; simp [eqB_self]
    have hm1 : rN (negR sM xsM) ≤ 1048576 := negR_len (by rw [hrM0.1]; exact hnM1)
    have HS := Lib.hid (fun aM cM W (hM : Row W aM nM xsM) => sNegateMass_any sM aM nM cM xsM W hM hnM1)
    have HI := Lib.hid (fun aM cM W (hM : Row W aM nM xsM) => iNegateMass_any sM aM nM cM xsM W hM hnM1)
    obtain ⟨r, hr1⟩ : ∃ r, r = negR sM xsM := ⟨_, rfl⟩
    rw [← hr1] at hm1 HS HI
    clear hr1
    obtain ⟨t, ht⟩ : ∃ q, q = rS r := ⟨_, rfl⟩
    obtain ⟨m, hm⟩ : ∃ q, q = rN r := ⟨_, rfl⟩
    obtain ⟨ys, hys⟩ : ∃ q, q = rL r := ⟨_, rfl⟩
    obtain ⟨ok, hok⟩ : ∃ q, q = rB r := ⟨_, rfl⟩
    simp only [RetM, ← ht, ← hm, ← hys, ← hok] at HS HI
    rw [← hm] at hm1
    clear ht hm hys hok
    have HY : Hid ((t == t && eqB ys ys) = true) := by show _ = _; simp [eqB_self]
    obtain ⟨w0, hW0⟩ : ∃ W0, W0 = w.alloc (.cells #[.int .i64 sM, .slice aM nM cM] 24) := ⟨_, rfl⟩
    have BXM : Box w0 w.heap.size 24 (.int .i64 sM) (.slice aM nM cM) := by rw [hW0]; exact Box.new _ _ _ _
    rw [← hW0] at HB0 hrM0
    have HW0 := Lib.hid hW0; clear hW0
    have BB := Below.refl w0.heap.size w0
    go_enter Try.func3, Try.ntmps3
    go_wp2_with fail
    rw [← HW0.out]
    refine (HZM.out _).mono ?_
    rintro e w1 ⟨rfl, b1⟩
    replace BXM := BXM.below b1 BXM.lt
    replace BB := BB.trans (b1.mono BB.size)
    obtain ⟨M1, M2, _, _⟩ := BXM.cells
    go_wp2_with fail
    clear M1 M2
    refine (toMass_any sM aM nM cM xsM _ (by exact hrM0.below BB) hnM1).mono ?_
    rintro e w2 ⟨g2, rfl, o2, b2⟩
    replace BXM := BXM.below b2 BXM.lt
    replace BB := BB.trans (b2.mono BB.size)
    go_wp2_with fail
    refine (HS.out _ _ _ o2.row).mono ?_
    rintro e w3 ⟨⟨As, Cs, rfl, OS⟩, b3⟩
    replace BXM := BXM.below b3 BXM.lt
    replace BB := BB.trans (b3.mono BB.size)
    clear o2
    obtain ⟨M1, M2, _, _⟩ := BXM.cells
    have zM := BXM.lt
    go_wp2_with fail
    clear M1 M2 zM
    obtain ⟨w4, hw4⟩ : ∃ W, W = w3.alloc (.cells #[.int .i64 t, .slice As m Cs] 26) := ⟨_, rfl⟩
    have b4 : Below w3.heap.size w3 w4 := by rw [hw4]; exact (Below.refl _ _).alloc (Nat.le_refl _) _
    replace BXM := BXM.below b4 BXM.lt
    replace OS := OS.below b4
    replace BB := BB.trans (b4.mono BB.size)
    have BXQ : Box w4 w3.heap.size 26 (.int .i64 t) (.slice As m Cs) := by rw [hw4]; exact Box.new _ _ _ _
    rw [← hw4]
    clear hw4
    have USX := OS.under
    have hsX := BB.size
    refine (toMass_any sM aM nM cM xsM _ (by exact hrM0.below BB) hnM1).mono ?_
    rintro e w5 ⟨gXx, rfl, OX, b5⟩
    replace BXM := BXM.below b5 BXM.lt
    replace BXQ := BXQ.below b5 BXQ.lt
    replace OS := OS.below b5
    replace BB := BB.trans (b5.mono BB.size)
    go_wp2_with fail
    obtain ⟨w6, hw6⟩ : ∃ W, W = w5.alloc (.cells #[.int .i64 sM, .slice (some ⟨gXx, 0, none⟩) nM nM] 26) := ⟨_, rfl⟩
    have b6 : Below w5.heap.size w5 w6 := by rw [hw6]; exact (Below.refl _ _).alloc (Nat.le_refl _) _
    replace BXM := BXM.below b6 BXM.lt
    replace BXQ := BXQ.below b6 BXQ.lt
    replace OS := OS.below b6
    replace OX := OX.below b6
    replace BB := BB.trans (b6.mono BB.size)
    have BXX : Box w6 w5.heap.size 26 (.int .i64 sM) (.slice (some ⟨gXx, 0, none⟩) nM nM) := by rw [hw6]; exact Box.new _ _ _ _
    rw [← hw6]
    clear hw6
    have USG := OS.under
    have UXG := OX.under
    have hsG := BB.size
    refine (HI.out _ _ _ OX.row).mono ?_
    rintro e w7 ⟨⟨Ag, Cg, rfl, OG⟩, b7⟩
    replace BXM := BXM.below b7 BXM.lt
    replace BXQ := BXQ.below b7 BXQ.lt
    replace BXX := BXX.below b7 BXX.lt
    replace OS := OS.below b7
    replace OX := OX.below b7
    replace BB := BB.trans (b7.mono BB.size)
    obtain ⟨Q1, Q2, _, _⟩ := BXQ.cells
    have zQ := BXQ.lt
    go_wp2_with fail
    clear Q1 Q2 zQ
    obtain ⟨w8, hw8⟩ : ∃ W, W = w7.alloc (.cells #[.int .i64 t, .slice Ag m Cg] 26) := ⟨_, rfl⟩
    have b8 : Below w7.heap.size w7 w8 := by rw [hw8]; exact (Below.refl _ _).alloc (Nat.le_refl _) _
    replace BXM := BXM.below b8 BXM.lt
    replace BXQ := BXQ.below b8 BXQ.lt
    replace BXX := BXX.below b8 BXX.lt
    replace OS := OS.below b8
    replace OX := OX.below b8
    replace OG := OG.below b8
    replace BB := BB.trans (b8.mono BB.size)
    have BXG : Box w8 w7.heap.size 26 (.int .i64 t) (.slice Ag m Cg) := by rw [hw8]; exact Box.new _ _ _ _
    rw [← hw8]
    clear hw8
    refine (eqMass_any t t _ _ m _ m _ ys ys _ OG.row OS.row hm1 hm1).mono ?_
    rw [HY.out]
    rintro e w9 ⟨rfl, b9⟩
    replace BXM := BXM.below b9 BXM.lt
    replace BXQ := BXQ.below b9 BXQ.lt
    replace BXX := BXX.below b9 BXX.lt
    replace BXG := BXG.below b9 BXG.lt
    replace OS := OS.below b9
    replace OX := OX.below b9
    replace OG := OG.below b9
    replace BB := BB.trans (b9.mono BB.size)
    obtain ⟨M1, M2, _, _⟩ := BXM.cells
    obtain ⟨X1, X2, _, _⟩ := BXX.cells
    replace BXM := BXM.drew
    replace BXQ := BXQ.drew
    replace BXX := BXX.drew
    replace BXG := BXG.drew
    replace OS := OS.below (w' := w9.drew) (Below.refl _ _).drew
    replace OX := OX.below (w' := w9.drew) (Below.refl _ _).drew
    replace OG := OG.below (w' := w9.drew) (Below.refl _ _).drew
    replace BB := BB.drew
    go_wp2_with fail
    go_region_held3 (fun W => W.cell? ⟨w.heap.size, 0, none⟩ = some (.int .i64 sM) ∧ W.cell? ⟨w.heap.size, 1, none⟩ = some (.slice aM nM cM) ∧ W.cell? ⟨w5.heap.size, 0, none⟩ = some (.int .i64 sM) ∧ W.cell? ⟨w5.heap.size, 1, none⟩ = some (.slice (some ⟨gXx, 0, none⟩) nM nM))
      (first | go_keep | exact ⟨BXM.cells.1, BXM.cells.2.1, BXX.cells.1, BXX.cells.2.1⟩)
      (first | (have _t := T10; go_at_call 19; refine (eqMass_any sM sM _ _ nM nM nM nM xsM xsM _ OX.row ocM.row hnM1 hnM1).mono ?_; rw [HEM.out]; rintro e w11 ⟨rfl, b11⟩; replace BXM := BXM.below b11 BXM.lt; replace BXQ := BXQ.below b11 BXQ.lt; replace BXX := BXX.below b11 BXX.lt; replace BXG := BXG.below b11 BXG.lt; replace OS := OS.below b11; replace OX := OX.below b11; replace OG := OG.below b11; replace BB := BB.trans (b11.mono BB.size); have T11 : True := trivial) | (go_at_call 17; refine (toMass_any sM aM nM cM xsM _ (by exact hrM0.below BB) hnM1).mono ?_; rintro e w10 ⟨gcM, rfl, ocM, b10⟩; replace BXM := BXM.below b10 BXM.lt; replace BXQ := BXQ.below b10 BXQ.lt; replace BXX := BXX.below b10 BXX.lt; replace BXG := BXG.below b10 BXG.lt; replace OS := OS.below b10; replace OX := OX.below b10; replace OG := OG.below b10; replace BB := BB.trans (b10.mono BB.size); have T10 : True := trivial))
    clear M1 M2
    clear X1 X2
    clear ocM
    obtain ⟨X1, X2, _, _⟩ := BXX.cells
    go_wp2_with fail
    clear X1 X2
    refine (markMass_any _ sM _ nM _ xsM (1) _ OX hnM1 (by omega)).mono ?_
    rintro e w12 ⟨rfl, NX, g12⟩
    replace BXM := BXM.marked OX g12 (by decide)
    replace BXQ := BXQ.marked OX g12 (by decide)
    replace BXX := BXX.marked OX g12 (by decide)
    replace BXG := BXG.marked OX g12 (by decide)
    replace OS := OS.stays USX OX g12
    replace OG := OG.stays' UXG OX g12
    replace BB := below_marked BB OX g12 hsX BB.size
    clear OX g12
    have OX := NX; clear NX
    clear OX
    obtain ⟨G1, G2, _, _⟩ := BXG.cells
    obtain ⟨Q1, Q2, _, _⟩ := BXQ.cells
    go_wp2_with fail
    clear G1 G2
    clear Q1 Q2
    refine (eqMass_any t t _ _ m _ m _ ys ys _ OG.row OS.row hm1 hm1).mono ?_
    rw [HY.out]
    rintro e w13 ⟨rfl, b13⟩
    replace BXM := BXM.below b13 BXM.lt
    replace BXQ := BXQ.below b13 BXQ.lt
    replace BXX := BXX.below b13 BXX.lt
    replace BXG := BXG.below b13 BXG.lt
    replace OS := OS.below b13
    replace OG := OG.below b13
    replace BB := BB.trans (b13.mono BB.size)
    obtain ⟨G1, G2, _, _⟩ := BXG.cells
    go_wp2_with fail
    clear G1 G2
    refine (markMass_any _ t _ m _ ys 1 _ OG hm1 (by omega)).mono ?_
    rintro e w14 ⟨rfl, NG, g14⟩
    replace BXM := BXM.marked OG g14 (by decide)
    replace BXQ := BXQ.marked OG g14 (by decide)
    replace BXX := BXX.marked OG g14 (by decide)
    replace BXG := BXG.marked OG g14 (by decide)
    replace OS := OS.stays USG OG g14
    replace BB := below_marked BB OG g14 hsG BB.size
    clear OG g14
    have OG := NG; clear NG
    obtain ⟨G1, G2, _, _⟩ := BXG.cells
    go_wp2_with fail
    clear G1 G2
    refine (heldMass_any t _ m _ 1 _ OG.row hm1 (by omega)).mono ?_
    rintro e w15 ⟨rfl, b15⟩
    replace BXM := BXM.below b15 BXM.lt
    replace BXQ := BXQ.below b15 BXQ.lt
    replace BXX := BXX.below b15 BXX.lt
    replace BXG := BXG.below b15 BXG.lt
    replace OS := OS.below b15
    replace OG := OG.below b15
    replace BB := BB.trans (b15.mono BB.size)
    obtain ⟨M1, M2, _, _⟩ := BXM.cells
    go_wp2_with fail
    clear M1 M2
    refine (toMass_any sM aM nM cM xsM _ (by exact hrM0.below BB) hnM1).mono ?_
    rintro e w16 ⟨g6, rfl, o6, b16⟩
    replace BXM := BXM.below b16 BXM.lt
    replace BXQ := BXQ.below b16 BXQ.lt
    replace BXX := BXX.below b16 BXX.lt
    replace BXG := BXG.below b16 BXG.lt
    replace OS := OS.below b16
    replace OG := OG.below b16
    replace BB := BB.trans (b16.mono BB.size)
    go_wp2_with fail
    refine (HI.out _ _ _ o6.row).mono ?_
    rintro e w17 ⟨⟨Ah, Ch, rfl, OH⟩, b17⟩
    replace BXM := BXM.below b17 BXM.lt
    replace BXQ := BXQ.below b17 BXQ.lt
    replace BXX := BXX.below b17 BXX.lt
    replace BXG := BXG.below b17 BXG.lt
    replace OS := OS.below b17
    replace OG := OG.below b17
    replace BB := BB.trans (b17.mono BB.size)
    clear o6
    obtain ⟨Q1, Q2, _, _⟩ := BXQ.cells
    have zQ := BXQ.lt
    go_wp2_with fail
    clear Q1 Q2 zQ
    obtain ⟨w18, hw18⟩ : ∃ W, W = w17.alloc (.cells #[.int .i64 t, .slice Ah m Ch] 26) := ⟨_, rfl⟩
    have b18 : Below w17.heap.size w17 w18 := by rw [hw18]; exact (Below.refl _ _).alloc (Nat.le_refl _) _
    replace BXM := BXM.below b18 BXM.lt
    replace BXQ := BXQ.below b18 BXQ.lt
    replace BXX := BXX.below b18 BXX.lt
    replace BXG := BXG.below b18 BXG.lt
    replace OS := OS.below b18
    replace OG := OG.below b18
    replace OH := OH.below b18
    replace BB := BB.trans (b18.mono BB.size)
    have BXH : Box w18 w17.heap.size 26 (.int .i64 t) (.slice Ah m Ch) := by rw [hw18]; exact Box.new _ _ _ _
    rw [← hw18]
    clear hw18
    refine (eqMass_any t t _ _ m _ m _ ys ys _ OH.row OS.row hm1 hm1).mono ?_
    rw [HY.out]
    rintro e w19 ⟨rfl, b19⟩
    replace BXM := BXM.below b19 BXM.lt
    replace BXQ := BXQ.below b19 BXQ.lt
    replace BXX := BXX.below b19 BXX.lt
    replace BXG := BXG.below b19 BXG.lt
    replace BXH := BXH.below b19 BXH.lt
    replace OS := OS.below b19
    replace OG := OG.below b19
    replace OH := OH.below b19
    replace BB := BB.trans (b19.mono BB.size)
    obtain ⟨G1, G2, _, _⟩ := BXG.cells
    go_wp2_with fail
    clear G1 G2
    refine (heldMass_any t _ m _ 1 _ OG.row hm1 (by omega)).mono ?_
    rintro e w20 ⟨rfl, b20⟩
    replace BXM := BXM.below b20 BXM.lt
    replace BXQ := BXQ.below b20 BXQ.lt
    replace BXX := BXX.below b20 BXX.lt
    replace BXG := BXG.below b20 BXG.lt
    replace BXH := BXH.below b20 BXH.lt
    replace OS := OS.below b20
    replace OG := OG.below b20
    replace OH := OH.below b20
    replace BB := BB.trans (b20.mono BB.size)
    go_wp2_with fail
    go_ret
    exact ⟨rfl, HB0.out.trans (BB.mono HB0.out.size)⟩
  · rw [if_pos (by omega)] at HZM
    have HB0 := Lib.hid hB0; clear hB0
    go_enter Try.func3, Try.ntmps3
    go_wp2_with fail
    refine (HZM.out _).mono ?_
    rintro e v0 ⟨rfl, d0⟩
    go_wp2_with fail
    go_ret
    exact ⟨rfl, HB0.out.trans (d0.mono HB0.out.size)⟩
set_option maxHeartbeats 6400000 in
set_option maxRecDepth 100000 in
theorem walkNormalMass (sM : Int) (aM : Option Addr) (nM cM : Nat) (xsM : List Int) (w : World) (hrM : Row w aM nM xsM) (hbigM : nM ≤ 9223372036854775807) :
    Calls Try.prog 4 #[massV sM aM nM cM] w fun e w' => e = .returned (.bool true) ∧ Below w.heap.size w w' := by
  have hB0 : Below w.heap.size w (w.alloc (.cells #[.int .i64 sM, .slice aM nM cM] 24)) := (Below.refl w.heap.size w).alloc (Nat.le_refl _) _
  have HZM := Lib.hid (fun W => szMass_any sM aM nM cM (1048576) W hbigM (by omega))
  by_cases hnM : (nM : Int) ≤ 1048576
  · rw [if_neg (by omega)] at HZM
    have hnM1 : nM ≤ 1048576 := by omega
    have hrM0 := hrM.below hB0
    have HB0 := Lib.hid hB0; clear hB0 hrM
    have HEM : Hid ((sM == sM && eqB xsM xsM) = true) := by show _ = _; simp [eqB_self]
    have hm1 : rN (normalR sM xsM) ≤ 1048576 := normalR_len (by rw [hrM0.1]; exact hnM1)
    have HS := Lib.hid (fun aM cM W (hM : Row W aM nM xsM) => sNormalMass_any sM aM nM cM xsM W hM hnM1)
    have HI := Lib.hid (fun aM cM W (hM : Row W aM nM xsM) => iNormalMass_any sM aM nM cM xsM W hM hnM1)
    obtain ⟨r, hr1⟩ : ∃ r, r = normalR sM xsM := ⟨_, rfl⟩
    rw [← hr1] at hm1 HS HI
    clear hr1
    obtain ⟨t, ht⟩ : ∃ q, q = rS r := ⟨_, rfl⟩
    obtain ⟨m, hm⟩ : ∃ q, q = rN r := ⟨_, rfl⟩
    obtain ⟨ys, hys⟩ : ∃ q, q = rL r := ⟨_, rfl⟩
    obtain ⟨ok, hok⟩ : ∃ q, q = rB r := ⟨_, rfl⟩
    simp only [RetM, ← ht, ← hm, ← hys, ← hok] at HS HI
    rw [← hm] at hm1
    clear ht hm hys hok
    have HY : Hid ((t == t && eqB ys ys) = true) := by show _ = _; simp [eqB_self]
    obtain ⟨w0, hW0⟩ : ∃ W0, W0 = w.alloc (.cells #[.int .i64 sM, .slice aM nM cM] 24) := ⟨_, rfl⟩
    have BXM : Box w0 w.heap.size 24 (.int .i64 sM) (.slice aM nM cM) := by rw [hW0]; exact Box.new _ _ _ _
    rw [← hW0] at HB0 hrM0
    have HW0 := Lib.hid hW0; clear hW0
    have BB := Below.refl w0.heap.size w0
    go_enter Try.func4, Try.ntmps4
    go_wp2_with fail
    rw [← HW0.out]
    refine (HZM.out _).mono ?_
    rintro e w1 ⟨rfl, b1⟩
    replace BXM := BXM.below b1 BXM.lt
    replace BB := BB.trans (b1.mono BB.size)
    obtain ⟨M1, M2, _, _⟩ := BXM.cells
    go_wp2_with fail
    clear M1 M2
    refine (toMass_any sM aM nM cM xsM _ (by exact hrM0.below BB) hnM1).mono ?_
    rintro e w2 ⟨g2, rfl, o2, b2⟩
    replace BXM := BXM.below b2 BXM.lt
    replace BB := BB.trans (b2.mono BB.size)
    go_wp2_with fail
    refine (HS.out _ _ _ o2.row).mono ?_
    rintro e w3 ⟨⟨As, Cs, rfl, OS⟩, b3⟩
    replace BXM := BXM.below b3 BXM.lt
    replace BB := BB.trans (b3.mono BB.size)
    clear o2
    obtain ⟨M1, M2, _, _⟩ := BXM.cells
    have zM := BXM.lt
    go_wp2_with fail
    clear M1 M2 zM
    obtain ⟨w4, hw4⟩ : ∃ W, W = w3.alloc (.cells #[.int .i64 t, .slice As m Cs] 26) := ⟨_, rfl⟩
    have b4 : Below w3.heap.size w3 w4 := by rw [hw4]; exact (Below.refl _ _).alloc (Nat.le_refl _) _
    replace BXM := BXM.below b4 BXM.lt
    replace OS := OS.below b4
    replace BB := BB.trans (b4.mono BB.size)
    have BXQ : Box w4 w3.heap.size 26 (.int .i64 t) (.slice As m Cs) := by rw [hw4]; exact Box.new _ _ _ _
    rw [← hw4]
    clear hw4
    have USX := OS.under
    have hsX := BB.size
    refine (toMass_any sM aM nM cM xsM _ (by exact hrM0.below BB) hnM1).mono ?_
    rintro e w5 ⟨gXx, rfl, OX, b5⟩
    replace BXM := BXM.below b5 BXM.lt
    replace BXQ := BXQ.below b5 BXQ.lt
    replace OS := OS.below b5
    replace BB := BB.trans (b5.mono BB.size)
    go_wp2_with fail
    obtain ⟨w6, hw6⟩ : ∃ W, W = w5.alloc (.cells #[.int .i64 sM, .slice (some ⟨gXx, 0, none⟩) nM nM] 26) := ⟨_, rfl⟩
    have b6 : Below w5.heap.size w5 w6 := by rw [hw6]; exact (Below.refl _ _).alloc (Nat.le_refl _) _
    replace BXM := BXM.below b6 BXM.lt
    replace BXQ := BXQ.below b6 BXQ.lt
    replace OS := OS.below b6
    replace OX := OX.below b6
    replace BB := BB.trans (b6.mono BB.size)
    have BXX : Box w6 w5.heap.size 26 (.int .i64 sM) (.slice (some ⟨gXx, 0, none⟩) nM nM) := by rw [hw6]; exact Box.new _ _ _ _
    rw [← hw6]
    clear hw6
    have USG := OS.under
    have UXG := OX.under
    have hsG := BB.size
    refine (HI.out _ _ _ OX.row).mono ?_
    rintro e w7 ⟨⟨Ag, Cg, rfl, OG⟩, b7⟩
    replace BXM := BXM.below b7 BXM.lt
    replace BXQ := BXQ.below b7 BXQ.lt
    replace BXX := BXX.below b7 BXX.lt
    replace OS := OS.below b7
    replace OX := OX.below b7
    replace BB := BB.trans (b7.mono BB.size)
    obtain ⟨Q1, Q2, _, _⟩ := BXQ.cells
    have zQ := BXQ.lt
    go_wp2_with fail
    clear Q1 Q2 zQ
    obtain ⟨w8, hw8⟩ : ∃ W, W = w7.alloc (.cells #[.int .i64 t, .slice Ag m Cg] 26) := ⟨_, rfl⟩
    have b8 : Below w7.heap.size w7 w8 := by rw [hw8]; exact (Below.refl _ _).alloc (Nat.le_refl _) _
    replace BXM := BXM.below b8 BXM.lt
    replace BXQ := BXQ.below b8 BXQ.lt
    replace BXX := BXX.below b8 BXX.lt
    replace OS := OS.below b8
    replace OX := OX.below b8
    replace OG := OG.below b8
    replace BB := BB.trans (b8.mono BB.size)
    have BXG : Box w8 w7.heap.size 26 (.int .i64 t) (.slice Ag m Cg) := by rw [hw8]; exact Box.new _ _ _ _
    rw [← hw8]
    clear hw8
    refine (eqMass_any t t _ _ m _ m _ ys ys _ OG.row OS.row hm1 hm1).mono ?_
    rw [HY.out]
    rintro e w9 ⟨rfl, b9⟩
    replace BXM := BXM.below b9 BXM.lt
    replace BXQ := BXQ.below b9 BXQ.lt
    replace BXX := BXX.below b9 BXX.lt
    replace BXG := BXG.below b9 BXG.lt
    replace OS := OS.below b9
    replace OX := OX.below b9
    replace OG := OG.below b9
    replace BB := BB.trans (b9.mono BB.size)
    obtain ⟨M1, M2, _, _⟩ := BXM.cells
    obtain ⟨X1, X2, _, _⟩ := BXX.cells
    replace BXM := BXM.drew
    replace BXQ := BXQ.drew
    replace BXX := BXX.drew
    replace BXG := BXG.drew
    replace OS := OS.below (w' := w9.drew) (Below.refl _ _).drew
    replace OX := OX.below (w' := w9.drew) (Below.refl _ _).drew
    replace OG := OG.below (w' := w9.drew) (Below.refl _ _).drew
    replace BB := BB.drew
    go_wp2_with fail
    go_region_held3 (fun W => W.cell? ⟨w.heap.size, 0, none⟩ = some (.int .i64 sM) ∧ W.cell? ⟨w.heap.size, 1, none⟩ = some (.slice aM nM cM) ∧ W.cell? ⟨w5.heap.size, 0, none⟩ = some (.int .i64 sM) ∧ W.cell? ⟨w5.heap.size, 1, none⟩ = some (.slice (some ⟨gXx, 0, none⟩) nM nM))
      (first | go_keep | exact ⟨BXM.cells.1, BXM.cells.2.1, BXX.cells.1, BXX.cells.2.1⟩)
      (first | (have _t := T10; go_at_call 19; refine (eqMass_any sM sM _ _ nM nM nM nM xsM xsM _ OX.row ocM.row hnM1 hnM1).mono ?_; rw [HEM.out]; rintro e w11 ⟨rfl, b11⟩; replace BXM := BXM.below b11 BXM.lt; replace BXQ := BXQ.below b11 BXQ.lt; replace BXX := BXX.below b11 BXX.lt; replace BXG := BXG.below b11 BXG.lt; replace OS := OS.below b11; replace OX := OX.below b11; replace OG := OG.below b11; replace BB := BB.trans (b11.mono BB.size); have T11 : True := trivial) | (go_at_call 17; refine (toMass_any sM aM nM cM xsM _ (by exact hrM0.below BB) hnM1).mono ?_; rintro e w10 ⟨gcM, rfl, ocM, b10⟩; replace BXM := BXM.below b10 BXM.lt; replace BXQ := BXQ.below b10 BXQ.lt; replace BXX := BXX.below b10 BXX.lt; replace BXG := BXG.below b10 BXG.lt; replace OS := OS.below b10; replace OX := OX.below b10; replace OG := OG.below b10; replace BB := BB.trans (b10.mono BB.size); have T10 : True := trivial))
    clear M1 M2
    clear X1 X2
    clear ocM
    obtain ⟨X1, X2, _, _⟩ := BXX.cells
    go_wp2_with fail
    clear X1 X2
    refine (markMass_any _ sM _ nM _ xsM (1) _ OX hnM1 (by omega)).mono ?_
    rintro e w12 ⟨rfl, NX, g12⟩
    replace BXM := BXM.marked OX g12 (by decide)
    replace BXQ := BXQ.marked OX g12 (by decide)
    replace BXX := BXX.marked OX g12 (by decide)
    replace BXG := BXG.marked OX g12 (by decide)
    replace OS := OS.stays USX OX g12
    replace OG := OG.stays' UXG OX g12
    replace BB := below_marked BB OX g12 hsX BB.size
    clear OX g12
    have OX := NX; clear NX
    clear OX
    obtain ⟨G1, G2, _, _⟩ := BXG.cells
    obtain ⟨Q1, Q2, _, _⟩ := BXQ.cells
    go_wp2_with fail
    clear G1 G2
    clear Q1 Q2
    refine (eqMass_any t t _ _ m _ m _ ys ys _ OG.row OS.row hm1 hm1).mono ?_
    rw [HY.out]
    rintro e w13 ⟨rfl, b13⟩
    replace BXM := BXM.below b13 BXM.lt
    replace BXQ := BXQ.below b13 BXQ.lt
    replace BXX := BXX.below b13 BXX.lt
    replace BXG := BXG.below b13 BXG.lt
    replace OS := OS.below b13
    replace OG := OG.below b13
    replace BB := BB.trans (b13.mono BB.size)
    obtain ⟨G1, G2, _, _⟩ := BXG.cells
    go_wp2_with fail
    clear G1 G2
    refine (markMass_any _ t _ m _ ys 1 _ OG hm1 (by omega)).mono ?_
    rintro e w14 ⟨rfl, NG, g14⟩
    replace BXM := BXM.marked OG g14 (by decide)
    replace BXQ := BXQ.marked OG g14 (by decide)
    replace BXX := BXX.marked OG g14 (by decide)
    replace BXG := BXG.marked OG g14 (by decide)
    replace OS := OS.stays USG OG g14
    replace BB := below_marked BB OG g14 hsG BB.size
    clear OG g14
    have OG := NG; clear NG
    obtain ⟨G1, G2, _, _⟩ := BXG.cells
    go_wp2_with fail
    clear G1 G2
    refine (heldMass_any t _ m _ 1 _ OG.row hm1 (by omega)).mono ?_
    rintro e w15 ⟨rfl, b15⟩
    replace BXM := BXM.below b15 BXM.lt
    replace BXQ := BXQ.below b15 BXQ.lt
    replace BXX := BXX.below b15 BXX.lt
    replace BXG := BXG.below b15 BXG.lt
    replace OS := OS.below b15
    replace OG := OG.below b15
    replace BB := BB.trans (b15.mono BB.size)
    obtain ⟨M1, M2, _, _⟩ := BXM.cells
    go_wp2_with fail
    clear M1 M2
    refine (toMass_any sM aM nM cM xsM _ (by exact hrM0.below BB) hnM1).mono ?_
    rintro e w16 ⟨g6, rfl, o6, b16⟩
    replace BXM := BXM.below b16 BXM.lt
    replace BXQ := BXQ.below b16 BXQ.lt
    replace BXX := BXX.below b16 BXX.lt
    replace BXG := BXG.below b16 BXG.lt
    replace OS := OS.below b16
    replace OG := OG.below b16
    replace BB := BB.trans (b16.mono BB.size)
    go_wp2_with fail
    refine (HI.out _ _ _ o6.row).mono ?_
    rintro e w17 ⟨⟨Ah, Ch, rfl, OH⟩, b17⟩
    replace BXM := BXM.below b17 BXM.lt
    replace BXQ := BXQ.below b17 BXQ.lt
    replace BXX := BXX.below b17 BXX.lt
    replace BXG := BXG.below b17 BXG.lt
    replace OS := OS.below b17
    replace OG := OG.below b17
    replace BB := BB.trans (b17.mono BB.size)
    clear o6
    obtain ⟨Q1, Q2, _, _⟩ := BXQ.cells
    have zQ := BXQ.lt
    go_wp2_with fail
    clear Q1 Q2 zQ
    obtain ⟨w18, hw18⟩ : ∃ W, W = w17.alloc (.cells #[.int .i64 t, .slice Ah m Ch] 26) := ⟨_, rfl⟩
    have b18 : Below w17.heap.size w17 w18 := by rw [hw18]; exact (Below.refl _ _).alloc (Nat.le_refl _) _
    replace BXM := BXM.below b18 BXM.lt
    replace BXQ := BXQ.below b18 BXQ.lt
    replace BXX := BXX.below b18 BXX.lt
    replace BXG := BXG.below b18 BXG.lt
    replace OS := OS.below b18
    replace OG := OG.below b18
    replace OH := OH.below b18
    replace BB := BB.trans (b18.mono BB.size)
    have BXH : Box w18 w17.heap.size 26 (.int .i64 t) (.slice Ah m Ch) := by rw [hw18]; exact Box.new _ _ _ _
    rw [← hw18]
    clear hw18
    refine (eqMass_any t t _ _ m _ m _ ys ys _ OH.row OS.row hm1 hm1).mono ?_
    rw [HY.out]
    rintro e w19 ⟨rfl, b19⟩
    replace BXM := BXM.below b19 BXM.lt
    replace BXQ := BXQ.below b19 BXQ.lt
    replace BXX := BXX.below b19 BXX.lt
    replace BXG := BXG.below b19 BXG.lt
    replace BXH := BXH.below b19 BXH.lt
    replace OS := OS.below b19
    replace OG := OG.below b19
    replace OH := OH.below b19
    replace BB := BB.trans (b19.mono BB.size)
    obtain ⟨G1, G2, _, _⟩ := BXG.cells
    go_wp2_with fail
    clear G1 G2
    refine (heldMass_any t _ m _ 1 _ OG.row hm1 (by omega)).mono ?_
    rintro e w20 ⟨rfl, b20⟩
    replace BXM := BXM.below b20 BXM.lt
    replace BXQ := BXQ.below b20 BXQ.lt
    replace BXX := BXX.below b20 BXX.lt
    replace BXG := BXG.below b20 BXG.lt
    replace BXH := BXH.below b20 BXH.lt
    replace OS := OS.below b20
    replace OG := OG.below b20
    replace OH := OH.below b20
    replace BB := BB.trans (b20.mono BB.size)
    go_wp2_with fail
    go_ret
    exact ⟨rfl, HB0.out.trans (BB.mono HB0.out.size)⟩
  · rw [if_pos (by omega)] at HZM
    have HB0 := Lib.hid hB0; clear hB0
    go_enter Try.func4, Try.ntmps4
    go_wp2_with fail
    refine (HZM.out _).mono ?_
    rintro e v0 ⟨rfl, d0⟩
    go_wp2_with fail
    go_ret
    exact ⟨rfl, HB0.out.trans (d0.mono HB0.out.size)⟩
end Go.Proofs.Ytkcgmiiepiamaaa
