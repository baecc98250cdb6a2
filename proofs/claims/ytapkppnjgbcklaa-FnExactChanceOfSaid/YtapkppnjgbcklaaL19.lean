/- The walk of the statement FnExactChanceOf. -/
import Derived.Test.YtapkppnjgbcklaaW35
import Derived.Test.YtapkppnjgbcklaaW25
import Derived.Test.YtapkppnjgbcklaaBase4
import Derived.Deep.RegionHeld3
namespace Go.Proofs.Ytapkppnjgbcklaa
open Go.RowKit

set_option maxHeartbeats 6400000 in
set_option maxRecDepth 100000 in
theorem walkChanceOf (sM : Int) (aM : Option Addr) (nM cM : Nat) (xsM : List Int) (xA : Int) (w : World) (hrM : Row w aM nM xsM) (hbigM : nM ≤ 9223372036854775807) :
    Calls Try.prog 3 #[massV sM aM nM cM, .int .i64 xA] w fun e w' => e = .returned (.bool true) ∧ Below w.heap.size w w' := by
  have hB0 : Below w.heap.size w (w.alloc (.cells #[.int .i64 sM, .slice aM nM cM] 24)) := (Below.refl w.heap.size w).alloc (Nat.le_refl _) _
  have HZM := Lib.hid (fun W => szMass_any sM aM nM cM (1048576) W hbigM (by omega))
  by_cases hnM : (nM : Int) ≤ 1048576
  · rw [if_neg (by omega)] at HZM
    have hnM1 : nM ≤ 1048576 := by omega
    have hrM0 := hrM.below hB0
    have HB0 := Lib.hid hB0; clear hB0 hrM
    have HEM : Hid ((sM == sM && eqB xsM xsM) = true) := by show _ = _; simp [eqB_self]
    have HS := Lib.hid (fun aM cM W (hM : Row W aM nM xsM) => sChanceOf_any sM xA aM nM cM xsM W hM hnM1)
    have HI := Lib.hid (fun aM cM W (hM : Row W aM nM xsM) => iChanceOf_any sM xA aM nM cM xsM W hM hnM1)
    obtain ⟨r, hr1⟩ : ∃ r, r = chanceR sM xsM xA := ⟨_, rfl⟩
    rw [← hr1] at HS HI
    clear hr1
    obtain ⟨p, hp⟩ : ∃ q, q = fN r := ⟨_, rfl⟩
    obtain ⟨q, hq⟩ : ∃ q, q = fD r := ⟨_, rfl⟩
    obtain ⟨ok, hok⟩ : ∃ q, q = fB r := ⟨_, rfl⟩
    simp only [RetF, ← hp, ← hq, ← hok] at HS HI
    clear hp hq hok
    obtain ⟨w0, hW0⟩ : ∃ W0, W0 = w.alloc (.cells #[.int .i64 sM, .slice aM nM cM] 24) := ⟨_, rfl⟩
    have BXM : Box w0 w.heap.size 24 (.int .i64 sM) (.slice aM nM cM) := by rw [hW0]; exact Box.new _ _ _ _
    rw [← hW0] at HB0 hrM0
    have HW0 := Lib.hid hW0; clear hW0
    have BB := Below.refl w0.heap.size w0
    go_enter Try.func3, Try.ntmps3
    go_wp2_with fail
    rw [← HW0.out]
    refine (HZM.out _).mono ?_
    rintro e w1 ⟨rfl, b1⟩
    replace BXM := BXM.below b1 BXM.lt
    replace BB := BB.trans (b1.mono BB.size)
    obtain ⟨M1, M2, _, _⟩ := BXM.cells
    go_wp2_with fail
    clear M1 M2
    refine (toMass_any sM aM nM cM xsM _ (by exact hrM0.below BB) hnM1).mono ?_
    rintro e w2 ⟨g2, rfl, o2, b2⟩
    replace BXM := BXM.below b2 BXM.lt
    replace BB := BB.trans (b2.mono BB.size)
    go_wp2_with fail
    refine (HS.out _ _ _ o2.row).mono ?_
    rintro e w3 ⟨rfl, b3⟩
    replace BXM := BXM.below b3 BXM.lt
    replace BB := BB.trans (b3.mono BB.size)
    clear o2
    obtain ⟨M1, M2, _, _⟩ := BXM.cells
    have zM := BXM.lt
    go_wp2_with fail
    clear M1 M2 zM
    obtain ⟨w4, hw4⟩ : ∃ W, W = w3.alloc (.cells #[.int .i64 p, .int .i64 q] 27) := ⟨_, rfl⟩
    have b4 : Below w3.heap.size w3 w4 := by rw [hw4]; exact (Below.refl _ _).alloc (Nat.le_refl _) _
    replace BXM := BXM.below b4 BXM.lt
    replace BB := BB.trans (b4.mono BB.size)
    have BXW : Box w4 w3.heap.size 27 (.int .i64 p) (.int .i64 q) := by rw [hw4]; exact Box.new _ _ _ _
    rw [← hw4]
    clear hw4
    have hsX := BB.size
    refine (toMass_any sM aM nM cM xsM _ (by exact hrM0.below BB) hnM1).mono ?_
    rintro e w5 ⟨gXx, rfl, OX, b5⟩
    replace BXM := BXM.below b5 BXM.lt
    replace BXW := BXW.below b5 BXW.lt
    replace BB := BB.trans (b5.mono BB.size)
    go_wp2_with fail
    obtain ⟨w6, hw6⟩ : ∃ W, W = w5.alloc (.cells #[.int .i64 sM, .slice (some ⟨gXx, 0, none⟩) nM nM] 30) := ⟨_, rfl⟩
    have b6 : Below w5.heap.size w5 w6 := by rw [hw6]; exact (Below.refl _ _).alloc (Nat.le_refl _) _
    replace BXM := BXM.below b6 BXM.lt
    replace BXW := BXW.below b6 BXW.lt
    replace OX := OX.below b6
    replace BB := BB.trans (b6.mono BB.size)
    have BXX : Box w6 w5.heap.size 30 (.int .i64 sM) (.slice (some ⟨gXx, 0, none⟩) nM nM) := by rw [hw6]; exact Box.new _ _ _ _
    rw [← hw6]
    clear hw6
    refine (HI.out _ _ _ OX.row).mono ?_
    rintro e w7 ⟨rfl, b7⟩
    replace BXM := BXM.below b7 BXM.lt
    replace BXW := BXW.below b7 BXW.lt
    replace BXX := BXX.below b7 BXX.lt
    replace OX := OX.below b7
    replace BB := BB.trans (b7.mono BB.size)
    obtain ⟨W1, W2, _, _⟩ := BXW.cells
    have zW := BXW.lt
    go_wp2_with fail
    clear W1 W2 zW
    obtain ⟨w8, hw8⟩ : ∃ W, W = w7.alloc (.cells #[.int .i64 p, .int .i64 q] 27) := ⟨_, rfl⟩
    have b8 : Below w7.heap.size w7 w8 := by rw [hw8]; exact (Below.refl _ _).alloc (Nat.le_refl _) _
    replace BXM := BXM.below b8 BXM.lt
    replace BXW := BXW.below b8 BXW.lt
    replace BXX := BXX.below b8 BXX.lt
    replace OX := OX.below b8
    replace BB := BB.trans (b8.mono BB.size)
    have BXV : Box w8 w7.heap.size 27 (.int .i64 p) (.int .i64 q) := by rw [hw8]; exact Box.new _ _ _ _
    rw [← hw8]
    clear hw8
    refine (eqFraction_any p q _).mono ?_
    rintro e w9 ⟨rfl, b9⟩
    replace BXM := BXM.below b9 BXM.lt
    replace BXW := BXW.below b9 BXW.lt
    replace BXX := BXX.below b9 BXX.lt
    replace BXV := BXV.below b9 BXV.lt
    replace OX := OX.below b9
    replace BB := BB.trans (b9.mono BB.size)
    obtain ⟨M1, M2, _, _⟩ := BXM.cells
    obtain ⟨X1, X2, _, _⟩ := BXX.cells
    replace BXM := BXM.drew
    replace BXW := BXW.drew
    replace BXX := BXX.drew
    replace BXV := BXV.drew
    replace OX := OX.below (w' := w9.drew) (Below.refl _ _).drew
    replace BB := BB.drew
    go_wp2_with fail
    go_region_held3 (fun W => W.cell? ⟨w.heap.size, 0, none⟩ = some (.int .i64 sM) ∧ W.cell? ⟨w.heap.size, 1, none⟩ = some (.slice aM nM cM) ∧ W.cell? ⟨w5.heap.size, 0, none⟩ = some (.int .i64 sM) ∧ W.cell? ⟨w5.heap.size, 1, none⟩ = some (.slice (some ⟨gXx, 0, none⟩) nM nM))
      (first | go_keep | exact ⟨BXM.cells.1, BXM.cells.2.1, BXX.cells.1, BXX.cells.2.1⟩)
      (first | (have _t := T10; go_at_call 18; refine (eqMass_any sM sM _ _ nM nM nM nM xsM xsM _ OX.row ocM.row hnM1 hnM1).mono ?_; rw [HEM.out]; rintro e w11 ⟨rfl, b11⟩; replace BXM := BXM.below b11 BXM.lt; replace BXW := BXW.below b11 BXW.lt; replace BXX := BXX.below b11 BXX.lt; replace BXV := BXV.below b11 BXV.lt; replace OX := OX.below b11; replace BB := BB.trans (b11.mono BB.size); have T11 : True := trivial) | (go_at_call 15; refine (toMass_any sM aM nM cM xsM _ (by exact hrM0.below BB) hnM1).mono ?_; rintro e w10 ⟨gcM, rfl, ocM, b10⟩; replace BXM := BXM.below b10 BXM.lt; replace BXW := BXW.below b10 BXW.lt; replace BXX := BXX.below b10 BXX.lt; replace BXV := BXV.below b10 BXV.lt; replace OX := OX.below b10; replace BB := BB.trans (b10.mono BB.size); have T10 : True := trivial))
    clear M1 M2
    clear X1 X2
    clear ocM
    go_wp2_with fail
    go_ret
    exact ⟨rfl, HB0.out.trans (BB.mono HB0.out.size)⟩
  · rw [if_pos (by omega)] at HZM
    have HB0 := Lib.hid hB0; clear hB0
    go_enter Try.func3, Try.ntmps3
    go_wp2_with fail
    refine (HZM.out _).mono ?_
    rintro e v0 ⟨rfl, d0⟩
    go_wp2_with fail
    go_ret
    exact ⟨rfl, HB0.out.trans (d0.mono HB0.out.size)⟩
end Go.Proofs.Ytapkppnjgbcklaa
