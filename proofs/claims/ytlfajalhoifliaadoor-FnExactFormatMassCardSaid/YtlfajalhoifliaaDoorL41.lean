/- The walk of the statement FnExactFormatMass. -/
import Derived.Test.YtlfajalhoifliaaDoorW73
import Derived.Test.YtlfajalhoifliaaDoorW11
import Derived.Test.YtlfajalhoifliaaDoorBase4
import Derived.Deep.RegionHeld3
namespace Go.Proofs.YtlfajalhoifliaaDoor
open Go.RowKit

set_option maxHeartbeats 6400000 in
set_option maxRecDepth 100000 in
theorem walkFormatMass (sM : Int) (aM : Option Addr) (nM cM : Nat) (xsM : List Int) (w : World) (hrM : Row w aM nM xsM) (hbigM : nM ≤ 9223372036854775807) (htab : TabP w) :
    Calls Tryd.prog 4 #[massV sM aM nM cM] w fun e w' => e = .returned (.bool true) ∧ Below w.heap.size w w' := by
  have hB0 : Below w.heap.size w (w.alloc (.cells #[.int .i64 sM, .slice aM nM cM] 30)) := (Below.refl w.heap.size w).alloc (Nat.le_refl _) _
  have HZM := Lib.hid (fun W => szMass_any sM aM nM cM (1048576) W hbigM (by omega))
  by_cases hnM : (nM : Int) ≤ 1048576
  · rw [if_neg (by omega)] at HZM
    have hnM1 : nM ≤ 1048576 := by omega
    have hrM0 := hrM.below hB0
    have HTAB := Lib.hid htab
    have HB0 := Lib.hid hB0; clear hB0 hrM htab
    have HEM : Hid ((sM == sM && eqB xsM xsM) = true) := by show _ = _; simp [eqB_self]
    have HS := Lib.hid (fun aM cM W (hM : Row W aM nM xsM) => sFormatMass_any sM aM nM cM xsM W hM hnM1)
    have HI := Lib.hid (fun aM cM W (hM : Row W aM nM xsM) (ht : TabP W) => iFormatMass_any sM aM nM cM xsM W hM hnM1 ht)
    obtain ⟨r, hr1⟩ : ∃ r, r = bs (fmtT sM xsM) := ⟨_, rfl⟩
    rw [← hr1] at HS HI
    clear hr1
    obtain ⟨w0, hW0⟩ : ∃ W0, W0 = w.alloc (.cells #[.int .i64 sM, .slice aM nM cM] 30) := ⟨_, rfl⟩
    have BXM : Box w0 w.heap.size 30 (.int .i64 sM) (.slice aM nM cM) := by rw [hW0]; exact Box.new _ _ _ _
    rw [← hW0] at HB0 hrM0
    have HW0 := Lib.hid hW0; clear hW0
    have BB := Below.refl w0.heap.size w0
    go_enter Tryd.func4, Tryd.ntmps4
    go_wp2_with fail
    rw [← HW0.out]
    refine (HZM.out _).mono ?_
    rintro e w1 ⟨rfl, b1⟩
    replace BXM := BXM.below b1 BXM.lt
    replace BB := BB.trans (b1.mono BB.size)
    obtain ⟨M1, M2, _, _⟩ := BXM.cells
    go_wp2_with fail
    clear M1 M2
    refine (toMass_any sM aM nM cM xsM _ (by exact hrM0.below BB) hnM1).mono ?_
    rintro e w2 ⟨g2, rfl, o2, b2⟩
    replace BXM := BXM.below b2 BXM.lt
    replace BB := BB.trans (b2.mono BB.size)
    go_wp2_with fail
    refine (HS.out _ _ _ o2.row).mono ?_
    rintro e w3 ⟨rfl, b3⟩
    replace BXM := BXM.below b3 BXM.lt
    replace BB := BB.trans (b3.mono BB.size)
    clear o2
    obtain ⟨M1, M2, _, _⟩ := BXM.cells
    go_wp2_with fail
    clear M1 M2
    refine (toMass_any sM aM nM cM xsM _ (by exact hrM0.below BB) hnM1).mono ?_
    rintro e w4 ⟨gXx, rfl, OX, b4⟩
    replace BXM := BXM.below b4 BXM.lt
    replace BB := BB.trans (b4.mono BB.size)
    go_wp2_with fail
    obtain ⟨w5, hw5⟩ : ∃ W, W = w4.alloc (.cells #[.int .i64 sM, .slice (some ⟨gXx, 0, none⟩) nM nM] 24) := ⟨_, rfl⟩
    have b5 : Below w4.heap.size w4 w5 := by rw [hw5]; exact (Below.refl _ _).alloc (Nat.le_refl _) _
    replace BXM := BXM.below b5 BXM.lt
    replace OX := OX.below b5
    replace BB := BB.trans (b5.mono BB.size)
    have BXX : Box w5 w4.heap.size 24 (.int .i64 sM) (.slice (some ⟨gXx, 0, none⟩) nM nM) := by rw [hw5]; exact Box.new _ _ _ _
    rw [← hw5]
    clear hw5
    refine (HI.out _ _ _ OX.row (tab_below HTAB.out (HB0.out.trans (BB.mono HB0.out.size)))).mono ?_
    rintro e w6 ⟨rfl, b6⟩
    replace BXM := BXM.below b6 BXM.lt
    replace BXX := BXX.below b6 BXX.lt
    replace OX := OX.below b6
    replace BB := BB.trans (b6.mono BB.size)
    obtain ⟨M1, M2, _, _⟩ := BXM.cells
    obtain ⟨X1, X2, _, _⟩ := BXX.cells
    replace BXM := BXM.drew
    replace BXX := BXX.drew
    replace OX := OX.below (w' := w6.drew) (Below.refl _ _).drew
    replace BB := BB.drew
    go_wp2_with fail
    go_region_held3 (fun W => W.cell? ⟨w.heap.size, 0, none⟩ = some (.int .i64 sM) ∧ W.cell? ⟨w.heap.size, 1, none⟩ = some (.slice aM nM cM) ∧ W.cell? ⟨w4.heap.size, 0, none⟩ = some (.int .i64 sM) ∧ W.cell? ⟨w4.heap.size, 1, none⟩ = some (.slice (some ⟨gXx, 0, none⟩) nM nM))
      (first | go_keep | exact ⟨BXM.cells.1, BXM.cells.2.1, BXX.cells.1, BXX.cells.2.1⟩)
      (first | (have _t := T7; go_at_call 7; refine (eqMass_any sM sM _ _ nM nM nM nM xsM xsM _ OX.row ocM.row hnM1 hnM1).mono ?_; rw [HEM.out]; rintro e w8 ⟨rfl, b8⟩; replace BXM := BXM.below b8 BXM.lt; replace BXX := BXX.below b8 BXX.lt; replace OX := OX.below b8; replace BB := BB.trans (b8.mono BB.size); have T8 : True := trivial) | (go_at_call 12; refine (toMass_any sM aM nM cM xsM _ (by exact hrM0.below BB) hnM1).mono ?_; rintro e w7 ⟨gcM, rfl, ocM, b7⟩; replace BXM := BXM.below b7 BXM.lt; replace BXX := BXX.below b7 BXX.lt; replace OX := OX.below b7; replace BB := BB.trans (b7.mono BB.size); have T7 : True := trivial))
    clear M1 M2
    clear X1 X2
    clear ocM
    go_wp2_with fail
    go_ret
    exact ⟨rfl, HB0.out.trans (BB.mono HB0.out.size)⟩
  · rw [if_pos (by omega)] at HZM
    have HB0 := Lib.hid hB0; clear hB0
    go_enter Tryd.func4, Tryd.ntmps4
    go_wp2_with fail
    refine (HZM.out _).mono ?_
    rintro e v0 ⟨rfl, d0⟩
    go_wp2_with fail
    go_ret
    exact ⟨rfl, HB0.out.trans (d0.mono HB0.out.size)⟩
end Go.Proofs.YtlfajalhoifliaaDoor
