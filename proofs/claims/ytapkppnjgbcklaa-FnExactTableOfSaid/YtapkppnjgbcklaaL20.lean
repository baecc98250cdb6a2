/- The walk of the statement FnExactTableOf. -/
import Derived.Test.YtapkppnjgbcklaaW41
import Derived.Test.YtapkppnjgbcklaaW42
import Derived.Test.YtapkppnjgbcklaaBase4
import Derived.Deep.RegionHeld3
namespace Go.Proofs.Ytapkppnjgbcklaa
open Go.RowKit

set_option maxHeartbeats 6400000 in
set_option maxRecDepth 100000 in
theorem walkTableOf (sM : Int) (aM : Option Addr) (nM cM : Nat) (xsM : List Int) (kd : ByteArray) (w : World) (hrM : Row w aM nM xsM) (hbigM : nM ≤ 9223372036854775807) :
    Calls Try.prog 6 #[massV sM aM nM cM, .string kd] w fun e w' => e = .returned (.bool true) ∧ Below w.heap.size w w' := by
  have hB0 : Below w.heap.size w (w.alloc (.cells #[.int .i64 sM, .slice aM nM cM] 24)) := (Below.refl w.heap.size w).alloc (Nat.le_refl _) _
  have HZM := Lib.hid (fun W => szMass_any sM aM nM cM (1048576) W hbigM (by omega))
  by_cases hkl : (1048576 : Int) < (kd.size : Int)
  · have HB0 := Lib.hid hB0; clear hB0
    go_enter Try.func6, Try.ntmps6
    go_wp2_with fail
    go_ret
    exact ⟨rfl, HB0.out⟩
  · by_cases hnM : (nM : Int) ≤ 1048576
    · rw [if_neg (by omega)] at HZM
      have hnM1 : nM ≤ 1048576 := by omega
      have hrM0 := hrM.below hB0
      have HB0 := Lib.hid hB0; clear hB0 hrM
      have HEM : Hid ((sM == sM && eqB xsM xsM) = true) := by show _ = _; simp [eqB_self]
      have hm1 : tabN sM xsM kd ≤ 1048576 := by have := tabN_le sM xsM kd; have := hrM0.1; omega
      have HS := Lib.hid (fun aM cM W (h : Row W aM nM xsM) => sTableOf_any sM kd aM nM cM xsM W h hnM1)
      have HI := Lib.hid (fun aM cM W (h : Row W aM nM xsM) => iTableOf_any sM kd aM nM cM xsM W h hnM1)
      obtain ⟨m, hm⟩ : ∃ m, m = tabN sM xsM kd := ⟨_, rfl⟩
      obtain ⟨ys, hys⟩ : ∃ ys, ys = tabT sM xsM kd := ⟨_, rfl⟩
      rw [← hm] at hm1
      rw [← hm, ← hys] at HS HI
      clear hm hys
      have HY : Hid (eqB ys ys = true) := eqB_self ys
      obtain ⟨w0, hW0⟩ : ∃ W0, W0 = w.alloc (.cells #[.int .i64 sM, .slice aM nM cM] 24) := ⟨_, rfl⟩
      have BXM : Box w0 w.heap.size 24 (.int .i64 sM) (.slice aM nM cM) := by rw [hW0]; exact Box.new _ _ _ _
      rw [← hW0] at HB0 hrM0
      have HW0 := Lib.hid hW0; clear hW0
      have BB := Below.refl w0.heap.size w0
      go_enter Try.func6, Try.ntmps6
      go_wp2_with fail
      rw [← HW0.out]
      refine (HZM.out _).mono ?_
      rintro e w1 ⟨rfl, b1⟩
      replace BXM := BXM.below b1 BXM.lt
      replace BB := BB.trans (b1.mono BB.size)
      obtain ⟨M1, M2, _, _⟩ := BXM.cells
      go_wp2_with fail
      clear M1 M2
      refine (toMass_any sM aM nM cM xsM _ (by exact hrM0.below BB) hnM1).mono ?_
      rintro e w2 ⟨g2, rfl, o2, b2⟩
      replace BXM := BXM.below b2 BXM.lt
      replace BB := BB.trans (b2.mono BB.size)
      go_wp2_with fail
      refine (HS.out _ _ _ o2.row).mono ?_
      rintro e w3 ⟨As, Cs, rfl, OS, b3⟩
      replace BXM := BXM.below b3 BXM.lt
      replace BB := BB.trans (b3.mono BB.size)
      clear o2
      obtain ⟨M1, M2, _, _⟩ := BXM.cells
      go_wp2_with fail
      clear M1 M2
      have USX := OS.under
      have hsX := BB.size
      refine (toMass_any sM aM nM cM xsM _ (by exact hrM0.below BB) hnM1).mono ?_
      rintro e w4 ⟨gXx, rfl, OX, b4⟩
      replace BXM := BXM.below b4 BXM.lt
      replace OS := OS.below b4
      replace BB := BB.trans (b4.mono BB.size)
      go_wp2_with fail
      obtain ⟨w5, hw5⟩ : ∃ W, W = w4.alloc (.cells #[.int .i64 sM, .slice (some ⟨gXx, 0, none⟩) nM nM] 30) := ⟨_, rfl⟩
      have b5 : Below w4.heap.size w4 w5 := by rw [hw5]; exact (Below.refl _ _).alloc (Nat.le_refl _) _
      replace BXM := BXM.below b5 BXM.lt
      replace OS := OS.below b5
      replace OX := OX.below b5
      replace BB := BB.trans (b5.mono BB.size)
      have BXX : Box w5 w4.heap.size 30 (.int .i64 sM) (.slice (some ⟨gXx, 0, none⟩) nM nM) := by rw [hw5]; exact Box.new _ _ _ _
      rw [← hw5]
      clear hw5
      have USG := OS.under
      have UXG := OX.under
      have hsG := BB.size
      refine (HI.out _ _ _ OX.row).mono ?_
      rintro e w6 ⟨Ag, Cg, rfl, OG, b6⟩
      replace BXM := BXM.below b6 BXM.lt
      replace BXX := BXX.below b6 BXX.lt
      replace OS := OS.below b6
      replace OX := OX.below b6
      replace BB := BB.trans (b6.mono BB.size)
      go_wp2_with fail
      refine (eqIntS_any _ _ m _ m _ ys ys _ OG.row OS.row hm1 hm1).mono ?_
      rw [HY.out]
      rintro e w7 ⟨rfl, b7⟩
      replace BXM := BXM.below b7 BXM.lt
      replace BXX := BXX.below b7 BXX.lt
      replace OS := OS.below b7
      replace OX := OX.below b7
      replace OG := OG.below b7
      replace BB := BB.trans (b7.mono BB.size)
      obtain ⟨M1, M2, _, _⟩ := BXM.cells
      obtain ⟨X1, X2, _, _⟩ := BXX.cells
      replace BXM := BXM.drew
      replace BXX := BXX.drew
      replace OS := OS.below (w' := w7.drew) (Below.refl _ _).drew
      replace OX := OX.below (w' := w7.drew) (Below.refl _ _).drew
      replace OG := OG.below (w' := w7.drew) (Below.refl _ _).drew
      replace BB := BB.drew
      go_wp2_with fail
      go_region_held3 (fun W => W.cell? ⟨w.heap.size, 0, none⟩ = some (.int .i64 sM) ∧ W.cell? ⟨w.heap.size, 1, none⟩ = some (.slice aM nM cM) ∧ W.cell? ⟨w4.heap.size, 0, none⟩ = some (.int .i64 sM) ∧ W.cell? ⟨w4.heap.size, 1, none⟩ = some (.slice (some ⟨gXx, 0, none⟩) nM nM))
        (first | go_keep | exact ⟨BXM.cells.1, BXM.cells.2.1, BXX.cells.1, BXX.cells.2.1⟩)
        (first | (have _t := T8; go_at_call 18; refine (eqMass_any sM sM _ _ nM nM nM nM xsM xsM _ OX.row ocM.row hnM1 hnM1).mono ?_; rw [HEM.out]; rintro e w9 ⟨rfl, b9⟩; replace BXM := BXM.below b9 BXM.lt; replace BXX := BXX.below b9 BXX.lt; replace OS := OS.below b9; replace OX := OX.below b9; replace OG := OG.below b9; replace BB := BB.trans (b9.mono BB.size); have T9 : True := trivial) | (go_at_call 15; refine (toMass_any sM aM nM cM xsM _ (by exact hrM0.below BB) hnM1).mono ?_; rintro e w8 ⟨gcM, rfl, ocM, b8⟩; replace BXM := BXM.below b8 BXM.lt; replace BXX := BXX.below b8 BXX.lt; replace OS := OS.below b8; replace OX := OX.below b8; replace OG := OG.below b8; replace BB := BB.trans (b8.mono BB.size); have T8 : True := trivial))
      clear M1 M2
      clear X1 X2
      clear ocM
      obtain ⟨X1, X2, _, _⟩ := BXX.cells
      go_wp2_with fail
      clear X1 X2
      refine (markMass_any _ sM _ nM _ xsM (1) _ OX hnM1 (by omega)).mono ?_
      rintro e w10 ⟨rfl, NX, g10⟩
      replace BXM := BXM.marked OX g10 (by decide)
      replace BXX := BXX.marked OX g10 (by decide)
      replace OS := OS.stays USX OX g10
      replace OG := OG.stays' UXG OX g10
      replace BB := below_marked BB OX g10 hsX BB.size
      clear OX g10
      have OX := NX; clear NX
      clear OX
      go_wp2_with fail
      refine (eqIntS_any _ _ m _ m _ ys ys _ OG.row OS.row hm1 hm1).mono ?_
      rw [HY.out]
      rintro e w11 ⟨rfl, b11⟩
      replace BXM := BXM.below b11 BXM.lt
      replace BXX := BXX.below b11 BXX.lt
      replace OS := OS.below b11
      replace OG := OG.below b11
      replace BB := BB.trans (b11.mono BB.size)
      go_wp2_with fail
      refine (markIntS_any _ _ m _ ys 1 _ OG hm1 (by omega)).mono ?_
      rintro e w12 ⟨rfl, NG, g12⟩
      replace BXM := BXM.marked OG g12 (by decide)
      replace BXX := BXX.marked OG g12 (by decide)
      replace OS := OS.stays USG OG g12
      replace BB := below_marked BB OG g12 hsG BB.size
      clear OG g12
      have OG := NG; clear NG
      go_wp2_with fail
      refine (heldIntS_any _ m _ 1 _ OG.row hm1 (by omega)).mono ?_
      rintro e w13 ⟨rfl, b13⟩
      replace BXM := BXM.below b13 BXM.lt
      replace BXX := BXX.below b13 BXX.lt
      replace OS := OS.below b13
      replace OG := OG.below b13
      replace BB := BB.trans (b13.mono BB.size)
      obtain ⟨M1, M2, _, _⟩ := BXM.cells
      go_wp2_with fail
      clear M1 M2
      refine (toMass_any sM aM nM cM xsM _ (by exact hrM0.below BB) hnM1).mono ?_
      rintro e w14 ⟨g6, rfl, o6, b14⟩
      replace BXM := BXM.below b14 BXM.lt
      replace BXX := BXX.below b14 BXX.lt
      replace OS := OS.below b14
      replace OG := OG.below b14
      replace BB := BB.trans (b14.mono BB.size)
      go_wp2_with fail
      refine (HI.out _ _ _ o6.row).mono ?_
      rintro e w15 ⟨Ah, Ch, rfl, OH, b15⟩
      replace BXM := BXM.below b15 BXM.lt
      replace BXX := BXX.below b15 BXX.lt
      replace OS := OS.below b15
      replace OG := OG.below b15
      replace BB := BB.trans (b15.mono BB.size)
      clear o6
      go_wp2_with fail
      refine (eqIntS_any _ _ m _ m _ ys ys _ OH.row OS.row hm1 hm1).mono ?_
      rw [HY.out]
      rintro e w16 ⟨rfl, b16⟩
      replace BXM := BXM.below b16 BXM.lt
      replace BXX := BXX.below b16 BXX.lt
      replace OS := OS.below b16
      replace OG := OG.below b16
      replace OH := OH.below b16
      replace BB := BB.trans (b16.mono BB.size)
      go_wp2_with fail
      refine (heldIntS_any _ m _ 1 _ OG.row hm1 (by omega)).mono ?_
      rintro e w17 ⟨rfl, b17⟩
      replace BXM := BXM.below b17 BXM.lt
      replace BXX := BXX.below b17 BXX.lt
      replace OS := OS.below b17
      replace OG := OG.below b17
      replace OH := OH.below b17
      replace BB := BB.trans (b17.mono BB.size)
      go_wp2_with fail
      go_ret
      exact ⟨rfl, HB0.out.trans (BB.mono HB0.out.size)⟩
    · rw [if_pos (by omega)] at HZM
      have HB0 := Lib.hid hB0; clear hB0
      go_enter Try.func6, Try.ntmps6
      go_wp2_with fail
      refine (HZM.out _).mono ?_
      rintro e v0 ⟨rfl, d0⟩
      go_wp2_with fail
      go_ret
      exact ⟨rfl, HB0.out.trans (d0.mono HB0.out.size)⟩
end Go.Proofs.Ytapkppnjgbcklaa
