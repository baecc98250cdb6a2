/- The walk of the statement FnExactMassOfTable. -/
import Derived.Test.YtapkppnjgbcklaaW43
import Derived.Test.YtapkppnjgbcklaaW44
import Derived.Test.YtapkppnjgbcklaaBase4
import Derived.Deep.RegionHeld3
namespace Go.Proofs.Ytapkppnjgbcklaa
open Go.RowKit

set_option maxHeartbeats 6400000 in
set_option maxRecDepth 100000 in
theorem walkMassOfTable (s : Int) (a : Option Addr) (n c : Nat) (xs : List Int) (kd : ByteArray) (w : World) (hr : Row w a n xs) (hbig : n ≤ 9223372036854775807) :
    Calls Try.prog 7 #[.int .i64 s, .slice a n c, .string kd] w fun e w' => e = .returned (.bool true) ∧ Below w.heap.size w w' := by
  by_cases hnl : (1048576 : Int) < (n : Int)
  · go_enter Try.func7, Try.ntmps7
    go_wp2_with fail
    go_ret
    exact ⟨rfl, Below.refl _ _⟩
  · by_cases hkl : (1048576 : Int) < (kd.size : Int)
    · go_enter Try.func7, Try.ntmps7
      go_wp2_with fail
      go_ret
      exact ⟨rfl, Below.refl _ _⟩
    · have hn1 : n ≤ 1048576 := by omega
      have HEX : Hid (eqB xs xs = true) := eqB_self xs
      have hm1 : rN (motR s xs kd) ≤ 1048576 := motR_len (by rw [hr.1]; exact hn1)
      have HS := Lib.hid (fun a c W (h : Row W a n xs) => sMassOfTable_any s kd a n c xs W h hn1)
      have HI := Lib.hid (fun a c W (h : Row W a n xs) => iMassOfTable_any s kd a n c xs W h hn1)
      obtain ⟨r, hr1⟩ : ∃ r, r = motR s xs kd := ⟨_, rfl⟩
      rw [← hr1] at hm1 HS HI
      clear hr1
      obtain ⟨t, ht⟩ : ∃ q, q = rS r := ⟨_, rfl⟩
      obtain ⟨m, hm⟩ : ∃ q, q = rN r := ⟨_, rfl⟩
      obtain ⟨ys, hys⟩ : ∃ q, q = rL r := ⟨_, rfl⟩
      obtain ⟨ok, hok⟩ : ∃ q, q = rB r := ⟨_, rfl⟩
      simp only [RetM, ← ht, ← hm, ← hys, ← hok] at HS HI
      rw [← hm] at hm1
      clear ht hm hys hok
      have HY : Hid ((t == t && eqB ys ys) = true) := by show _ = _; simp [eqB_self]
      obtain ⟨w0, hW0⟩ : ∃ W0, W0 = w := ⟨_, rfl⟩
      have BB := Below.refl w0.heap.size w0
      rw [← hW0]
      rw [← hW0] at hr
      clear hW0
      go_enter Try.func7, Try.ntmps7
      go_wp2_with fail
      refine (toIntS_any a n c xs _ (by exact hr.below BB) hn1).mono ?_
      rintro e w1 ⟨rfl, o2, b1⟩
      replace BB := BB.trans (b1.mono BB.size)
      go_wp2_with fail
      refine (HS.out _ _ _ o2.row).mono ?_
      rintro e w2 ⟨⟨As, Cs, rfl, OS⟩, b2⟩
      replace BB := BB.trans (b2.mono BB.size)
      clear o2
      go_wp2_with fail
      obtain ⟨w3, hw3⟩ : ∃ W, W = w2.alloc (.cells #[.int .i64 t, .slice As m Cs] 30) := ⟨_, rfl⟩
      have b3 : Below w2.heap.size w2 w3 := by rw [hw3]; exact (Below.refl _ _).alloc (Nat.le_refl _) _
      replace OS := OS.below b3
      replace BB := BB.trans (b3.mono BB.size)
      have BXQ : Box w3 w2.heap.size 30 (.int .i64 t) (.slice As m Cs) := by rw [hw3]; exact Box.new _ _ _ _
      rw [← hw3]
      clear hw3
      have USX := OS.under
      have hsX := BB.size
      refine (toIntS_any a n c xs _ (by exact hr.below BB) hn1).mono ?_
      rintro e w4 ⟨rfl, OX, b4⟩
      replace BXQ := BXQ.below b4 BXQ.lt
      replace OS := OS.below b4
      replace BB := BB.trans (b4.mono BB.size)
      go_wp2_with fail
      have USG := OS.under
      have UXG := OX.under
      have hsG := BB.size
      refine (HI.out _ _ _ OX.row).mono ?_
      rintro e w5 ⟨⟨Ag, Cg, rfl, OG⟩, b5⟩
      replace BXQ := BXQ.below b5 BXQ.lt
      replace OS := OS.below b5
      replace OX := OX.below b5
      replace BB := BB.trans (b5.mono BB.size)
      obtain ⟨Q1, Q2, _, _⟩ := BXQ.cells
      have zQ := BXQ.lt
      go_wp2_with fail
      clear Q1 Q2 zQ
      obtain ⟨w6, hw6⟩ : ∃ W, W = w5.alloc (.cells #[.int .i64 t, .slice Ag m Cg] 30) := ⟨_, rfl⟩
      have b6 : Below w5.heap.size w5 w6 := by rw [hw6]; exact (Below.refl _ _).alloc (Nat.le_refl _) _
      replace BXQ := BXQ.below b6 BXQ.lt
      replace OS := OS.below b6
      replace OX := OX.below b6
      replace OG := OG.below b6
      replace BB := BB.trans (b6.mono BB.size)
      have BXG : Box w6 w5.heap.size 30 (.int .i64 t) (.slice Ag m Cg) := by rw [hw6]; exact Box.new _ _ _ _
      rw [← hw6]
      clear hw6
      refine (eqMass_any t t _ _ m _ m _ ys ys _ OG.row OS.row hm1 hm1).mono ?_
      rw [HY.out]
      rintro e w7 ⟨rfl, b7⟩
      replace BXQ := BXQ.below b7 BXQ.lt
      replace BXG := BXG.below b7 BXG.lt
      replace OS := OS.below b7
      replace OX := OX.below b7
      replace OG := OG.below b7
      replace BB := BB.trans (b7.mono BB.size)
      go_wp2_with fail
      refine (toIntS_any a n c xs _ (by exact hr.below BB) hn1).mono ?_
      rintro e w8 ⟨rfl, oc, b8⟩
      replace BXQ := BXQ.below b8 BXQ.lt
      replace BXG := BXG.below b8 BXG.lt
      replace OS := OS.below b8
      replace OX := OX.below b8
      replace OG := OG.below b8
      replace BB := BB.trans (b8.mono BB.size)
      go_wp2_with fail
      refine (eqIntS_any _ _ n _ n _ xs xs _ OX.row oc.row hn1 hn1).mono ?_
      rw [HEX.out]
      rintro e w9 ⟨rfl, b9⟩
      replace BXQ := BXQ.below b9 BXQ.lt
      replace BXG := BXG.below b9 BXG.lt
      replace OS := OS.below b9
      replace OX := OX.below b9
      replace OG := OG.below b9
      replace BB := BB.trans (b9.mono BB.size)
      clear oc
      go_wp2_with fail
      refine (markIntS_any _ _ n _ xs 1 _ OX hn1 (by omega)).mono ?_
      rintro e w10 ⟨rfl, NX, g10⟩
      replace BXQ := BXQ.marked OX g10 (by decide)
      replace BXG := BXG.marked OX g10 (by decide)
      replace OS := OS.stays USX OX g10
      replace OG := OG.stays' UXG OX g10
      replace BB := below_marked BB OX g10 hsX BB.size
      clear OX g10
      have OX := NX; clear NX
      clear OX
      obtain ⟨G1, G2, _, _⟩ := BXG.cells
      obtain ⟨Q1, Q2, _, _⟩ := BXQ.cells
      go_wp2_with fail
      clear G1 G2
      clear Q1 Q2
      refine (eqMass_any t t _ _ m _ m _ ys ys _ OG.row OS.row hm1 hm1).mono ?_
      rw [HY.out]
      rintro e w11 ⟨rfl, b11⟩
      replace BXQ := BXQ.below b11 BXQ.lt
      replace BXG := BXG.below b11 BXG.lt
      replace OS := OS.below b11
      replace OG := OG.below b11
      replace BB := BB.trans (b11.mono BB.size)
      obtain ⟨G1, G2, _, _⟩ := BXG.cells
      go_wp2_with fail
      clear G1 G2
      refine (markMass_any _ t _ m _ ys 1 _ OG hm1 (by omega)).mono ?_
      rintro e w12 ⟨rfl, NG, g12⟩
      replace BXQ := BXQ.marked OG g12 (by decide)
      replace BXG := BXG.marked OG g12 (by decide)
      replace OS := OS.stays USG OG g12
      replace BB := below_marked BB OG g12 hsG BB.size
      clear OG g12
      have OG := NG; clear NG
      obtain ⟨G1, G2, _, _⟩ := BXG.cells
      go_wp2_with fail
      clear G1 G2
      refine (heldMass_any t _ m _ 1 _ OG.row hm1 (by omega)).mono ?_
      rintro e w13 ⟨rfl, b13⟩
      replace BXQ := BXQ.below b13 BXQ.lt
      replace BXG := BXG.below b13 BXG.lt
      replace OS := OS.below b13
      replace OG := OG.below b13
      replace BB := BB.trans (b13.mono BB.size)
      go_wp2_with fail
      refine (toIntS_any a n c xs _ (by exact hr.below BB) hn1).mono ?_
      rintro e w14 ⟨rfl, o6, b14⟩
      replace BXQ := BXQ.below b14 BXQ.lt
      replace BXG := BXG.below b14 BXG.lt
      replace OS := OS.below b14
      replace OG := OG.below b14
      replace BB := BB.trans (b14.mono BB.size)
      go_wp2_with fail
      refine (HI.out _ _ _ o6.row).mono ?_
      rintro e w15 ⟨⟨Ah, Ch, rfl, OH⟩, b15⟩
      replace BXQ := BXQ.below b15 BXQ.lt
      replace BXG := BXG.below b15 BXG.lt
      replace OS := OS.below b15
      replace OG := OG.below b15
      replace BB := BB.trans (b15.mono BB.size)
      clear o6
      obtain ⟨Q1, Q2, _, _⟩ := BXQ.cells
      have zQ := BXQ.lt
      go_wp2_with fail
      clear Q1 Q2 zQ
      obtain ⟨w16, hw16⟩ : ∃ W, W = w15.alloc (.cells #[.int .i64 t, .slice Ah m Ch] 30) := ⟨_, rfl⟩
      have b16 : Below w15.heap.size w15 w16 := by rw [hw16]; exact (Below.refl _ _).alloc (Nat.le_refl _) _
      replace BXQ := BXQ.below b16 BXQ.lt
      replace BXG := BXG.below b16 BXG.lt
      replace OS := OS.below b16
      replace OG := OG.below b16
      replace OH := OH.below b16
      replace BB := BB.trans (b16.mono BB.size)
      have BXH : Box w16 w15.heap.size 30 (.int .i64 t) (.slice Ah m Ch) := by rw [hw16]; exact Box.new _ _ _ _
      rw [← hw16]
      clear hw16
      refine (eqMass_any t t _ _ m _ m _ ys ys _ OH.row OS.row hm1 hm1).mono ?_
      rw [HY.out]
      rintro e w17 ⟨rfl, b17⟩
      replace BXQ := BXQ.below b17 BXQ.lt
      replace BXG := BXG.below b17 BXG.lt
      replace BXH := BXH.below b17 BXH.lt
      replace OS := OS.below b17
      replace OG := OG.below b17
      replace OH := OH.below b17
      replace BB := BB.trans (b17.mono BB.size)
      obtain ⟨G1, G2, _, _⟩ := BXG.cells
      go_wp2_with fail
      clear G1 G2
      refine (heldMass_any t _ m _ 1 _ OG.row hm1 (by omega)).mono ?_
      rintro e w18 ⟨rfl, b18⟩
      replace BXQ := BXQ.below b18 BXQ.lt
      replace BXG := BXG.below b18 BXG.lt
      replace BXH := BXH.below b18 BXH.lt
      replace OS := OS.below b18
      replace OG := OG.below b18
      replace OH := OH.below b18
      replace BB := BB.trans (b18.mono BB.size)
      go_wp2_with fail
      go_ret
      exact ⟨rfl, BB⟩
end Go.Proofs.Ytapkppnjgbcklaa
