/- The walk of the statement FnExactParseMass. -/
import Derived.Test.YtlfajalhoifliaaDoorW81
import Derived.Test.YtlfajalhoifliaaDoorBase4
import Derived.Deep.RegionHeld3
namespace Go.Proofs.YtlfajalhoifliaaDoor
open Go.RowKit

theorem parR_len (l : List UInt8) : rN (parR l) ≤ 16 := by
  by_cases h : ∃ p, Good l p
  · have hs := Classical.choose_spec h
    have hI := massB_is rfl hs.1
    unfold parR
    rw [dif_pos h]
    show (Classical.choose h).2.length ≤ 16
    have := hI.nums
    omega
  · unfold parR
    rw [dif_neg h]
    exact Nat.zero_le _
set_option maxHeartbeats 6400000 in
set_option maxRecDepth 100000 in
theorem walkParseMass (s : ByteArray) (w : World) (hE : Env w) :
    Calls Tryd.prog 3 #[.string s] w fun e w' => e = .returned (.bool true) ∧ Below w.heap.size w w' := by
  by_cases hnl : (1048576 : Int) < (s.size : Int)
  · go_enter Tryd.func3, Tryd.ntmps3
    go_wp2_with fail
    go_ret
    exact ⟨rfl, Below.refl _ _⟩
  · obtain ⟨l, hl⟩ := bs_list s
    have hn1 : l.length ≤ 1048576 := by rw [hl, bs_size] at hnl; omega
    have hm1 : rN (parR l) ≤ 1048576 := Nat.le_trans (parR_len l) (by omega)
    have HS := Lib.hid (fun W => sParseMass_any l W hn1)
    have HI := Lib.hid (fun W (h : Env W) => iParseMass_any l W hn1 h)
    rw [← hl] at HS HI
    obtain ⟨r, hr1⟩ : ∃ r, r = parR l := ⟨_, rfl⟩
    rw [← hr1] at hm1 HS HI
    clear hr1 hn1 hl
    obtain ⟨t, ht⟩ : ∃ q, q = rS r := ⟨_, rfl⟩
    obtain ⟨m, hm⟩ : ∃ q, q = rN r := ⟨_, rfl⟩
    obtain ⟨ys, hys⟩ : ∃ q, q = rL r := ⟨_, rfl⟩
    obtain ⟨ok, hok⟩ : ∃ q, q = rB r := ⟨_, rfl⟩
    simp only [RetM, ← ht, ← hm, ← hys, ← hok] at HS HI
    rw [← hm] at hm1
    clear ht hm hys hok
    have HY : Hid ((t == t && eqB ys ys) = true) := by show _ = _; simp [eqB_self]
    have HEV := Lib.hid hE
    obtain ⟨w0, hW0⟩ : ∃ W0, W0 = w := ⟨_, rfl⟩
    have BB := Below.refl w0.heap.size w0
    rw [← hW0]
    rw [← hW0] at HEV
    clear hW0 hE
    go_enter Tryd.func3, Tryd.ntmps3
    go_wp2_with fail
    refine (HS.out _).mono ?_
    rintro e w2 ⟨⟨As, Cs, rfl, OS⟩, b2⟩
    replace BB := BB.trans (b2.mono BB.size)
    go_wp2_with fail
    obtain ⟨w3, hw3⟩ : ∃ W, W = w2.alloc (.cells #[.int .i64 t, .slice As m Cs] 24) := ⟨_, rfl⟩
    have b3 : Below w2.heap.size w2 w3 := by rw [hw3]; exact (Below.refl _ _).alloc (Nat.le_refl _) _
    replace OS := OS.below b3
    replace BB := BB.trans (b3.mono BB.size)
    have BXQ : Box w3 w2.heap.size 24 (.int .i64 t) (.slice As m Cs) := by rw [hw3]; exact Box.new _ _ _ _
    rw [← hw3]
    clear hw3
    have USG := OS.under
    have hsG := BB.size
    refine (HI.out _ (HEV.out.below BB)).mono ?_
    rintro e w5 ⟨⟨Ag, Cg, rfl, OG⟩, b5⟩
    replace BXQ := BXQ.below b5 BXQ.lt
    replace OS := OS.below b5
    replace BB := BB.trans (b5.mono BB.size)
    obtain ⟨Q1, Q2, _, _⟩ := BXQ.cells
    have zQ := BXQ.lt
    go_wp2_with fail
    clear Q1 Q2 zQ
    obtain ⟨w6, hw6⟩ : ∃ W, W = w5.alloc (.cells #[.int .i64 t, .slice Ag m Cg] 24) := ⟨_, rfl⟩
    have b6 : Below w5.heap.size w5 w6 := by rw [hw6]; exact (Below.refl _ _).alloc (Nat.le_refl _) _
    replace BXQ := BXQ.below b6 BXQ.lt
    replace OS := OS.below b6
    replace OG := OG.below b6
    replace BB := BB.trans (b6.mono BB.size)
    have BXG : Box w6 w5.heap.size 24 (.int .i64 t) (.slice Ag m Cg) := by rw [hw6]; exact Box.new _ _ _ _
    rw [← hw6]
    clear hw6
    refine (eqMass_any t t _ _ m _ m _ ys ys _ OG.row OS.row hm1 hm1).mono ?_
    rw [HY.out]
    rintro e w7 ⟨rfl, b7⟩
    replace BXQ := BXQ.below b7 BXQ.lt
    replace BXG := BXG.below b7 BXG.lt
    replace OS := OS.below b7
    replace OG := OG.below b7
    replace BB := BB.trans (b7.mono BB.size)
    obtain ⟨G1, G2, _, _⟩ := BXG.cells
    go_wp2_with fail
    clear G1 G2
    refine (markMass_any _ t _ m _ ys 1 _ OG hm1 (by omega)).mono ?_
    rintro e w12 ⟨rfl, NG, g12⟩
    replace BXQ := BXQ.marked OG g12 (by decide)
    replace BXG := BXG.marked OG g12 (by decide)
    replace OS := OS.stays USG OG g12
    replace BB := below_marked BB OG g12 hsG BB.size
    clear OG g12
    have OG := NG; clear NG
    obtain ⟨G1, G2, _, _⟩ := BXG.cells
    go_wp2_with fail
    clear G1 G2
    refine (heldMass_any t _ m _ 1 _ OG.row hm1 (by omega)).mono ?_
    rintro e w13 ⟨rfl, b13⟩
    replace BXQ := BXQ.below b13 BXQ.lt
    replace BXG := BXG.below b13 BXG.lt
    replace OS := OS.below b13
    replace OG := OG.below b13
    replace BB := BB.trans (b13.mono BB.size)
    go_wp2_with fail
    refine (HI.out _ (HEV.out.below BB)).mono ?_
    rintro e w15 ⟨⟨Ah, Ch, rfl, OH⟩, b15⟩
    replace BXQ := BXQ.below b15 BXQ.lt
    replace BXG := BXG.below b15 BXG.lt
    replace OS := OS.below b15
    replace OG := OG.below b15
    replace BB := BB.trans (b15.mono BB.size)
    obtain ⟨Q1, Q2, _, _⟩ := BXQ.cells
    have zQ := BXQ.lt
    go_wp2_with fail
    clear Q1 Q2 zQ
    obtain ⟨w16, hw16⟩ : ∃ W, W = w15.alloc (.cells #[.int .i64 t, .slice Ah m Ch] 24) := ⟨_, rfl⟩
    have b16 : Below w15.heap.size w15 w16 := by rw [hw16]; exact (Below.refl _ _).alloc (Nat.le_refl _) _
    replace BXQ := BXQ.below b16 BXQ.lt
    replace BXG := BXG.below b16 BXG.lt
    replace OS := OS.below b16
    replace OG := OG.below b16
    replace OH := OH.below b16
    replace BB := BB.trans (b16.mono BB.size)
    rw [← hw16]
    clear hw16
    refine (eqMass_any t t _ _ m _ m _ ys ys _ OH.row OS.row hm1 hm1).mono ?_
    rw [HY.out]
    rintro e w17 ⟨rfl, b17⟩
    replace BXG := BXG.below b17 BXG.lt
    replace OG := OG.below b17
    replace BB := BB.trans (b17.mono BB.size)
    obtain ⟨G1, G2, _, _⟩ := BXG.cells
    go_wp2_with fail
    clear G1 G2
    refine (heldMass_any t _ m _ 1 _ OG.row hm1 (by omega)).mono ?_
    rintro e w18 ⟨rfl, b18⟩
    replace BB := BB.trans (b18.mono BB.size)
    go_wp2_with fail
    go_ret
    exact ⟨rfl, BB⟩
end Go.Proofs.YtlfajalhoifliaaDoor
