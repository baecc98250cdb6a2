/- Contracts of DiscountMass and ReliableMass, of the program and of the reference. -/
import Derived.Test.YtapkppnjgbcklaaW37
import Derived.Test.YtapkppnjgbcklaaW38
import Derived.Test.YtapkppnjgbcklaaW19
import Derived.Deep.RegionHeld3
namespace Go.Proofs.Ytapkppnjgbcklaa
open Go.RowKit

set_option maxHeartbeats 6400000 in
set_option maxRecDepth 100000 in
theorem iDiscountMass_any (s p q : Int) (a : Option Addr) (n c : Nat) (xs : List Int) (w : World) (hr : Row w a n xs) (hn : n ≤ 1048576) :
    Calls Try.prog 21 #[massV s a n c, fracV p q] w fun e w' => RetM w.heap.size (discR s xs p q) e w' ∧ Below w.heap.size w w' := by
  obtain ⟨w0, hw0⟩ : ∃ w0, w0 = ((w.alloc (.cells #[.int .i64 s, .slice a n c] 30)).alloc (.cells #[.int .i64 p, .int .i64 q] 27)).alloc (.cells #[.int .i64 0, .slice none 0 0] 30) := ⟨_, rfl⟩
  have HBM : Hid (Box w0 w.heap.size 30 (.int .i64 s) (.slice a n c)) := by rw [hw0]; exact ((Box.new _ _ _ _).alloc _).alloc _
  have HBF : Hid (Box w0 (w.heap.size + 1) 27 (.int .i64 p) (.int .i64 q)) := by rw [hw0]; exact (show Box _ _ _ _ _ from alloc_at (by simp)).alloc _
  have HBX : Hid (Box w0 (w.heap.size + 1 + 1) 30 (.int .i64 0) (.slice none 0 0)) := by rw [hw0]; exact alloc_at (by simp)
  have HB0 : Hid (Below w.heap.size w w0) := by rw [hw0]; exact (((Below.refl _ _).alloc (Nat.le_refl _) _).alloc (by simp) _).alloc (by simp; omega) _
  have hr0 := hr.below HB0.out
  have HW0 := Lib.hid hw0; clear hw0
  have HM := Lib.hid (isMass_any s a n c xs w0 hr0 hn)
  by_cases hm : massB s xs = true
  · have hI := massB_is hr.1 hm
    rw [hm] at HM
    rw [show discR s xs p q = mixR s xs s (sureL xs.length (xs.length - 1)) p q from if_pos hm]
    rw [hr.1]
    have HS := Lib.hid (fun W => sureMass_any s (n - 1) n W hI.size hI.fit (by have := hI.nums; omega))
    have HFS := Lib.hid (fun W => fullSet_any s n W hI.size hI.fit)
    obtain ⟨g, hg⟩ : ∃ g, g = n - 1 := ⟨_, rfl⟩
    have HGE := Lib.hid hg
    rw [← hg] at HFS HS
    rw [← hg]
    clear hg
    have HX := Lib.hid (fun A C W (h1 : Row W a n xs) (h2 : Row W A n (sureL n g)) => iMixMasses_any s s p q a A n n c C xs (sureL n g) W h1 h2 hn hn)
    obtain ⟨r, hr1⟩ : ∃ r, r = mixR s xs s (sureL n g) p q := ⟨_, rfl⟩
    rw [← hr1] at HX ⊢
    clear hr1 hI hm hr
    go_enter Try.func21, Try.ntmps21
    go_wp2_with fail
    rw [← HW0.out]
    refine HM.out.mono ?_
    rintro e w1 ⟨rfl, b1⟩
    have HB1 := Lib.hid (HB0.out.trans (b1.mono HB0.out.size))
    have BX := HBX.out.below b1 HBX.out.lt
    have RX := hr0.below b1
    have hxl : w.heap.size + 1 + 1 ≤ w1.drew.heap.size := by have := BX.lt; show w.heap.size + 1 + 1 ≤ w1.heap.size; omega
    obtain ⟨c1, c2, _, _⟩ := (HBM.out.below b1 HBM.out.lt).cells
    obtain ⟨c3, c4, _, _⟩ := (HBF.out.below b1 HBF.out.lt).cells
    have BB : Below (w.heap.size + 1 + 1) w1.drew w1.drew := Below.refl _ _
    have BA : Below w1.drew.heap.size w1.drew w1.drew := Below.refl _ _
    replace BX := BX.drew
    replace RX := RX.below (w' := w1.drew) (Below.refl _ _).drew
    have HKS : Hid (∀ W : World, Below (w.heap.size + 1 + 1) w1.drew W → (W.cell? ⟨w.heap.size, 0, none⟩ = some (.int .i64 s) ∧ W.cell? ⟨w.heap.size, 1, none⟩ = some (.slice a n c) ∧ W.cell? ⟨w.heap.size + 1, 0, none⟩ = some (.int .i64 p) ∧ W.cell? ⟨w.heap.size + 1, 1, none⟩ = some (.int .i64 q))) := fun W hB => ⟨(hB.cell (p := ⟨w.heap.size, 0, none⟩) (by simp; omega)).trans c1, (hB.cell (p := ⟨w.heap.size, 1, none⟩) (by simp; omega)).trans c2, (hB.cell (p := ⟨w.heap.size + 1, 0, none⟩) (by simp)).trans c3, (hB.cell (p := ⟨w.heap.size + 1, 1, none⟩) (by simp)).trans c4⟩
    clear b1 HBX HBM HBF hr0 HM
    go_wp2_with fail
    go_region_held3 (fun W => W.cell? ⟨w.heap.size, 0, none⟩ = some (.int .i64 s) ∧ W.cell? ⟨w.heap.size, 1, none⟩ = some (.slice a n c) ∧ W.cell? ⟨w.heap.size + 1, 0, none⟩ = some (.int .i64 p) ∧ W.cell? ⟨w.heap.size + 1, 1, none⟩ = some (.int .i64 q))
      (first | exact HKS.out _ BB | exact HKS.out _ ((BB.setCell (Nat.le_refl _) _).setCell (Nat.le_refl _) _))
      (first | (have _t := tok1; go_at_call 75; refine (HX.out _ _ _ RX o5.row).mono ?_; have hqs := BX.lt; rintro e w6 ⟨⟨A6, C6, rfl, o6⟩, b6⟩; replace BB := BB.trans (b6.mono (Nat.le_trans hxl BB.size)); replace RX := RX.below b6; replace BX := BX.below b6 BX.lt; replace BA := BA.trans (b6.mono BA.size); obtain ⟨d1, d2, f1, f2⟩ := BX.cells) | (go_at_call 76; refine (HS.out _).mono ?_; rintro e w5 ⟨A5, C5, rfl, o5, b5⟩; replace BB := BB.trans (b5.mono (Nat.le_trans hxl BB.size)); replace RX := RX.below b5; replace BX := BX.below b5 BX.lt; replace BA := BA.trans (b5.mono BA.size); have tok1 : True := trivial) | (go_at_call 77; refine (HFS.out _).mono ?_; rintro e w' ⟨rfl, rfl⟩))
    all_goals
      have HO6 := Lib.hid o6
      have HB6 := Lib.hid (HB1.out.drew.trans (BA.mono HB1.out.size))
      clear o5 o6 b5 b6 BB BA RX BX
      go_wp2_with fail
      refine bodyPost_ret (v := .tuple #[massV (rS r) A6 (rN r) C6, .bool (rB r)]) (by simp [results, Try.results21, go_sem, d1, d2]) rfl ?_
      exact ⟨⟨A6, C6, rfl, (HO6.out.setBox hqs _ _).mono (by omega)⟩, (HB6.out.setCell (by simp; omega) _).setCell (by simp; omega) _⟩
  · have hm' : massB s xs = false := by simpa using hm
    rw [hm'] at HM
    rw [show discR s xs p q = none from if_neg hm]
    clear hm hm' hr hr0
    go_enter Try.func21, Try.ntmps21
    go_wp2_with fail
    rw [← HW0.out]
    refine HM.out.mono ?_
    rintro e w1 ⟨rfl, b1⟩
    obtain ⟨d1, d2, f1, f2⟩ := (HBX.out.below b1 HBX.out.lt).cells
    have HB1 := Lib.hid (HB0.out.trans (b1.mono HB0.out.size))
    clear b1
    go_wp2_with fail
    refine bodyPost_ret (v := .tuple #[massV 0 none 0 0, .bool false]) (by simp [results, Try.results21, go_sem, d1, d2]) rfl ?_
    exact ⟨RetM.none_ _ _, (HB1.out.setCell (by simp; omega) _).setCell (by simp; omega) _⟩
set_option maxHeartbeats 6400000 in
set_option maxRecDepth 100000 in
theorem sDiscountMass_any (s p q : Int) (a : Option Addr) (n c : Nat) (xs : List Int) (w : World) (hr : Row w a n xs) (hn : n ≤ 1048576) :
    Calls Try.prog 19 #[massV s a n c, fracV p q] w fun e w' => RetM w.heap.size (discR s xs p q) e w' ∧ Below w.heap.size w w' := by
  obtain ⟨w0, hw0⟩ : ∃ w0, w0 = ((w.alloc (.cells #[.int .i64 s, .slice a n c] 30)).alloc (.cells #[.int .i64 p, .int .i64 q] 27)).alloc (.cells #[.int .i64 0, .slice none 0 0] 30) := ⟨_, rfl⟩
  have HBM : Hid (Box w0 w.heap.size 30 (.int .i64 s) (.slice a n c)) := by rw [hw0]; exact ((Box.new _ _ _ _).alloc _).alloc _
  have HBF : Hid (Box w0 (w.heap.size + 1) 27 (.int .i64 p) (.int .i64 q)) := by rw [hw0]; exact (show Box _ _ _ _ _ from alloc_at (by simp)).alloc _
  have HBX : Hid (Box w0 (w.heap.size + 1 + 1) 30 (.int .i64 0) (.slice none 0 0)) := by rw [hw0]; exact alloc_at (by simp)
  have HB0 : Hid (Below w.heap.size w w0) := by rw [hw0]; exact (((Below.refl _ _).alloc (Nat.le_refl _) _).alloc (by simp) _).alloc (by simp; omega) _
  have hr0 := hr.below HB0.out
  have HW0 := Lib.hid hw0; clear hw0
  have HM := Lib.hid (MassValid_any s a n c xs w0 hr0 hn)
  by_cases hm : massB s xs = true
  · have hI := massB_is hr.1 hm
    rw [hm] at HM
    rw [show discR s xs p q = mixR s xs s (sureL xs.length (xs.length - 1)) p q from if_pos hm]
    rw [hr.1]
    have HS := Lib.hid (fun W => l3Sure_any s (n - 1) n W hI.size hI.fit (by have := hI.nums; omega))
    obtain ⟨g, hg⟩ : ∃ g, g = n - 1 := ⟨_, rfl⟩
    have HGE := Lib.hid hg
    have hgw : IntKind.i64.wrap ((n : Int) - 1) = (g : Int) := by have := hI.nums; rw [show (n : Int) - 1 = (g : Int) by omega]; exact IntWalk.i64_in _ (by omega)
    rw [← hg] at HS
    rw [← hg]
    clear hg
    have HX := Lib.hid (fun A C W (h1 : Row W a n xs) (h2 : Row W A n (sureL n g)) => sMixMasses_any s s p q a A n n c C xs (sureL n g) W h1 h2 hn hn)
    obtain ⟨r, hr1⟩ : ∃ r, r = mixR s xs s (sureL n g) p q := ⟨_, rfl⟩
    rw [← hr1] at HX ⊢
    clear hr1 hI hm hr
    go_enter Try.func19, Try.ntmps19
    go_wp2_with fail
    rw [← HW0.out]
    refine HM.out.mono ?_
    rintro e w1 ⟨rfl, b1⟩
    have HB1 := Lib.hid (HB0.out.trans (b1.mono HB0.out.size))
    have BX := HBX.out.below b1 HBX.out.lt
    have RX := hr0.below b1
    have hxl : w.heap.size + 1 + 1 ≤ w1.drew.heap.size := by have := BX.lt; show w.heap.size + 1 + 1 ≤ w1.heap.size; omega
    obtain ⟨c1, c2, _, _⟩ := (HBM.out.below b1 HBM.out.lt).cells
    obtain ⟨c3, c4, _, _⟩ := (HBF.out.below b1 HBF.out.lt).cells
    have BB : Below (w.heap.size + 1 + 1) w1.drew w1.drew := Below.refl _ _
    have BA : Below w1.drew.heap.size w1.drew w1.drew := Below.refl _ _
    replace BX := BX.drew
    replace RX := RX.below (w' := w1.drew) (Below.refl _ _).drew
    have HKS : Hid (∀ W : World, Below (w.heap.size + 1 + 1) w1.drew W → (W.cell? ⟨w.heap.size, 0, none⟩ = some (.int .i64 s) ∧ W.cell? ⟨w.heap.size, 1, none⟩ = some (.slice a n c) ∧ W.cell? ⟨w.heap.size + 1, 0, none⟩ = some (.int .i64 p) ∧ W.cell? ⟨w.heap.size + 1, 1, none⟩ = some (.int .i64 q))) := fun W hB => ⟨(hB.cell (p := ⟨w.heap.size, 0, none⟩) (by simp; omega)).trans c1, (hB.cell (p := ⟨w.heap.size, 1, none⟩) (by simp; omega)).trans c2, (hB.cell (p := ⟨w.heap.size + 1, 0, none⟩) (by simp)).trans c3, (hB.cell (p := ⟨w.heap.size + 1, 1, none⟩) (by simp)).trans c4⟩
    clear b1 HBX HBM HBF hr0 HM
    go_wp2_with fail
    go_region_held3 (fun W => W.cell? ⟨w.heap.size, 0, none⟩ = some (.int .i64 s) ∧ W.cell? ⟨w.heap.size, 1, none⟩ = some (.slice a n c) ∧ W.cell? ⟨w.heap.size + 1, 0, none⟩ = some (.int .i64 p) ∧ W.cell? ⟨w.heap.size + 1, 1, none⟩ = some (.int .i64 q))
      (first | exact HKS.out _ BB | exact HKS.out _ ((BB.setCell (Nat.le_refl _) _).setCell (Nat.le_refl _) _))
      (first | (have _t := tok1; go_at_call 73; refine (HX.out _ _ _ RX o5.row).mono ?_; have hqs := BX.lt; rintro e w6 ⟨⟨A6, C6, rfl, o6⟩, b6⟩; replace BB := BB.trans (b6.mono (Nat.le_trans hxl BB.size)); replace RX := RX.below b6; replace BX := BX.below b6 BX.lt; replace BA := BA.trans (b6.mono BA.size); obtain ⟨d1, d2, f1, f2⟩ := BX.cells) | (go_at_call 74; refine (HS.out _).mono ?_; rintro e w5 ⟨A5, C5, rfl, o5, b5⟩; replace BB := BB.trans (b5.mono (Nat.le_trans hxl BB.size)); replace RX := RX.below b5; replace BX := BX.below b5 BX.lt; replace BA := BA.trans (b5.mono BA.size); have tok1 : True := trivial))
    all_goals
      have HO6 := Lib.hid o6
      have HB6 := Lib.hid (HB1.out.drew.trans (BA.mono HB1.out.size))
      clear o5 o6 b5 b6 BB BA RX BX
      go_wp2_with fail
      refine bodyPost_ret (v := .tuple #[massV (rS r) A6 (rN r) C6, .bool (rB r)]) (by simp [results, Try.results19, go_sem, d1, d2]) rfl ?_
      exact ⟨⟨A6, C6, rfl, (HO6.out.setBox hqs _ _).mono (by omega)⟩, (HB6.out.setCell (by simp; omega) _).setCell (by simp; omega) _⟩
  · have hm' : massB s xs = false := by simpa using hm
    rw [hm'] at HM
    rw [show discR s xs p q = none from if_neg hm]
    clear hm hm' hr hr0
    go_enter Try.func19, Try.ntmps19
    go_wp2_with fail
    rw [← HW0.out]
    refine HM.out.mono ?_
    rintro e w1 ⟨rfl, b1⟩
    obtain ⟨d1, d2, f1, f2⟩ := (HBX.out.below b1 HBX.out.lt).cells
    have HB1 := Lib.hid (HB0.out.trans (b1.mono HB0.out.size))
    clear b1
    go_wp2_with fail
    refine bodyPost_ret (v := .tuple #[massV 0 none 0 0, .bool false]) (by simp [results, Try.results19, go_sem, d1, d2]) rfl ?_
    exact ⟨RetM.none_ _ _, (HB1.out.setCell (by simp; omega) _).setCell (by simp; omega) _⟩
set_option maxHeartbeats 6400000 in
set_option maxRecDepth 100000 in
theorem iReliableMass_any (s p q : Int) (a : Option Addr) (n c : Nat) (xs : List Int) (w : World) (hr : Row w a n xs) (hn : n ≤ 1048576) :
    Calls Try.prog 25 #[massV s a n c, fracV p q] w fun e w' => RetM w.heap.size (reliR s xs p q) e w' ∧ Below w.heap.size w w' := by
  obtain ⟨w0, hw0⟩ : ∃ w0, w0 = ((w.alloc (.cells #[.int .i64 s, .slice a n c] 30)).alloc (.cells #[.int .i64 p, .int .i64 q] 27)).alloc (.cells #[.int .i64 0, .slice none 0 0] 30) := ⟨_, rfl⟩
  have HBM : Hid (Box w0 w.heap.size 30 (.int .i64 s) (.slice a n c)) := by rw [hw0]; exact ((Box.new _ _ _ _).alloc _).alloc _
  have HBF : Hid (Box w0 (w.heap.size + 1) 27 (.int .i64 p) (.int .i64 q)) := by rw [hw0]; exact (show Box _ _ _ _ _ from alloc_at (by simp)).alloc _
  have HBX : Hid (Box w0 (w.heap.size + 1 + 1) 30 (.int .i64 0) (.slice none 0 0)) := by rw [hw0]; exact alloc_at (by simp)
  have HB0 : Hid (Below w.heap.size w w0) := by rw [hw0]; exact (((Below.refl _ _).alloc (Nat.le_refl _) _).alloc (by simp) _).alloc (by simp; omega) _
  have hr0 := hr.below HB0.out
  have HW0 := Lib.hid hw0; clear hw0
  have HM := Lib.hid (isMass_any s a n c xs w0 hr0 hn)
  by_cases hm : massB s xs = true
  · have hI := massB_is hr.1 hm
    rw [hm] at HM
    rw [show reliR s xs p q = mixR s xs s (turned xs) p q from if_pos hm]
    have HS := Lib.hid (fun W (h : Row W a n xs) => negated_any s a n c xs W h hI.size hI.nums hI.fit)
    have HX := Lib.hid (fun A C W (h1 : Row W a n xs) (h2 : Row W A n (turned xs)) => iMixMasses_any s s p q a A n n c C xs (turned xs) W h1 h2 hn hn)
    obtain ⟨r, hr1⟩ : ∃ r, r = mixR s xs s (turned xs) p q := ⟨_, rfl⟩
    rw [← hr1] at HX ⊢
    clear hr1 hI hm hr
    go_enter Try.func25, Try.ntmps25
    go_wp2_with fail
    rw [← HW0.out]
    refine HM.out.mono ?_
    rintro e w1 ⟨rfl, b1⟩
    have HB1 := Lib.hid (HB0.out.trans (b1.mono HB0.out.size))
    have BX := HBX.out.below b1 HBX.out.lt
    have RX := hr0.below b1
    have hxl : w.heap.size + 1 + 1 ≤ w1.drew.heap.size := by have := BX.lt; show w.heap.size + 1 + 1 ≤ w1.heap.size; omega
    obtain ⟨c1, c2, _, _⟩ := (HBM.out.below b1 HBM.out.lt).cells
    obtain ⟨c3, c4, _, _⟩ := (HBF.out.below b1 HBF.out.lt).cells
    have BB : Below (w.heap.size + 1 + 1) w1.drew w1.drew := Below.refl _ _
    have BA : Below w1.drew.heap.size w1.drew w1.drew := Below.refl _ _
    replace BX := BX.drew
    replace RX := RX.below (w' := w1.drew) (Below.refl _ _).drew
    have HKS : Hid (∀ W : World, Below (w.heap.size + 1 + 1) w1.drew W → (W.cell? ⟨w.heap.size, 0, none⟩ = some (.int .i64 s) ∧ W.cell? ⟨w.heap.size, 1, none⟩ = some (.slice a n c) ∧ W.cell? ⟨w.heap.size + 1, 0, none⟩ = some (.int .i64 p) ∧ W.cell? ⟨w.heap.size + 1, 1, none⟩ = some (.int .i64 q))) := fun W hB => ⟨(hB.cell (p := ⟨w.heap.size, 0, none⟩) (by simp; omega)).trans c1, (hB.cell (p := ⟨w.heap.size, 1, none⟩) (by simp; omega)).trans c2, (hB.cell (p := ⟨w.heap.size + 1, 0, none⟩) (by simp)).trans c3, (hB.cell (p := ⟨w.heap.size + 1, 1, none⟩) (by simp)).trans c4⟩
    clear b1 HBX HBM HBF hr0 HM
    go_wp2_with fail
    go_region_held3 (fun W => W.cell? ⟨w.heap.size, 0, none⟩ = some (.int .i64 s) ∧ W.cell? ⟨w.heap.size, 1, none⟩ = some (.slice a n c) ∧ W.cell? ⟨w.heap.size + 1, 0, none⟩ = some (.int .i64 p) ∧ W.cell? ⟨w.heap.size + 1, 1, none⟩ = some (.int .i64 q))
      (first | exact HKS.out _ BB | exact HKS.out _ ((BB.setCell (Nat.le_refl _) _).setCell (Nat.le_refl _) _))
      (first | (have _t := tok1; go_at_call 75; refine (HX.out _ _ _ RX o5.row).mono ?_; have hqs := BX.lt; rintro e w6 ⟨⟨A6, C6, rfl, o6⟩, b6⟩; replace BB := BB.trans (b6.mono (Nat.le_trans hxl BB.size)); replace RX := RX.below b6; replace BX := BX.below b6 BX.lt; replace BA := BA.trans (b6.mono BA.size); obtain ⟨d1, d2, f1, f2⟩ := BX.cells) | (go_at_call 79; refine (HS.out _ RX).mono ?_; rintro e w5 ⟨A5, C5, rfl, o5, b5⟩; replace BB := BB.trans (b5.mono (Nat.le_trans hxl BB.size)); replace RX := RX.below b5; replace BX := BX.below b5 BX.lt; replace BA := BA.trans (b5.mono BA.size); have tok1 : True := trivial))
    all_goals
      have HO6 := Lib.hid o6
      have HB6 := Lib.hid (HB1.out.drew.trans (BA.mono HB1.out.size))
      clear o5 o6 b5 b6 BB BA RX BX
      go_wp2_with fail
      refine bodyPost_ret (v := .tuple #[massV (rS r) A6 (rN r) C6, .bool (rB r)]) (by simp [results, Try.results25, go_sem, d1, d2]) rfl ?_
      exact ⟨⟨A6, C6, rfl, (HO6.out.setBox hqs _ _).mono (by omega)⟩, (HB6.out.setCell (by simp; omega) _).setCell (by simp; omega) _⟩
  · have hm' : massB s xs = false := by simpa using hm
    rw [hm'] at HM
    rw [show reliR s xs p q = none from if_neg hm]
    clear hm hm' hr hr0
    go_enter Try.func25, Try.ntmps25
    go_wp2_with fail
    rw [← HW0.out]
    refine HM.out.mono ?_
    rintro e w1 ⟨rfl, b1⟩
    obtain ⟨d1, d2, f1, f2⟩ := (HBX.out.below b1 HBX.out.lt).cells
    have HB1 := Lib.hid (HB0.out.trans (b1.mono HB0.out.size))
    clear b1
    go_wp2_with fail
    refine bodyPost_ret (v := .tuple #[massV 0 none 0 0, .bool false]) (by simp [results, Try.results25, go_sem, d1, d2]) rfl ?_
    exact ⟨RetM.none_ _ _, (HB1.out.setCell (by simp; omega) _).setCell (by simp; omega) _⟩
set_option maxHeartbeats 6400000 in
set_option maxRecDepth 100000 in
theorem sReliableMass_any (s p q : Int) (a : Option Addr) (n c : Nat) (xs : List Int) (w : World) (hr : Row w a n xs) (hn : n ≤ 1048576) :
    Calls Try.prog 24 #[massV s a n c, fracV p q] w fun e w' => RetM w.heap.size (reliR s xs p q) e w' ∧ Below w.heap.size w w' := by
  obtain ⟨w0, hw0⟩ : ∃ w0, w0 = ((w.alloc (.cells #[.int .i64 s, .slice a n c] 30)).alloc (.cells #[.int .i64 p, .int .i64 q] 27)).alloc (.cells #[.int .i64 0, .slice none 0 0] 30) := ⟨_, rfl⟩
  have HBM : Hid (Box w0 w.heap.size 30 (.int .i64 s) (.slice a n c)) := by rw [hw0]; exact ((Box.new _ _ _ _).alloc _).alloc _
  have HBF : Hid (Box w0 (w.heap.size + 1) 27 (.int .i64 p) (.int .i64 q)) := by rw [hw0]; exact (show Box _ _ _ _ _ from alloc_at (by simp)).alloc _
  have HBX : Hid (Box w0 (w.heap.size + 1 + 1) 30 (.int .i64 0) (.slice none 0 0)) := by rw [hw0]; exact alloc_at (by simp)
  have HB0 : Hid (Below w.heap.size w w0) := by rw [hw0]; exact (((Below.refl _ _).alloc (Nat.le_refl _) _).alloc (by simp) _).alloc (by simp; omega) _
  have hr0 := hr.below HB0.out
  have HW0 := Lib.hid hw0; clear hw0
  have HM := Lib.hid (MassValid_any s a n c xs w0 hr0 hn)
  by_cases hm : massB s xs = true
  · have hI := massB_is hr.1 hm
    rw [hm] at HM
    rw [show reliR s xs p q = mixR s xs s (turned xs) p q from if_pos hm]
    have HS := Lib.hid (fun W (h : Row W a n xs) => l6Negate_any s a n c xs W h hI.size hI.nums)
    have HX := Lib.hid (fun A C W (h1 : Row W a n xs) (h2 : Row W A n (turned xs)) => sMixMasses_any s s p q a A n n c C xs (turned xs) W h1 h2 hn hn)
    obtain ⟨r, hr1⟩ : ∃ r, r = mixR s xs s (turned xs) p q := ⟨_, rfl⟩
    rw [← hr1] at HX ⊢
    clear hr1 hI hm hr
    go_enter Try.func24, Try.ntmps24
    go_wp2_with fail
    rw [← HW0.out]
    refine HM.out.mono ?_
    rintro e w1 ⟨rfl, b1⟩
    have HB1 := Lib.hid (HB0.out.trans (b1.mono HB0.out.size))
    have BX := HBX.out.below b1 HBX.out.lt
    have RX := hr0.below b1
    have hxl : w.heap.size + 1 + 1 ≤ w1.drew.heap.size := by have := BX.lt; show w.heap.size + 1 + 1 ≤ w1.heap.size; omega
    obtain ⟨c1, c2, _, _⟩ := (HBM.out.below b1 HBM.out.lt).cells
    obtain ⟨c3, c4, _, _⟩ := (HBF.out.below b1 HBF.out.lt).cells
    have BB : Below (w.heap.size + 1 + 1) w1.drew w1.drew := Below.refl _ _
    have BA : Below w1.drew.heap.size w1.drew w1.drew := Below.refl _ _
    replace BX := BX.drew
    replace RX := RX.below (w' := w1.drew) (Below.refl _ _).drew
    have HKS : Hid (∀ W : World, Below (w.heap.size + 1 + 1) w1.drew W → (W.cell? ⟨w.heap.size, 0, none⟩ = some (.int .i64 s) ∧ W.cell? ⟨w.heap.size, 1, none⟩ = some (.slice a n c) ∧ W.cell? ⟨w.heap.size + 1, 0, none⟩ = some (.int .i64 p) ∧ W.cell? ⟨w.heap.size + 1, 1, none⟩ = some (.int .i64 q))) := fun W hB => ⟨(hB.cell (p := ⟨w.heap.size, 0, none⟩) (by simp; omega)).trans c1, (hB.cell (p := ⟨w.heap.size, 1, none⟩) (by simp; omega)).trans c2, (hB.cell (p := ⟨w.heap.size + 1, 0, none⟩) (by simp)).trans c3, (hB.cell (p := ⟨w.heap.size + 1, 1, none⟩) (by simp)).trans c4⟩
    clear b1 HBX HBM HBF hr0 HM
    go_wp2_with fail
    go_region_held3 (fun W => W.cell? ⟨w.heap.size, 0, none⟩ = some (.int .i64 s) ∧ W.cell? ⟨w.heap.size, 1, none⟩ = some (.slice a n c) ∧ W.cell? ⟨w.heap.size + 1, 0, none⟩ = some (.int .i64 p) ∧ W.cell? ⟨w.heap.size + 1, 1, none⟩ = some (.int .i64 q))
      (first | exact HKS.out _ BB | exact HKS.out _ ((BB.setCell (Nat.le_refl _) _).setCell (Nat.le_refl _) _))
      (first | (have _t := tok1; go_at_call 73; refine (HX.out _ _ _ RX o5.row).mono ?_; have hqs := BX.lt; rintro e w6 ⟨⟨A6, C6, rfl, o6⟩, b6⟩; replace BB := BB.trans (b6.mono (Nat.le_trans hxl BB.size)); replace RX := RX.below b6; replace BX := BX.below b6 BX.lt; replace BA := BA.trans (b6.mono BA.size); obtain ⟨d1, d2, f1, f2⟩ := BX.cells) | (go_at_call 78; refine (HS.out _ RX).mono ?_; rintro e w5 ⟨A5, C5, rfl, o5, b5⟩; replace BB := BB.trans (b5.mono (Nat.le_trans hxl BB.size)); replace RX := RX.below b5; replace BX := BX.below b5 BX.lt; replace BA := BA.trans (b5.mono BA.size); have tok1 : True := trivial))
    all_goals
      have HO6 := Lib.hid o6
      have HB6 := Lib.hid (HB1.out.drew.trans (BA.mono HB1.out.size))
      clear o5 o6 b5 b6 BB BA RX BX
      go_wp2_with fail
      refine bodyPost_ret (v := .tuple #[massV (rS r) A6 (rN r) C6, .bool (rB r)]) (by simp [results, Try.results24, go_sem, d1, d2]) rfl ?_
      exact ⟨⟨A6, C6, rfl, (HO6.out.setBox hqs _ _).mono (by omega)⟩, (HB6.out.setCell (by simp; omega) _).setCell (by simp; omega) _⟩
  · have hm' : massB s xs = false := by simpa using hm
    rw [hm'] at HM
    rw [show reliR s xs p q = none from if_neg hm]
    clear hm hm' hr hr0
    go_enter Try.func24, Try.ntmps24
    go_wp2_with fail
    rw [← HW0.out]
    refine HM.out.mono ?_
    rintro e w1 ⟨rfl, b1⟩
    obtain ⟨d1, d2, f1, f2⟩ := (HBX.out.below b1 HBX.out.lt).cells
    have HB1 := Lib.hid (HB0.out.trans (b1.mono HB0.out.size))
    clear b1
    go_wp2_with fail
    refine bodyPost_ret (v := .tuple #[massV 0 none 0 0, .bool false]) (by simp [results, Try.results24, go_sem, d1, d2]) rfl ?_
    exact ⟨RetM.none_ _ _, (HB1.out.setCell (by simp; omega) _).setCell (by simp; omega) _⟩
end Go.Proofs.Ytapkppnjgbcklaa
