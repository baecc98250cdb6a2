/- Contracts of NormalMass and NegateMass. -/
import Derived.Test.YtffkpmmgfgcngaaW17
namespace Go.Proofs.Ytffkpmmgfgcngaa
open Go.RowKit

set_option maxHeartbeats 1600000 in
theorem withoutNone_any (s : Int) (a : Option Addr) (n c : Nat) (ps : List Int) (w : World) (hr : Row w a n ps) (hn1 : 1 ≤ n) (hn : n ≤ 1048576) (hp : ∀ k, k < n → 0 ≤ ps.getD k 0 ∧ ps.getD k 0 ≤ 4000000000000000000) :
    Calls Try.prog 111 #[.int .i64 s, .slice a n c] w fun e w' => RetM w.heap.size (makeM s (noNone ps)) e w' ∧ Below w.heap.size w w' := by
  obtain ⟨w0, hw0⟩ : ∃ w0, w0 = w.alloc (.cells #[.int .i64 0, .slice none 0 0] 25) := ⟨_, rfl⟩
  have HBX : Hid (Box w0 w.heap.size 25 (.int .i64 0) (.slice none 0 0)) := by rw [hw0]; exact Box.new _ _ _ _
  have hb0 : Below w.heap.size w w0 := by rw [hw0]; exact (Below.refl _ _).alloc (Nat.le_refl _) _
  have hs0 : w0.heap.size = w.heap.size + 1 := by rw [hw0]; simp
  have hown : Own w0.heap.size (w0.alloc (.cells #[] 3)) (some ⟨w0.heap.size, 0, none⟩) 0 0 [] := World.ownsRow_lit w0 #[] 0 (Nat.le_refl _) (by unfold maxLen; omega) rfl
  have hbe : Below w0.heap.size w0 (w0.alloc (.cells #[] 3)) := (Below.refl _ _).alloc (Nat.le_refl _) _
  have hr1 := (hr.below hb0).below hbe
  have HN : Hid (∀ k, k < n → 0 ≤ (noNone ps).getD k 0 ∧ (noNone ps).getD k 0 ≤ 4000000000000000000) := fun k hk => by
    have := hp k hk
    rw [noNone, List.getD, List.getElem?_set]
    split
    · split <;> simp
    · exact this
  have HW0 := Lib.hid hw0
  have HS0 := Lib.hid hs0
  have HB0 := Lib.hid hb0
  have HM := Lib.hid (fun A C W (h : Row W A n (noNone ps)) => makeMass_any s A n C (noNone ps) W h hn HN.out)
  obtain ⟨r, hr0⟩ : ∃ r, r = makeM s (noNone ps) := ⟨_, rfl⟩
  rw [← hr0] at HM ⊢
  clear hw0 hs0 hb0 hp hr hr0
  go_enter Try.func111, Try.ntmps111
  go_wp2_with (at_builtin; rw [← HW0.out]; refine wpList_appendAll _ rfl _ _ rfl (some ⟨w0.heap.size, 0, none⟩) 0 0 [] a n c ps _ w0 (by rw [HS0.out]; rfl) rfl hown hr1 (by omega) hbe hbe.size (by omega) ?_)
  intro A' C' w1 ho' hb'
  have hz0 : 0 < n := by omega
  rcases ho'.form with ⟨_, h0, _⟩ | ⟨g, rfl, hg1, hg2, _⟩
  · omega
  have hce := ho'.cell hz0
  have hfr := ho'.frozen 0
  obtain ⟨y, hy⟩ : ∃ y, y = ps.getD 0 0 := ⟨_, rfl⟩
  rw [← hy] at hce
  clear hy
  have HO1 := Lib.hid (ho'.set 0 0)
  have HB1 := Lib.hid (hb'.setCell (p := ⟨g, 0, none⟩) hg1 (.int .i64 0))
  have hn0 : (0 : Int) < (n : Int) := by omega
  clear ho' hb' hown hbe hr1
  go_wp2_with fail
  refine (HM.out _ _ _ HO1.out.row).mono ?_
  rintro e w2 ⟨⟨A, C, rfl, o2⟩, b2⟩
  have hB2 := HB1.out.trans (b2.mono HB1.out.size)
  obtain ⟨c1, c2, f1, f2⟩ := (HBX.out.below hB2 (by rw [HS0.out]; omega)).cells
  have HO2 := Lib.hid o2
  have HB2 := Lib.hid (HB0.out.trans (hB2.mono HB0.out.size))
  have hlt2 : w.heap.size < (w1.setCell ⟨g, 0, none⟩ (.int .i64 0)).heap.size := by
    have := HB1.out.size
    have := HS0.out
    omega
  clear o2 b2 hB2
  go_wp2_with fail
  refine bodyPost_ret (v := .tuple #[massV (rS r) A (rN r) C, .bool (rB r)]) (by simp [results, Try.results111, go_sem, c1, c2]) rfl ?_
  exact ⟨⟨A, C, rfl, (HO2.out.setBox hlt2 _ _).mono (by omega)⟩, (HB2.out.setCell (by simp) _).setCell (by simp) _⟩
set_option maxHeartbeats 1600000 in
theorem l6Normal_any (s : Int) (a : Option Addr) (n c : Nat) (ps : List Int) (w : World) (hr : Row w a n ps) (hn1 : 1 ≤ n) (hn : n ≤ 1048576) (hp : ∀ k, k < n → 0 ≤ ps.getD k 0 ∧ ps.getD k 0 ≤ 4000000000000000000) :
    Calls Try.prog 115 #[.int .i64 s, .slice a n c] w fun e w' => RetM w.heap.size (makeM s (noNone ps)) e w' ∧ Below w.heap.size w w' := by
  obtain ⟨w0, hw0⟩ : ∃ w0, w0 = w.alloc (.cells #[.int .i64 0, .slice none 0 0] 25) := ⟨_, rfl⟩
  have HBX : Hid (Box w0 w.heap.size 25 (.int .i64 0) (.slice none 0 0)) := by rw [hw0]; exact Box.new _ _ _ _
  have hb0 : Below w.heap.size w w0 := by rw [hw0]; exact (Below.refl _ _).alloc (Nat.le_refl _) _
  have hs0 : w0.heap.size = w.heap.size + 1 := by rw [hw0]; simp
  have hown : Own w0.heap.size (w0.alloc (.cells #[] 3)) (some ⟨w0.heap.size, 0, none⟩) 0 0 [] := World.ownsRow_lit w0 #[] 0 (Nat.le_refl _) (by unfold maxLen; omega) rfl
  have hbe : Below w0.heap.size w0 (w0.alloc (.cells #[] 3)) := (Below.refl _ _).alloc (Nat.le_refl _) _
  have hr1 := (hr.below hb0).below hbe
  have HN : Hid (∀ k, k < n → 0 ≤ (noNone ps).getD k 0 ∧ (noNone ps).getD k 0 ≤ 4000000000000000000) := fun k hk => by
    have := hp k hk
    rw [noNone, List.getD, List.getElem?_set]
    split
    · split <;> simp
    · exact this
  have HW0 := Lib.hid hw0
  have HS0 := Lib.hid hs0
  have HB0 := Lib.hid hb0
  have HM := Lib.hid (fun A C W (h : Row W A n (noNone ps)) => l3Made_any s A n C (noNone ps) W h hn HN.out)
  obtain ⟨r, hr0⟩ : ∃ r, r = makeM s (noNone ps) := ⟨_, rfl⟩
  rw [← hr0] at HM ⊢
  clear hw0 hs0 hb0 hp hr hr0
  go_enter Try.func115, Try.ntmps115
  go_wp2_with (at_builtin; rw [← HW0.out]; refine wpList_appendAll _ rfl _ _ rfl (some ⟨w0.heap.size, 0, none⟩) 0 0 [] a n c ps _ w0 (by rw [HS0.out]; rfl) rfl hown hr1 (by omega) hbe hbe.size (by omega) ?_)
  intro A' C' w1 ho' hb'
  have hz0 : 0 < n := by omega
  rcases ho'.form with ⟨_, h0, _⟩ | ⟨g, rfl, hg1, hg2, _⟩
  · omega
  have hce := ho'.cell hz0
  have hfr := ho'.frozen 0
  obtain ⟨y, hy⟩ : ∃ y, y = ps.getD 0 0 := ⟨_, rfl⟩
  rw [← hy] at hce
  clear hy
  have HO1 := Lib.hid (ho'.set 0 0)
  have HB1 := Lib.hid (hb'.setCell (p := ⟨g, 0, none⟩) hg1 (.int .i64 0))
  have hn0 : (0 : Int) < (n : Int) := by omega
  clear ho' hb' hown hbe hr1
  go_wp2_with fail
  refine (HM.out _ _ _ HO1.out.row).mono ?_
  rintro e w2 ⟨⟨A, C, rfl, o2⟩, b2⟩
  have hB2 := HB1.out.trans (b2.mono HB1.out.size)
  obtain ⟨c1, c2, f1, f2⟩ := (HBX.out.below hB2 (by rw [HS0.out]; omega)).cells
  have HO2 := Lib.hid o2
  have HB2 := Lib.hid (HB0.out.trans (hB2.mono HB0.out.size))
  have hlt2 : w.heap.size < (w1.setCell ⟨g, 0, none⟩ (.int .i64 0)).heap.size := by
    have := HB1.out.size
    have := HS0.out
    omega
  clear o2 b2 hB2
  go_wp2_with fail
  refine bodyPost_ret (v := .tuple #[massV (rS r) A (rN r) C, .bool (rB r)]) (by simp [results, Try.results115, go_sem, c1, c2]) rfl ?_
  exact ⟨⟨A, C, rfl, (HO2.out.setBox hlt2 _ _).mono (by omega)⟩, (HB2.out.setCell (by simp) _).setCell (by simp) _⟩
end Go.Proofs.Ytffkpmmgfgcngaa
