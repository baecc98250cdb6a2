/- Contracts of the helpers on masses. -/
import Derived.Test.YtlfajalhoifliaaDoorW3
import Derived.Test.YtlfajalhoifliaaDoorBase2
import Derived.Test.YtlfajalhoifliaaDoorMath
import Derived.Deep.RegionHeld3
namespace Go.Proofs.YtlfajalhoifliaaDoor
open Go.RowKit

theorem alloc_at {w : World} {o : Obj} {k : Nat} (h : k = w.heap.size) : (w.alloc o).heap[k]? = some o := by rw [h]; exact heap_alloc_new w o
theorem alloc_before {w : World} {o : Obj} {k : Nat} (h : k < w.heap.size) : (w.alloc o).heap[k]? = w.heap[k]? := Below.heap_alloc w o k h
/-- a box of two cells, in a later world -/
theorem box2 {W w1 : World} {k : Nat} {T : TypeId} {v0 v1 : Value} (hk : W.heap[k]? = some (.cells #[v0, v1] T)) (hb : Below W.heap.size W w1) :
    w1.cell? ⟨k, 0, none⟩ = some v0 ∧ w1.cell? ⟨k, 1, none⟩ = some v1 ∧ w1.frozen? ⟨k, 0, none⟩ = false ∧ w1.frozen? ⟨k, 1, none⟩ = false := by
  have hlt : k < W.heap.size := by
    rcases Nat.lt_or_ge k W.heap.size with h | h
    · exact h
    · rw [Array.getElem?_eq_none h] at hk; cases hk
  have h1 : w1.heap[k]? = some (.cells #[v0, v1] T (0, 0)) := (hb.block k hlt).trans hk
  refine ⟨?_, ?_, frozen_of_row _ _ _ _ _ h1, frozen_of_row _ _ _ _ _ h1⟩
  · rw [cell_of_row w1 k 0 _ T (0, 0) h1]; rfl
  · rw [cell_of_row w1 k 1 _ T (0, 0) h1]; rfl
theorem grown_setCell (w : World) (p : Addr) (u : Value) : w.grownBy (w.setCell p u) (some p.block) :=
  ⟨rfl, rfl, rfl, by simp [World.setCell], fun k _ hne => Below.heap_setCell _ _ _ _ (fun e => hne (by rw [e]))⟩
theorem Own.setFar {B : Nat} {w : World} {a : Option Addr} {n c : Nat} {xs : List Int} (h : Own B w a n c xs) {p : Addr} (hne : ∀ g, a = some ⟨g, 0, none⟩ → g ≠ p.block) (u : Value) : Own B (w.setCell p u) a n c xs :=
  h.kept (grown_setCell w p u) (fun g hg e => hne g hg (by injection e with e; exact e.symm))
/-- a mass as a value -/
abbrev massV (s : Int) (a : Option Addr) (n c : Nat) : Value := .agg #[.int .i64 s, .slice a n c]
theorem szIntS2_any (a : Option Addr) (n c : Nat) (z : Int) (w : World) (hn : n ≤ 9223372036854775807) (hz : 0 ≤ z ∧ z ≤ 1048576) :
    Calls Tryd.prog 28 #[.slice a n c, .int .i64 z] w fun e w' => e = .returned (.int .i64 (if z < n then -1 else z - n)) ∧ w = w' := by
  by_cases h : z < n
  · have h2 : z - n < 0 := by omega
    rw [if_pos h]
    go_enter Tryd.func28, Tryd.ntmps28
    go_wp2
    go_ret
    exact ⟨rfl, rfl⟩
  · have h2 : 0 ≤ z - n := by omega
    rw [if_neg h]
    go_enter Tryd.func28, Tryd.ntmps28
    go_wp2
    go_ret
    exact ⟨rfl, rfl⟩
theorem szMass_any (s : Int) (a : Option Addr) (n c : Nat) (z : Int) (w : World) (hn : n ≤ 9223372036854775807) (hz : 0 ≤ z ∧ z ≤ 1048576) :
    Calls Tryd.prog 10 #[massV s a n c, .int .i64 z] w fun e w' => e = .returned (.int .i64 (if z < n then -1 else z - n)) ∧ Below w.heap.size w w' := by
  have HS := Lib.hid (fun W => szIntS2_any a n c z W hn hz)
  by_cases h : z < n
  · rw [if_pos h] at *
    go_enter Tryd.func10, Tryd.ntmps10
    go_wp2_with fail
    refine (HS.out _).mono ?_
    rintro e w' ⟨rfl, rfl⟩
    go_wp2_with fail
    go_ret
    exact ⟨rfl, (Below.refl _ _).alloc (Nat.le_refl _) _⟩
  · have h2 : 0 ≤ z - n := by omega
    rw [if_neg h] at *
    go_enter Tryd.func10, Tryd.ntmps10
    go_wp2_with fail
    refine (HS.out _).mono ?_
    rintro e w' ⟨rfl, rfl⟩
    go_wp2_with fail
    go_ret
    exact ⟨rfl, (Below.refl _ _).alloc (Nat.le_refl _) _⟩
set_option maxHeartbeats 400000 in
theorem toMass_any (s : Int) (a : Option Addr) (n c : Nat) (xs : List Int) (w : World) (hr : Row w a n xs) (hn : n ≤ 1048576) :
    Calls Tryd.prog 12 #[massV s a n c] w fun e w' => ∃ g, e = .returned (massV s (some ⟨g, 0, none⟩) n n) ∧ Own w.heap.size w' (some ⟨g, 0, none⟩) n n xs ∧ Below w.heap.size w w' := by
  go_enter Tryd.func12, Tryd.ntmps12
  go_wp2_with fail
  have hr3 := hr.below ((((Below.refl w.heap.size w).alloc (Nat.le_refl _) (.cells #[.int .i64 s, .slice a n c] 30)).alloc (by simp) (.cells #[.int .i64 0, .slice none 0 0] 24)).alloc (by simp; omega) (.cells #[.int .i64 s, .slice none 0 0] 24))
  refine (toIntS_any a n c xs _ hr3 hn).mono ?_
  rintro e w1 ⟨rfl, o1, b1⟩
  obtain ⟨c1, c2, f1, f2⟩ := box2 (k := w.heap.size + 1 + 1) (alloc_at (by simp)) b1
  obtain ⟨c3, c4, f3, f4⟩ := box2 (k := w.heap.size + 1) ((alloc_before (by simp)).trans (alloc_at (by simp))) b1
  have hb : Below w.heap.size w w1 := ((((Below.refl w.heap.size w).alloc (Nat.le_refl _) _).alloc (by simp) _).alloc (by simp; omega) _).trans (b1.mono (by simp; omega))
  have ho := o1.mono (B' := w.heap.size) (by simp; omega)
  simp at o1 ho
  have HO := Lib.hid ho; clear ho o1 b1 hr3
  go_wp2_with fail
  refine bodyPost_ret (v := massV s (some ⟨w.heap.size + 1 + 1 + 1, 0, none⟩) n n) (by simp [results, Tryd.results12, go_sem, c3, c4]) rfl ?_
  refine ⟨_, rfl, ?_, ?_⟩
  · exact ((HO.out.setFar (fun g hg => by cases hg; first | (simp; done) | (simp; omega)) _).setFar (fun g hg => by cases hg; first | (simp; done) | (simp; omega)) _).setFar (fun g hg => by cases hg; first | (simp; done) | (simp; omega)) _
  · exact ((hb.setCell (by simp; omega) _).setCell (by simp) _).setCell (by simp) _
theorem eqMass_any (s t : Int) (a b : Option Addr) (n c m d : Nat) (xs ys : List Int) (w : World) (hr : Row w a n xs) (hs : Row w b m ys) (hn : n ≤ 1048576) (hm : m ≤ 1048576) :
    Calls Tryd.prog 7 #[massV s a n c, massV t b m d] w fun e w' => e = .returned (.bool (s == t && eqB xs ys)) ∧ Below w.heap.size w w' := by
  have hE := fun W (h : Below w.heap.size w W) => eqIntS_any a b n c m d xs ys W (hr.below h) (hs.below h) hn hm
  have HE := Lib.hid hE; clear hE
  have hb2 : ∀ o1 o2, Below w.heap.size w ((w.alloc o1).alloc o2) := fun o1 o2 => ((Below.refl w.heap.size w).alloc (Nat.le_refl _) o1).alloc (by simp) o2
  have HB2 := Lib.hid hb2; clear hb2
  by_cases h : s = t
  · subst h
    have HS : Hid ((s == s && eqB xs ys) = eqB xs ys) := by show _ = _; simp
    obtain ⟨q, hq⟩ : ∃ q, q = eqB xs ys := ⟨_, rfl⟩
    rw [← hq] at HE HS ⊢
    clear hq
    go_enter Tryd.func7, Tryd.ntmps7
    go_wp2_with fail
    refine (HE.out _ (HB2.out _ _)).mono ?_
    rintro e w1 ⟨rfl, b1⟩
    have hb := (HB2.out _ _).trans (b1.mono (by simp; omega))
    clear b1
    cases q
    · go_wp2_with fail
      go_ret
      exact ⟨ret_bool HS.out.symm, hb⟩
    · go_wp2_with fail
      go_ret
      exact ⟨ret_bool HS.out.symm, hb⟩
  · have hne : (s != t) = true := by simpa using h
    have HS : Hid ((s == t && eqB xs ys) = false) := by show _ = _; simp [h]
    clear h
    go_enter Tryd.func7, Tryd.ntmps7
    go_wp2_with fail
    go_ret
    exact ⟨ret_bool HS.out.symm, HB2.out _ _⟩
theorem isSetOf_any (s x : Int) (w : World) (hs : sizeB s = true) : Calls Tryd.prog 24 #[.int .i64 s, .int .i64 x] w fun e w' => e = .returned (.bool (setB s x)) ∧ w = w' := by
  have h : s = 1 ∨ s = 2 ∨ s = 3 ∨ s = 4 := by simp [sizeB] at hs; omega
  by_cases h0 : 0 ≤ x
  · rcases h with rfl | rfl | rfl | rfl
    all_goals
      go_enter Tryd.func24, Tryd.ntmps24
      go_wp2
      go_ret
      exact ⟨ret_bool (by simp [setB]; omega), rfl⟩
  · rcases h with rfl | rfl | rfl | rfl
    all_goals
      go_enter Tryd.func24, Tryd.ntmps24
      go_wp2
      go_ret
      exact ⟨ret_bool (by simp [setB]; omega), rfl⟩
theorem SetValid_any (s x : Int) (w : World) : Calls Tryd.prog 18 #[.int .i64 s, .int .i64 x] w fun e w' => e = .returned (.bool (sizeB s && setB s x)) ∧ w = w' := by
  have HZ := Lib.hid (SizeValid_any s w)
  by_cases hs : sizeB s = true
  · have h : s = 1 ∨ s = 2 ∨ s = 3 ∨ s = 4 := by simp [sizeB] at hs; omega
    rw [hs] at HZ ⊢
    clear hs
    rcases h with rfl | rfl | rfl | rfl
    all_goals
      go_enter Tryd.func18, Tryd.ntmps18
      go_wp2_with (first | (go_at_call 16; refine HZ.out.mono ?_; rintro e w' ⟨rfl, rfl⟩) | (go_at_call 38; refine (l1In_any _ _ _ _).mono ?_; rintro e w' ⟨rfl, rfl⟩))
      go_ret
      exact ⟨ret_bool (by rw [Bool.eq_iff_iff]; simp [setB]; omega), rfl⟩
  · have hs' : sizeB s = false := by simpa using hs
    rw [hs'] at HZ ⊢
    clear hs hs'
    go_enter Tryd.func18, Tryd.ntmps18
    go_wp2_with (go_at_call 16; refine HZ.out.mono ?_; rintro e w' ⟨rfl, rfl⟩)
    go_ret
    exact ⟨rfl, rfl⟩
end Go.Proofs.YtlfajalhoifliaaDoor
