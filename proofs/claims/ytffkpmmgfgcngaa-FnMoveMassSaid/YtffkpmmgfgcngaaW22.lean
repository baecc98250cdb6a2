/- Contracts of fractions in lowest terms. -/
import Derived.Test.YtffkpmmgfgcngaaW2
import Derived.Test.YtffkpmmgfgcngaaW11
import Derived.Test.YtffkpmmgfgcngaaMath
import Derived.Test.YtffkpmmgfgcngaaBase3
namespace Go.Proofs.Ytffkpmmgfgcngaa
open Go.RowKit

theorem Row.two (w : World) (x y : Int) (T : TypeId) {j : Nat} (hj : j = w.heap.size) : Row (w.alloc (.cells #[.int .i64 x, .int .i64 y] T)) (some ⟨j, 0, none⟩) 2 [x, y] := by
  subst hj
  obtain ⟨c1, c2, _, _⟩ := (Box.new w T (.int .i64 x) (.int .i64 y)).cells
  refine ⟨rfl, fun _ => ⟨w.heap.size, 0, rfl, by simp, fun k hk => ?_⟩⟩
  have h : k = 0 ∨ k = 1 := by omega
  rcases h with rfl | rfl
  · exact c1
  · exact c2
set_option maxHeartbeats 1600000 in
set_option maxRecDepth 100000 in
theorem isFraction_any (x y : Int) (w : World) :
    Calls Try.prog 137 #[fracV x y] w fun e w' => e = .returned (.bool (fracB x y)) ∧ Below w.heap.size w w' := by
  have HP := Lib.hid (fun W => isPart_any x W)
  have hb1 : Below w.heap.size w (w.alloc (.cells #[.int .i64 x, .int .i64 y] 40)) := (Below.refl w.heap.size w).alloc (Nat.le_refl _) _
  by_cases hx : isPartB x = true
  · by_cases hy : 1 ≤ y
    · by_cases hy2 : y ≤ 1000000000
      · have hxb : -1000000000 ≤ x ∧ x ≤ 1000000000 := by simpa [isPartB] using hx
        have HD := Lib.hid (divisorOf_any (some ⟨w.heap.size + 1, 0, none⟩) 2 2 [x, y] _ (Row.two (w.alloc (.cells #[.int .i64 x, .int .i64 y] 40)) x y 3 (by simp)) (by omega) (fun k hk => by have h : k = 0 ∨ k = 1 := (by omega); rcases h with rfl | rfl <;> simp <;> omega))
        rw [gcdL_two] at HD
        obtain ⟨g, hg⟩ : ∃ g, g = Nat.gcd x.natAbs y.natAbs := ⟨_, rfl⟩
        have HF : Hid (fracB x y = (g == 1)) := by show _ = _; rw [fracB, hx, hg]; simp [hy, hy2]
        rw [← hg] at HD
        rw [hx] at HP
        clear hx hg
        have hb2 : Below w.heap.size w ((w.alloc (.cells #[.int .i64 x, .int .i64 y] 40)).alloc (.cells #[.int .i64 x, .int .i64 y] 3)) := hb1.alloc (by simp) _
        by_cases h1 : g = 1
        · subst h1
          go_enter Try.func137, Try.ntmps137
          go_wp2_with (go_at_call 140; refine (HP.out _).mono ?_; rintro e w' ⟨rfl, rfl⟩)
          refine HD.out.mono ?_
          rintro e w2 ⟨rfl, b2⟩
          go_wp2_with fail
          go_ret
          exact ⟨ret_bool (by rw [HF.out]; rfl), hb2.trans (b2.mono (by simp; omega))⟩
        · have hne : ((g : Int) == 1) = false := by simp; omega
          go_enter Try.func137, Try.ntmps137
          go_wp2_with (go_at_call 140; refine (HP.out _).mono ?_; rintro e w' ⟨rfl, rfl⟩)
          refine HD.out.mono ?_
          rintro e w2 ⟨rfl, b2⟩
          go_wp2_with fail
          go_ret
          exact ⟨ret_bool (by rw [HF.out]; simp [h1]), hb2.trans (b2.mono (by simp; omega))⟩
      · have HF : Hid (fracB x y = false) := by show _ = _; rw [fracB]; simp [hy2]
        rw [hx] at HP
        clear hx
        go_enter Try.func137, Try.ntmps137
        go_wp2_with (go_at_call 140; refine (HP.out _).mono ?_; rintro e w' ⟨rfl, rfl⟩)
        go_ret
        exact ⟨ret_bool HF.out.symm, hb1⟩
    · have HF : Hid (fracB x y = false) := by show _ = _; rw [fracB]; simp [hy]
      rw [hx] at HP
      clear hx
      go_enter Try.func137, Try.ntmps137
      go_wp2_with (go_at_call 140; refine (HP.out _).mono ?_; rintro e w' ⟨rfl, rfl⟩)
      go_ret
      exact ⟨ret_bool HF.out.symm, hb1⟩
  · have hx' : isPartB x = false := by simpa using hx
    have HF : Hid (fracB x y = false) := by show _ = _; rw [fracB, hx']; rfl
    rw [hx'] at HP
    clear hx hx'
    go_enter Try.func137, Try.ntmps137
    go_wp2_with (go_at_call 140; refine (HP.out _).mono ?_; rintro e w' ⟨rfl, rfl⟩)
    go_ret
    exact ⟨ret_bool HF.out.symm, hb1⟩
set_option maxHeartbeats 1600000 in
set_option maxRecDepth 100000 in
theorem FractionValid_any (x y : Int) (w : World) :
    Calls Try.prog 163 #[fracV x y] w fun e w' => e = .returned (.bool (fracB x y)) ∧ Below w.heap.size w w' := by
  have HP := Lib.hid (fun W => l2Part_any x W)
  have HI := Lib.hid (fun W => l1In_any y 1 1000000000 W)
  have hb1 : Below w.heap.size w (w.alloc (.cells #[.int .i64 x, .int .i64 y] 40)) := (Below.refl w.heap.size w).alloc (Nat.le_refl _) _
  by_cases hx : isPartB x = true
  · by_cases hy : (decide (1 ≤ y) && decide (y ≤ 1000000000)) = true
    · have hxb : -1000000000 ≤ x ∧ x ≤ 1000000000 := by simpa [isPartB] using hx
      have hyb : 1 ≤ y ∧ y ≤ 1000000000 := by simpa using hy
      have HD := Lib.hid (fun W => l2Divisor_any x y W (by omega) (by omega))
      obtain ⟨g, hg⟩ : ∃ g, g = Nat.gcd x.natAbs y.natAbs := ⟨_, rfl⟩
      have HF : Hid (fracB x y = (g == 1)) := by show _ = _; rw [fracB, hx, hy, hg]; rfl
      rw [← hg] at HD
      rw [hx] at HP
      rw [hy] at HI
      clear hx hg hy
      by_cases h1 : g = 1
      · subst h1
        go_enter Try.func163, Try.ntmps163
        go_wp2_with (first | (go_at_call 176; refine (HP.out _).mono ?_; rintro e w' ⟨rfl, rfl⟩) | (go_at_call 167; refine (HI.out _).mono ?_; rintro e w' ⟨rfl, rfl⟩) | (go_at_call 162; refine (HD.out _).mono ?_; rintro e w2 ⟨rfl, rfl⟩))
        go_ret
        exact ⟨ret_bool (by rw [HF.out]; rfl), hb1⟩
      · have hne : ((g : Int) == 1) = false := by simp; omega
        go_enter Try.func163, Try.ntmps163
        go_wp2_with (first | (go_at_call 176; refine (HP.out _).mono ?_; rintro e w' ⟨rfl, rfl⟩) | (go_at_call 167; refine (HI.out _).mono ?_; rintro e w' ⟨rfl, rfl⟩) | (go_at_call 162; refine (HD.out _).mono ?_; rintro e w2 ⟨rfl, rfl⟩))
        go_ret
        exact ⟨ret_bool (by rw [HF.out]; simp [h1]), hb1⟩
    · have hy' : (decide (1 ≤ y) && decide (y ≤ 1000000000)) = false := by simpa using hy
      have HF : Hid (fracB x y = false) := by show _ = _; rw [fracB, hy']; simp
      rw [hx] at HP
      rw [hy'] at HI
      clear hx hy hy'
      go_enter Try.func163, Try.ntmps163
      go_wp2_with (first | (go_at_call 176; refine (HP.out _).mono ?_; rintro e w' ⟨rfl, rfl⟩) | (go_at_call 167; refine (HI.out _).mono ?_; rintro e w' ⟨rfl, rfl⟩))
      go_ret
      exact ⟨ret_bool HF.out.symm, hb1⟩
  · have hx' : isPartB x = false := by simpa using hx
    have HF : Hid (fracB x y = false) := by show _ = _; rw [fracB, hx']; rfl
    rw [hx'] at HP
    clear hx hx'
    go_enter Try.func163, Try.ntmps163
    go_wp2_with (go_at_call 176; refine (HP.out _).mono ?_; rintro e w' ⟨rfl, rfl⟩)
    go_ret
    exact ⟨ret_bool HF.out.symm, hb1⟩
end Go.Proofs.Ytffkpmmgfgcngaa
