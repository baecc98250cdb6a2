/- Contracts of MostBelieved, of the program and of the reference. -/
import Derived.Test.YtffkpmmgfgcngaaW20
import Derived.Deep.RegionHeld3
namespace Go.Proofs.Ytffkpmmgfgcngaa
open Go.RowKit

theorem whole_is {s : Int} {xs : List Int} (h : massB s xs = true) : sumMost xs 1000000 = sumL xs := by
  simp only [massB, Bool.and_eq_true] at h
  unfold sumMost
  rw [if_pos h.1.1.2]
theorem even_step {xs : List Int} {e : Int → Int} (he : ∀ z, e z = evenOf z.toNat xs) {b k : Nat} (hb : b = bestOf xs k) : bestOf xs (k + 1) = if e ((2 ^ b : Nat) : Int) < e ((2 ^ k : Nat) : Int) then k else b := by
  subst hb; simp only [bestOf, he, Int.toNat_natCast]
theorem l3Whole_any (s : Int) (a : Option Addr) (n c : Nat) (xs : List Int) (w : World) (hr : Row w a n xs) (hn : n ≤ 1048576) :
    Calls Try.prog 117 #[massV s a n c] w fun e w' => e = .returned (.int .i64 (sumMost xs 1000000)) ∧ Below w.heap.size w w' := by
  have hr2 := hr.below ((Below.refl w.heap.size w).alloc (Nat.le_refl _) (.cells #[.int .i64 s, .slice a n c] 25))
  have HS := Lib.hid (l3Sum_any a n c xs 1000000 _ hr2 hn (by omega))
  go_enter Try.func117, Try.ntmps117
  go_wp2_with fail
  refine HS.out.mono ?_
  rintro e w1 ⟨rfl, rfl⟩
  go_wp2_with fail
  go_ret
  exact ⟨rfl, (Below.refl _ _).alloc (Nat.le_refl _) _⟩
