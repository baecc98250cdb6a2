/- Fractions are compared. -/
import Derived.Test.YtkcgmiiepiamaaaW22
namespace Go.Proofs.Ytkcgmiiepiamaaa
open Go.RowKit

theorem eqFraction_any (p q : Int) (w : World) : Calls Try.prog 26 #[fracV p q, fracV p q] w fun e w' => e = .returned (.bool true) ∧ Below w.heap.size w w' := by
  have hb : Below w.heap.size w ((w.alloc (.cells #[.int .i64 p, .int .i64 q] 34)).alloc (.cells #[.int .i64 p, .int .i64 q] 34)) := ((Below.refl _ _).alloc (Nat.le_refl _) _).alloc (by simp) _
  have HB := Lib.hid hb; clear hb
  go_enter Try.func26, Try.ntmps26
  go_wp2_with fail
  go_ret
  exact ⟨rfl, HB.out⟩
end Go.Proofs.Ytkcgmiiepiamaaa
