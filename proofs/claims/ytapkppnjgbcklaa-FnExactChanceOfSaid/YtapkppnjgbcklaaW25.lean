/- Fractions are compared. -/
import Derived.Test.YtapkppnjgbcklaaW22
namespace Go.Proofs.Ytapkppnjgbcklaa
open Go.RowKit

theorem eqFraction_any (p q : Int) (w : World) : Calls Try.prog 17 #[fracV p q, fracV p q] w fun e w' => e = .returned (.bool true) ∧ Below w.heap.size w w' := by
  have hb : Below w.heap.size w ((w.alloc (.cells #[.int .i64 p, .int .i64 q] 27)).alloc (.cells #[.int .i64 p, .int .i64 q] 27)) := ((Below.refl _ _).alloc (Nat.le_refl _) _).alloc (by simp) _
  have HB := Lib.hid hb; clear hb
  go_enter Try.func17, Try.ntmps17
  go_wp2_with fail
  go_ret
  exact ⟨rfl, HB.out⟩
end Go.Proofs.Ytapkppnjgbcklaa
