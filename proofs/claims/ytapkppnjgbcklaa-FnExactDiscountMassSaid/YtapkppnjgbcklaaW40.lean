/- A fraction is copied. -/
import Derived.Test.YtapkppnjgbcklaaW22
namespace Go.Proofs.Ytapkppnjgbcklaa
open Go.RowKit

theorem toFraction_any (p q : Int) (w : World) : Calls Try.prog 20 #[fracV p q] w fun e w' => e = .returned (fracV p q) ∧ Below w.heap.size w w' := by
  go_enter Try.func20, Try.ntmps20
  go_wp2_with fail
  refine bodyPost_ret (v := fracV p q) (by simp [results, Try.results20, go_sem]) rfl ?_
  exact ⟨rfl, (((Below.refl _ _).alloc (Nat.le_refl _) _).alloc (by simp) _).alloc (by simp; omega) _⟩
end Go.Proofs.Ytapkppnjgbcklaa
