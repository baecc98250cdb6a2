/- The walk of the statement FnExactIsBeliefTable. -/
import Derived.Test.YtehlccnoalgliaaW3
import Derived.Test.YtehlccnoalgliaaW10
namespace Go.Proofs.Ytehlccnoalgliaa
open Go.RowKit

set_option maxHeartbeats 800000 in
theorem walkIsBeliefTable (a : Option Addr) (n c : Nat) (xs : List Int) (w : World) (hr : Row w a n xs) (_hbig : n ≤ 9223372036854775807) :
    Calls Try.prog 11 #[.slice a n c] w fun e w' => e = .returned (.bool true) ∧ Below w.heap.size w w' := by
  by_cases hn : n ≤ 1048576
  · go_enter Try.func11, Try.ntmps11
    go_wp2_with fail
    refine (toIntS_any a n c xs _ hr hn).mono ?_
    rintro e w1 ⟨rfl, o1, b1⟩
    go_wp2_with fail
    refine (sIsBeliefTable_any _ n n xs _ o1.row hn).mono ?_
    rintro e w2 ⟨rfl, b2⟩
    go_wp2_with fail
    have b2' := b1.trans (b2.mono b1.size)
    refine (toIntS_any a n c xs _ (hr.below b2') hn).mono ?_
    rintro e w3 ⟨rfl, o3, b3⟩
    have b3' := b2'.trans (b3.mono b2'.size)
    go_wp2_with fail
    refine (iIsBeliefTable_any _ n n xs _ o3.row hn).mono ?_
    rintro e w4 ⟨rfl, b4⟩
    have b4' := b3'.trans (b4.mono b3'.size)
    go_wp2_with fail
    refine (toIntS_any a n c xs _ (hr.below b4') hn).mono ?_
    rintro e w5 ⟨rfl, o5, b5⟩
    have b5' := b4'.trans (b5.mono b4'.size)
    go_wp2_with fail
    refine (eqIntS_any _ _ n n n n xs xs _ ((o3.below b4).below b5).row o5.row hn hn).mono ?_
    rintro e w6 ⟨rfl, b6⟩
    have b6' := b5'.trans (b6.mono b5'.size)
    have he := eqB_self xs
    go_wp2_with fail
    go_ret
    exact ⟨rfl, b6'⟩
  · go_enter Try.func11, Try.ntmps11
    go_wp2_with fail
    go_ret
    exact ⟨rfl, Below.refl _ _⟩
end Go.Proofs.Ytehlccnoalgliaa
