/- Contract: CountSet. -/
import Derived.Test.YtffkpmmgfgcngaaW11
import Derived.Test.YtffkpmmgfgcngaaW5
namespace Go.Proofs.Ytffkpmmgfgcngaa
open Go.RowKit

theorem CountSet_any (a : Nat) (w : World) (ha : a < 16) : Calls Try.prog 88 #[.int .i64 a] w fun e w' => e = .returned (.int .i64 (cnt a)) ∧ w = w' := by
  obtain ⟨c, hc⟩ : ∃ c, c = cnt a := ⟨_, rfl⟩
  have hC : Calls Try.prog 153 #[.int .u64 a] w fun e w' => e = .returned (.int .i64 c) ∧ w = w' := by rw [hc]; exact oc_any a w ha
  have HC := Lib.hid hC; clear hC
  have HS := Lib.hid hc; clear hc
  have hs : setB 4 (a : Int) = true := by unfold setB; simp; omega
  have hI := isSetOf_any 4 (a : Int) w rfl
  rw [hs] at hI
  have HI := Lib.hid hI
  clear hs hI
  go_enter Try.func88, Try.ntmps88
  go_wp2_with fail
  refine HI.out.mono ?_
  rintro e w' ⟨rfl, rfl⟩
  go_wp2_with fail
  refine HC.out.mono ?_
  rintro e w' ⟨rfl, rfl⟩
  go_wp2_with fail
  go_ret
  exact ⟨ret_int (by rw [← HS.out]), rfl⟩
end Go.Proofs.Ytffkpmmgfgcngaa
