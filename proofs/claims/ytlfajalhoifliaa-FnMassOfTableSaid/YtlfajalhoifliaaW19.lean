/- Contracts of NormalMass and NegateMass, of the program and of the reference. -/
import Derived.Test.YtlfajalhoifliaaW18
namespace Go.Proofs.Ytlfajalhoifliaa
open Go.RowKit

theorem cf_fullSet (args : Array Value) (w : World) : (callFunc 35 args).run Try.prog w = .ok (.enter 35 args) w := by kernel_rfl
theorem fullSet_any (s : Int) (n : Nat) (w : World) (hs : sizeB s = true) (hf : fitB s n = true) : Calls Try.prog 35 #[.int .i64 s] w fun e w' => e = .returned (.int .i64 ((n - 1 : Nat) : Int)) ∧ w = w' := by
  have h := size_cases hs
  have hnn : (n : Int) = 2 ^ s.toNat := by simpa [fitB] using hf
  clear hs hf
  rcases h with rfl | rfl | rfl | rfl
  all_goals
    simp at hnn
    obtain ⟨q, hq⟩ : ∃ q : Nat, q = n - 1 := ⟨_, rfl⟩
    have HQ := Lib.hid (show (q : Int) + 1 = n by omega)
    have HN := Lib.hid hnn
    rw [← hq]
    clear hnn hq
    go_enter Try.func35, Try.ntmps35
    go_wp2
    go_ret
    exact ⟨ret_int (by have := HQ.out; have := HN.out; omega), rfl⟩
