/- Plain facts: the mass that is sure of a set is one. No condition. -/
import Derived.Test.YtapkppnjgbcklaaLaw2
import Derived.Test.YtapkppnjgbcklaaLaw1
import Derived.Test.YtapkppnjgbcklaaMath9
namespace Go.Proofs.Ytapkppnjgbcklaa

theorem sureL_getD {n c k : Nat} (hk : k < n) : (sureL n c).getD k 0 = if k = c then 1 else 0 := tab_getD _ _ _ hk
theorem sureL_length (n c : Nat) : (sureL n c).length = n := tab_length _ _
theorem sureL_sum {n c : Nat} (hc : c < n) : sumL (sureL n c) = 1 := by
  unfold sumL
  rw [sureL_length]
  have h : sumTo (fun k => (sureL n c).getD k 0) n = sumTo (fun k => if k = c then 1 else 0) n := sumTo_congr n (fun k hk => sureL_getD hk)
  rw [h, sumTo_one, if_pos hc]
theorem sure_mass {s : Int} {n c : Nat} (hs : sizeB s = true) (hf : fitB s n = true) (hc : c < n) : massB s (sureL n c) = true := by
  have hl := sureL_length n c
  have ha : (sureL n c).all (inMost 1000000) = true := by
    rw [all_getD]
    intro k hk
    rw [sureL_getD (by omega)]
    split <;> decide
  rw [massB_of hl hs hf ha, sureL_sum hc]
  have hg : gcdL (sureL n c) = 1 := by
    have h := gcdL_dvd hl c hc
    rw [sureL_getD hc, if_pos rfl] at h
    exact Nat.dvd_one.1 h
  rw [hg]
  decide
end Go.Proofs.Ytapkppnjgbcklaa
