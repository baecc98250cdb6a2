/- Plain facts on parts shared evenly; no program in sight. No condition. -/
import Derived.Test.YtapkppnjgbcklaaMath5
namespace Go.Proofs.Ytapkppnjgbcklaa

/-- 12 times what the set a gets of the part of the set b -/
def evenF (a : Nat) (xs : List Int) (b : Nat) : Int := xs.getD b 0 * cnt (b &&& a) * 12 / cnt b
def evenOf (a : Nat) (xs : List Int) : Int := sumTo (evenF a xs) xs.length
theorem evenF_zero (a : Nat) (xs : List Int) : evenF a xs 0 = 0 := by simp [evenF, cnt]
/-- what a product of a part and a count is -/
theorem part_cnt {v : Int} (hv : 0 ≤ v ∧ v ≤ 1000000) (p : Nat) (hp : p ≤ 4) : 0 ≤ v * p ∧ v * p ≤ 4000000 := by
  have h : p = 0 ∨ p = 1 ∨ p = 2 ∨ p = 3 ∨ p = 4 := by omega
  rcases h with rfl | rfl | rfl | rfl | rfl <;> omega
theorem div_cnt {t : Int} (ht : 0 ≤ t ∧ t ≤ 4000000) (q : Nat) : 0 ≤ t * 12 / (q : Int) ∧ t * 12 / (q : Int) ≤ 48000000 := by
  have h0 : 0 ≤ t * 12 := by omega
  have := Int.ediv_nonneg h0 (show 0 ≤ (q : Int) by omega)
  have := Int.ediv_le_self (q : Int) h0
  omega
theorem evenOf_bound {a : Nat} {xs : List Int} {n : Nat} (hn : xs.length = n) (h : ∀ k, k < n → 0 ≤ xs.getD k 0 ∧ xs.getD k 0 ≤ 1000000) : 0 ≤ evenOf a xs ∧ evenOf a xs ≤ 48000000 * n := by
  rw [evenOf, hn]
  exact sumTo_between n 48000000 (fun k hk => by
    have := part_cnt (h k hk) (cnt (k &&& a)) (cnt_le _)
    have := div_cnt this (cnt k)
    rw [evenF]; exact this)
/-- the first answer of the greatest chance among the first k -/
def bestOf (xs : List Int) : Nat → Nat
  | 0 => 0
  | k + 1 => if evenOf (2 ^ bestOf xs k) xs < evenOf (2 ^ k) xs then k else bestOf xs k
theorem bestOf_le (xs : List Int) (k : Nat) : bestOf xs k ≤ k := by
  induction k with
  | zero => simp [bestOf]
  | succ k ih => simp only [bestOf]; split <;> omega
theorem bestOf_lt (xs : List Int) (k : Nat) (h : 0 < k) : bestOf xs k < k := by
  cases k with
  | zero => omega
  | succ k => simp only [bestOf]; have := bestOf_le xs k; split <;> omega
theorem bestOf_one (xs : List Int) : bestOf xs 1 = 0 := by simp [bestOf]
theorem bestOf_yes {xs : List Int} {k b : Nat} (hb : b = bestOf xs k) (h : evenOf (2 ^ b) xs < evenOf (2 ^ k) xs) : bestOf xs (k + 1) = k := by
  subst hb; simp only [bestOf]; rw [if_pos h]
theorem bestOf_no {xs : List Int} {k b : Nat} (hb : b = bestOf xs k) (h : ¬ evenOf (2 ^ b) xs < evenOf (2 ^ k) xs) : bestOf xs (k + 1) = b := by
  subst hb; simp only [bestOf]; rw [if_neg h]
theorem size_is {s : Int} (h : sizeB s = true) : ∃ m : Nat, s = (m : Int) ∧ 1 ≤ m ∧ m ≤ 4 := by
  simp [sizeB] at h
  exact ⟨s.toNat, by omega, by omega, by omega⟩
/-- what MostBelieved returns -/
def mostOf (s : Int) (xs : List Int) : Int := if massB s xs = true then (if sumL xs = xs.getD 0 0 then -1 else (bestOf xs s.toNat : Nat)) else -1
theorem mostOf_no {s : Int} {xs : List Int} (h : massB s xs = false) : mostOf s xs = -1 := if_neg (by simp [h])
theorem mostOf_all {s : Int} {xs : List Int} (h : massB s xs = true) (h2 : sumL xs = xs.getD 0 0) : mostOf s xs = -1 := by rw [mostOf, if_pos h, if_pos h2]
theorem mostOf_yes {s : Int} {xs : List Int} (h : massB s xs = true) (h2 : ¬ sumL xs = xs.getD 0 0) : mostOf s xs = (bestOf xs s.toNat : Nat) := by rw [mostOf, if_pos h, if_neg h2]
end Go.Proofs.Ytapkppnjgbcklaa
