/- Plain facts on masses; no program in sight. No condition. -/
import Derived.Test.YtapkppnjgbcklaaMath3
namespace Go.Proofs.Ytapkppnjgbcklaa

/-- is the sum from 1 to the limit? -/
def wholeB (z : Int) : Bool := decide (1 ≤ z) && decide (z ≤ 1000000)
/-- as many parts as there are sets -/
def fitB (s : Int) (n : Nat) : Bool := decide ((n : Int) = 2 ^ s.toNat)
/-- is it a valid mass? -/
def massB (s : Int) (xs : List Int) : Bool := sizeB s && fitB s xs.length && xs.all (inMost 1000000) && wholeB (sumL xs) && (gcdL xs == 1)
theorem size_cases {s : Int} (h : sizeB s = true) : s = 1 ∨ s = 2 ∨ s = 3 ∨ s = 4 := by
  simp [sizeB] at h; omega
theorem fit_le {s : Int} {n : Nat} (h : sizeB s = true) (hf : fitB s n = true) : n = 2 ∨ n = 4 ∨ n = 8 ∨ n = 16 := by
  simp only [fitB, decide_eq_true_eq] at hf
  rcases size_cases h with rfl | rfl | rfl | rfl <;> simp at hf <;> omega
theorem massB_size {s : Int} {xs : List Int} (h : sizeB s = false) : massB s xs = false := by simp [massB, h]
theorem massB_fit {s : Int} {xs : List Int} {n : Nat} (hn : xs.length = n) (h : fitB s n = false) : massB s xs = false := by simp [massB, hn, h]
theorem massB_all {s : Int} {xs : List Int} (h : xs.all (inMost 1000000) = false) : massB s xs = false := by rw [massB, h]; simp
theorem massB_of {s : Int} {xs : List Int} {n : Nat} (hn : xs.length = n) (h1 : sizeB s = true) (h2 : fitB s n = true) (h3 : xs.all (inMost 1000000) = true) : massB s xs = (wholeB (sumL xs) && (gcdL xs == 1)) := by
  rw [massB, hn, h1, h2, h3]; simp
/-- what a valid mass is -/
structure IsMass (s : Int) (n : Nat) (xs : List Int) : Prop where
  size : sizeB s = true
  fit : fitB s n = true
  nums : n = 2 ∨ n = 4 ∨ n = 8 ∨ n = 16
  part : ∀ k, k < n → 0 ≤ xs.getD k 0 ∧ xs.getD k 0 ≤ 1000000
  whole : 1 ≤ sumL xs ∧ sumL xs ≤ 1000000
  gcd : gcdL xs = 1
theorem massB_is {s : Int} {xs : List Int} {n : Nat} (hn : xs.length = n) (h : massB s xs = true) : IsMass s n xs := by
  simp only [massB, Bool.and_eq_true, hn, beq_iff_eq] at h
  obtain ⟨⟨⟨⟨h1, h2⟩, h3⟩, h4⟩, h5⟩ := h
  refine ⟨h1, h2, fit_le h1 h2, fun k hk => ?_, ?_, h5⟩
  · have := all_getD.1 h3 k (by omega)
    simpa [inMost] using this
  · simpa [wholeB] using h4
theorem inMost_bound {most : Int} {xs : List Int} {n : Nat} (hn : xs.length = n) (h : xs.all (inMost most) = true) (k : Nat) (hk : k < n) : 0 ≤ xs.getD k 0 ∧ xs.getD k 0 ≤ most := by
  have := all_getD.1 h k (by omega)
  simpa [inMost] using this
theorem gcdL_le {xs : List Int} {M : Nat} : ∀ k, k ≤ xs.length → (∀ j, j < k → (xs.getD j 0).natAbs ≤ M) → gcdL (xs.take k) ≤ M
  | 0, _, _ => by simp [gcdL]
  | k + 1, hk, h => by
    rw [gcdL_take xs k (by omega)]
    have h1 := gcdL_le k (by omega) (fun j hj => h j (by omega))
    have h2 := h k (by omega)
    by_cases h0 : gcdL (xs.take k) = 0
    · rw [h0, Nat.gcd_zero_left]; exact h2
    · exact Nat.le_trans (Nat.gcd_le_left _ (by omega)) h1
/-- do two sets meet? -/
def meetB (j x : Nat) : Bool := !(j &&& x == 0)
/-- the sum of the parts of some sets -/
def partF (pr : Nat → Bool) (xs : List Int) (j : Nat) : Int := if pr j = true then xs.getD j 0 else 0
def partOf (pr : Nat → Bool) (xs : List Int) : Int := sumTo (partF pr xs) xs.length
theorem partF_yes {pr : Nat → Bool} {xs : List Int} {j : Nat} (h : pr j = true) : partF pr xs j = xs.getD j 0 := if_pos h
theorem partF_no {pr : Nat → Bool} {xs : List Int} {j : Nat} (h : pr j = false) : partF pr xs j = 0 := if_neg (by simp [h])
theorem partOf_bound {pr : Nat → Bool} {xs : List Int} {n : Nat} (hn : xs.length = n) (h : ∀ k, k < n → 0 ≤ xs.getD k 0 ∧ xs.getD k 0 ≤ 1000000) : 0 ≤ partOf pr xs ∧ partOf pr xs ≤ 1000000 * n := by
  subst hn
  have hb := sumTo_bound (f := partF pr xs) xs.length 1000000 (fun k hk => by
    have := h k hk
    unfold partF
    split <;> omega)
  refine ⟨sumTo_nonneg _ (fun k hk => ?_), hb.2⟩
  have := h k hk
  unfold partF
  split <;> omega
/-- is x a set of answers of a question with s answers? -/
def setB (s x : Int) : Bool := decide (0 ≤ x) && decide (x < 2 ^ s.toNat)
theorem set_nat {s x : Int} {n : Nat} {xs : List Int} (hm : IsMass s n xs) (h : setB s x = true) : ∃ y : Nat, x = (y : Int) ∧ y < n := by
  have h1 := hm.fit
  simp only [setB, Bool.and_eq_true, decide_eq_true_eq] at h
  simp only [fitB, decide_eq_true_eq] at h1
  exact ⟨x.toNat, by omega, by omega⟩
/-- a measure of a set: -1 for what is none -/
def measure (s : Int) (xs : List Int) (x : Int) (v : Int) : Int := if (massB s xs && setB s x) = true then v else -1
theorem measure_yes {s : Int} {xs : List Int} {x v : Int} (h1 : massB s xs = true) (h2 : setB s x = true) : measure s xs x v = v := if_pos (by simp [h1, h2])
theorem measure_no1 {s : Int} {xs : List Int} {x v : Int} (h1 : massB s xs = false) : measure s xs x v = -1 := if_neg (by simp [h1])
theorem measure_no2 {s : Int} {xs : List Int} {x v : Int} (h2 : setB s x = false) : measure s xs x v = -1 := if_neg (by simp [h2])
end Go.Proofs.Ytapkppnjgbcklaa
