/- Plain facts on sets of answers; no program in sight. No condition. -/
import Derived.Test.YtapkppnjgbcklaaMath
namespace Go.Proofs.Ytapkppnjgbcklaa

/-- the number of answers of a set of at most four -/
def cnt (a : Nat) : Nat := a % 2 + a / 2 % 2 + a / 4 % 2 + a / 8 % 2
theorem cnt_step (b : Nat) (h : b < 16) : cnt b = b % 2 + cnt (b / 2) := by unfold cnt; omega
theorem cnt_le (b : Nat) : cnt b ≤ 4 := by unfold cnt; omega
theorem cnt_pos (b : Nat) (h0 : ¬ b = 0) (h : b < 16) : 1 ≤ cnt b := by
  have : ∀ b : Fin 16, b.val ≠ 0 → 1 ≤ cnt b.val := by decide
  exact this ⟨b, h⟩ h0
/-- the sign of a set -/
def sgn (a : Nat) : Int := 1 - 2 * ((cnt a : Int) % 2)
/-- has the set a the answer x? -/
def hasB (a x : Nat) : Bool := a / 2 ^ x % 2 == 1
theorem has_le {a x : Nat} (h : hasB a x = true) : 2 ^ x ≤ a := by
  rcases Nat.lt_or_ge a (2 ^ x) with h1 | h1
  · rw [hasB, Nat.div_eq_of_lt h1] at h
    cases h
  · exact h1
def addF (xs : List Int) (a : Nat) (x : Nat) : Int := if hasB a x = true then xs.getD (2 ^ x) 0 else 0
/-- the sum of the numbers of the single answers of a -/
def addSum (xs : List Int) (a : Nat) : Int := sumTo (addF xs a) 4
def addB (xs : List Int) : Bool := decide (∀ a, a < xs.length → addSum xs a = xs.getD a 0)
theorem addB_false {xs : List Int} {a n : Nat} (hn : xs.length = n) (ha : a < n) (h : ¬ addSum xs a = xs.getD a 0) : addB xs = false := by
  simp only [addB, decide_eq_false_iff_not]
  exact fun e => h (e a (by omega))
theorem addB_true {xs : List Int} {n : Nat} (hn : xs.length = n) (h : ∀ a, a < n → addSum xs a = xs.getD a 0) : addB xs = true := by
  simp only [addB, decide_eq_true_eq]
  exact fun a ha => h a (by omega)
theorem addF_yes {xs : List Int} {a x : Nat} (h : hasB a x = true) : addF xs a x = xs.getD (2 ^ x) 0 := by rw [addF, if_pos h]
theorem addF_no {xs : List Int} {a x : Nat} (h : hasB a x = false) : addF xs a x = 0 := by rw [addF, if_neg (by simp [h])]
/-- the answers from t on are none of a's -/
theorem addSum_cut {xs : List Int} {a : Nat} : ∀ t, t ≤ 4 → a < 2 ^ t → sumTo (addF xs a) t = addSum xs a := by
  have hno : ∀ x t, t ≤ x → a < 2 ^ t → addF xs a x = 0 := fun x t hx ha => addF_no (by
    have : a / 2 ^ x = 0 := Nat.div_eq_of_lt (Nat.lt_of_lt_of_le ha (Nat.pow_le_pow_right (by omega) hx))
    rw [hasB, this]; rfl)
  intro t ht ha
  have h : t = 0 ∨ t = 1 ∨ t = 2 ∨ t = 3 ∨ t = 4 := by omega
  have h0 := hno 0 t; have h1 := hno 1 t; have h2 := hno 2 t; have h3 := hno 3 t
  rcases h with rfl | rfl | rfl | rfl | rfl
  · simp only [addSum, sumTo, h0 (by omega) ha, h1 (by omega) ha, h2 (by omega) ha, h3 (by omega) ha]; rfl
  · simp only [addSum, sumTo, h1 (by omega) ha, h2 (by omega) ha, h3 (by omega) ha]; omega
  · simp only [addSum, sumTo, h2 (by omega) ha, h3 (by omega) ha]; omega
  · simp only [addSum, sumTo, h3 (by omega) ha]; omega
  · rfl
/-- the sum of all numbers, each times its factor for the set i -/
def over (fac : Nat → Nat → Int) (xs : List Int) (n : Nat) (i : Nat) : Int := sumTo (fun j => xs.getD j 0 * fac i j) n
/-- is the set j within i? -/
def subB (j i : Nat) : Bool := j &&& (15 - i) == 0
/-- the factor of the number of j for the set i, for sums of sets within (above = false) or around (above = true) a set, with signs or without -/
def facS (above signs : Bool) (i j : Nat) : Int := if (if above then subB i j else subB j i) = true then (if signs then sgn (i ^^^ j) else 1) else 0
theorem sgn_bound (a : Nat) : sgn a = 1 ∨ sgn a = -1 := by unfold sgn; omega
theorem facS_bound (above signs : Bool) (i j : Nat) : -1 ≤ facS above signs i j ∧ facS above signs i j ≤ 1 := by
  unfold facS
  have := sgn_bound (i ^^^ j)
  split
  · split <;> omega
  · omega
/-- the table of sums, or of parts -/
def sums (above signs : Bool) (xs : List Int) : List Int := tab xs.length (over (facS above signs) xs xs.length)
/-- what a table function returns: nothing for what is no table -/
def told (ab sg : Bool) (xs : List Int) : List Int := if tableB xs = true then sums ab sg xs else []
def toldN (xs : List Int) (n : Nat) : Nat := if tableB xs = true then n else 0
theorem told_yes {ab sg : Bool} {xs : List Int} (h : tableB xs = true) : told ab sg xs = sums ab sg xs := if_pos h
theorem told_no {ab sg : Bool} {xs : List Int} (h : tableB xs = false) : told ab sg xs = [] := if_neg (by simp [h])
theorem toldN_yes {xs : List Int} {n : Nat} (h : tableB xs = true) : toldN xs n = n := if_pos h
theorem toldN_no {xs : List Int} {n : Nat} (h : tableB xs = false) : toldN xs n = 0 := if_neg (by simp [h])
end Go.Proofs.Ytapkppnjgbcklaa
