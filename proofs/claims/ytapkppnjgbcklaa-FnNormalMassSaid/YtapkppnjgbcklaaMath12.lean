/- Plain functions: the whole, kinds of masses, focal sets, an order of fractions. No condition. -/
import Derived.Test.YtapkppnjgbcklaaMath9
namespace Go.Proofs.Ytapkppnjgbcklaa

def wholeR (s : Int) (xs : List Int) : Int := if massB s xs = true then sumL xs else -1
theorem wholeR_yes {s : Int} {xs : List Int} (h : massB s xs = true) : wholeR s xs = sumL xs := if_pos h
theorem wholeR_no {s : Int} {xs : List Int} (h : massB s xs = false) : wholeR s xs = -1 := if_neg (by simp [h])
def normB (s : Int) (xs : List Int) : Bool := massB s xs && (xs.getD 0 0 == 0)
/-- the sets below k that have a part -/
def focL (xs : List Int) : Nat → List Nat
  | 0 => []
  | k + 1 => if xs.getD k 0 = 0 then focL xs k else focL xs k ++ [k]
def ints (ns : List Nat) : List Int := ns.map Int.ofNat
theorem ints_length (ns : List Nat) : (ints ns).length = ns.length := by simp [ints]
theorem ints_getD (ns : List Nat) (k : Nat) : (ints ns).getD k 0 = ((ns.getD k 0 : Nat) : Int) := by
  by_cases h : k < ns.length
  · simp [ints, List.getD, h]
  · simp [ints, List.getD, List.getElem?_eq_none (show ns.length ≤ k by omega)]
theorem ints_snoc (ns : List Nat) (k : Nat) : ints (ns ++ [k]) = ints ns ++ [(k : Int)] := by simp [ints]
theorem focL_le (xs : List Int) (k : Nat) : (focL xs k).length ≤ k := by
  induction k with
  | zero => simp [focL]
  | succ k ih => simp only [focL]; split <;> (try simp only [List.length_append, List.length_singleton]) <;> omega
theorem focL_yes {xs : List Int} {k : Nat} (h : ¬ xs.getD k 0 = 0) : focL xs (k + 1) = focL xs k ++ [k] := if_neg h
theorem focL_no {xs : List Int} {k : Nat} (h : xs.getD k 0 = 0) : focL xs (k + 1) = focL xs k := if_pos h
theorem mem_focL {xs : List Int} {a : Nat} : ∀ k, a ∈ focL xs k ↔ a < k ∧ xs.getD a 0 ≠ 0
  | 0 => by simp [focL]
  | k + 1 => by
    simp only [focL]
    split
    · next h =>
      rw [mem_focL k]
      constructor
      · rintro ⟨h1, h2⟩; exact ⟨by omega, h2⟩
      · rintro ⟨h1, h2⟩
        refine ⟨?_, h2⟩
        rcases Nat.lt_or_ge a k with h3 | h3
        · exact h3
        · have e : a = k := by omega
          subst e; exact absurd h h2
    · next h =>
      rw [List.mem_append, mem_focL k, List.mem_singleton]
      constructor
      · rintro (⟨h1, h2⟩ | rfl)
        · exact ⟨by omega, h2⟩
        · exact ⟨by omega, h⟩
      · rintro ⟨h1, h2⟩
        rcases Nat.lt_or_ge a k with h3 | h3
        · exact .inl ⟨h3, h2⟩
        · exact .inr (by omega)
theorem focL_at {xs : List Int} {k i : Nat} (h : i < (focL xs k).length) : (focL xs k).getD i 0 < k ∧ xs.getD ((focL xs k).getD i 0) 0 ≠ 0 := by
  have h1 : (focL xs k).getD i 0 ∈ focL xs k := by simp [List.getD, h]
  exact (mem_focL k).1 h1
/-- is a set one of a single answer? -/
def oneB (a : Nat) : Bool := !(a == 0) && (a &&& (a - 1) == 0)
def chanB (s : Int) (xs : List Int) : Bool := massB s xs && (focL xs xs.length).all oneB
/-- has one of two sets the other? -/
def eitherB (a b : Nat) : Bool := subB a b || subB b a
def nestB (s : Int) (xs : List Int) : Bool := massB s xs && (focL xs xs.length).all (fun a => (focL xs xs.length).all (eitherB a))
def lessB (p q r t : Int) : Bool := (fracB p q && fracB r t) && decide (p * t < r * q)
def fractR (num den : Int) : FracR := if (isPartB num && isPartB den && !(den == 0)) = true then fracOf num den else none
end Go.Proofs.Ytapkppnjgbcklaa
