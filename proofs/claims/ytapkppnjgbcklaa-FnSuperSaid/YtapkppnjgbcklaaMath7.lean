/- Plain facts on quotients in lowest terms; no program in sight. No condition. -/
import Derived.Test.YtapkppnjgbcklaaMath6
namespace Go.Proofs.Ytapkppnjgbcklaa

theorem frac_facts {num den : Int} (hn : -4000000000000000000 ≤ num ∧ num ≤ 4000000000000000000) (hd : 1 ≤ den ∧ den ≤ 4000000000000000000) :
    ∃ (g : Nat) (p q : Int), g = Nat.gcd num.natAbs den.natAbs ∧ 1 ≤ g ∧ (g : Int) ≤ 4000000000000000000 ∧ p = num.tdiv (g : Int) ∧ q = den.tdiv (g : Int) ∧ (-4000000000000000000 ≤ p ∧ p ≤ 4000000000000000000) ∧ (1 ≤ q ∧ q ≤ 4000000000000000000) ∧ fracOf num den = if fracB p q = true then some (p, q) else none := by
  obtain ⟨g, hg⟩ : ∃ g, g = Nat.gcd num.natAbs den.natAbs := ⟨_, rfl⟩
  have h1 : 1 ≤ g := by rw [hg]; exact Nat.gcd_pos_of_pos_right _ (by omega)
  have hdv : g ∣ den.natAbs := by rw [hg]; exact Nat.gcd_dvd_right _ _
  have h2 : g ≤ den.natAbs := Nat.le_of_dvd (by omega) hdv
  refine ⟨g, _, _, hg, h1, by omega, rfl, rfl, ?_, ?_, ?_⟩
  · have h3 : (num.tdiv (g : Int)).natAbs = num.natAbs / g := by rw [Int.natAbs_tdiv]; rfl
    have h4 : num.natAbs / g ≤ num.natAbs := Nat.div_le_self _ _
    omega
  · have h3 : den.tdiv (g : Int) = den / (g : Int) := Int.tdiv_eq_ediv_of_nonneg (by omega)
    have h4 : den / (g : Int) ≤ den := Int.ediv_le_self _ (by omega)
    have h5 : 1 ≤ den / (g : Int) := by
      apply Int.le_ediv_of_mul_le (by omega)
      omega
    omega
  · have h6 : ¬ den < 0 := by omega
    simp only [fracOf, h6, if_false, ← hg]
theorem fracOf_yes {num den p q : Int} (h : fracOf num den = if fracB p q = true then some (p, q) else none) (hb : fracB p q = true) : fracOf num den = some (p, q) := by rw [h, if_pos hb]
theorem fracOf_no {num den p q : Int} (h : fracOf num den = if fracB p q = true then some (p, q) else none) (hb : fracB p q = false) : fracOf num den = none := by rw [h, if_neg (by simp [hb])]
/-- a part of the whole as a fraction, for what is a mass -/
def fracM (ok : Bool) (num den : Int) : FracR := if ok = true then fracOf num den else none
/-- what BeliefOf, PossibilityOf and MeanSize return -/
def beliefR (s : Int) (xs : List Int) (x : Int) : FracR := fracM (massB s xs && setB s x) (partOf (fun j => subB j x.toNat) xs - xs.getD 0 0) (sumL xs)
def possR (s : Int) (xs : List Int) (x : Int) : FracR := fracM (massB s xs && setB s x) (partOf (fun j => meetB x.toNat j) xs) (sumL xs)
def sizeF (xs : List Int) (b : Nat) : Int := xs.getD b 0 * cnt b
def meanR (s : Int) (xs : List Int) : FracR := fracM (massB s xs) (sumTo (sizeF xs) xs.length) (sumL xs)
theorem sumTo_first {f : Nat → Int} : ∀ n : Nat, 0 < n → (∀ k, k < n → 0 ≤ f k) → f 0 ≤ sumTo f n
  | 0, h, _ => by omega
  | 1, _, _ => by simp [sumTo]
  | n + 2, _, h => by
    have := sumTo_first (n + 1) (by omega) (fun k hk => h k (by omega))
    have := h (n + 1) (by omega)
    simp only [sumTo] at *
    omega
theorem part_zero {pr : Nat → Bool} {xs : List Int} {n : Nat} (hn : xs.length = n) (h : ∀ k, k < n → 0 ≤ xs.getD k 0 ∧ xs.getD k 0 ≤ 1000000) (h0 : 0 < n) (hp : pr 0 = true) : 0 ≤ partOf pr xs - xs.getD 0 0 := by
  have := sumTo_first (f := partF pr xs) n h0 (fun k hk => by
    have := h k hk
    unfold partF
    split <;> omega)
  rw [partF_yes hp] at this
  rw [partOf, hn]
  omega
end Go.Proofs.Ytapkppnjgbcklaa
