/- Plain facts on mixed masses, chances and tables of masses; no program in sight. No condition. -/
import Derived.Test.YtapkppnjgbcklaaMath8
namespace Go.Proofs.Ytapkppnjgbcklaa

/-- a fraction from 0 to 1 -/
def shareB (p q : Int) : Bool := fracB p q && (decide (0 ≤ p) && decide (p ≤ q))
theorem share_is {p q : Int} (h : shareB p q = true) : 0 ≤ p ∧ p ≤ q ∧ 1 ≤ q := by
  simp only [shareB, fracB, Bool.and_eq_true, decide_eq_true_eq] at h
  omega
/-- the mean of two masses by a fraction, not yet in lowest terms -/
def mixF (p q : Int) (xs ys : List Int) (k : Nat) : Int := p * xs.getD k 0 * sumL ys + (q - p) * ys.getD k 0 * sumL xs
def mixL (p q : Int) (xs ys : List Int) : List Int := tab xs.length (mixF p q xs ys)
def mixR (sM : Int) (xsM : List Int) (sN : Int) (xsN : List Int) (p q : Int) : MassR := if (bothB sM xsM sN xsN && (shareB p q && decide (q ≤ 1000))) = true then makeM sM (mixL p q xsM xsN) else none
/-- the mass that is sure of a set -/
def sureL (n c : Nat) : List Int := tab n (fun k => if k = c then 1 else 0)
def discR (s : Int) (xs : List Int) (p q : Int) : MassR := if massB s xs = true then mixR s xs s (sureL xs.length (xs.length - 1)) p q else none
def reliR (s : Int) (xs : List Int) (p q : Int) : MassR := if massB s xs = true then mixR s xs s (turned xs) p q else none
theorem mixR_len {sM sN p q : Int} {xsM xsN : List Int} {n : Nat} (h : xsM.length ≤ n) : rN (mixR sM xsM sN xsN p q) ≤ n := by
  unfold mixR
  split
  · exact makeM_len (by simp [mixL, tab_length]; exact h)
  · simp [rN, rL]
theorem discR_len {s p q : Int} {xs : List Int} {n : Nat} (h : xs.length ≤ n) : rN (discR s xs p q) ≤ n := by
  unfold discR
  split
  · exact mixR_len h
  · simp [rN, rL]
theorem reliR_len {s p q : Int} {xs : List Int} {n : Nat} (h : xs.length ≤ n) : rN (reliR s xs p q) ≤ n := by
  unfold reliR
  split
  · exact mixR_len h
  · simp [rN, rL]
/-- what a product of numbers that are not negative is at most -/
theorem mul_bound {a b A B : Int} (h1 : 0 ≤ a ∧ a ≤ A) (h2 : 0 ≤ b ∧ b ≤ B) : 0 ≤ a * b ∧ a * b ≤ A * B :=
  ⟨Int.mul_nonneg h1.1 h2.1, Int.mul_le_mul h1.2 h2.2 h2.1 (by omega)⟩
theorem mix_bound {p q : Int} {xs ys : List Int} {n : Nat} (hp : 0 ≤ p ∧ p ≤ q ∧ q ≤ 1000) (hx : ∀ k, k < n → 0 ≤ xs.getD k 0 ∧ xs.getD k 0 ≤ 1000000) (hy : ∀ k, k < n → 0 ≤ ys.getD k 0 ∧ ys.getD k 0 ≤ 1000000) (hu : 1 ≤ sumL xs ∧ sumL xs ≤ 1000000) (hv : 1 ≤ sumL ys ∧ sumL ys ≤ 1000000) (k : Nat) (hk : k < n) :
    0 ≤ mixF p q xs ys k ∧ mixF p q xs ys k ≤ 2000000000000000 := by
  have h1 := hx k hk
  have h2 := hy k hk
  have a1 := mul_bound (a := p) (b := xs.getD k 0) (A := 1000) (B := 1000000) (by omega) h1
  have a2 := mul_bound (a := p * xs.getD k 0) (b := sumL ys) (A := 1000 * 1000000) (B := 1000000) (by omega) (by omega)
  have b1 := mul_bound (a := q - p) (b := ys.getD k 0) (A := 1000) (B := 1000000) (by omega) h2
  have b2 := mul_bound (a := (q - p) * ys.getD k 0) (b := sumL xs) (A := 1000 * 1000000) (B := 1000000) (by omega) (by omega)
  unfold mixF
  omega
/-- what ChanceOf returns -/
def chanceB (s : Int) (xs : List Int) (x : Int) : Bool := (massB s xs && setB s x) && !(sumL xs == xs.getD 0 0)
def chanceR (s : Int) (xs : List Int) (x : Int) : FracR := fracM (chanceB s xs x) (evenOf x.toNat xs) (12 * (sumL xs - xs.getD 0 0))
/-- one of the measures of a set: implied, believed, possible, common -/
def measK (kd : Nat) (xs : List Int) (a : Nat) : Int :=
  match kd with
  | 0 => partOf (fun j => subB j a) xs
  | 1 => partOf (fun j => subB j a) xs - xs.getD 0 0
  | 2 => partOf (fun j => meetB a j) xs
  | _ => partOf (fun j => subB a j) xs
def tableL (kd : Nat) (xs : List Int) : List Int := tab xs.length (measK kd xs)
theorem sum_first {xs : List Int} {n : Nat} (hn : xs.length = n) (h0 : 0 < n) (h : ∀ k, k < n → 0 ≤ xs.getD k 0) : xs.getD 0 0 ≤ sumL xs := by
  unfold sumL
  rw [hn]
  exact sumTo_first (f := fun k => xs.getD k 0) n h0 h
end Go.Proofs.Ytapkppnjgbcklaa
