/- Plain facts on masses of tables; no program in sight. No condition. -/
import Derived.Test.YtapkppnjgbcklaaMath10
namespace Go.Proofs.Ytapkppnjgbcklaa

/-- what is implied, of a table of what is possible -/
def impOf (xs : List Int) : List Int := tab xs.length (fun a => xs.getD (xs.length - 1) 0 - xs.getD (xs.length - 1 - a) 0)
def motP (j : Nat) (xs : List Int) : List Int :=
  match j with
  | 0 => sums false true xs
  | 1 => sums false true xs
  | 2 => sums false true (impOf xs)
  | _ => sums true true xs
/-- a table of a question -/
def shapeB (s : Int) (xs : List Int) : Bool := tableB xs && (sizeB s && fitB s xs.length)
/-- kinds whose table begins with 0 -/
def zeroB (j : Nat) (xs : List Int) : Bool := !(j == 1 || j == 2) || xs.getD 0 0 == 0
def motB (s : Int) (xs : List Int) (kd : ByteArray) : Bool := shapeB s xs && (decide (kindN kd < 4) && (zeroB (kindN kd) xs && (motP (kindN kd) xs).all (inMost 1000000)))
/-- what MassOfTable returns -/
def motR (s : Int) (xs : List Int) (kd : ByteArray) : MassR := if motB s xs kd = true then makeM s (motP (kindN kd) xs) else none
theorem impOf_length (xs : List Int) : (impOf xs).length = xs.length := tab_length _ _
theorem motP_length (j : Nat) (xs : List Int) : (motP j xs).length = xs.length := by
  unfold motP
  split <;> simp [sums_length, impOf_length]
theorem motR_len {s : Int} {xs : List Int} {kd : ByteArray} {n : Nat} (h : xs.length ≤ n) : rN (motR s xs kd) ≤ n := by
  unfold motR
  split
  · exact makeM_len (by rw [motP_length]; exact h)
  · simp [rN, rL]
theorem mot_yes {s : Int} {xs : List Int} {kd : ByteArray} {j : Nat} (h1 : shapeB s xs = true) (hk : kindN kd = j) (hj : j < 4) (hz : zeroB j xs = true) (ha : (motP j xs).all (inMost 1000000) = true) : motR s xs kd = makeM s (motP j xs) := by
  have : motB s xs kd = true := by simp [motB, h1, hk, hj, hz]; simpa using ha
  rw [motR, if_pos this, hk]
theorem mot_no1 {s : Int} {xs : List Int} {kd : ByteArray} (h1 : shapeB s xs = false) : motR s xs kd = none := if_neg (by simp [motB, h1])
theorem mot_no2 {s : Int} {xs : List Int} {kd : ByteArray} (h1 : kindN kd = 4) : motR s xs kd = none := if_neg (by simp [motB, h1])
theorem mot_no3 {s : Int} {xs : List Int} {kd : ByteArray} {j : Nat} (hk : kindN kd = j) (h1 : zeroB j xs = false) : motR s xs kd = none := if_neg (by simp [motB, hk, h1])
theorem mot_no4 {s : Int} {xs : List Int} {kd : ByteArray} {j : Nat} (hk : kindN kd = j) (h1 : (motP j xs).all (inMost 1000000) = false) : motR s xs kd = none := if_neg (by rw [motB, hk, h1]; simp)
theorem shape_is {s : Int} {xs : List Int} {n : Nat} (hn : xs.length = n) (h : shapeB s xs = true) : tableB xs = true ∧ sizeB s = true ∧ fitB s n = true := by
  simp only [shapeB, Bool.and_eq_true, hn] at h
  exact ⟨h.1, h.2.1, h.2.2⟩
end Go.Proofs.Ytapkppnjgbcklaa
