/- Plain facts on two masses of one question; no program in sight. No condition. -/
import Derived.Test.YtapkppnjgbcklaaMath7
namespace Go.Proofs.Ytapkppnjgbcklaa

/-- two masses of one question -/
def bothB (sM : Int) (xsM : List Int) (sN : Int) (xsN : List Int) : Bool := massB sM xsM && massB sN xsN && (sM == sN)
theorem both_is {sM sN : Int} {xsM xsN : List Int} {nM nN : Nat} (hM : xsM.length = nM) (hN : xsN.length = nN) (h : bothB sM xsM sN xsN = true) : IsMass sM nM xsM ∧ IsMass sN nN xsN ∧ sN = sM ∧ nN = nM := by
  simp only [bothB, Bool.and_eq_true, beq_iff_eq] at h
  obtain ⟨⟨h1, h2⟩, h3⟩ := h
  subst h3
  have i1 := massB_is hM h1
  have i2 := massB_is hN h2
  have f1 := i1.fit
  have f2 := i2.fit
  simp only [fitB, decide_eq_true_eq] at f1 f2
  exact ⟨i1, i2, rfl, by omega⟩
/-- what two sources tell: the products' mass -/
def toldR (op : Nat → Nat → Nat) (sM : Int) (xsM : List Int) (sN : Int) (xsN : List Int) : MassR := if bothB sM xsM sN xsN = true then makeM sM (prods op xsM xsN) else none
def conjR := toldR (fun a b => a &&& b)
def disjR := toldR (fun a b => a ||| b)
def diffR := toldR (fun a b => a ^^^ b)
def joinR (sM : Int) (xsM : List Int) (sN : Int) (xsN : List Int) : MassR := if bothB sM xsM sN xsN = true then makeM sM (noNone (prods (fun a b => a &&& b) xsM xsN)) else none
/-- contradictions tell nothing: the part of the set without answers goes to the set of all -/
def toAll (ps : List Int) : List Int := (ps.set (ps.length - 1) (ps.getD (ps.length - 1) 0 + ps.getD 0 0)).set 0 0
def yagerR (sM : Int) (xsM : List Int) (sN : Int) (xsN : List Int) : MassR := if bothB sM xsM sN xsN = true then makeM sM (toAll (prods (fun a b => a &&& b) xsM xsN)) else none
def conflR (sM : Int) (xsM : List Int) (sN : Int) (xsN : List Int) : FracR := fracM (bothB sM xsM sN xsN) ((prods (fun a b => a &&& b) xsM xsN).getD 0 0) (sumL xsM * sumL xsN)
theorem prods_length (op : Nat → Nat → Nat) (xs ys : List Int) : (prods op xs ys).length = xs.length := tab_length _ _
theorem told_len {op : Nat → Nat → Nat} {sM sN : Int} {xsM xsN : List Int} {n m : Nat} (h : xsM.length ≤ n) (_h2 : xsN.length ≤ m) : rN (toldR op sM xsM sN xsN) ≤ n := by
  unfold toldR
  split
  · exact makeM_len (by rw [prods_length]; exact h)
  · simp [rN, rL]
theorem conjR_len {sM sN : Int} {xsM xsN : List Int} {n m : Nat} (h : xsM.length ≤ n) (h2 : xsN.length ≤ m) : rN (conjR sM xsM sN xsN) ≤ n := told_len h h2
theorem disjR_len {sM sN : Int} {xsM xsN : List Int} {n m : Nat} (h : xsM.length ≤ n) (h2 : xsN.length ≤ m) : rN (disjR sM xsM sN xsN) ≤ n := told_len h h2
theorem diffR_len {sM sN : Int} {xsM xsN : List Int} {n m : Nat} (h : xsM.length ≤ n) (h2 : xsN.length ≤ m) : rN (diffR sM xsM sN xsN) ≤ n := told_len h h2
theorem joinR_len {sM sN : Int} {xsM xsN : List Int} {n m : Nat} (h : xsM.length ≤ n) (_h2 : xsN.length ≤ m) : rN (joinR sM xsM sN xsN) ≤ n := by
  unfold joinR
  split
  · exact makeM_len (by simp [noNone, prods_length]; exact h)
  · simp [rN, rL]
theorem yagerR_len {sM sN : Int} {xsM xsN : List Int} {n m : Nat} (h : xsM.length ≤ n) (_h2 : xsN.length ≤ m) : rN (yagerR sM xsM sN xsN) ≤ n := by
  unfold yagerR
  split
  · exact makeM_len (by simp [toAll, prods_length]; exact h)
  · simp [rN, rL]
/-- the bounds of the products -/
theorem prods_bound {op : Nat → Nat → Nat} {xs ys : List Int} {n : Nat} (hl : xs.length = n) (hn : n ≤ 16) (hx : ∀ k, k < n → 0 ≤ xs.getD k 0 ∧ xs.getD k 0 ≤ 1000000) (hy : ∀ k, k < n → 0 ≤ ys.getD k 0 ∧ ys.getD k 0 ≤ 1000000) (c : Nat) (hc : c < n) :
    0 ≤ (prods op xs ys).getD c 0 ∧ (prods op xs ys).getD c 0 ≤ 300000000000000 := by
  rw [prods, hl, tab_getD _ _ _ hc]
  have h1 := sumTo_between (f := fun a => sumTo (prodF op xs ys a c) n) n 16000000000000 (fun a ha => by
    have := sumTo_between (f := prodF op xs ys a c) n 1000000000000 (fun b hb => prodF_bound hx hy a c b (by omega) hb)
    omega)
  omega
theorem and_lt' {n i j : Nat} (_h : n = 2 ∨ n = 4 ∨ n = 8 ∨ n = 16) (hi : i < n) (_hj : j < n) : i &&& j < n := Nat.lt_of_le_of_lt Nat.and_le_left hi
theorem or_lt' {n i j : Nat} (h : n = 2 ∨ n = 4 ∨ n = 8 ∨ n = 16) (hi : i < n) (hj : j < n) : i ||| j < n := by
  rcases h with rfl | rfl | rfl | rfl
  · exact Nat.or_lt_two_pow (n := 1) hi hj
  · exact Nat.or_lt_two_pow (n := 2) hi hj
  · exact Nat.or_lt_two_pow (n := 3) hi hj
  · exact Nat.or_lt_two_pow (n := 4) hi hj
theorem xor_lt' {n i j : Nat} (h : n = 2 ∨ n = 4 ∨ n = 8 ∨ n = 16) (hi : i < n) (hj : j < n) : i ^^^ j < n := by
  rcases h with rfl | rfl | rfl | rfl
  · exact Nat.xor_lt_two_pow (n := 1) hi hj
  · exact Nat.xor_lt_two_pow (n := 2) hi hj
  · exact Nat.xor_lt_two_pow (n := 3) hi hj
  · exact Nat.xor_lt_two_pow (n := 4) hi hj
end Go.Proofs.Ytapkppnjgbcklaa
