/- Plain facts on fractions and masses in lowest terms; no program in sight. No condition. -/
import Derived.Test.YtapkppnjgbcklaaMath4
namespace Go.Proofs.Ytapkppnjgbcklaa

/-- what a function that returns a mass and a truth returns -/
abbrev MassR := Option (Int × List Int)
def rS : MassR → Int
  | none => 0
  | some p => p.1
def rL : MassR → List Int
  | none => []
  | some p => p.2
def rN (r : MassR) : Nat := (rL r).length
def rB : MassR → Bool
  | none => false
  | some _ => true
/-- parts divided by their greatest divisor -/
def low (ps : List Int) : List Int := ps.map (fun x => x / (gcdL ps : Int))
/-- the mass of parts in lowest terms, if it is valid -/
def makeM (s : Int) (ps : List Int) : MassR := if gcdL ps = 0 then none else if massB s (low ps) = true then some (s, low ps) else none
theorem makeM_zero {s : Int} {ps : List Int} (h : gcdL ps = 0) : makeM s ps = none := if_pos h
theorem makeM_yes {s : Int} {ps : List Int} (h : gcdL ps ≠ 0) (hm : massB s (low ps) = true) : makeM s ps = some (s, low ps) := by rw [makeM, if_neg h, if_pos hm]
theorem makeM_no {s : Int} {ps : List Int} (h : gcdL ps ≠ 0) (hm : massB s (low ps) = false) : makeM s ps = none := by rw [makeM, if_neg h, if_neg (by simp [hm])]
theorem low_length (ps : List Int) : (low ps).length = ps.length := by simp [low]
theorem low_tab {ps : List Int} {n : Nat} (h : ps.length = n) : low ps = tab n (fun k => ps.getD k 0 / (gcdL ps : Int)) := by
  apply List.ext_getElem
  · simp [low, tab, h]
  · intro i h1 h2
    simp only [low, List.length_map] at h1
    simp [low, tab, List.getD, h1]
/-- a fraction: its number of parts and its whole -/
abbrev FracR := Option (Int × Int)
def fN : FracR → Int
  | none => 0
  | some p => p.1
def fD : FracR → Int
  | none => 0
  | some p => p.2
def fB : FracR → Bool
  | none => false
  | some _ => true
def fracB (a b : Int) : Bool := isPartB a && (decide (1 ≤ b) && decide (b ≤ 1000000000)) && (Nat.gcd a.natAbs b.natAbs == 1)
/-- a quotient in lowest terms, if it is valid -/
def fracOf (num den : Int) : FracR :=
  let d : Int := if den < 0 then -(Nat.gcd num.natAbs den.natAbs : Int) else Nat.gcd num.natAbs den.natAbs
  if fracB (num.tdiv d) (den.tdiv d) = true then some (num.tdiv d, den.tdiv d) else none
theorem gcdL_two (a b : Int) : gcdL [a, b] = Nat.gcd a.natAbs b.natAbs := by simp [gcdL]
/-- the other sets' parts -/
def turned (xs : List Int) : List Int := tab xs.length (fun k => xs.getD (xs.length - 1 - k) 0)
/-- the parts without that of the set without answers -/
def noNone (xs : List Int) : List Int := xs.set 0 0
/-- the products of the parts of two masses that go to the set c: of the first k sets with all sets, and of the set k with the first l sets -/
def prodF (op : Nat → Nat → Nat) (xs ys : List Int) (a c b : Nat) : Int := if op a b = c then xs.getD a 0 * ys.getD b 0 else 0
def prodR (op : Nat → Nat → Nat) (xs ys : List Int) (n l c a : Nat) : Int := sumTo (prodF op xs ys a c) (if l = n then n else l)
def prodT (op : Nat → Nat → Nat) (xs ys : List Int) (n k l : Nat) : List Int := tab n (fun c => sumTo (fun a => sumTo (prodF op xs ys a c) n) k + sumTo (prodF op xs ys k c) l)
def prods (op : Nat → Nat → Nat) (xs ys : List Int) : List Int := tab xs.length (fun c => sumTo (fun a => sumTo (prodF op xs ys a c) xs.length) xs.length)
theorem prodT_zero (op : Nat → Nat → Nat) (xs ys : List Int) (n : Nat) : prodT op xs ys n 0 0 = List.replicate n 0 := by
  rw [tab_zeros]; exact tab_congr (fun k _ => by simp [sumTo])
theorem prodT_row (op : Nat → Nat → Nat) (xs ys : List Int) (n k : Nat) : prodT op xs ys n k n = prodT op xs ys n (k + 1) 0 :=
  tab_congr (fun c _ => by simp only [sumTo]; omega)
theorem prodT_done {op : Nat → Nat → Nat} {xs ys : List Int} {n : Nat} (hn : xs.length = n) : prodT op xs ys n n 0 = prods op xs ys := by
  subst hn
  exact tab_congr (fun c _ => by simp [sumTo])
theorem prodT_step (op : Nat → Nat → Nat) (xs ys : List Int) (n k l : Nat) :
    (prodT op xs ys n k l).set (op k l) ((prodT op xs ys n k l).getD (op k l) 0 + xs.getD k 0 * ys.getD l 0) = prodT op xs ys n k (l + 1) := by
  by_cases hc : op k l < n
  · rw [prodT, tab_getD _ _ _ hc, tab_set]
    refine tab_congr (fun c hcn => ?_)
    by_cases e : c = op k l
    · subst e
      simp only [if_true, sumTo]
      rw [prodF, if_pos rfl]; omega
    · simp only [e, if_false, sumTo]
      rw [prodF, if_neg (fun h => e h.symm)]; omega
  · rw [List.set_eq_of_length_le (by rw [prodT, tab_length]; omega)]
    refine tab_congr (fun c hcn => ?_)
    simp only [sumTo]
    rw [prodF, if_neg (by omega)]; omega
theorem prodF_bound {op : Nat → Nat → Nat} {xs ys : List Int} {n : Nat} (hx : ∀ k, k < n → 0 ≤ xs.getD k 0 ∧ xs.getD k 0 ≤ 1000000) (hy : ∀ k, k < n → 0 ≤ ys.getD k 0 ∧ ys.getD k 0 ≤ 1000000) (a c b : Nat) (ha : a < n) (hb : b < n) :
    0 ≤ prodF op xs ys a c b ∧ prodF op xs ys a c b ≤ 1000000000000 := by
  have h1 := hx a ha
  have h2 := hy b hb
  unfold prodF
  split
  · exact ⟨Int.mul_nonneg h1.1 h2.1, by
      have := Int.mul_le_mul h1.2 h2.2 h2.1 (by omega)
      omega⟩
  · omega
theorem sumTo_between {f : Nat → Int} (n : Nat) (B : Int) (h : ∀ k, k < n → 0 ≤ f k ∧ f k ≤ B) : 0 ≤ sumTo f n ∧ sumTo f n ≤ B * n := by
  induction n with
  | zero => simp [sumTo]
  | succ n ih =>
    have := ih (fun k hk => h k (by omega))
    have := h n (by omega)
    simp only [sumTo]
    have e : B * ((n+1 : Nat) : Int) = B * n + B := by rw [Int.natCast_add]; simp [Int.mul_add]
    omega
theorem prodT_bound {op : Nat → Nat → Nat} {xs ys : List Int} {n : Nat} (hn : n ≤ 16) (hx : ∀ k, k < n → 0 ≤ xs.getD k 0 ∧ xs.getD k 0 ≤ 1000000) (hy : ∀ k, k < n → 0 ≤ ys.getD k 0 ∧ ys.getD k 0 ≤ 1000000) (k l c : Nat) (hk : k < n) (hl : l ≤ n) (hc : c < n) :
    0 ≤ (prodT op xs ys n k l).getD c 0 ∧ (prodT op xs ys n k l).getD c 0 ≤ 300000000000000 := by
  rw [prodT, tab_getD _ _ _ hc]
  have h1 := sumTo_between (f := fun a => sumTo (prodF op xs ys a c) n) k 16000000000000 (fun a ha => by
    have := sumTo_between (f := prodF op xs ys a c) n 1000000000000 (fun b hb => prodF_bound hx hy a c b (by omega) hb)
    omega)
  have h2 := sumTo_between (f := prodF op xs ys k c) l 1000000000000 (fun b hb => prodF_bound hx hy k c b hk (by omega))
  omega
/-- what NormalMass returns -/
def normalR (s : Int) (xs : List Int) : MassR := if massB s xs = true then makeM s (noNone xs) else none
/-- what NegateMass returns -/
def negR (s : Int) (xs : List Int) : MassR := if massB s xs = true then some (s, turned xs) else none
theorem xor_full : ∀ k : Fin 16, (15 : Nat) ^^^ k.val = 15 - k.val := by decide
theorem xor_full8 : ∀ k : Fin 8, (7 : Nat) ^^^ k.val = 7 - k.val := by decide
theorem xor_full4 : ∀ k : Fin 4, (3 : Nat) ^^^ k.val = 3 - k.val := by decide
theorem xor_full2 : ∀ k : Fin 2, (1 : Nat) ^^^ k.val = 1 - k.val := by decide
theorem full_xor {n k : Nat} (h : n = 2 ∨ n = 4 ∨ n = 8 ∨ n = 16) (hk : k < n) : (n - 1) ^^^ k = n - 1 - k := by
  rcases h with rfl | rfl | rfl | rfl
  · exact xor_full2 ⟨k, hk⟩
  · exact xor_full4 ⟨k, hk⟩
  · exact xor_full8 ⟨k, hk⟩
  · exact xor_full ⟨k, hk⟩
theorem turned_length (xs : List Int) : (turned xs).length = xs.length := tab_length _ _
theorem makeM_len {s : Int} {ps : List Int} {n : Nat} (h : ps.length ≤ n) : rN (makeM s ps) ≤ n := by
  unfold makeM
  split
  · simp [rN, rL]
  · split
    · simp [rN, rL, low_length]; exact h
    · simp [rN, rL]
theorem negR_len {s : Int} {xs : List Int} {n : Nat} (h : xs.length ≤ n) : rN (negR s xs) ≤ n := by
  unfold negR
  split
  · simp [rN, rL, turned_length]; exact h
  · simp [rN, rL]
theorem normalR_len {s : Int} {xs : List Int} {n : Nat} (h : xs.length ≤ n) : rN (normalR s xs) ≤ n := by
  unfold normalR
  split
  · exact makeM_len (by simp [noNone]; exact h)
  · simp [rN, rL]
end Go.Proofs.Ytapkppnjgbcklaa
