/- Plain facts on lists of numbers, sums and greatest common divisors; no program in sight. No condition. -/
namespace Go.Proofs.Ytapkppnjgbcklaa

/-- the greatest common divisor of the numbers of a list -/
def gcdL (xs : List Int) : Nat := xs.foldl (fun d x => Nat.gcd d x.natAbs) 0
/-- f 0 + .. + f (k - 1) -/
def sumTo (f : Nat → Int) : Nat → Int
  | 0 => 0
  | k + 1 => sumTo f k + f k
/-- the sum of a list, from the left -/
def sumL (xs : List Int) : Int := sumTo (fun k => xs.getD k 0) xs.length
def isPartB (x : Int) : Bool := decide (-1000000000 ≤ x) && decide (x ≤ 1000000000)
def tableB (xs : List Int) : Bool := xs.all isPartB && (xs.length == 2 || xs.length == 4 || xs.length == 8 || xs.length == 16)
def sizeB (s : Int) : Bool := decide (1 ≤ s) && decide (s ≤ 4)

theorem gcdL_snoc (xs : List Int) (x : Int) : gcdL (xs ++ [x]) = Nat.gcd (gcdL xs) x.natAbs := by
  simp [gcdL]
theorem take_snoc (xs : List Int) (k : Nat) (h : k < xs.length) : xs.take (k+1) = xs.take k ++ [xs.getD k 0] := by
  rw [List.take_succ_eq_append_getElem h]; simp [List.getD, h]
theorem gcdL_take (xs : List Int) (k : Nat) (h : k < xs.length) : gcdL (xs.take (k+1)) = Nat.gcd (gcdL (xs.take k)) (xs.getD k 0).natAbs := by
  rw [take_snoc xs k h, gcdL_snoc]
theorem gcd_stepN (a b : Nat) : Nat.gcd b (a % b) = Nat.gcd a b := by
  rw [Nat.gcd_comm b (a % b), ← Nat.gcd_rec, Nat.gcd_comm]
theorem gcd_step (d x : Int) : Nat.gcd x.natAbs (d.tmod x).natAbs = Nat.gcd d.natAbs x.natAbs := by
  rw [Int.natAbs_tmod, gcd_stepN]
theorem sumTo_congr {f g : Nat → Int} (n : Nat) (h : ∀ k, k < n → f k = g k) : sumTo f n = sumTo g n := by
  induction n with
  | zero => rfl
  | succ n ih => simp only [sumTo]; rw [ih (fun k hk => h k (by omega)), h n (by omega)]
theorem sumTo_bound {f : Nat → Int} (n : Nat) (B : Int) (h : ∀ k, k < n → -B ≤ f k ∧ f k ≤ B) : -(B * n) ≤ sumTo f n ∧ sumTo f n ≤ B * n := by
  induction n with
  | zero => simp [sumTo]
  | succ n ih =>
    have := ih (fun k hk => h k (by omega))
    have := h n (by omega)
    simp only [sumTo]
    have e : B * ((n+1 : Nat) : Int) = B * n + B := by rw [Int.natCast_add]; simp [Int.mul_add]
    omega
theorem all_take_snoc (p : Int → Bool) (xs : List Int) (k : Nat) (h : k < xs.length) : (xs.take (k+1)).all p = ((xs.take k).all p && p (xs.getD k 0)) := by
  rw [take_snoc xs k h]; simp
theorem all_false_of (p : Int → Bool) (xs : List Int) (k : Nat) (h : k < xs.length) (hp : p (xs.getD k 0) = false) : xs.all p = false := by
  rw [List.all_eq_false]
  exact ⟨xs.getD k 0, by simp [List.getD, h], by rw [hp]; simp⟩

/-- the list f 0, .., f (n - 1) -/
def tab (n : Nat) (f : Nat → Int) : List Int := (List.range n).map f
theorem tab_length (n : Nat) (f : Nat → Int) : (tab n f).length = n := by simp [tab]
theorem tab_getD (n : Nat) (f : Nat → Int) (k : Nat) (h : k < n) : (tab n f).getD k 0 = f k := by simp [tab, List.getD, h]
theorem tab_congr {n : Nat} {f g : Nat → Int} (h : ∀ k, k < n → f k = g k) : tab n f = tab n g := by
  unfold tab
  exact List.map_congr_left (fun k hk => h k (by simpa using hk))
theorem tab_self (xs : List Int) (n : Nat) (h : xs.length = n) : tab n (fun k => xs.getD k 0) = xs := by
  apply List.ext_getElem
  · simp [tab, h]
  · intro i h1 h2
    simp [tab, List.getD, h2]
theorem tab_set (n : Nat) (f : Nat → Int) (k : Nat) (v : Int) : (tab n f).set k v = tab n (fun i => if i = k then v else f i) := by
  apply List.ext_getElem
  · simp [tab]
  · intro i h1 h2
    simp only [tab, List.getElem_set, List.getElem_map, List.getElem_range]
    by_cases e : k = i
    · subst e; simp
    · simp [e, show ¬ i = k by omega]
theorem tab_succ (n : Nat) (f : Nat → Int) : tab (n + 1) f = tab n f ++ [f n] := by simp [tab, List.range_succ]
theorem tab_zeros (n : Nat) : List.replicate n 0 = tab n (fun _ => 0) := by
  apply List.ext_getElem
  · simp [tab]
  · intro i h1 h2
    simp [tab]
/-- the first k numbers of xs, then zeros: n in all -/
def filled (xs : List Int) (n k : Nat) : List Int := tab n (fun i => if i < k then xs.getD i 0 else 0)
theorem filled_zero (xs : List Int) (n : Nat) : filled xs n 0 = List.replicate n 0 := by
  rw [tab_zeros]; exact tab_congr (fun k _ => by simp)
theorem filled_full (xs : List Int) (n : Nat) (h : xs.length = n) : filled xs n n = xs := by
  refine Eq.trans (tab_congr (fun k hk => ?_)) (tab_self xs n h)
  simp [hk]
theorem filled_set (xs : List Int) (n k : Nat) : (filled xs n k).set k (xs.getD k 0) = filled xs n (k + 1) := by
  rw [filled, tab_set]
  refine tab_congr (fun i hi => ?_)
  by_cases e : i = k
  · subst e; simp
  · simp only [e, if_false]
    by_cases h1 : i < k
    · simp [h1, show i < k + 1 by omega]
    · simp [h1, show ¬ i < k + 1 by omega]
def eqB (xs ys : List Int) : Bool := decide (xs = ys)
theorem eqB_self (xs : List Int) : eqB xs xs = true := by simp [eqB]
theorem take_eq_succ {xs ys : List Int} {k n : Nat} (h1 : xs.length = n) (h2 : ys.length = n) (hk : k < n) (h : xs.take k = ys.take k) (he : xs.getD k 0 = ys.getD k 0) : xs.take (k + 1) = ys.take (k + 1) := by
  rw [take_snoc xs k (by omega), take_snoc ys k (by omega), h, he]
theorem ne_of_getD {xs ys : List Int} {k : Nat} (he : ¬ xs.getD k 0 = ys.getD k 0) : eqB xs ys = false := by
  simp only [eqB, decide_eq_false_iff_not]
  intro e
  rw [e] at he
  exact he rfl
/-- k, k + 1, .., k + n - 1 -/
def marks (n : Nat) (k : Int) : List Int := tab n (fun i => k + i)
def goodPair (xs : List Int) (i j : Nat) : Prop := xs.getD i 0 + xs.getD j 0 ≤ xs.getD (i ||| j) 0 + xs.getD (i &&& j) 0
instance (xs : List Int) (i j : Nat) : Decidable (goodPair xs i j) := by unfold goodPair; infer_instance
def pairB (xs : List Int) : Bool := decide (∀ i, i < xs.length → ∀ j, j < xs.length → goodPair xs i j)
theorem pairB_false {xs : List Int} {i j n : Nat} (hn : xs.length = n) (hi : i < n) (hj : j < n) (h : ¬ goodPair xs i j) : pairB xs = false := by
  simp only [pairB, decide_eq_false_iff_not]
  intro e
  exact h (e i (by omega) j (by omega))
theorem pairB_true {xs : List Int} {n : Nat} (hn : xs.length = n) (h : ∀ i, i < n → ∀ j, j < n → goodPair xs i j) : pairB xs = true := by
  simp only [pairB, decide_eq_true_eq]
  intro i hi j hj
  exact h i (by omega) j (by omega)
theorem table_part {xs : List Int} {n : Nat} (hn : xs.length = n) (h : tableB xs = true) : (n = 2 ∨ n = 4 ∨ n = 8 ∨ n = 16) ∧ ∀ k, k < n → -1000000000 ≤ xs.getD k 0 ∧ xs.getD k 0 ≤ 1000000000 := by
  simp only [tableB, Bool.and_eq_true, Bool.or_eq_true, beq_iff_eq, List.all_eq_true, hn] at h
  refine ⟨by omega, fun k hk => ?_⟩
  have := h.1 (xs.getD k 0) (by simp [List.getD, show k < xs.length by omega])
  simp only [isPartB, Bool.and_eq_true, decide_eq_true_eq] at this
  exact this
theorem pow_of_size {n : Nat} (h : n = 2 ∨ n = 4 ∨ n = 8 ∨ n = 16) : ∃ s, s ≤ 4 ∧ n = 2 ^ s := by
  rcases h with rfl | rfl | rfl | rfl
  · exact ⟨1, by omega, rfl⟩
  · exact ⟨2, by omega, rfl⟩
  · exact ⟨3, by omega, rfl⟩
  · exact ⟨4, by omega, rfl⟩
theorem or_lt {n a b : Nat} (h : n = 2 ∨ n = 4 ∨ n = 8 ∨ n = 16) (ha : a < n) (hb : b < n) : a ||| b < n := by
  obtain ⟨s, _, rfl⟩ := pow_of_size h
  exact Nat.or_lt_two_pow ha hb
theorem and_lt {n a b : Nat} (ha : a < n) : a &&& b < n := Nat.lt_of_le_of_lt Nat.and_le_left ha
theorem xor_lt {n a b : Nat} (h : n = 2 ∨ n = 4 ∨ n = 8 ∨ n = 16) (ha : a < n) (hb : b < n) : a ^^^ b < n := by
  obtain ⟨s, _, rfl⟩ := pow_of_size h
  exact Nat.xor_lt_two_pow ha hb
end Go.Proofs.Ytapkppnjgbcklaa
