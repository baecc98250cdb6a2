/- Plain functions and facts; no program in sight. No condition. -/
namespace Go.Proofs.YtlfajalhoifliaaGreatDoor

/-! Plain facts on lists of numbers, sums and greatest common divisors; no program in sight. No condition. -/
section
/-- the greatest common divisor of the numbers of a list -/
def gcdL (xs : List Int) : Nat := xs.foldl (fun d x => Nat.gcd d x.natAbs) 0
/-- f 0 + .. + f (k - 1) -/
def sumTo (f : Nat → Int) : Nat → Int
  | 0 => 0
  | k + 1 => sumTo f k + f k
/-- the sum of a list, from the left -/
def sumL (xs : List Int) : Int := sumTo (fun k => xs.getD k 0) xs.length
def isPartB (x : Int) : Bool := decide (-1000000000 ≤ x) && decide (x ≤ 1000000000)
def tableB (xs : List Int) : Bool := xs.all isPartB && (xs.length == 2 || xs.length == 4 || xs.length == 8 || xs.length == 16)
def sizeB (s : Int) : Bool := decide (1 ≤ s) && decide (s ≤ 4)

theorem gcdL_snoc (xs : List Int) (x : Int) : gcdL (xs ++ [x]) = Nat.gcd (gcdL xs) x.natAbs := by
  simp [gcdL]
theorem take_snoc (xs : List Int) (k : Nat) (h : k < xs.length) : xs.take (k+1) = xs.take k ++ [xs.getD k 0] := by
  rw [List.take_succ_eq_append_getElem h]; simp [List.getD, h]
theorem gcdL_take (xs : List Int) (k : Nat) (h : k < xs.length) : gcdL (xs.take (k+1)) = Nat.gcd (gcdL (xs.take k)) (xs.getD k 0).natAbs := by
  rw [take_snoc xs k h, gcdL_snoc]
theorem gcd_stepN (a b : Nat) : Nat.gcd b (a % b) = Nat.gcd a b := by
  rw [Nat.gcd_comm b (a % b), ← Nat.gcd_rec, Nat.gcd_comm]
theorem gcd_step (d x : Int) : Nat.gcd x.natAbs (d.tmod x).natAbs = Nat.gcd d.natAbs x.natAbs := by
  rw [Int.natAbs_tmod, gcd_stepN]
theorem sumTo_congr {f g : Nat → Int} (n : Nat) (h : ∀ k, k < n → f k = g k) : sumTo f n = sumTo g n := by
  induction n with
  | zero => rfl
  | succ n ih => simp only [sumTo]; rw [ih (fun k hk => h k (by omega)), h n (by omega)]
theorem sumTo_bound {f : Nat → Int} (n : Nat) (B : Int) (h : ∀ k, k < n → -B ≤ f k ∧ f k ≤ B) : -(B * n) ≤ sumTo f n ∧ sumTo f n ≤ B * n := by
  induction n with
  | zero => simp [sumTo]
  | succ n ih =>
    have := ih (fun k hk => h k (by omega))
    have := h n (by omega)
    simp only [sumTo]
    have e : B * ((n+1 : Nat) : Int) = B * n + B := by rw [Int.natCast_add]; simp [Int.mul_add]
    omega
theorem all_take_snoc (p : Int → Bool) (xs : List Int) (k : Nat) (h : k < xs.length) : (xs.take (k+1)).all p = ((xs.take k).all p && p (xs.getD k 0)) := by
  rw [take_snoc xs k h]; simp
theorem all_false_of (p : Int → Bool) (xs : List Int) (k : Nat) (h : k < xs.length) (hp : p (xs.getD k 0) = false) : xs.all p = false := by
  rw [List.all_eq_false]
  exact ⟨xs.getD k 0, by simp [List.getD, h], by rw [hp]; simp⟩

/-- the list f 0, .., f (n - 1) -/
def tab (n : Nat) (f : Nat → Int) : List Int := (List.range n).map f
theorem tab_length (n : Nat) (f : Nat → Int) : (tab n f).length = n := by simp [tab]
theorem tab_getD (n : Nat) (f : Nat → Int) (k : Nat) (h : k < n) : (tab n f).getD k 0 = f k := by simp [tab, List.getD, h]
theorem tab_congr {n : Nat} {f g : Nat → Int} (h : ∀ k, k < n → f k = g k) : tab n f = tab n g := by
  unfold tab
  exact List.map_congr_left (fun k hk => h k (by simpa using hk))
theorem tab_self (xs : List Int) (n : Nat) (h : xs.length = n) : tab n (fun k => xs.getD k 0) = xs := by
  apply List.ext_getElem
  · simp [tab, h]
  · intro i h1 h2
    simp [tab, List.getD, h2]
theorem tab_set (n : Nat) (f : Nat → Int) (k : Nat) (v : Int) : (tab n f).set k v = tab n (fun i => if i = k then v else f i) := by
  apply List.ext_getElem
  · simp [tab]
  · intro i h1 h2
    simp only [tab, List.getElem_set, List.getElem_map, List.getElem_range]
    by_cases e : k = i
    · subst e; simp
    · simp [e, show ¬ i = k by omega]
theorem tab_succ (n : Nat) (f : Nat → Int) : tab (n + 1) f = tab n f ++ [f n] := by simp [tab, List.range_succ]
theorem tab_zeros (n : Nat) : List.replicate n 0 = tab n (fun _ => 0) := by
  apply List.ext_getElem
  · simp [tab]
  · intro i h1 h2
    simp [tab]
/-- the first k numbers of xs, then zeros: n in all -/
def filled (xs : List Int) (n k : Nat) : List Int := tab n (fun i => if i < k then xs.getD i 0 else 0)
theorem filled_zero (xs : List Int) (n : Nat) : filled xs n 0 = List.replicate n 0 := by
  rw [tab_zeros]; exact tab_congr (fun k _ => by simp)
theorem filled_full (xs : List Int) (n : Nat) (h : xs.length = n) : filled xs n n = xs := by
  refine Eq.trans (tab_congr (fun k hk => ?_)) (tab_self xs n h)
  simp [hk]
theorem filled_set (xs : List Int) (n k : Nat) : (filled xs n k).set k (xs.getD k 0) = filled xs n (k + 1) := by
  rw [filled, tab_set]
  refine tab_congr (fun i hi => ?_)
  by_cases e : i = k
  · subst e; simp
  · simp only [e, if_false]
    by_cases h1 : i < k
    · simp [h1, show i < k + 1 by omega]
    · simp [h1, show ¬ i < k + 1 by omega]
def eqB (xs ys : List Int) : Bool := decide (xs = ys)
theorem eqB_self (xs : List Int) : eqB xs xs = true := by simp [eqB]
theorem take_eq_succ {xs ys : List Int} {k n : Nat} (h1 : xs.length = n) (h2 : ys.length = n) (hk : k < n) (h : xs.take k = ys.take k) (he : xs.getD k 0 = ys.getD k 0) : xs.take (k + 1) = ys.take (k + 1) := by
  rw [take_snoc xs k (by omega), take_snoc ys k (by omega), h, he]
theorem ne_of_getD {xs ys : List Int} {k : Nat} (he : ¬ xs.getD k 0 = ys.getD k 0) : eqB xs ys = false := by
  simp only [eqB, decide_eq_false_iff_not]
  intro e
  rw [e] at he
  exact he rfl
/-- k, k + 1, .., k + n - 1 -/
def marks (n : Nat) (k : Int) : List Int := tab n (fun i => k + i)
def goodPair (xs : List Int) (i j : Nat) : Prop := xs.getD i 0 + xs.getD j 0 ≤ xs.getD (i ||| j) 0 + xs.getD (i &&& j) 0
instance (xs : List Int) (i j : Nat) : Decidable (goodPair xs i j) := by unfold goodPair; infer_instance
def pairB (xs : List Int) : Bool := decide (∀ i, i < xs.length → ∀ j, j < xs.length → goodPair xs i j)
theorem pairB_false {xs : List Int} {i j n : Nat} (hn : xs.length = n) (hi : i < n) (hj : j < n) (h : ¬ goodPair xs i j) : pairB xs = false := by
  simp only [pairB, decide_eq_false_iff_not]
  intro e
  exact h (e i (by omega) j (by omega))
theorem pairB_true {xs : List Int} {n : Nat} (hn : xs.length = n) (h : ∀ i, i < n → ∀ j, j < n → goodPair xs i j) : pairB xs = true := by
  simp only [pairB, decide_eq_true_eq]
  intro i hi j hj
  exact h i (by omega) j (by omega)
theorem table_part {xs : List Int} {n : Nat} (hn : xs.length = n) (h : tableB xs = true) : (n = 2 ∨ n = 4 ∨ n = 8 ∨ n = 16) ∧ ∀ k, k < n → -1000000000 ≤ xs.getD k 0 ∧ xs.getD k 0 ≤ 1000000000 := by
  simp only [tableB, Bool.and_eq_true, Bool.or_eq_true, beq_iff_eq, List.all_eq_true, hn] at h
  refine ⟨by omega, fun k hk => ?_⟩
  have := h.1 (xs.getD k 0) (by simp [List.getD, show k < xs.length by omega])
  simp only [isPartB, Bool.and_eq_true, decide_eq_true_eq] at this
  exact this
theorem pow_of_size {n : Nat} (h : n = 2 ∨ n = 4 ∨ n = 8 ∨ n = 16) : ∃ s, s ≤ 4 ∧ n = 2 ^ s := by
  rcases h with rfl | rfl | rfl | rfl
  · exact ⟨1, by omega, rfl⟩
  · exact ⟨2, by omega, rfl⟩
  · exact ⟨3, by omega, rfl⟩
  · exact ⟨4, by omega, rfl⟩
theorem or_lt {n a b : Nat} (h : n = 2 ∨ n = 4 ∨ n = 8 ∨ n = 16) (ha : a < n) (hb : b < n) : a ||| b < n := by
  obtain ⟨s, _, rfl⟩ := pow_of_size h
  exact Nat.or_lt_two_pow ha hb
theorem and_lt {n a b : Nat} (ha : a < n) : a &&& b < n := Nat.lt_of_le_of_lt Nat.and_le_left ha
theorem xor_lt {n a b : Nat} (h : n = 2 ∨ n = 4 ∨ n = 8 ∨ n = 16) (ha : a < n) (hb : b < n) : a ^^^ b < n := by
  obtain ⟨s, _, rfl⟩ := pow_of_size h
  exact Nat.xor_lt_two_pow ha hb
end
/-! Plain facts on sets of answers; no program in sight. No condition. -/
section
/-- the number of answers of a set of at most four -/
def cnt (a : Nat) : Nat := a % 2 + a / 2 % 2 + a / 4 % 2 + a / 8 % 2
theorem cnt_step (b : Nat) (h : b < 16) : cnt b = b % 2 + cnt (b / 2) := by unfold cnt; omega
theorem cnt_le (b : Nat) : cnt b ≤ 4 := by unfold cnt; omega
theorem cnt_pos (b : Nat) (h0 : ¬ b = 0) (h : b < 16) : 1 ≤ cnt b := by
  have : ∀ b : Fin 16, b.val ≠ 0 → 1 ≤ cnt b.val := by decide
  exact this ⟨b, h⟩ h0
/-- the sign of a set -/
def sgn (a : Nat) : Int := 1 - 2 * ((cnt a : Int) % 2)
/-- has the set a the answer x? -/
def hasB (a x : Nat) : Bool := a / 2 ^ x % 2 == 1
theorem has_le {a x : Nat} (h : hasB a x = true) : 2 ^ x ≤ a := by
  rcases Nat.lt_or_ge a (2 ^ x) with h1 | h1
  · rw [hasB, Nat.div_eq_of_lt h1] at h
    cases h
  · exact h1
def addF (xs : List Int) (a : Nat) (x : Nat) : Int := if hasB a x = true then xs.getD (2 ^ x) 0 else 0
/-- the sum of the numbers of the single answers of a -/
def addSum (xs : List Int) (a : Nat) : Int := sumTo (addF xs a) 4
def addB (xs : List Int) : Bool := decide (∀ a, a < xs.length → addSum xs a = xs.getD a 0)
theorem addB_false {xs : List Int} {a n : Nat} (hn : xs.length = n) (ha : a < n) (h : ¬ addSum xs a = xs.getD a 0) : addB xs = false := by
  simp only [addB, decide_eq_false_iff_not]
  exact fun e => h (e a (by omega))
theorem addB_true {xs : List Int} {n : Nat} (hn : xs.length = n) (h : ∀ a, a < n → addSum xs a = xs.getD a 0) : addB xs = true := by
  simp only [addB, decide_eq_true_eq]
  exact fun a ha => h a (by omega)
theorem addF_yes {xs : List Int} {a x : Nat} (h : hasB a x = true) : addF xs a x = xs.getD (2 ^ x) 0 := by rw [addF, if_pos h]
theorem addF_no {xs : List Int} {a x : Nat} (h : hasB a x = false) : addF xs a x = 0 := by rw [addF, if_neg (by simp [h])]
/-- the answers from t on are none of a's -/
theorem addSum_cut {xs : List Int} {a : Nat} : ∀ t, t ≤ 4 → a < 2 ^ t → sumTo (addF xs a) t = addSum xs a := by
  have hno : ∀ x t, t ≤ x → a < 2 ^ t → addF xs a x = 0 := fun x t hx ha => addF_no (by
    have : a / 2 ^ x = 0 := Nat.div_eq_of_lt (Nat.lt_of_lt_of_le ha (Nat.pow_le_pow_right (by omega) hx))
    rw [hasB, this]; rfl)
  intro t ht ha
  have h : t = 0 ∨ t = 1 ∨ t = 2 ∨ t = 3 ∨ t = 4 := by omega
  have h0 := hno 0 t; have h1 := hno 1 t; have h2 := hno 2 t; have h3 := hno 3 t
  rcases h with rfl | rfl | rfl | rfl | rfl
  · simp only [addSum, sumTo, h0 (by omega) ha, h1 (by omega) ha, h2 (by omega) ha, h3 (by omega) ha]; rfl
  · simp only [addSum, sumTo, h1 (by omega) ha, h2 (by omega) ha, h3 (by omega) ha]; omega
  · simp only [addSum, sumTo, h2 (by omega) ha, h3 (by omega) ha]; omega
  · simp only [addSum, sumTo, h3 (by omega) ha]; omega
  · rfl
/-- the sum of all numbers, each times its factor for the set i -/
def over (fac : Nat → Nat → Int) (xs : List Int) (n : Nat) (i : Nat) : Int := sumTo (fun j => xs.getD j 0 * fac i j) n
/-- is the set j within i? -/
def subB (j i : Nat) : Bool := j &&& (15 - i) == 0
/-- the factor of the number of j for the set i, for sums of sets within (above = false) or around (above = true) a set, with signs or without -/
def facS (above signs : Bool) (i j : Nat) : Int := if (if above then subB i j else subB j i) = true then (if signs then sgn (i ^^^ j) else 1) else 0
theorem sgn_bound (a : Nat) : sgn a = 1 ∨ sgn a = -1 := by unfold sgn; omega
theorem facS_bound (above signs : Bool) (i j : Nat) : -1 ≤ facS above signs i j ∧ facS above signs i j ≤ 1 := by
  unfold facS
  have := sgn_bound (i ^^^ j)
  split
  · split <;> omega
  · omega
/-- the table of sums, or of parts -/
def sums (above signs : Bool) (xs : List Int) : List Int := tab xs.length (over (facS above signs) xs xs.length)
/-- what a table function returns: nothing for what is no table -/
def told (ab sg : Bool) (xs : List Int) : List Int := if tableB xs = true then sums ab sg xs else []
def toldN (xs : List Int) (n : Nat) : Nat := if tableB xs = true then n else 0
theorem told_yes {ab sg : Bool} {xs : List Int} (h : tableB xs = true) : told ab sg xs = sums ab sg xs := if_pos h
theorem told_no {ab sg : Bool} {xs : List Int} (h : tableB xs = false) : told ab sg xs = [] := if_neg (by simp [h])
theorem toldN_yes {xs : List Int} {n : Nat} (h : tableB xs = true) : toldN xs n = n := if_pos h
theorem toldN_no {xs : List Int} {n : Nat} (h : tableB xs = false) : toldN xs n = 0 := if_neg (by simp [h])
end
/-! Plain facts on sums of lists; no program in sight. No condition. -/
section
def inMost (most x : Int) : Bool := decide (0 ≤ x) && decide (x ≤ most)
/-- the sum of numbers from 0 to most, or -1 -/
def sumMost (xs : List Int) (most : Int) : Int := if xs.all (inMost most) = true then sumL xs else -1
theorem getD_mem {xs : List Int} {k : Nat} (h : k < xs.length) : xs.getD k 0 ∈ xs := by simp [List.getD, h]
theorem all_getD {p : Int → Bool} {xs : List Int} : xs.all p = true ↔ ∀ k, k < xs.length → p (xs.getD k 0) = true := by
  rw [List.all_eq_true]
  constructor
  · exact fun h k hk => h _ (getD_mem hk)
  · intro h x hx
    obtain ⟨k, hk, rfl⟩ := List.getElem_of_mem hx
    have := h k hk
    simpa [List.getD, hk] using this
theorem any_getD {p : Int → Bool} {xs : List Int} : xs.any p = true ↔ ∃ k, k < xs.length ∧ p (xs.getD k 0) = true := by
  rw [List.any_eq_true]
  constructor
  · rintro ⟨x, hx, hp⟩
    obtain ⟨k, hk, rfl⟩ := List.getElem_of_mem hx
    exact ⟨k, hk, by simpa [List.getD, hk] using hp⟩
  · rintro ⟨k, hk, hp⟩
    exact ⟨_, getD_mem hk, hp⟩
theorem any_take_snoc (p : Int → Bool) (xs : List Int) (k : Nat) (h : k < xs.length) : (xs.take (k+1)).any p = ((xs.take k).any p || p (xs.getD k 0)) := by
  rw [take_snoc xs k h]; simp
theorem sumMost_bad {xs : List Int} {most : Int} {k n : Nat} (hn : xs.length = n) (hk : k < n) (h : inMost most (xs.getD k 0) = false) : sumMost xs most = -1 := by
  rw [sumMost, if_neg]
  intro e
  rw [all_getD] at e
  rw [e k (by omega)] at h
  cases h
theorem sumMost_good {xs : List Int} {most : Int} (h : xs.all (inMost most) = true) : sumMost xs most = sumL xs := by rw [sumMost, if_pos h]
theorem over_bound {fac : Nat → Nat → Int} (hf : ∀ i j, -1 ≤ fac i j ∧ fac i j ≤ 1) {xs : List Int} {n : Nat} {M : Int} (hb : ∀ k, k < n → -M ≤ xs.getD k 0 ∧ xs.getD k 0 ≤ M) (i : Nat) :
    -(M * n) ≤ over fac xs n i ∧ over fac xs n i ≤ M * n := by
  refine sumTo_bound n M (fun k hk => ?_)
  have h1 := hb k hk
  have h3 : fac i k = -1 ∨ fac i k = 0 ∨ fac i k = 1 := by have := hf i k; omega
  show -M ≤ xs.getD k 0 * fac i k ∧ xs.getD k 0 * fac i k ≤ M
  rcases h3 with h | h | h
  · rw [h]; omega
  · rw [h]; omega
  · rw [h]; omega
theorem sums_length (ab sg : Bool) (xs : List Int) : (sums ab sg xs).length = xs.length := tab_length _ _
theorem sums_getD (ab sg : Bool) (xs : List Int) (k : Nat) (h : k < xs.length) : (sums ab sg xs).getD k 0 = over (facS ab sg) xs xs.length k := tab_getD _ _ _ h
theorem sums_bound (ab sg : Bool) {xs : List Int} {n : Nat} (hn : xs.length = n) (hn16 : n ≤ 16) {M : Int} (hM : 0 ≤ M) (hb : ∀ k, k < n → -M ≤ xs.getD k 0 ∧ xs.getD k 0 ≤ M) (k : Nat) (hk : k < n) :
    -(16 * M) ≤ (sums ab sg xs).getD k 0 ∧ (sums ab sg xs).getD k 0 ≤ 16 * M := by
  subst hn
  rw [sums_getD ab sg xs k hk]
  have := over_bound (facS_bound ab sg) hb k
  have h2 : M * (xs.length : Int) ≤ M * 16 := Int.mul_le_mul_of_nonneg_left (by omega) hM
  omega
theorem sumTo_nonneg {f : Nat → Int} : ∀ n, (∀ k, k < n → 0 ≤ f k) → 0 ≤ sumTo f n
  | 0, _ => by simp [sumTo]
  | n + 1, h => by
    have := sumTo_nonneg n (fun k hk => h k (by omega))
    have := h n (by omega)
    simp only [sumTo]; omega
theorem sumTo_pos {f : Nat → Int} : ∀ n, (∀ k, k < n → 0 ≤ f k) → (0 < sumTo f n ↔ ∃ k, k < n ∧ 0 < f k)
  | 0, _ => by simp [sumTo]
  | n + 1, h => by
    have h1 := sumTo_pos n (fun k hk => h k (by omega))
    have h2 := h n (by omega)
    have h3 := sumTo_nonneg n (fun k hk => h k (by omega))
    simp only [sumTo]
    constructor
    · intro hp
      by_cases h0 : 0 < f n
      · exact ⟨n, by omega, h0⟩
      · obtain ⟨k, hk, hf⟩ := h1.1 (by omega)
        exact ⟨k, by omega, hf⟩
    · rintro ⟨k, hk, hf⟩
      by_cases e : k = n
      · subst e; omega
      · have := h1.2 ⟨k, by omega, hf⟩
        omega
def nonnegB (x : Int) : Bool := decide (0 ≤ x)
def posB (x : Int) : Bool := decide (0 < x)
/-- no part is negative, and not all are 0 -/
def partsB (p : List Int) : Bool := p.all nonnegB && p.any posB
theorem partsB_sum {p : List Int} {n : Nat} (hn : p.length = n) (hb : ∀ k, k < n → p.getD k 0 ≤ 16000000000) : decide (0 < sumMost p 16000000000) = partsB p := by
  subst hn
  rw [Bool.eq_iff_iff, decide_eq_true_eq, partsB, Bool.and_eq_true]
  by_cases ha : p.all nonnegB = true
  · have ha' := all_getD.1 ha
    have hm : p.all (inMost 16000000000) = true := all_getD.2 (fun k hk => by
      have h1 := ha' k hk
      have h2 := hb k hk
      simp only [nonnegB, decide_eq_true_eq] at h1
      simp only [inMost, Bool.and_eq_true, decide_eq_true_eq]
      exact ⟨h1, h2⟩)
    rw [sumMost_good hm, sumL, sumTo_pos]
    · rw [any_getD]
      simp only [posB, decide_eq_true_eq]
      exact ⟨fun h => ⟨ha, h⟩, fun h => h.2⟩
    · intro k hk
      have h1 := ha' k hk
      simpa [nonnegB] using h1
  · have hm : ¬ p.all (inMost 16000000000) = true := by
      intro h
      apply ha
      rw [all_getD] at h ⊢
      intro k hk
      have := h k hk
      simp only [inMost, Bool.and_eq_true, decide_eq_true_eq] at this
      simp only [nonnegB, decide_eq_true_eq]
      exact this.1
    rw [sumMost, if_neg hm]
    constructor
    · intro h; omega
    · intro h; exact absurd h.1 ha
end
/-! Plain facts on masses; no program in sight. No condition. -/
section
/-- is the sum from 1 to the limit? -/
def wholeB (z : Int) : Bool := decide (1 ≤ z) && decide (z ≤ 1000000)
/-- as many parts as there are sets -/
def fitB (s : Int) (n : Nat) : Bool := decide ((n : Int) = 2 ^ s.toNat)
/-- is it a valid mass? -/
def massB (s : Int) (xs : List Int) : Bool := sizeB s && fitB s xs.length && xs.all (inMost 1000000) && wholeB (sumL xs) && (gcdL xs == 1)
theorem size_cases {s : Int} (h : sizeB s = true) : s = 1 ∨ s = 2 ∨ s = 3 ∨ s = 4 := by
  simp [sizeB] at h; omega
theorem fit_le {s : Int} {n : Nat} (h : sizeB s = true) (hf : fitB s n = true) : n = 2 ∨ n = 4 ∨ n = 8 ∨ n = 16 := by
  simp only [fitB, decide_eq_true_eq] at hf
  rcases size_cases h with rfl | rfl | rfl | rfl <;> simp at hf <;> omega
theorem massB_size {s : Int} {xs : List Int} (h : sizeB s = false) : massB s xs = false := by simp [massB, h]
theorem massB_fit {s : Int} {xs : List Int} {n : Nat} (hn : xs.length = n) (h : fitB s n = false) : massB s xs = false := by simp [massB, hn, h]
theorem massB_all {s : Int} {xs : List Int} (h : xs.all (inMost 1000000) = false) : massB s xs = false := by rw [massB, h]; simp
theorem massB_of {s : Int} {xs : List Int} {n : Nat} (hn : xs.length = n) (h1 : sizeB s = true) (h2 : fitB s n = true) (h3 : xs.all (inMost 1000000) = true) : massB s xs = (wholeB (sumL xs) && (gcdL xs == 1)) := by
  rw [massB, hn, h1, h2, h3]; simp
/-- what a valid mass is -/
structure IsMass (s : Int) (n : Nat) (xs : List Int) : Prop where
  size : sizeB s = true
  fit : fitB s n = true
  nums : n = 2 ∨ n = 4 ∨ n = 8 ∨ n = 16
  part : ∀ k, k < n → 0 ≤ xs.getD k 0 ∧ xs.getD k 0 ≤ 1000000
  whole : 1 ≤ sumL xs ∧ sumL xs ≤ 1000000
  gcd : gcdL xs = 1
theorem massB_is {s : Int} {xs : List Int} {n : Nat} (hn : xs.length = n) (h : massB s xs = true) : IsMass s n xs := by
  simp only [massB, Bool.and_eq_true, hn, beq_iff_eq] at h
  obtain ⟨⟨⟨⟨h1, h2⟩, h3⟩, h4⟩, h5⟩ := h
  refine ⟨h1, h2, fit_le h1 h2, fun k hk => ?_, ?_, h5⟩
  · have := all_getD.1 h3 k (by omega)
    simpa [inMost] using this
  · simpa [wholeB] using h4
theorem inMost_bound {most : Int} {xs : List Int} {n : Nat} (hn : xs.length = n) (h : xs.all (inMost most) = true) (k : Nat) (hk : k < n) : 0 ≤ xs.getD k 0 ∧ xs.getD k 0 ≤ most := by
  have := all_getD.1 h k (by omega)
  simpa [inMost] using this
theorem gcdL_le {xs : List Int} {M : Nat} : ∀ k, k ≤ xs.length → (∀ j, j < k → (xs.getD j 0).natAbs ≤ M) → gcdL (xs.take k) ≤ M
  | 0, _, _ => by simp [gcdL]
  | k + 1, hk, h => by
    rw [gcdL_take xs k (by omega)]
    have h1 := gcdL_le k (by omega) (fun j hj => h j (by omega))
    have h2 := h k (by omega)
    by_cases h0 : gcdL (xs.take k) = 0
    · rw [h0, Nat.gcd_zero_left]; exact h2
    · exact Nat.le_trans (Nat.gcd_le_left _ (by omega)) h1
/-- do two sets meet? -/
def meetB (j x : Nat) : Bool := !(j &&& x == 0)
/-- the sum of the parts of some sets -/
def partF (pr : Nat → Bool) (xs : List Int) (j : Nat) : Int := if pr j = true then xs.getD j 0 else 0
def partOf (pr : Nat → Bool) (xs : List Int) : Int := sumTo (partF pr xs) xs.length
theorem partF_yes {pr : Nat → Bool} {xs : List Int} {j : Nat} (h : pr j = true) : partF pr xs j = xs.getD j 0 := if_pos h
theorem partF_no {pr : Nat → Bool} {xs : List Int} {j : Nat} (h : pr j = false) : partF pr xs j = 0 := if_neg (by simp [h])
theorem partOf_bound {pr : Nat → Bool} {xs : List Int} {n : Nat} (hn : xs.length = n) (h : ∀ k, k < n → 0 ≤ xs.getD k 0 ∧ xs.getD k 0 ≤ 1000000) : 0 ≤ partOf pr xs ∧ partOf pr xs ≤ 1000000 * n := by
  subst hn
  have hb := sumTo_bound (f := partF pr xs) xs.length 1000000 (fun k hk => by
    have := h k hk
    unfold partF
    split <;> omega)
  refine ⟨sumTo_nonneg _ (fun k hk => ?_), hb.2⟩
  have := h k hk
  unfold partF
  split <;> omega
/-- is x a set of answers of a question with s answers? -/
def setB (s x : Int) : Bool := decide (0 ≤ x) && decide (x < 2 ^ s.toNat)
theorem set_nat {s x : Int} {n : Nat} {xs : List Int} (hm : IsMass s n xs) (h : setB s x = true) : ∃ y : Nat, x = (y : Int) ∧ y < n := by
  have h1 := hm.fit
  simp only [setB, Bool.and_eq_true, decide_eq_true_eq] at h
  simp only [fitB, decide_eq_true_eq] at h1
  exact ⟨x.toNat, by omega, by omega⟩
/-- a measure of a set: -1 for what is none -/
def measure (s : Int) (xs : List Int) (x : Int) (v : Int) : Int := if (massB s xs && setB s x) = true then v else -1
theorem measure_yes {s : Int} {xs : List Int} {x v : Int} (h1 : massB s xs = true) (h2 : setB s x = true) : measure s xs x v = v := if_pos (by simp [h1, h2])
theorem measure_no1 {s : Int} {xs : List Int} {x v : Int} (h1 : massB s xs = false) : measure s xs x v = -1 := if_neg (by simp [h1])
theorem measure_no2 {s : Int} {xs : List Int} {x v : Int} (h2 : setB s x = false) : measure s xs x v = -1 := if_neg (by simp [h2])
end
/-! Plain facts on fractions and masses in lowest terms; no program in sight. No condition. -/
section
/-- what a function that returns a mass and a truth returns -/
abbrev MassR := Option (Int × List Int)
def rS : MassR → Int
  | none => 0
  | some p => p.1
def rL : MassR → List Int
  | none => []
  | some p => p.2
def rN (r : MassR) : Nat := (rL r).length
def rB : MassR → Bool
  | none => false
  | some _ => true
/-- parts divided by their greatest divisor -/
def low (ps : List Int) : List Int := ps.map (fun x => x / (gcdL ps : Int))
/-- the mass of parts in lowest terms, if it is valid -/
def makeM (s : Int) (ps : List Int) : MassR := if gcdL ps = 0 then none else if massB s (low ps) = true then some (s, low ps) else none
theorem makeM_zero {s : Int} {ps : List Int} (h : gcdL ps = 0) : makeM s ps = none := if_pos h
theorem makeM_yes {s : Int} {ps : List Int} (h : gcdL ps ≠ 0) (hm : massB s (low ps) = true) : makeM s ps = some (s, low ps) := by rw [makeM, if_neg h, if_pos hm]
theorem makeM_no {s : Int} {ps : List Int} (h : gcdL ps ≠ 0) (hm : massB s (low ps) = false) : makeM s ps = none := by rw [makeM, if_neg h, if_neg (by simp [hm])]
theorem low_length (ps : List Int) : (low ps).length = ps.length := by simp [low]
theorem low_tab {ps : List Int} {n : Nat} (h : ps.length = n) : low ps = tab n (fun k => ps.getD k 0 / (gcdL ps : Int)) := by
  apply List.ext_getElem
  · simp [low, tab, h]
  · intro i h1 h2
    simp only [low, List.length_map] at h1
    simp [low, tab, List.getD, h1]
/-- a fraction: its number of parts and its whole -/
abbrev FracR := Option (Int × Int)
def fN : FracR → Int
  | none => 0
  | some p => p.1
def fD : FracR → Int
  | none => 0
  | some p => p.2
def fB : FracR → Bool
  | none => false
  | some _ => true
def fracB (a b : Int) : Bool := isPartB a && (decide (1 ≤ b) && decide (b ≤ 1000000000)) && (Nat.gcd a.natAbs b.natAbs == 1)
/-- a quotient in lowest terms, if it is valid -/
def fracOf (num den : Int) : FracR :=
  let d : Int := if den < 0 then -(Nat.gcd num.natAbs den.natAbs : Int) else Nat.gcd num.natAbs den.natAbs
  if fracB (num.tdiv d) (den.tdiv d) = true then some (num.tdiv d, den.tdiv d) else none
theorem gcdL_two (a b : Int) : gcdL [a, b] = Nat.gcd a.natAbs b.natAbs := by simp [gcdL]
/-- the other sets' parts -/
def turned (xs : List Int) : List Int := tab xs.length (fun k => xs.getD (xs.length - 1 - k) 0)
/-- the parts without that of the set without answers -/
def noNone (xs : List Int) : List Int := xs.set 0 0
/-- the products of the parts of two masses that go to the set c: of the first k sets with all sets, and of the set k with the first l sets -/
def prodF (op : Nat → Nat → Nat) (xs ys : List Int) (a c b : Nat) : Int := if op a b = c then xs.getD a 0 * ys.getD b 0 else 0
def prodR (op : Nat → Nat → Nat) (xs ys : List Int) (n l c a : Nat) : Int := sumTo (prodF op xs ys a c) (if l = n then n else l)
def prodT (op : Nat → Nat → Nat) (xs ys : List Int) (n k l : Nat) : List Int := tab n (fun c => sumTo (fun a => sumTo (prodF op xs ys a c) n) k + sumTo (prodF op xs ys k c) l)
def prods (op : Nat → Nat → Nat) (xs ys : List Int) : List Int := tab xs.length (fun c => sumTo (fun a => sumTo (prodF op xs ys a c) xs.length) xs.length)
theorem prodT_zero (op : Nat → Nat → Nat) (xs ys : List Int) (n : Nat) : prodT op xs ys n 0 0 = List.replicate n 0 := by
  rw [tab_zeros]; exact tab_congr (fun k _ => by simp [sumTo])
theorem prodT_row (op : Nat → Nat → Nat) (xs ys : List Int) (n k : Nat) : prodT op xs ys n k n = prodT op xs ys n (k + 1) 0 :=
  tab_congr (fun c _ => by simp only [sumTo]; omega)
theorem prodT_done {op : Nat → Nat → Nat} {xs ys : List Int} {n : Nat} (hn : xs.length = n) : prodT op xs ys n n 0 = prods op xs ys := by
  subst hn
  exact tab_congr (fun c _ => by simp [sumTo])
theorem prodT_step (op : Nat → Nat → Nat) (xs ys : List Int) (n k l : Nat) :
    (prodT op xs ys n k l).set (op k l) ((prodT op xs ys n k l).getD (op k l) 0 + xs.getD k 0 * ys.getD l 0) = prodT op xs ys n k (l + 1) := by
  by_cases hc : op k l < n
  · rw [prodT, tab_getD _ _ _ hc, tab_set]
    refine tab_congr (fun c hcn => ?_)
    by_cases e : c = op k l
    · subst e
      simp only [if_true, sumTo]
      rw [prodF, if_pos rfl]; omega
    · simp only [e, if_false, sumTo]
      rw [prodF, if_neg (fun h => e h.symm)]; omega
  · rw [List.set_eq_of_length_le (by rw [prodT, tab_length]; omega)]
    refine tab_congr (fun c hcn => ?_)
    simp only [sumTo]
    rw [prodF, if_neg (by omega)]; omega
theorem prodF_bound {op : Nat → Nat → Nat} {xs ys : List Int} {n : Nat} (hx : ∀ k, k < n → 0 ≤ xs.getD k 0 ∧ xs.getD k 0 ≤ 1000000) (hy : ∀ k, k < n → 0 ≤ ys.getD k 0 ∧ ys.getD k 0 ≤ 1000000) (a c b : Nat) (ha : a < n) (hb : b < n) :
    0 ≤ prodF op xs ys a c b ∧ prodF op xs ys a c b ≤ 1000000000000 := by
  have h1 := hx a ha
  have h2 := hy b hb
  unfold prodF
  split
  · exact ⟨Int.mul_nonneg h1.1 h2.1, by
      have := Int.mul_le_mul h1.2 h2.2 h2.1 (by omega)
      omega⟩
  · omega
theorem sumTo_between {f : Nat → Int} (n : Nat) (B : Int) (h : ∀ k, k < n → 0 ≤ f k ∧ f k ≤ B) : 0 ≤ sumTo f n ∧ sumTo f n ≤ B * n := by
  induction n with
  | zero => simp [sumTo]
  | succ n ih =>
    have := ih (fun k hk => h k (by omega))
    have := h n (by omega)
    simp only [sumTo]
    have e : B * ((n+1 : Nat) : Int) = B * n + B := by rw [Int.natCast_add]; simp [Int.mul_add]
    omega
theorem prodT_bound {op : Nat → Nat → Nat} {xs ys : List Int} {n : Nat} (hn : n ≤ 16) (hx : ∀ k, k < n → 0 ≤ xs.getD k 0 ∧ xs.getD k 0 ≤ 1000000) (hy : ∀ k, k < n → 0 ≤ ys.getD k 0 ∧ ys.getD k 0 ≤ 1000000) (k l c : Nat) (hk : k < n) (hl : l ≤ n) (hc : c < n) :
    0 ≤ (prodT op xs ys n k l).getD c 0 ∧ (prodT op xs ys n k l).getD c 0 ≤ 300000000000000 := by
  rw [prodT, tab_getD _ _ _ hc]
  have h1 := sumTo_between (f := fun a => sumTo (prodF op xs ys a c) n) k 16000000000000 (fun a ha => by
    have := sumTo_between (f := prodF op xs ys a c) n 1000000000000 (fun b hb => prodF_bound hx hy a c b (by omega) hb)
    omega)
  have h2 := sumTo_between (f := prodF op xs ys k c) l 1000000000000 (fun b hb => prodF_bound hx hy k c b hk (by omega))
  omega
/-- what NormalMass returns -/
def normalR (s : Int) (xs : List Int) : MassR := if massB s xs = true then makeM s (noNone xs) else none
/-- what NegateMass returns -/
def negR (s : Int) (xs : List Int) : MassR := if massB s xs = true then some (s, turned xs) else none
theorem xor_full : ∀ k : Fin 16, (15 : Nat) ^^^ k.val = 15 - k.val := by decide
theorem xor_full8 : ∀ k : Fin 8, (7 : Nat) ^^^ k.val = 7 - k.val := by decide
theorem xor_full4 : ∀ k : Fin 4, (3 : Nat) ^^^ k.val = 3 - k.val := by decide
theorem xor_full2 : ∀ k : Fin 2, (1 : Nat) ^^^ k.val = 1 - k.val := by decide
theorem full_xor {n k : Nat} (h : n = 2 ∨ n = 4 ∨ n = 8 ∨ n = 16) (hk : k < n) : (n - 1) ^^^ k = n - 1 - k := by
  rcases h with rfl | rfl | rfl | rfl
  · exact xor_full2 ⟨k, hk⟩
  · exact xor_full4 ⟨k, hk⟩
  · exact xor_full8 ⟨k, hk⟩
  · exact xor_full ⟨k, hk⟩
theorem turned_length (xs : List Int) : (turned xs).length = xs.length := tab_length _ _
theorem makeM_len {s : Int} {ps : List Int} {n : Nat} (h : ps.length ≤ n) : rN (makeM s ps) ≤ n := by
  unfold makeM
  split
  · simp [rN, rL]
  · split
    · simp [rN, rL, low_length]; exact h
    · simp [rN, rL]
theorem negR_len {s : Int} {xs : List Int} {n : Nat} (h : xs.length ≤ n) : rN (negR s xs) ≤ n := by
  unfold negR
  split
  · simp [rN, rL, turned_length]; exact h
  · simp [rN, rL]
theorem normalR_len {s : Int} {xs : List Int} {n : Nat} (h : xs.length ≤ n) : rN (normalR s xs) ≤ n := by
  unfold normalR
  split
  · exact makeM_len (by simp [noNone]; exact h)
  · simp [rN, rL]
end
/-! Plain facts on parts shared evenly; no program in sight. No condition. -/
section
/-- 12 times what the set a gets of the part of the set b -/
def evenF (a : Nat) (xs : List Int) (b : Nat) : Int := xs.getD b 0 * cnt (b &&& a) * 12 / cnt b
def evenOf (a : Nat) (xs : List Int) : Int := sumTo (evenF a xs) xs.length
theorem evenF_zero (a : Nat) (xs : List Int) : evenF a xs 0 = 0 := by simp [evenF, cnt]
/-- what a product of a part and a count is -/
theorem part_cnt {v : Int} (hv : 0 ≤ v ∧ v ≤ 1000000) (p : Nat) (hp : p ≤ 4) : 0 ≤ v * p ∧ v * p ≤ 4000000 := by
  have h : p = 0 ∨ p = 1 ∨ p = 2 ∨ p = 3 ∨ p = 4 := by omega
  rcases h with rfl | rfl | rfl | rfl | rfl <;> omega
theorem div_cnt {t : Int} (ht : 0 ≤ t ∧ t ≤ 4000000) (q : Nat) : 0 ≤ t * 12 / (q : Int) ∧ t * 12 / (q : Int) ≤ 48000000 := by
  have h0 : 0 ≤ t * 12 := by omega
  have := Int.ediv_nonneg h0 (show 0 ≤ (q : Int) by omega)
  have := Int.ediv_le_self (q : Int) h0
  omega
theorem evenOf_bound {a : Nat} {xs : List Int} {n : Nat} (hn : xs.length = n) (h : ∀ k, k < n → 0 ≤ xs.getD k 0 ∧ xs.getD k 0 ≤ 1000000) : 0 ≤ evenOf a xs ∧ evenOf a xs ≤ 48000000 * n := by
  rw [evenOf, hn]
  exact sumTo_between n 48000000 (fun k hk => by
    have := part_cnt (h k hk) (cnt (k &&& a)) (cnt_le _)
    have := div_cnt this (cnt k)
    rw [evenF]; exact this)
/-- the first answer of the greatest chance among the first k -/
def bestOf (xs : List Int) : Nat → Nat
  | 0 => 0
  | k + 1 => if evenOf (2 ^ bestOf xs k) xs < evenOf (2 ^ k) xs then k else bestOf xs k
theorem bestOf_le (xs : List Int) (k : Nat) : bestOf xs k ≤ k := by
  induction k with
  | zero => simp [bestOf]
  | succ k ih => simp only [bestOf]; split <;> omega
theorem bestOf_lt (xs : List Int) (k : Nat) (h : 0 < k) : bestOf xs k < k := by
  cases k with
  | zero => omega
  | succ k => simp only [bestOf]; have := bestOf_le xs k; split <;> omega
theorem bestOf_one (xs : List Int) : bestOf xs 1 = 0 := by simp [bestOf]
theorem bestOf_yes {xs : List Int} {k b : Nat} (hb : b = bestOf xs k) (h : evenOf (2 ^ b) xs < evenOf (2 ^ k) xs) : bestOf xs (k + 1) = k := by
  subst hb; simp only [bestOf]; rw [if_pos h]
theorem bestOf_no {xs : List Int} {k b : Nat} (hb : b = bestOf xs k) (h : ¬ evenOf (2 ^ b) xs < evenOf (2 ^ k) xs) : bestOf xs (k + 1) = b := by
  subst hb; simp only [bestOf]; rw [if_neg h]
theorem size_is {s : Int} (h : sizeB s = true) : ∃ m : Nat, s = (m : Int) ∧ 1 ≤ m ∧ m ≤ 4 := by
  simp [sizeB] at h
  exact ⟨s.toNat, by omega, by omega, by omega⟩
/-- what MostBelieved returns -/
def mostOf (s : Int) (xs : List Int) : Int := if massB s xs = true then (if sumL xs = xs.getD 0 0 then -1 else (bestOf xs s.toNat : Nat)) else -1
theorem mostOf_no {s : Int} {xs : List Int} (h : massB s xs = false) : mostOf s xs = -1 := if_neg (by simp [h])
theorem mostOf_all {s : Int} {xs : List Int} (h : massB s xs = true) (h2 : sumL xs = xs.getD 0 0) : mostOf s xs = -1 := by rw [mostOf, if_pos h, if_pos h2]
theorem mostOf_yes {s : Int} {xs : List Int} (h : massB s xs = true) (h2 : ¬ sumL xs = xs.getD 0 0) : mostOf s xs = (bestOf xs s.toNat : Nat) := by rw [mostOf, if_pos h, if_neg h2]
end
/-! Plain facts on quotients in lowest terms; no program in sight. No condition. -/
section
theorem frac_facts {num den : Int} (hn : -4000000000000000000 ≤ num ∧ num ≤ 4000000000000000000) (hd : 1 ≤ den ∧ den ≤ 4000000000000000000) :
    ∃ (g : Nat) (p q : Int), g = Nat.gcd num.natAbs den.natAbs ∧ 1 ≤ g ∧ (g : Int) ≤ 4000000000000000000 ∧ p = num.tdiv (g : Int) ∧ q = den.tdiv (g : Int) ∧ (-4000000000000000000 ≤ p ∧ p ≤ 4000000000000000000) ∧ (1 ≤ q ∧ q ≤ 4000000000000000000) ∧ fracOf num den = if fracB p q = true then some (p, q) else none := by
  obtain ⟨g, hg⟩ : ∃ g, g = Nat.gcd num.natAbs den.natAbs := ⟨_, rfl⟩
  have h1 : 1 ≤ g := by rw [hg]; exact Nat.gcd_pos_of_pos_right _ (by omega)
  have hdv : g ∣ den.natAbs := by rw [hg]; exact Nat.gcd_dvd_right _ _
  have h2 : g ≤ den.natAbs := Nat.le_of_dvd (by omega) hdv
  refine ⟨g, _, _, hg, h1, by omega, rfl, rfl, ?_, ?_, ?_⟩
  · have h3 : (num.tdiv (g : Int)).natAbs = num.natAbs / g := by rw [Int.natAbs_tdiv]; rfl
    have h4 : num.natAbs / g ≤ num.natAbs := Nat.div_le_self _ _
    omega
  · have h3 : den.tdiv (g : Int) = den / (g : Int) := Int.tdiv_eq_ediv_of_nonneg (by omega)
    have h4 : den / (g : Int) ≤ den := Int.ediv_le_self _ (by omega)
    have h5 : 1 ≤ den / (g : Int) := by
      apply Int.le_ediv_of_mul_le (by omega)
      omega
    omega
  · have h6 : ¬ den < 0 := by omega
    simp only [fracOf, h6, if_false, ← hg]
theorem fracOf_yes {num den p q : Int} (h : fracOf num den = if fracB p q = true then some (p, q) else none) (hb : fracB p q = true) : fracOf num den = some (p, q) := by rw [h, if_pos hb]
theorem fracOf_no {num den p q : Int} (h : fracOf num den = if fracB p q = true then some (p, q) else none) (hb : fracB p q = false) : fracOf num den = none := by rw [h, if_neg (by simp [hb])]
/-- a part of the whole as a fraction, for what is a mass -/
def fracM (ok : Bool) (num den : Int) : FracR := if ok = true then fracOf num den else none
/-- what BeliefOf, PossibilityOf and MeanSize return -/
def beliefR (s : Int) (xs : List Int) (x : Int) : FracR := fracM (massB s xs && setB s x) (partOf (fun j => subB j x.toNat) xs - xs.getD 0 0) (sumL xs)
def possR (s : Int) (xs : List Int) (x : Int) : FracR := fracM (massB s xs && setB s x) (partOf (fun j => meetB x.toNat j) xs) (sumL xs)
def sizeF (xs : List Int) (b : Nat) : Int := xs.getD b 0 * cnt b
def meanR (s : Int) (xs : List Int) : FracR := fracM (massB s xs) (sumTo (sizeF xs) xs.length) (sumL xs)
theorem sumTo_first {f : Nat → Int} : ∀ n : Nat, 0 < n → (∀ k, k < n → 0 ≤ f k) → f 0 ≤ sumTo f n
  | 0, h, _ => by omega
  | 1, _, _ => by simp [sumTo]
  | n + 2, _, h => by
    have := sumTo_first (n + 1) (by omega) (fun k hk => h k (by omega))
    have := h (n + 1) (by omega)
    simp only [sumTo] at *
    omega
theorem part_zero {pr : Nat → Bool} {xs : List Int} {n : Nat} (hn : xs.length = n) (h : ∀ k, k < n → 0 ≤ xs.getD k 0 ∧ xs.getD k 0 ≤ 1000000) (h0 : 0 < n) (hp : pr 0 = true) : 0 ≤ partOf pr xs - xs.getD 0 0 := by
  have := sumTo_first (f := partF pr xs) n h0 (fun k hk => by
    have := h k hk
    unfold partF
    split <;> omega)
  rw [partF_yes hp] at this
  rw [partOf, hn]
  omega
end
/-! Plain facts on two masses of one question; no program in sight. No condition. -/
section
/-- two masses of one question -/
def bothB (sM : Int) (xsM : List Int) (sN : Int) (xsN : List Int) : Bool := massB sM xsM && massB sN xsN && (sM == sN)
theorem both_is {sM sN : Int} {xsM xsN : List Int} {nM nN : Nat} (hM : xsM.length = nM) (hN : xsN.length = nN) (h : bothB sM xsM sN xsN = true) : IsMass sM nM xsM ∧ IsMass sN nN xsN ∧ sN = sM ∧ nN = nM := by
  simp only [bothB, Bool.and_eq_true, beq_iff_eq] at h
  obtain ⟨⟨h1, h2⟩, h3⟩ := h
  subst h3
  have i1 := massB_is hM h1
  have i2 := massB_is hN h2
  have f1 := i1.fit
  have f2 := i2.fit
  simp only [fitB, decide_eq_true_eq] at f1 f2
  exact ⟨i1, i2, rfl, by omega⟩
/-- what two sources tell: the products' mass -/
def toldR (op : Nat → Nat → Nat) (sM : Int) (xsM : List Int) (sN : Int) (xsN : List Int) : MassR := if bothB sM xsM sN xsN = true then makeM sM (prods op xsM xsN) else none
def conjR := toldR (fun a b => a &&& b)
def disjR := toldR (fun a b => a ||| b)
def diffR := toldR (fun a b => a ^^^ b)
def joinR (sM : Int) (xsM : List Int) (sN : Int) (xsN : List Int) : MassR := if bothB sM xsM sN xsN = true then makeM sM (noNone (prods (fun a b => a &&& b) xsM xsN)) else none
/-- contradictions tell nothing: the part of the set without answers goes to the set of all -/
def toAll (ps : List Int) : List Int := (ps.set (ps.length - 1) (ps.getD (ps.length - 1) 0 + ps.getD 0 0)).set 0 0
def yagerR (sM : Int) (xsM : List Int) (sN : Int) (xsN : List Int) : MassR := if bothB sM xsM sN xsN = true then makeM sM (toAll (prods (fun a b => a &&& b) xsM xsN)) else none
def conflR (sM : Int) (xsM : List Int) (sN : Int) (xsN : List Int) : FracR := fracM (bothB sM xsM sN xsN) ((prods (fun a b => a &&& b) xsM xsN).getD 0 0) (sumL xsM * sumL xsN)
theorem prods_length (op : Nat → Nat → Nat) (xs ys : List Int) : (prods op xs ys).length = xs.length := tab_length _ _
theorem told_len {op : Nat → Nat → Nat} {sM sN : Int} {xsM xsN : List Int} {n m : Nat} (h : xsM.length ≤ n) (_h2 : xsN.length ≤ m) : rN (toldR op sM xsM sN xsN) ≤ n := by
  unfold toldR
  split
  · exact makeM_len (by rw [prods_length]; exact h)
  · simp [rN, rL]
theorem conjR_len {sM sN : Int} {xsM xsN : List Int} {n m : Nat} (h : xsM.length ≤ n) (h2 : xsN.length ≤ m) : rN (conjR sM xsM sN xsN) ≤ n := told_len h h2
theorem disjR_len {sM sN : Int} {xsM xsN : List Int} {n m : Nat} (h : xsM.length ≤ n) (h2 : xsN.length ≤ m) : rN (disjR sM xsM sN xsN) ≤ n := told_len h h2
theorem diffR_len {sM sN : Int} {xsM xsN : List Int} {n m : Nat} (h : xsM.length ≤ n) (h2 : xsN.length ≤ m) : rN (diffR sM xsM sN xsN) ≤ n := told_len h h2
theorem joinR_len {sM sN : Int} {xsM xsN : List Int} {n m : Nat} (h : xsM.length ≤ n) (_h2 : xsN.length ≤ m) : rN (joinR sM xsM sN xsN) ≤ n := by
  unfold joinR
  split
  · exact makeM_len (by simp [noNone, prods_length]; exact h)
  · simp [rN, rL]
theorem yagerR_len {sM sN : Int} {xsM xsN : List Int} {n m : Nat} (h : xsM.length ≤ n) (_h2 : xsN.length ≤ m) : rN (yagerR sM xsM sN xsN) ≤ n := by
  unfold yagerR
  split
  · exact makeM_len (by simp [toAll, prods_length]; exact h)
  · simp [rN, rL]
/-- the bounds of the products -/
theorem prods_bound {op : Nat → Nat → Nat} {xs ys : List Int} {n : Nat} (hl : xs.length = n) (hn : n ≤ 16) (hx : ∀ k, k < n → 0 ≤ xs.getD k 0 ∧ xs.getD k 0 ≤ 1000000) (hy : ∀ k, k < n → 0 ≤ ys.getD k 0 ∧ ys.getD k 0 ≤ 1000000) (c : Nat) (hc : c < n) :
    0 ≤ (prods op xs ys).getD c 0 ∧ (prods op xs ys).getD c 0 ≤ 300000000000000 := by
  rw [prods, hl, tab_getD _ _ _ hc]
  have h1 := sumTo_between (f := fun a => sumTo (prodF op xs ys a c) n) n 16000000000000 (fun a ha => by
    have := sumTo_between (f := prodF op xs ys a c) n 1000000000000 (fun b hb => prodF_bound hx hy a c b (by omega) hb)
    omega)
  omega
theorem and_lt' {n i j : Nat} (_h : n = 2 ∨ n = 4 ∨ n = 8 ∨ n = 16) (hi : i < n) (_hj : j < n) : i &&& j < n := Nat.lt_of_le_of_lt Nat.and_le_left hi
theorem or_lt' {n i j : Nat} (h : n = 2 ∨ n = 4 ∨ n = 8 ∨ n = 16) (hi : i < n) (hj : j < n) : i ||| j < n := by
  rcases h with rfl | rfl | rfl | rfl
  · exact Nat.or_lt_two_pow (n := 1) hi hj
  · exact Nat.or_lt_two_pow (n := 2) hi hj
  · exact Nat.or_lt_two_pow (n := 3) hi hj
  · exact Nat.or_lt_two_pow (n := 4) hi hj
theorem xor_lt' {n i j : Nat} (h : n = 2 ∨ n = 4 ∨ n = 8 ∨ n = 16) (hi : i < n) (hj : j < n) : i ^^^ j < n := by
  rcases h with rfl | rfl | rfl | rfl
  · exact Nat.xor_lt_two_pow (n := 1) hi hj
  · exact Nat.xor_lt_two_pow (n := 2) hi hj
  · exact Nat.xor_lt_two_pow (n := 3) hi hj
  · exact Nat.xor_lt_two_pow (n := 4) hi hj
end
/-! Plain facts on mixed masses, chances and tables of masses; no program in sight. No condition. -/
section
/-- a fraction from 0 to 1 -/
def shareB (p q : Int) : Bool := fracB p q && (decide (0 ≤ p) && decide (p ≤ q))
theorem share_is {p q : Int} (h : shareB p q = true) : 0 ≤ p ∧ p ≤ q ∧ 1 ≤ q := by
  simp only [shareB, fracB, Bool.and_eq_true, decide_eq_true_eq] at h
  omega
/-- the mean of two masses by a fraction, not yet in lowest terms -/
def mixF (p q : Int) (xs ys : List Int) (k : Nat) : Int := p * xs.getD k 0 * sumL ys + (q - p) * ys.getD k 0 * sumL xs
def mixL (p q : Int) (xs ys : List Int) : List Int := tab xs.length (mixF p q xs ys)
def mixR (sM : Int) (xsM : List Int) (sN : Int) (xsN : List Int) (p q : Int) : MassR := if (bothB sM xsM sN xsN && (shareB p q && decide (q ≤ 1000))) = true then makeM sM (mixL p q xsM xsN) else none
/-- the mass that is sure of a set -/
def sureL (n c : Nat) : List Int := tab n (fun k => if k = c then 1 else 0)
def discR (s : Int) (xs : List Int) (p q : Int) : MassR := if massB s xs = true then mixR s xs s (sureL xs.length (xs.length - 1)) p q else none
def reliR (s : Int) (xs : List Int) (p q : Int) : MassR := if massB s xs = true then mixR s xs s (turned xs) p q else none
theorem mixR_len {sM sN p q : Int} {xsM xsN : List Int} {n : Nat} (h : xsM.length ≤ n) : rN (mixR sM xsM sN xsN p q) ≤ n := by
  unfold mixR
  split
  · exact makeM_len (by simp [mixL, tab_length]; exact h)
  · simp [rN, rL]
theorem discR_len {s p q : Int} {xs : List Int} {n : Nat} (h : xs.length ≤ n) : rN (discR s xs p q) ≤ n := by
  unfold discR
  split
  · exact mixR_len h
  · simp [rN, rL]
theorem reliR_len {s p q : Int} {xs : List Int} {n : Nat} (h : xs.length ≤ n) : rN (reliR s xs p q) ≤ n := by
  unfold reliR
  split
  · exact mixR_len h
  · simp [rN, rL]
/-- what a product of numbers that are not negative is at most -/
theorem mul_bound {a b A B : Int} (h1 : 0 ≤ a ∧ a ≤ A) (h2 : 0 ≤ b ∧ b ≤ B) : 0 ≤ a * b ∧ a * b ≤ A * B :=
  ⟨Int.mul_nonneg h1.1 h2.1, Int.mul_le_mul h1.2 h2.2 h2.1 (by omega)⟩
theorem mix_bound {p q : Int} {xs ys : List Int} {n : Nat} (hp : 0 ≤ p ∧ p ≤ q ∧ q ≤ 1000) (hx : ∀ k, k < n → 0 ≤ xs.getD k 0 ∧ xs.getD k 0 ≤ 1000000) (hy : ∀ k, k < n → 0 ≤ ys.getD k 0 ∧ ys.getD k 0 ≤ 1000000) (hu : 1 ≤ sumL xs ∧ sumL xs ≤ 1000000) (hv : 1 ≤ sumL ys ∧ sumL ys ≤ 1000000) (k : Nat) (hk : k < n) :
    0 ≤ mixF p q xs ys k ∧ mixF p q xs ys k ≤ 2000000000000000 := by
  have h1 := hx k hk
  have h2 := hy k hk
  have a1 := mul_bound (a := p) (b := xs.getD k 0) (A := 1000) (B := 1000000) (by omega) h1
  have a2 := mul_bound (a := p * xs.getD k 0) (b := sumL ys) (A := 1000 * 1000000) (B := 1000000) (by omega) (by omega)
  have b1 := mul_bound (a := q - p) (b := ys.getD k 0) (A := 1000) (B := 1000000) (by omega) h2
  have b2 := mul_bound (a := (q - p) * ys.getD k 0) (b := sumL xs) (A := 1000 * 1000000) (B := 1000000) (by omega) (by omega)
  unfold mixF
  omega
/-- what ChanceOf returns -/
def chanceB (s : Int) (xs : List Int) (x : Int) : Bool := (massB s xs && setB s x) && !(sumL xs == xs.getD 0 0)
def chanceR (s : Int) (xs : List Int) (x : Int) : FracR := fracM (chanceB s xs x) (evenOf x.toNat xs) (12 * (sumL xs - xs.getD 0 0))
/-- one of the measures of a set: implied, believed, possible, common -/
def measK (kd : Nat) (xs : List Int) (a : Nat) : Int :=
  match kd with
  | 0 => partOf (fun j => subB j a) xs
  | 1 => partOf (fun j => subB j a) xs - xs.getD 0 0
  | 2 => partOf (fun j => meetB a j) xs
  | _ => partOf (fun j => subB a j) xs
def tableL (kd : Nat) (xs : List Int) : List Int := tab xs.length (measK kd xs)
theorem sum_first {xs : List Int} {n : Nat} (hn : xs.length = n) (h0 : 0 < n) (h : ∀ k, k < n → 0 ≤ xs.getD k 0) : xs.getD 0 0 ≤ sumL xs := by
  unfold sumL
  rw [hn]
  exact sumTo_first (f := fun k => xs.getD k 0) n h0 h
end
/-! Plain facts on the kinds of tables; no program in sight. No condition. -/
section
/-- the kind of a table: implied, believed, possible, common; 4 for none -/
def kindN (kd : ByteArray) : Nat :=
  if kd.toList = [105, 109, 112, 108, 105, 101, 100] then 0 else if kd.toList = [98, 101, 108, 105, 101, 118, 101, 100] then 1 else if kd.toList = [112, 111, 115, 115, 105, 98, 108, 101] then 2 else if kd.toList = [99, 111, 109, 109, 111, 110] then 3 else 4
theorem kind_cases (kd : ByteArray) : kd.toList = [105, 109, 112, 108, 105, 101, 100] ∨ kd.toList = [98, 101, 108, 105, 101, 118, 101, 100] ∨ kd.toList = [112, 111, 115, 115, 105, 98, 108, 101] ∨ kd.toList = [99, 111, 109, 109, 111, 110] ∨ (kd.toList ≠ [105, 109, 112, 108, 105, 101, 100] ∧ kd.toList ≠ [98, 101, 108, 105, 101, 118, 101, 100] ∧ kd.toList ≠ [112, 111, 115, 115, 105, 98, 108, 101] ∧ kd.toList ≠ [99, 111, 109, 109, 111, 110]) := by
  by_cases h0 : kd.toList = [105, 109, 112, 108, 105, 101, 100]
  · exact .inl h0
  · by_cases h1 : kd.toList = [98, 101, 108, 105, 101, 118, 101, 100]
    · exact .inr (.inl h1)
    · by_cases h2 : kd.toList = [112, 111, 115, 115, 105, 98, 108, 101]
      · exact .inr (.inr (.inl h2))
      · by_cases h3 : kd.toList = [99, 111, 109, 109, 111, 110]
        · exact .inr (.inr (.inr (.inl h3)))
        · exact .inr (.inr (.inr (.inr ⟨h0, h1, h2, h3⟩)))
theorem kind0 {kd : ByteArray} (h : kd.toList = [105, 109, 112, 108, 105, 101, 100]) : kindN kd = 0 := by unfold kindN; rw [h]; rfl
theorem kind1 {kd : ByteArray} (h : kd.toList = [98, 101, 108, 105, 101, 118, 101, 100]) : kindN kd = 1 := by unfold kindN; rw [h]; rfl
theorem kind2 {kd : ByteArray} (h : kd.toList = [112, 111, 115, 115, 105, 98, 108, 101]) : kindN kd = 2 := by unfold kindN; rw [h]; rfl
theorem kind3 {kd : ByteArray} (h : kd.toList = [99, 111, 109, 109, 111, 110]) : kindN kd = 3 := by unfold kindN; rw [h]; rfl
theorem kind4 {kd : ByteArray} (h0 : kd.toList ≠ [105, 109, 112, 108, 105, 101, 100]) (h1 : kd.toList ≠ [98, 101, 108, 105, 101, 118, 101, 100]) (h2 : kd.toList ≠ [112, 111, 115, 115, 105, 98, 108, 101]) (h3 : kd.toList ≠ [99, 111, 109, 109, 111, 110]) : kindN kd = 4 := by
  unfold kindN
  rw [if_neg h0, if_neg h1, if_neg h2, if_neg h3]
/-- what TableOf returns -/
def tabB (s : Int) (xs : List Int) (kd : ByteArray) : Bool := massB s xs && decide (kindN kd < 4)
def tabT (s : Int) (xs : List Int) (kd : ByteArray) : List Int := if tabB s xs kd = true then tableL (kindN kd) xs else []
def tabN (s : Int) (xs : List Int) (kd : ByteArray) : Nat := if tabB s xs kd = true then xs.length else 0
theorem tabN_le (s : Int) (xs : List Int) (kd : ByteArray) : tabN s xs kd ≤ xs.length := by
  unfold tabN; split <;> omega
theorem tab_yes {s : Int} {xs : List Int} {kd : ByteArray} {j n : Nat} (hn : xs.length = n) (hm : massB s xs = true) (hk : kindN kd = j) (hj : j < 4) : tabN s xs kd = n ∧ tabT s xs kd = tab n (measK j xs) := by
  have h : tabB s xs kd = true := by simp [tabB, hm, hk, hj]
  exact ⟨by rw [tabN, if_pos h, hn], by rw [tabT, if_pos h, hk, tableL, hn]⟩
theorem tab_no {s : Int} {xs : List Int} {kd : ByteArray} (h : massB s xs = false ∨ kindN kd = 4) : tabN s xs kd = 0 ∧ tabT s xs kd = [] := by
  have h : ¬ tabB s xs kd = true := by rcases h with h | h <;> simp [tabB, h]
  exact ⟨if_neg h, if_neg h⟩
end
/-! Plain facts on masses of tables; no program in sight. No condition. -/
section
/-- what is implied, of a table of what is possible -/
def impOf (xs : List Int) : List Int := tab xs.length (fun a => xs.getD (xs.length - 1) 0 - xs.getD (xs.length - 1 - a) 0)
def motP (j : Nat) (xs : List Int) : List Int :=
  match j with
  | 0 => sums false true xs
  | 1 => sums false true xs
  | 2 => sums false true (impOf xs)
  | _ => sums true true xs
/-- a table of a question -/
def shapeB (s : Int) (xs : List Int) : Bool := tableB xs && (sizeB s && fitB s xs.length)
/-- kinds whose table begins with 0 -/
def zeroB (j : Nat) (xs : List Int) : Bool := !(j == 1 || j == 2) || xs.getD 0 0 == 0
def motB (s : Int) (xs : List Int) (kd : ByteArray) : Bool := shapeB s xs && (decide (kindN kd < 4) && (zeroB (kindN kd) xs && (motP (kindN kd) xs).all (inMost 1000000)))
/-- what MassOfTable returns -/
def motR (s : Int) (xs : List Int) (kd : ByteArray) : MassR := if motB s xs kd = true then makeM s (motP (kindN kd) xs) else none
theorem impOf_length (xs : List Int) : (impOf xs).length = xs.length := tab_length _ _
theorem motP_length (j : Nat) (xs : List Int) : (motP j xs).length = xs.length := by
  unfold motP
  split <;> simp [sums_length, impOf_length]
theorem motR_len {s : Int} {xs : List Int} {kd : ByteArray} {n : Nat} (h : xs.length ≤ n) : rN (motR s xs kd) ≤ n := by
  unfold motR
  split
  · exact makeM_len (by rw [motP_length]; exact h)
  · simp [rN, rL]
theorem mot_yes {s : Int} {xs : List Int} {kd : ByteArray} {j : Nat} (h1 : shapeB s xs = true) (hk : kindN kd = j) (hj : j < 4) (hz : zeroB j xs = true) (ha : (motP j xs).all (inMost 1000000) = true) : motR s xs kd = makeM s (motP j xs) := by
  have : motB s xs kd = true := by simp [motB, h1, hk, hj, hz]; simpa using ha
  rw [motR, if_pos this, hk]
theorem mot_no1 {s : Int} {xs : List Int} {kd : ByteArray} (h1 : shapeB s xs = false) : motR s xs kd = none := if_neg (by simp [motB, h1])
theorem mot_no2 {s : Int} {xs : List Int} {kd : ByteArray} (h1 : kindN kd = 4) : motR s xs kd = none := if_neg (by simp [motB, h1])
theorem mot_no3 {s : Int} {xs : List Int} {kd : ByteArray} {j : Nat} (hk : kindN kd = j) (h1 : zeroB j xs = false) : motR s xs kd = none := if_neg (by simp [motB, hk, h1])
theorem mot_no4 {s : Int} {xs : List Int} {kd : ByteArray} {j : Nat} (hk : kindN kd = j) (h1 : (motP j xs).all (inMost 1000000) = false) : motR s xs kd = none := if_neg (by rw [motB, hk, h1]; simp)
theorem shape_is {s : Int} {xs : List Int} {n : Nat} (hn : xs.length = n) (h : shapeB s xs = true) : tableB xs = true ∧ sizeB s = true ∧ fitB s n = true := by
  simp only [shapeB, Bool.and_eq_true, hn] at h
  exact ⟨h.1, h.2.1, h.2.2⟩
end
/-! Plain functions: the whole, kinds of masses, focal sets, an order of fractions. No condition. -/
section
def wholeR (s : Int) (xs : List Int) : Int := if massB s xs = true then sumL xs else -1
theorem wholeR_yes {s : Int} {xs : List Int} (h : massB s xs = true) : wholeR s xs = sumL xs := if_pos h
theorem wholeR_no {s : Int} {xs : List Int} (h : massB s xs = false) : wholeR s xs = -1 := if_neg (by simp [h])
def normB (s : Int) (xs : List Int) : Bool := massB s xs && (xs.getD 0 0 == 0)
/-- the sets below k that have a part -/
def focL (xs : List Int) : Nat → List Nat
  | 0 => []
  | k + 1 => if xs.getD k 0 = 0 then focL xs k else focL xs k ++ [k]
def ints (ns : List Nat) : List Int := ns.map Int.ofNat
theorem ints_length (ns : List Nat) : (ints ns).length = ns.length := by simp [ints]
theorem ints_getD (ns : List Nat) (k : Nat) : (ints ns).getD k 0 = ((ns.getD k 0 : Nat) : Int) := by
  by_cases h : k < ns.length
  · simp [ints, List.getD, h]
  · simp [ints, List.getD, List.getElem?_eq_none (show ns.length ≤ k by omega)]
theorem ints_snoc (ns : List Nat) (k : Nat) : ints (ns ++ [k]) = ints ns ++ [(k : Int)] := by simp [ints]
theorem focL_le (xs : List Int) (k : Nat) : (focL xs k).length ≤ k := by
  induction k with
  | zero => simp [focL]
  | succ k ih => simp only [focL]; split <;> (try simp only [List.length_append, List.length_singleton]) <;> omega
theorem focL_yes {xs : List Int} {k : Nat} (h : ¬ xs.getD k 0 = 0) : focL xs (k + 1) = focL xs k ++ [k] := if_neg h
theorem focL_no {xs : List Int} {k : Nat} (h : xs.getD k 0 = 0) : focL xs (k + 1) = focL xs k := if_pos h
theorem mem_focL {xs : List Int} {a : Nat} : ∀ k, a ∈ focL xs k ↔ a < k ∧ xs.getD a 0 ≠ 0
  | 0 => by simp [focL]
  | k + 1 => by
    simp only [focL]
    split
    · next h =>
      rw [mem_focL k]
      constructor
      · rintro ⟨h1, h2⟩; exact ⟨by omega, h2⟩
      · rintro ⟨h1, h2⟩
        refine ⟨?_, h2⟩
        rcases Nat.lt_or_ge a k with h3 | h3
        · exact h3
        · have e : a = k := by omega
          subst e; exact absurd h h2
    · next h =>
      rw [List.mem_append, mem_focL k, List.mem_singleton]
      constructor
      · rintro (⟨h1, h2⟩ | rfl)
        · exact ⟨by omega, h2⟩
        · exact ⟨by omega, h⟩
      · rintro ⟨h1, h2⟩
        rcases Nat.lt_or_ge a k with h3 | h3
        · exact .inl ⟨h3, h2⟩
        · exact .inr (by omega)
theorem focL_at {xs : List Int} {k i : Nat} (h : i < (focL xs k).length) : (focL xs k).getD i 0 < k ∧ xs.getD ((focL xs k).getD i 0) 0 ≠ 0 := by
  have h1 : (focL xs k).getD i 0 ∈ focL xs k := by simp [List.getD, h]
  exact (mem_focL k).1 h1
/-- is a set one of a single answer? -/
def oneB (a : Nat) : Bool := !(a == 0) && (a &&& (a - 1) == 0)
def chanB (s : Int) (xs : List Int) : Bool := massB s xs && (focL xs xs.length).all oneB
/-- has one of two sets the other? -/
def eitherB (a b : Nat) : Bool := subB a b || subB b a
def nestB (s : Int) (xs : List Int) : Bool := massB s xs && (focL xs xs.length).all (fun a => (focL xs xs.length).all (eitherB a))
def lessB (p q r t : Int) : Bool := (fracB p q && fracB r t) && decide (p * t < r * q)
def fractR (num den : Int) : FracR := if (isPartB num && isPartB den && !(den == 0)) = true then fracOf num den else none
end
end Go.Proofs.YtlfajalhoifliaaGreatDoor
