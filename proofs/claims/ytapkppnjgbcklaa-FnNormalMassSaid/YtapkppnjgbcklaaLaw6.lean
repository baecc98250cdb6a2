/- Plain laws on tables: sums and parts undo each other; tables of beliefs are pairwise. No condition. -/
import Derived.Test.YtapkppnjgbcklaaLaw5
namespace Go.Proofs.Ytapkppnjgbcklaa

variable {xs : List Int} {n : Nat}
theorem over_over (f g : Nat → Nat → Int) (i : Nat) :
    over g (tab n (over f xs n)) n i = sumTo (fun k => xs.getD k 0 * sumTo (fun j => f j k * g i j) n) n := by
  have h1 : over g (tab n (over f xs n)) n i = sumTo (fun j => sumTo (fun k => xs.getD k 0 * (f j k * g i j)) n) n := by
    unfold over
    refine sumTo_congr n (fun j hj => ?_)
    rw [tab_getD n _ j hj, ← sumTo_mul_right]
    exact sumTo_congr n (fun k _ => by rw [Int.mul_assoc])
  rw [h1, sumTo_swap]
  exact sumTo_congr n (fun k _ => sumTo_mul _ _ _)
theorem delta_sum (f : Nat → Int) (i : Nat) (hi : i < n) : sumTo (fun k => f k * (if k = i then 1 else 0)) n = f i := by
  have h : sumTo (fun k => f k * (if k = i then 1 else 0)) n = sumTo (fun k => if k = i then f i else 0) n := sumTo_congr n (fun k _ => by
    by_cases e : k = i
    · subst e; simp
    · simp [e])
  rw [h, sumTo_one, if_pos hi]
def deltaB (n : Nat) (ab sg : Bool) : Bool := (List.range n).all fun i => (List.range n).all fun k => sumTo (fun j => facS ab (!sg) j k * facS ab sg i j) n == if k = i then 1 else 0
theorem delta_all : ∀ n ∈ [2, 4, 8, 16], ∀ ab sg : Bool, deltaB n ab sg = true := by decide +kernel
theorem delta_at (h : n = 2 ∨ n = 4 ∨ n = 8 ∨ n = 16) (ab sg : Bool) {i k : Nat} (hi : i < n) (hk : k < n) : sumTo (fun j => facS ab (!sg) j k * facS ab sg i j) n = if k = i then 1 else 0 := by
  have h1 := delta_all n (by simp; omega) ab sg
  unfold deltaB at h1
  have h2 := List.all_eq_true.1 (List.all_eq_true.1 h1 i (by simpa using hi)) k (by simpa using hk)
  simpa using h2
/-- parts of sums and sums of parts are the table again -/
theorem sums_back (hn : xs.length = n) (h : n = 2 ∨ n = 4 ∨ n = 8 ∨ n = 16) (ab sg : Bool) : sums ab sg (sums ab (!sg) xs) = xs := by
  have hl : (sums ab (!sg) xs).length = n := by rw [sums_length, hn]
  refine getD_ext (n := n) (by rw [sums_length, hl]) hn (fun i hi => ?_)
  rw [sums_getD _ _ _ _ (by omega), hl]
  show over (facS ab sg) (tab xs.length (over (facS ab (!sg)) xs xs.length)) n i = _
  rw [hn, over_over]
  rw [← delta_sum (n := n) (fun k => xs.getD k 0) i hi]
  exact sumTo_congr n (fun k hk => by rw [delta_at h ab sg hi hk])
theorem parts_sums (hn : xs.length = n) (h : n = 2 ∨ n = 4 ∨ n = 8 ∨ n = 16) (ab : Bool) : sums ab true (sums ab false xs) = xs := sums_back hn h ab true
theorem sums_parts (hn : xs.length = n) (h : n = 2 ∨ n = 4 ∨ n = 8 ∨ n = 16) (ab : Bool) : sums ab false (sums ab true xs) = xs := sums_back hn h ab false
def firstB (n : Nat) : Bool := (List.range n).all fun k => (facS false true 0 k == if k = 0 then 1 else 0) && (facS true true (n - 1) k == if k = n - 1 then 1 else 0)
theorem first_all : ∀ n ∈ [2, 4, 8, 16], firstB n = true := by decide +kernel
theorem first_at (h : n = 2 ∨ n = 4 ∨ n = 8 ∨ n = 16) {k : Nat} (hk : k < n) : facS false true 0 k = (if k = 0 then 1 else 0) ∧ facS true true (n - 1) k = if k = n - 1 then 1 else 0 := by
  have h1 := first_all n (by simp; omega)
  unfold firstB at h1
  have h2 := List.all_eq_true.1 h1 k (by simpa using hk)
  simpa using h2
theorem parts_first (hn : xs.length = n) (h : n = 2 ∨ n = 4 ∨ n = 8 ∨ n = 16) : (sums false true xs).getD 0 0 = xs.getD 0 0 := by
  rw [sums_getD _ _ _ _ (by omega), hn]
  rw [← delta_sum (n := n) (fun k => xs.getD k 0) 0 (by omega)]
  exact sumTo_congr n (fun k hk => by rw [(first_at h hk).1])
theorem parts_last (hn : xs.length = n) (h : n = 2 ∨ n = 4 ∨ n = 8 ∨ n = 16) : (sums true true xs).getD (n - 1) 0 = xs.getD (n - 1) 0 := by
  rw [sums_getD _ _ _ _ (by omega), hn]
  rw [← delta_sum (n := n) (fun k => xs.getD k 0) (n - 1) (by omega)]
  exact sumTo_congr n (fun k hk => by rw [(first_at h hk).2])
def mirrorB (n : Nat) : Bool := (List.range n).all fun i => (List.range n).all fun k => facS true false (n - 1 - i) (n - 1 - k) == facS false false i k
theorem mirror_all : ∀ n ∈ [2, 4, 8, 16], mirrorB n = true := by decide +kernel
theorem mirror_at (h : n = 2 ∨ n = 4 ∨ n = 8 ∨ n = 16) {i k : Nat} (hi : i < n) (hk : k < n) : facS true false (n - 1 - i) (n - 1 - k) = facS false false i k := by
  have h1 := mirror_all n (by simp; omega)
  unfold mirrorB at h1
  have h2 := List.all_eq_true.1 (List.all_eq_true.1 h1 i (by simpa using hi)) k (by simpa using hk)
  simpa using h2
/-- sums above are sums below of all other sets -/
theorem sums_turned (hn : xs.length = n) (h : n = 2 ∨ n = 4 ∨ n = 8 ∨ n = 16) {i : Nat} (hi : i < n) : (sums true false (turned xs)).getD (n - 1 - i) 0 = (sums false false xs).getD i 0 := by
  have hl : (turned xs).length = n := by rw [turned_length, hn]
  rw [sums_getD _ _ _ _ (by omega), sums_getD _ _ _ _ (by omega), hl, hn]
  unfold over
  rw [← sumTo_turn]
  refine sumTo_congr n (fun k hk => ?_)
  rw [turned_getD hn _ (by omega), mirror_at h hi hk, show n - 1 - (n - 1 - k) = k by omega]
theorem table_turned (h : tableB xs = true) : tableB (turned xs) = true := by
  obtain ⟨h1, h2⟩ := table_part rfl h
  unfold tableB
  rw [turned_length]
  have h3 : (turned xs).all isPartB = true := by
    rw [all_getD]
    intro k hk
    rw [turned_length] at hk
    rw [turned_getD rfl k hk]
    have h4 := h2 (xs.length - 1 - k) (by omega)
    unfold isPartB
    simp only [Bool.and_eq_true, decide_eq_true_eq]
    exact h4
  rw [h3]
  simp
  omega
/-- a table is the sums of its parts -/
theorem table_at (hn : xs.length = n) (h : n = 2 ∨ n = 4 ∨ n = 8 ∨ n = 16) {i : Nat} (hi : i < n) : xs.getD i 0 = partOf (fun j => subB j i) (sums false true xs) := by
  have h1 := sums_parts hn h false
  have hl : (sums false true xs).length = n := by rw [sums_length, hn]
  have h2 : xs.getD i 0 = (sums false false (sums false true xs)).getD i 0 := by rw [h1]
  rw [h2, sums_getD _ _ _ _ (by omega), hl, part_lin _ hl]
  unfold over
  refine sumTo_congr n (fun k _ => ?_)
  simp only [facS, Bool.false_eq_true, if_false]
  rw [Int.mul_comm]
/-- tables of beliefs are pairwise -/
theorem belief_pairwise (hn : xs.length = n) (h : n = 2 ∨ n = 4 ∨ n = 8 ∨ n = 16) (hp : partsB (sums false true xs) = true) : pairB xs = true := by
  have hl : (sums false true xs).length = n := by rw [sums_length, hn]
  refine pairB_true hn (fun i hi j hj => ?_)
  unfold goodPair
  rw [table_at hn h hi, table_at hn h hj, table_at hn h (or_lt h hi hj), table_at hn h (and_lt hi)]
  refine implied_super hl (by omega) (fun k hk => ?_) (by omega) (by omega)
  unfold partsB at hp
  simp only [Bool.and_eq_true] at hp
  have := all_getD.1 hp.1 k (by omega)
  simpa [nonnegB] using this
theorem hasB_or16 : ∀ a b : Fin 16, ∀ x : Fin 4, hasB (a.val ||| b.val) x.val = (hasB a.val x.val || hasB b.val x.val) := by decide +kernel
theorem hasB_and16 : ∀ a b : Fin 16, ∀ x : Fin 4, hasB (a.val &&& b.val) x.val = (hasB a.val x.val && hasB b.val x.val) := by decide +kernel
/-- additive tables are pairwise -/
theorem additive_pairwise (hn : xs.length = n) (h : n = 2 ∨ n = 4 ∨ n = 8 ∨ n = 16) (hp : addB xs = true) : pairB xs = true := by
  have ha : ∀ a, a < n → addSum xs a = xs.getD a 0 := by subst hn; exact of_decide_eq_true hp
  refine pairB_true hn (fun i hi j hj => ?_)
  unfold goodPair
  rw [← ha i hi, ← ha j hj, ← ha _ (or_lt h hi hj), ← ha _ (and_lt hi)]
  unfold addSum
  rw [← sumTo_add, ← sumTo_add]
  refine sumTo_le 4 (fun x hx => ?_)
  have h1 := hasB_or16 ⟨i, by omega⟩ ⟨j, by omega⟩ ⟨x, hx⟩
  have h2 := hasB_and16 ⟨i, by omega⟩ ⟨j, by omega⟩ ⟨x, hx⟩
  simp only at h1 h2
  unfold addF
  rw [h1, h2]
  cases hasB i x <;> cases hasB j x <;> simp
def addCoefB (n : Nat) : Bool := (List.range n).all fun k => (List.range 4).all fun x => cnt k == 1 || (sumTo (fun j => (if hasB j x = true then 1 else 0) * facS false true k j) n == 0)
theorem addCoef_all : ∀ n ∈ [2, 4, 8, 16], addCoefB n = true := by decide +kernel
theorem addCoef_at (h : n = 2 ∨ n = 4 ∨ n = 8 ∨ n = 16) {k x : Nat} (hk : k < n) (hx : x < 4) (hc : ¬ cnt k = 1) : sumTo (fun j => (if hasB j x = true then 1 else 0) * facS false true k j) n = 0 := by
  have h1 := addCoef_all n (by simp; omega)
  unfold addCoefB at h1
  have h2 := List.all_eq_true.1 (List.all_eq_true.1 h1 k (by simpa using hk)) x (by simpa using hx)
  simpa [hc] using h2
/-- the parts of an additive table are those of single answers -/
theorem additive_single (hn : xs.length = n) (h : n = 2 ∨ n = 4 ∨ n = 8 ∨ n = 16) (hp : addB xs = true) : singleB (sums false true xs) = true := by
  have ha : ∀ a, a < n → addSum xs a = xs.getD a 0 := by subst hn; exact of_decide_eq_true hp
  unfold singleB
  refine decide_eq_true (fun k hk => ?_)
  rw [sums_length, hn] at hk
  by_cases hc : cnt k = 1
  · exact .inr hc
  · refine .inl ?_
    rw [sums_getD _ _ _ _ (by omega), hn]
    have h1 : over (facS false true) xs n k = sumTo (fun j => sumTo (fun x => xs.getD (2 ^ x) 0 * ((if hasB j x = true then 1 else 0) * facS false true k j)) 4) n := by
      unfold over
      refine sumTo_congr n (fun j hj => ?_)
      rw [← ha j hj]
      unfold addSum
      rw [← sumTo_mul_right]
      refine sumTo_congr 4 (fun x _ => ?_)
      unfold addF
      cases hasB j x <;> simp
    rw [h1, sumTo_swap]
    have h2 : sumTo (fun x => sumTo (fun j => xs.getD (2 ^ x) 0 * ((if hasB j x = true then 1 else 0) * facS false true k j)) n) 4 = sumTo (fun _ => 0) 4 := by
      refine sumTo_congr 4 (fun x hx => ?_)
      rw [sumTo_mul, addCoef_at h hk hx hc, Int.mul_zero]
    rw [h2, sumTo_zero]
def oneCoefB (n : Nat) : Bool := (List.range n).all fun a => (List.range n).all fun k => !(cnt k == 1) || (sumTo (fun x => if hasB a x = true then (if subB k (2 ^ x) = true then 1 else 0) else 0) 4 == if subB k a = true then 1 else 0)
theorem oneCoef_all : ∀ n ∈ [2, 4, 8, 16], oneCoefB n = true := by decide +kernel
theorem oneCoef_at (h : n = 2 ∨ n = 4 ∨ n = 8 ∨ n = 16) {a k : Nat} (ha : a < n) (hk : k < n) (hc : cnt k = 1) : sumTo (fun x => if hasB a x = true then (if subB k (2 ^ x) = true then 1 else 0) else 0) 4 = if subB k a = true then (1 : Int) else 0 := by
  have h1 := oneCoef_all n (by simp; omega)
  unfold oneCoefB at h1
  have h2 := List.all_eq_true.1 (List.all_eq_true.1 h1 a (by simpa using ha)) k (by simpa using hk)
  simpa [hc] using h2
/-- a table whose parts are those of single answers is additive -/
theorem single_additive (hn : xs.length = n) (h : n = 2 ∨ n = 4 ∨ n = 8 ∨ n = 16) (hp : singleB (sums false true xs) = true) : addB xs = true := by
  have hl : (sums false true xs).length = n := by rw [sums_length, hn]
  refine addB_true hn (fun a ha => ?_)
  rw [table_at hn h ha, part_lin _ hl]
  have h1 : addSum xs a = sumTo (fun x => sumTo (fun k => (sums false true xs).getD k 0 * (if hasB a x = true then (if subB k (2 ^ x) = true then 1 else 0) else 0)) n) 4 := by
    unfold addSum
    refine sumTo_congr 4 (fun x _ => ?_)
    unfold addF
    by_cases hb : hasB a x = true
    · have hx : 2 ^ x < n := Nat.lt_of_le_of_lt (has_le hb) ha
      rw [if_pos hb, table_at hn h hx, part_lin _ hl]
      refine sumTo_congr n (fun k _ => ?_)
      rw [if_pos hb, Int.mul_comm]
    · rw [if_neg hb]
      have h2 : sumTo (fun k => (sums false true xs).getD k 0 * (if hasB a x = true then (if subB k (2 ^ x) = true then 1 else 0) else 0)) n = sumTo (fun _ => 0) n := sumTo_congr n (fun k _ => by rw [if_neg hb, Int.mul_zero])
      rw [h2, sumTo_zero]
  rw [h1, sumTo_swap]
  refine sumTo_congr n (fun k hk => ?_)
  rw [sumTo_mul]
  rcases single_is hl hp k hk with e | e
  · rw [e]; simp
  · rw [oneCoef_at h ha hk e, Int.mul_comm]
end Go.Proofs.Ytapkppnjgbcklaa
