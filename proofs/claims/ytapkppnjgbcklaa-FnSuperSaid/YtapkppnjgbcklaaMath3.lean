/- Plain facts on sums of lists; no program in sight. No condition. -/
import Derived.Test.YtapkppnjgbcklaaMath2
namespace Go.Proofs.Ytapkppnjgbcklaa

def inMost (most x : Int) : Bool := decide (0 ≤ x) && decide (x ≤ most)
/-- the sum of numbers from 0 to most, or -1 -/
def sumMost (xs : List Int) (most : Int) : Int := if xs.all (inMost most) = true then sumL xs else -1
theorem getD_mem {xs : List Int} {k : Nat} (h : k < xs.length) : xs.getD k 0 ∈ xs := by simp [List.getD, h]
theorem all_getD {p : Int → Bool} {xs : List Int} : xs.all p = true ↔ ∀ k, k < xs.length → p (xs.getD k 0) = true := by
  rw [List.all_eq_true]
  constructor
  · exact fun h k hk => h _ (getD_mem hk)
  · intro h x hx
    obtain ⟨k, hk, rfl⟩ := List.getElem_of_mem hx
    have := h k hk
    simpa [List.getD, hk] using this
theorem any_getD {p : Int → Bool} {xs : List Int} : xs.any p = true ↔ ∃ k, k < xs.length ∧ p (xs.getD k 0) = true := by
  rw [List.any_eq_true]
  constructor
  · rintro ⟨x, hx, hp⟩
    obtain ⟨k, hk, rfl⟩ := List.getElem_of_mem hx
    exact ⟨k, hk, by simpa [List.getD, hk] using hp⟩
  · rintro ⟨k, hk, hp⟩
    exact ⟨_, getD_mem hk, hp⟩
theorem any_take_snoc (p : Int → Bool) (xs : List Int) (k : Nat) (h : k < xs.length) : (xs.take (k+1)).any p = ((xs.take k).any p || p (xs.getD k 0)) := by
  rw [take_snoc xs k h]; simp
theorem sumMost_bad {xs : List Int} {most : Int} {k n : Nat} (hn : xs.length = n) (hk : k < n) (h : inMost most (xs.getD k 0) = false) : sumMost xs most = -1 := by
  rw [sumMost, if_neg]
  intro e
  rw [all_getD] at e
  rw [e k (by omega)] at h
  cases h
theorem sumMost_good {xs : List Int} {most : Int} (h : xs.all (inMost most) = true) : sumMost xs most = sumL xs := by rw [sumMost, if_pos h]
theorem over_bound {fac : Nat → Nat → Int} (hf : ∀ i j, -1 ≤ fac i j ∧ fac i j ≤ 1) {xs : List Int} {n : Nat} {M : Int} (hb : ∀ k, k < n → -M ≤ xs.getD k 0 ∧ xs.getD k 0 ≤ M) (i : Nat) :
    -(M * n) ≤ over fac xs n i ∧ over fac xs n i ≤ M * n := by
  refine sumTo_bound n M (fun k hk => ?_)
  have h1 := hb k hk
  have h3 : fac i k = -1 ∨ fac i k = 0 ∨ fac i k = 1 := by have := hf i k; omega
  show -M ≤ xs.getD k 0 * fac i k ∧ xs.getD k 0 * fac i k ≤ M
  rcases h3 with h | h | h
  · rw [h]; omega
  · rw [h]; omega
  · rw [h]; omega
theorem sums_length (ab sg : Bool) (xs : List Int) : (sums ab sg xs).length = xs.length := tab_length _ _
theorem sums_getD (ab sg : Bool) (xs : List Int) (k : Nat) (h : k < xs.length) : (sums ab sg xs).getD k 0 = over (facS ab sg) xs xs.length k := tab_getD _ _ _ h
theorem sums_bound (ab sg : Bool) {xs : List Int} {n : Nat} (hn : xs.length = n) (hn16 : n ≤ 16) {M : Int} (hM : 0 ≤ M) (hb : ∀ k, k < n → -M ≤ xs.getD k 0 ∧ xs.getD k 0 ≤ M) (k : Nat) (hk : k < n) :
    -(16 * M) ≤ (sums ab sg xs).getD k 0 ∧ (sums ab sg xs).getD k 0 ≤ 16 * M := by
  subst hn
  rw [sums_getD ab sg xs k hk]
  have := over_bound (facS_bound ab sg) hb k
  have h2 : M * (xs.length : Int) ≤ M * 16 := Int.mul_le_mul_of_nonneg_left (by omega) hM
  omega
theorem sumTo_nonneg {f : Nat → Int} : ∀ n, (∀ k, k < n → 0 ≤ f k) → 0 ≤ sumTo f n
  | 0, _ => by simp [sumTo]
  | n + 1, h => by
    have := sumTo_nonneg n (fun k hk => h k (by omega))
    have := h n (by omega)
    simp only [sumTo]; omega
theorem sumTo_pos {f : Nat → Int} : ∀ n, (∀ k, k < n → 0 ≤ f k) → (0 < sumTo f n ↔ ∃ k, k < n ∧ 0 < f k)
  | 0, _ => by simp [sumTo]
  | n + 1, h => by
    have h1 := sumTo_pos n (fun k hk => h k (by omega))
    have h2 := h n (by omega)
    have h3 := sumTo_nonneg n (fun k hk => h k (by omega))
    simp only [sumTo]
    constructor
    · intro hp
      by_cases h0 : 0 < f n
      · exact ⟨n, by omega, h0⟩
      · obtain ⟨k, hk, hf⟩ := h1.1 (by omega)
        exact ⟨k, by omega, hf⟩
    · rintro ⟨k, hk, hf⟩
      by_cases e : k = n
      · subst e; omega
      · have := h1.2 ⟨k, by omega, hf⟩
        omega
def nonnegB (x : Int) : Bool := decide (0 ≤ x)
def posB (x : Int) : Bool := decide (0 < x)
/-- no part is negative, and not all are 0 -/
def partsB (p : List Int) : Bool := p.all nonnegB && p.any posB
theorem partsB_sum {p : List Int} {n : Nat} (hn : p.length = n) (hb : ∀ k, k < n → p.getD k 0 ≤ 16000000000) : decide (0 < sumMost p 16000000000) = partsB p := by
  subst hn
  rw [Bool.eq_iff_iff, decide_eq_true_eq, partsB, Bool.and_eq_true]
  by_cases ha : p.all nonnegB = true
  · have ha' := all_getD.1 ha
    have hm : p.all (inMost 16000000000) = true := all_getD.2 (fun k hk => by
      have h1 := ha' k hk
      have h2 := hb k hk
      simp only [nonnegB, decide_eq_true_eq] at h1
      simp only [inMost, Bool.and_eq_true, decide_eq_true_eq]
      exact ⟨h1, h2⟩)
    rw [sumMost_good hm, sumL, sumTo_pos]
    · rw [any_getD]
      simp only [posB, decide_eq_true_eq]
      exact ⟨fun h => ⟨ha, h⟩, fun h => h.2⟩
    · intro k hk
      have h1 := ha' k hk
      simpa [nonnegB] using h1
  · have hm : ¬ p.all (inMost 16000000000) = true := by
      intro h
      apply ha
      rw [all_getD] at h ⊢
      intro k hk
      have := h k hk
      simp only [inMost, Bool.and_eq_true, decide_eq_true_eq] at this
      simp only [nonnegB, decide_eq_true_eq]
      exact this.1
    rw [sumMost, if_neg hm]
    constructor
    · intro h; omega
    · intro h; exact absurd h.1 ha
end Go.Proofs.Ytapkppnjgbcklaa
