/- Plain laws on sums with signs: common and possible parts tell each other; belief and possibility are dual. No condition. -/
import Derived.Test.YtapkppnjgbcklaaLaw3
namespace Go.Proofs.Ytapkppnjgbcklaa

variable {xs : List Int} {n : Nat}
theorem lin_swap (c : Nat → Int) (p : Nat → Nat → Bool) (m : Nat) (hn : xs.length = n) :
    sumTo (fun b => c b * partOf (p b) xs) m = sumTo (fun k => sumTo (fun b => if p b k = true then c b else 0) m * xs.getD k 0) n := by
  simp only [partOf, hn, ← sumTo_mul]
  rw [sumTo_swap]
  refine sumTo_congr n (fun k _ => ?_)
  rw [← sumTo_mul_right]
  refine sumTo_congr m (fun b _ => ?_)
  simp only [partF]
  split <;> simp
theorem part_lin (p : Nat → Bool) (hn : xs.length = n) : partOf p xs = sumTo (fun k => (if p k = true then 1 else 0) * xs.getD k 0) n := by
  simp only [partOf, hn]
  refine sumTo_congr n (fun k _ => ?_)
  simp only [partF]
  split <;> simp
/-- the subsets of a set, ascending -/
def subsN (a : Nat) : List Nat := (List.range (a + 1)).filter (fun b => subB b a)
def subAt (a i : Nat) : Nat := (subsN a).getD i 0
def wgt (b : Nat) : Int := if b = 0 then 0 else - sgn b
theorem moeb_possible : ∀ a k : Fin 16, sumTo (fun b => if subB (subAt a.val b) k.val = true then wgt (subAt a.val b) else 0) (subsN a.val).length = if meetB a.val k.val = true then 1 else 0 := by decide +kernel
theorem moeb_common : ∀ a k : Fin 16, a.val ≠ 0 → sumTo (fun b => if meetB (subAt a.val b) k.val = true then wgt (subAt a.val b) else 0) (subsN a.val).length = if subB a.val k.val = true then 1 else 0 := by decide +kernel
/-- what is possible is the sum of what is common, with signs -/
theorem possible_common (hn : xs.length = n) (h16 : n ≤ 16) {a : Nat} (ha : a < 16) :
    sumTo (fun b => wgt (subAt a b) * partOf (fun j => subB (subAt a b) j) xs) (subsN a).length = partOf (fun j => meetB a j) xs := by
  rw [lin_swap (fun b => wgt (subAt a b)) (fun b j => subB (subAt a b) j) _ hn, part_lin _ hn]
  exact sumTo_congr n (fun k hk => by rw [moeb_possible ⟨a, ha⟩ ⟨k, by omega⟩])
/-- what is common is the sum of what is possible, with signs -/
theorem common_possible (hn : xs.length = n) (h16 : n ≤ 16) {a : Nat} (ha : a < 16) (h0 : a ≠ 0) :
    sumTo (fun b => wgt (subAt a b) * partOf (fun j => meetB (subAt a b) j) xs) (subsN a).length = partOf (fun j => subB a j) xs := by
  rw [lin_swap (fun b => wgt (subAt a b)) (fun b j => meetB (subAt a b) j) _ hn, part_lin _ hn]
  exact sumTo_congr n (fun k hk => by rw [moeb_common ⟨a, ha⟩ ⟨k, by omega⟩ h0])
theorem one_meet : ∀ x : Fin 4, ∀ k : Fin 16, meetB (2 ^ x.val) k.val = subB (2 ^ x.val) k.val := by decide +kernel
theorem part_congr {p q : Nat → Bool} (hn : xs.length = n) (h : ∀ k, k < n → p k = q k) : partOf p xs = partOf q xs := by
  simp only [partOf, hn]
  exact sumTo_congr n (fun k hk => by simp only [partF, h k hk])
theorem contour_common (hn : xs.length = n) (h16 : n ≤ 16) {x : Nat} (hx : x < 4) : partOf (fun j => meetB (2 ^ x) j) xs = partOf (fun j => subB (2 ^ x) j) xs :=
  part_congr hn (fun k hk => one_meet ⟨x, hx⟩ ⟨k, by omega⟩)
theorem dual2 : ∀ a k : Fin 2, meetB a.val k.val = !subB k.val (1 - a.val) := by decide +kernel
theorem dual4 : ∀ a k : Fin 4, meetB a.val k.val = !subB k.val (3 - a.val) := by decide +kernel
theorem dual8 : ∀ a k : Fin 8, meetB a.val k.val = !subB k.val (7 - a.val) := by decide +kernel
theorem dual16 : ∀ a k : Fin 16, meetB a.val k.val = !subB k.val (15 - a.val) := by decide +kernel
theorem dual_at (h : n = 2 ∨ n = 4 ∨ n = 8 ∨ n = 16) {a k : Nat} (ha : a < n) (hk : k < n) : meetB a k = !subB k (n - 1 - a) := by
  rcases h with rfl | rfl | rfl | rfl
  · exact dual2 ⟨a, ha⟩ ⟨k, hk⟩
  · exact dual4 ⟨a, ha⟩ ⟨k, hk⟩
  · exact dual8 ⟨a, ha⟩ ⟨k, hk⟩
  · exact dual16 ⟨a, ha⟩ ⟨k, hk⟩
/-- belief and possibility are dual -/
theorem possible_dual (hn : xs.length = n) (h : n = 2 ∨ n = 4 ∨ n = 8 ∨ n = 16) {a : Nat} (ha : a < n) :
    partOf (fun j => meetB a j) xs + partOf (fun j => subB j (n - 1 - a)) xs = sumL xs := by
  simp only [partOf, sumL, hn, ← sumTo_add]
  refine sumTo_congr n (fun k hk => ?_)
  rw [partF, partF, dual_at h ha hk]
  by_cases p : subB k (n - 1 - a) = true <;> simp [p]
theorem sub_meet16 : ∀ a k : Fin 16, k.val ≠ 0 → subB k.val a.val = true → meetB a.val k.val = true := by decide +kernel
/-- what is believed is possible -/
theorem believed_possible (hn : xs.length = n) (h1 : 1 ≤ n) (h16 : n ≤ 16) (h : ∀ k, k < n → 0 ≤ xs.getD k 0) {a : Nat} (ha : a < 16) :
    partOf (fun j => subB j a) xs - xs.getD 0 0 ≤ partOf (fun j => meetB a j) xs := by
  have h2 : partOf (fun j => subB j a) xs ≤ partOf (fun j => meetB a j) xs + sumTo (fun k => if k = 0 then xs.getD 0 0 else 0) n := by
    simp only [partOf, hn, ← sumTo_add]
    refine sumTo_le n (fun k hk => ?_)
    have h0 := h k hk
    have h3 := sub_meet16 ⟨a, ha⟩ ⟨k, by omega⟩
    simp only at h3
    by_cases e : k = 0
    · subst e
      simp only [partF, if_pos]
      generalize xs.getD 0 0 = v at h0 ⊢
      split <;> split <;> omega
    · simp only [partF, e, if_false]
      generalize xs.getD k 0 = v at h0 ⊢
      by_cases p : subB k a = true
      · simp [p, h3 e p]
      · simp [p]; split <;> omega
  rw [sumTo_one] at h2
  simp only [show 0 < n by omega, if_true] at h2
  omega
/-- single answers alone have parts -/
def singleB (xs : List Int) : Bool := decide (∀ k, k < xs.length → xs.getD k 0 = 0 ∨ cnt k = 1)
theorem single_is {xs : List Int} (hn : xs.length = n) (h : singleB xs = true) (k : Nat) (hk : k < n) : xs.getD k 0 = 0 ∨ cnt k = 1 := by
  subst hn
  exact (of_decide_eq_true h) k hk
theorem one_sub16 : ∀ a k : Fin 16, cnt k.val = 1 → subB k.val a.val = meetB a.val k.val := by decide +kernel
theorem single_even (hn : xs.length = n) (h1 : 1 ≤ n) (h16 : n ≤ 16) (h : singleB xs = true) {a : Nat} (ha : a < 16) :
    partOf (fun j => subB j a) xs - xs.getD 0 0 = partOf (fun j => meetB a j) xs := by
  have h0 : xs.getD 0 0 = 0 := by
    rcases single_is hn h 0 (by omega) with e | e
    · exact e
    · simp [cnt] at e
  rw [h0, Int.sub_zero]
  simp only [partOf, hn]
  refine sumTo_congr n (fun k hk => ?_)
  rcases single_is hn h k hk with e | e
  · simp only [partF, e]; simp
  · have := one_sub16 ⟨a, ha⟩ ⟨k, by omega⟩ e
    simp only at this
    simp only [partF, this]
end Go.Proofs.Ytapkppnjgbcklaa
