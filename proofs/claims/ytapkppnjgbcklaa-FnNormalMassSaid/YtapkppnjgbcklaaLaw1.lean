/- Plain laws on sums of parts over sets; no program in sight. No condition. -/
import Derived.Test.YtapkppnjgbcklaaMath8
namespace Go.Proofs.Ytapkppnjgbcklaa

theorem sumTo_le {f g : Nat → Int} (n : Nat) (h : ∀ k, k < n → f k ≤ g k) : sumTo f n ≤ sumTo g n := by
  induction n with
  | zero => simp [sumTo]
  | succ n ih =>
    have := ih (fun k hk => h k (by omega))
    have := h n (by omega)
    simp only [sumTo]
    omega
theorem sumTo_add (f g : Nat → Int) (n : Nat) : sumTo (fun k => f k + g k) n = sumTo f n + sumTo g n := by
  induction n with
  | zero => simp [sumTo]
  | succ n ih => simp only [sumTo]; omega
theorem sumTo_mul (c : Int) (f : Nat → Int) (n : Nat) : sumTo (fun k => c * f k) n = c * sumTo f n := by
  induction n with
  | zero => simp [sumTo]
  | succ n ih => simp only [sumTo]; rw [ih, Int.mul_add]
theorem sumTo_zero (n : Nat) : sumTo (fun _ => 0) n = 0 := by
  induction n with
  | zero => rfl
  | succ n ih => simp only [sumTo]; omega
theorem sumTo_swap (f : Nat → Nat → Int) (n m : Nat) : sumTo (fun a => sumTo (fun b => f a b) m) n = sumTo (fun b => sumTo (fun a => f a b) n) m := by
  induction n with
  | zero => simp only [sumTo]; rw [sumTo_zero]
  | succ n ih => simp only [sumTo]; rw [ih, ← sumTo_add]
/-- one index alone counts -/
theorem sumTo_one (v : Int) (c : Nat) : ∀ n : Nat, sumTo (fun k => if k = c then v else 0) n = if c < n then v else 0
  | 0 => by simp [sumTo]
  | n + 1 => by
    simp only [sumTo]
    rw [sumTo_one v c n]
    by_cases h : c < n
    · simp [h, show ¬ n = c by omega, show c < n + 1 by omega]
    · by_cases e : n = c
      · subst e; simp
      · simp [h, e, show ¬ c < n + 1 by omega]
theorem sub_or16 : ∀ a b k : Fin 16, (subB k.val a.val || subB k.val b.val) = true → subB k.val (a.val ||| b.val) = true := by decide +kernel
theorem sub_and16 : ∀ a b k : Fin 16, subB k.val (a.val &&& b.val) = (subB k.val a.val && subB k.val b.val) := by decide +kernel
theorem sub_or {a b k : Nat} (ha : a < 16) (hb : b < 16) (hk : k < 16) (h : subB k a = true ∨ subB k b = true) : subB k (a ||| b) = true := sub_or16 ⟨a, ha⟩ ⟨b, hb⟩ ⟨k, hk⟩ (by simpa using h)
theorem sub_and {a b k : Nat} (ha : a < 16) (hb : b < 16) (hk : k < 16) : subB k (a &&& b) = (subB k a && subB k b) := sub_and16 ⟨a, ha⟩ ⟨b, hb⟩ ⟨k, hk⟩
theorem super16 : ∀ a b k : Fin 16, subB (a.val ||| b.val) k.val = (subB a.val k.val && subB b.val k.val) := by decide +kernel
theorem meet_or16 : ∀ a b k : Fin 16, meetB (a.val ||| b.val) k.val = (meetB a.val k.val || meetB b.val k.val) := by decide +kernel
theorem meet_and16 : ∀ a b k : Fin 16, meetB (a.val &&& b.val) k.val = true → (meetB a.val k.val && meetB b.val k.val) = true := by decide +kernel
theorem sub_trans16 : ∀ a b k : Fin 16, subB a.val b.val = true → subB k.val a.val = true → subB k.val b.val = true := by decide +kernel
variable {xs : List Int} {n a b : Nat}
theorem implied_super (hn : xs.length = n) (h16 : n ≤ 16) (h : ∀ k, k < n → 0 ≤ xs.getD k 0) (ha : a < 16) (hb : b < 16) :
    partOf (fun j => subB j a) xs + partOf (fun j => subB j b) xs ≤ partOf (fun j => subB j (a ||| b)) xs + partOf (fun j => subB j (a &&& b)) xs := by
  simp only [partOf, hn, ← sumTo_add]
  refine sumTo_le n (fun k hk => ?_)
  have h0 := h k hk
  have h1 := sub_or (a := a) (b := b) (k := k) ha hb (by omega)
  have h2 := sub_and (a := a) (b := b) (k := k) ha hb (by omega)
  simp only [partF, h2]
  generalize xs.getD k 0 = v at h0 ⊢
  by_cases p : subB k a = true <;> by_cases q : subB k b = true
  · have h3 := h1 (.inl p); simp [p, q, h3]
  · have h3 := h1 (.inl p); simp [p, q, h3]
  · have h3 := h1 (.inr q); simp [p, q, h3]
  · simp [p, q]; split <;> omega
theorem possible_sub (hn : xs.length = n) (h16 : n ≤ 16) (h : ∀ k, k < n → 0 ≤ xs.getD k 0) (ha : a < 16) (hb : b < 16) :
    partOf (fun j => meetB (a ||| b) j) xs + partOf (fun j => meetB (a &&& b) j) xs ≤ partOf (fun j => meetB a j) xs + partOf (fun j => meetB b j) xs := by
  simp only [partOf, hn, ← sumTo_add]
  refine sumTo_le n (fun k hk => ?_)
  have h0 := h k hk
  have h1 := meet_or16 ⟨a, ha⟩ ⟨b, hb⟩ ⟨k, by omega⟩
  have h2 := meet_and16 ⟨a, ha⟩ ⟨b, hb⟩ ⟨k, by omega⟩
  simp only at h1 h2
  simp only [partF, h1]
  generalize xs.getD k 0 = v at h0 ⊢
  by_cases r : meetB (a &&& b) k = true
  · have h3 := h2 r
    simp only [Bool.and_eq_true] at h3
    simp [h3.1, h3.2, r]
  · by_cases p : meetB a k = true <;> by_cases q : meetB b k = true <;> simp [p, q, r] <;> omega
theorem part_le {p q : Nat → Bool} (hn : xs.length = n) (h : ∀ k, k < n → 0 ≤ xs.getD k 0) (hpq : ∀ k, k < n → p k = true → q k = true) : partOf p xs ≤ partOf q xs := by
  simp only [partOf, hn]
  refine sumTo_le n (fun k hk => ?_)
  have h0 := h k hk
  have h1 := hpq k hk
  simp only [partF]
  generalize xs.getD k 0 = v at h0 ⊢
  by_cases hp : p k = true
  · simp [hp, h1 hp]
  · by_cases hq : q k = true <;> simp [hp, hq, h0]
theorem part_all {p : Nat → Bool} (hn : xs.length = n) (hp : ∀ k, k < n → p k = true) : partOf p xs = sumL xs := by
  simp only [partOf, sumL, hn]
  exact sumTo_congr n (fun k hk => by simp [partF, hp k hk])
end Go.Proofs.Ytapkppnjgbcklaa
