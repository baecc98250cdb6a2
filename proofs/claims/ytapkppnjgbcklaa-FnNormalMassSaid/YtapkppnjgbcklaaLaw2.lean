/- Plain laws on masses in lowest terms; no program in sight. No condition. -/
import Derived.Test.YtapkppnjgbcklaaLaw1
namespace Go.Proofs.Ytapkppnjgbcklaa

theorem gcdL_dvd_take (xs : List Int) : ∀ k, k ≤ xs.length → ∀ j, j < k → gcdL (xs.take k) ∣ (xs.getD j 0).natAbs
  | 0, _, j, hj => by omega
  | k + 1, hk, j, hj => by
    rw [gcdL_take xs k (by omega)]
    by_cases h : j = k
    · subst h; exact Nat.gcd_dvd_right _ _
    · exact Nat.dvd_trans (Nat.gcd_dvd_left _ _) (gcdL_dvd_take xs k (by omega) j (by omega))
theorem gcdL_dvd {xs : List Int} {n : Nat} (hn : xs.length = n) (j : Nat) (hj : j < n) : gcdL xs ∣ (xs.getD j 0).natAbs := by
  have := gcdL_dvd_take xs n (by omega) j hj
  rwa [List.take_of_length_le (by omega)] at this
theorem dvd_gcdL_take (d : Nat) (xs : List Int) : ∀ k, k ≤ xs.length → (∀ j, j < k → d ∣ (xs.getD j 0).natAbs) → d ∣ gcdL (xs.take k)
  | 0, _, _ => by simp [gcdL]
  | k + 1, hk, h => by
    rw [gcdL_take xs k (by omega)]
    exact Nat.dvd_gcd (dvd_gcdL_take d xs k (by omega) (fun j hj => h j (by omega))) (h k (by omega))
theorem dvd_gcdL {xs : List Int} {n : Nat} (hn : xs.length = n) (d : Nat) (h : ∀ j, j < n → d ∣ (xs.getD j 0).natAbs) : d ∣ gcdL xs := by
  have := dvd_gcdL_take d xs n (by omega) h
  rwa [List.take_of_length_le (by omega)] at this
theorem low_getD {ps : List Int} {n : Nat} (hn : ps.length = n) (k : Nat) (hk : k < n) : (low ps).getD k 0 = ps.getD k 0 / (gcdL ps : Int) := by
  rw [low_tab hn, tab_getD _ _ _ hk]
/-- what is divided gives what was, times the divisor -/
theorem low_mul {ps : List Int} {n : Nat} (hn : ps.length = n) (k : Nat) (hk : k < n) : (gcdL ps : Int) * (low ps).getD k 0 = ps.getD k 0 := by
  rw [low_getD hn k hk]
  have h := gcdL_dvd hn k hk
  have h2 : (gcdL ps : Int) ∣ ps.getD k 0 := Int.ofNat_dvd_left.2 h
  exact Int.mul_ediv_cancel' h2
theorem low_gcd {ps : List Int} (h : gcdL ps ≠ 0) : gcdL (low ps) = 1 := by
  have hl : (low ps).length = ps.length := low_length ps
  have h1 : gcdL ps * gcdL (low ps) ∣ gcdL ps := by
    refine dvd_gcdL rfl _ (fun j hj => ?_)
    have h2 := gcdL_dvd hl j hj
    have h3 := low_mul rfl j hj
    have h4 : (ps.getD j 0).natAbs = gcdL ps * ((low ps).getD j 0).natAbs := by
      rw [← h3, Int.natAbs_mul]; simp
    rw [h4]
    exact Nat.mul_dvd_mul_left _ h2
  have h5 : 0 < gcdL ps := Nat.pos_of_ne_zero h
  have h6 := Nat.le_of_dvd h5 h1
  have h7 : gcdL (low ps) ≤ 1 := by
    rcases Nat.lt_or_ge 1 (gcdL (low ps)) with h8 | h8
    · have : gcdL ps * 2 ≤ gcdL ps * gcdL (low ps) := Nat.mul_le_mul_left _ h8
      omega
    · exact h8
  have h9 : gcdL (low ps) ≠ 0 := by
    intro h0
    apply h
    have : 0 ∣ gcdL ps := by
      refine dvd_gcdL rfl _ (fun j hj => ?_)
      have h2 := gcdL_dvd hl j hj
      rw [h0] at h2
      have h3 := low_mul rfl j hj
      have h4 : ((low ps).getD j 0).natAbs = 0 := Nat.eq_zero_of_zero_dvd h2
      have h5 : (low ps).getD j 0 = 0 := by omega
      rw [h5] at h3
      rw [← h3]; simp
    exact Nat.eq_zero_of_zero_dvd this
  omega
theorem sumL_mul_low {ps : List Int} : (gcdL ps : Int) * sumL (low ps) = sumL ps := by
  unfold sumL
  rw [low_length, ← sumTo_mul]
  exact sumTo_congr _ (fun k hk => low_mul rfl k hk)
theorem gcdL_zero_all {ps : List Int} {n : Nat} (hn : ps.length = n) (h : gcdL ps = 0) (k : Nat) (hk : k < n) : ps.getD k 0 = 0 := by
  have h1 := gcdL_dvd hn k hk
  rw [h] at h1
  have := Nat.eq_zero_of_zero_dvd h1
  omega
theorem sum_of_zero {ps : List Int} {n : Nat} (hn : ps.length = n) (h : gcdL ps = 0) : sumL ps = 0 := by
  unfold sumL
  rw [hn, sumTo_congr (g := fun _ => 0) n (fun k hk => gcdL_zero_all hn h k hk), sumTo_zero]
/-- parts that are no mass yet but for their divisor: what is divided is one -/
theorem low_mass {s : Int} {ps : List Int} {n : Nat} (hs : sizeB s = true) (hf : fitB s n = true) (hn : ps.length = n) (hp : ∀ k, k < n → 0 ≤ ps.getD k 0 ∧ ps.getD k 0 ≤ 1000000) (hw : 1 ≤ sumL ps ∧ sumL ps ≤ 1000000) :
    gcdL ps ≠ 0 ∧ massB s (low ps) = true := by
  have hg : gcdL ps ≠ 0 := fun h => by have := sum_of_zero hn h; omega
  refine ⟨hg, ?_⟩
  have hgp : (1 : Int) ≤ (gcdL ps : Int) := by have := Nat.pos_of_ne_zero hg; omega
  have hll : (low ps).length = n := by rw [low_length]; exact hn
  have hsum := sumL_mul_low (ps := ps)
  have hq : ∀ k, k < n → 0 ≤ (low ps).getD k 0 ∧ (low ps).getD k 0 ≤ 1000000 := fun k hk => by
    rw [low_getD hn k hk]
    have := hp k hk
    have h1 := Int.ediv_nonneg this.1 (show (0 : Int) ≤ (gcdL ps : Int) by omega)
    have h2 := Int.ediv_le_self (gcdL ps : Int) this.1
    omega
  have hs0 : 0 ≤ sumL (low ps) := by
    unfold sumL
    rw [hll]
    exact sumTo_nonneg _ (fun k hk => (hq k hk).1)
  have hw2 : 1 ≤ sumL (low ps) ∧ sumL (low ps) ≤ 1000000 := by
    have h0 : sumL (low ps) ≠ 0 := fun h => by rw [h] at hsum; simp at hsum; omega
    refine ⟨by omega, ?_⟩
    have := Int.mul_le_mul_of_nonneg_right hgp hs0
    omega
  rw [massB_of hll hs hf (by
    rw [all_getD]
    intro k hk
    have := hq k (by omega)
    simpa [inMost] using this), low_gcd hg]
  simp [wholeB, hw2]
theorem low_one {ps : List Int} (h : gcdL ps = 1) : low ps = ps := by
  rw [low, h]; simp
theorem noNone_getD {xs : List Int} {n : Nat} (hn : xs.length = n) (k : Nat) (hk : k < n) : (noNone xs).getD k 0 = if k = 0 then 0 else xs.getD k 0 := by
  unfold noNone
  simp only [List.getD, List.getElem?_set]
  by_cases h : k = 0
  · subst h
    have : 0 < xs.length := by omega
    simp [this]
  · simp [h, Ne.symm h]
theorem noNone_self {xs : List Int} (h : xs.getD 0 0 = 0) : noNone xs = xs := by
  unfold noNone
  cases xs with
  | nil => rfl
  | cons x t => simp at h; simp [h]
theorem sum_split (f : Nat → Int) : ∀ n, 1 ≤ n → sumTo f n = f 0 + sumTo (fun k => if k = 0 then 0 else f k) n
  | 0, h => by omega
  | 1, _ => by simp [sumTo]
  | n + 2, _ => by
    have := sum_split f (n + 1) (by omega)
    simp only [sumTo] at *
    simp
    omega
theorem noNone_sum {xs : List Int} {n : Nat} (hn : xs.length = n) (h1 : 1 ≤ n) : sumL (noNone xs) = sumL xs - xs.getD 0 0 := by
  have h2 := sum_split (fun k => xs.getD k 0) n h1
  have h3 : sumL (noNone xs) = sumTo (fun k => if k = 0 then 0 else xs.getD k 0) n := by
    unfold sumL
    rw [show (noNone xs).length = n by simp [noNone, hn]]
    exact sumTo_congr n (fun k hk => noNone_getD hn k hk)
  rw [h3]
  unfold sumL
  rw [hn]
  omega
end Go.Proofs.Ytapkppnjgbcklaa
