/- Plain laws of normal masses: proportions, what is normal does not change. No condition. -/
import Derived.Test.YtapkppnjgbcklaaLaw8
import Derived.Test.YtapkppnjgbcklaaLaw2
namespace Go.Proofs.Ytapkppnjgbcklaa

variable {xs : List Int} {n : Nat} {s : Int}
theorem noNone_length (xs : List Int) : (noNone xs).length = xs.length := by simp [noNone]
theorem makeM_some {s t : Int} {ps ys : List Int} (h : makeM s ps = some (t, ys)) : t = s ∧ ys = low ps ∧ gcdL ps ≠ 0 ∧ massB s ys = true := by
  unfold makeM at h
  split at h
  · cases h
  · next hg =>
    split at h
    · next hm =>
      simp only [Option.some.injEq, Prod.mk.injEq] at h
      obtain ⟨rfl, rfl⟩ := h
      exact ⟨rfl, rfl, hg, hm⟩
    · cases h
theorem makeM_self {s : Int} {ys : List Int} (hm : massB s ys = true) : makeM s ys = some (s, ys) := by
  have hI := massB_is rfl hm
  have h1 : low ys = ys := low_one hI.gcd
  rw [makeM_yes (by rw [hI.gcd]; decide) (by rw [h1]; exact hm), h1]
/-- without the part of the set without answers there is a mass, unless that is all -/
theorem normal_none (hm : massB s xs = true) (h : normalR s xs = none) : xs.getD 0 0 = sumL xs := by
  have hI := massB_is rfl hm
  have hn1 : 1 ≤ xs.length := by have := hI.nums; omega
  have hs := noNone_sum (xs := xs) rfl hn1
  have hl : (noNone xs).length = xs.length := noNone_length xs
  have h0 := hI.part 0 (by omega)
  rcases Int.lt_or_le 0 (sumL (noNone xs)) with hp | hp
  · exfalso
    have hg : gcdL (noNone xs) ≠ 0 := fun e => by have := sum_of_zero rfl e; omega
    have hpart : ∀ k, k < xs.length → 0 ≤ (noNone xs).getD k 0 ∧ (noNone xs).getD k 0 ≤ 1000000 := fun k hk => by
      rw [noNone_getD rfl k hk]
      split
      · omega
      · exact hI.part k hk
    have hw := hI.whole
    have hmm := low_mass hI.size hI.fit hl hpart ⟨by omega, by omega⟩
    rw [show normalR s xs = makeM s (noNone xs) from if_pos hm] at h
    rw [makeM_yes hg hmm.2] at h
    cases h
  · have hnn : 0 ≤ sumL (noNone xs) := by
      unfold sumL
      refine sumTo_nonneg _ (fun k hk => ?_)
      rw [hl] at hk
      rw [noNone_getD rfl k hk]
      split
      · omega
      · exact (hI.part k hk).1
    omega
structure Normal (s : Int) (n : Nat) (xs ys : List Int) : Prop where
  len : ys.length = n
  mass : massB s ys = true
  zero : ys.getD 0 0 = 0
  prop : ∀ a f, 1 ≤ a → a < n → f < n → ys.getD f 0 ≠ 0 → xs.getD a 0 * ys.getD f 0 = ys.getD a 0 * xs.getD f 0
  again : normalR s ys = some (s, ys)
  same : ((s == s) && eqB ys xs) = normB s xs
theorem normal_some {t : Int} {ys : List Int} (hn : xs.length = n) (hm : massB s xs = true) (h : normalR s xs = some (t, ys)) : t = s ∧ Normal s n xs ys := by
  have hI := massB_is hn hm
  have hn1 : 1 ≤ n := by have := hI.nums; omega
  rw [show normalR s xs = makeM s (noNone xs) from if_pos hm] at h
  obtain ⟨rfl, rfl, hg, hmk⟩ := makeM_some h
  have hl : (noNone xs).length = n := by rw [noNone_length, hn]
  have hz : (low (noNone xs)).getD 0 0 = 0 := by
    rw [low_getD hl 0 (by omega), noNone_getD hn 0 (by omega)]
    simp
  have hmul : ∀ k, k < n → k ≠ 0 → (gcdL (noNone xs) : Int) * (low (noNone xs)).getD k 0 = xs.getD k 0 := fun k hk h0 => by
    rw [low_mul hl k hk, noNone_getD hn k hk, if_neg h0]
  refine ⟨rfl, ⟨by rw [low_length, hl], hmk, hz, fun a f ha han hf hnz => ?_, ?_, ?_⟩⟩
  · have hf0 : f ≠ 0 := fun e => by subst e; exact hnz hz
    rw [← hmul a han (by omega), ← hmul f hf hf0]
    rw [Int.mul_assoc, Int.mul_left_comm]
  · rw [show normalR t (low (noNone xs)) = makeM t (noNone (low (noNone xs))) from if_pos hmk, noNone_self hz]
    exact makeM_self hmk
  · unfold normB
    rw [hm]
    by_cases h0 : xs.getD 0 0 = 0
    · have e1 : noNone xs = xs := noNone_self h0
      rw [e1, low_one hI.gcd, h0]
      simp [eqB_self]
    · have hne : eqB (low (noNone xs)) xs = false := by
        simp only [eqB, decide_eq_false_iff_not]
        intro e
        rw [e] at hz
        exact h0 hz
      rw [hne]
      simp only [Bool.and_false, Bool.true_and]
      symm
      simpa using h0
theorem focal_first (hn : xs.length = n) (hm : massB s xs = true) : 0 < (focL xs n).length := by
  have hI := massB_is hn hm
  rcases Nat.eq_zero_or_pos (focL xs n).length with h | h
  · exfalso
    have hnil : focL xs n = [] := List.length_eq_zero_iff.1 h
    have hz : ∀ k, k < n → xs.getD k 0 = 0 := fun k hk => by
      by_cases e : xs.getD k 0 = 0
      · exact e
      · have := (mem_focL n).2 ⟨hk, e⟩
        rw [hnil] at this
        cases this
    have hs : sumL xs = 0 := by
      unfold sumL
      rw [hn, sumTo_congr (g := fun _ => 0) n hz, sumTo_zero]
    have := hI.whole
    omega
  · exact h
end Go.Proofs.Ytapkppnjgbcklaa
