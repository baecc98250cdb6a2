/- Plain laws of turned masses: negation exchanges what is implied and what is common. No condition. -/
import Derived.Test.YtapkppnjgbcklaaLaw6
import Derived.Test.YtapkppnjgbcklaaMath12
namespace Go.Proofs.Ytapkppnjgbcklaa

variable {xs : List Int} {n : Nat} {s : Int}
def mirror2B (n : Nat) : Bool := (List.range n).all fun a => (List.range n).all fun k => (subB (n - 1 - k) a == subB (n - 1 - a) k) && (eitherB (n - 1 - a) (n - 1 - k) == eitherB a k)
theorem mirror2_all : ∀ n ∈ [2, 4, 8, 16], mirror2B n = true := by decide +kernel
theorem mirror2_at (h : n = 2 ∨ n = 4 ∨ n = 8 ∨ n = 16) {a k : Nat} (ha : a < n) (hk : k < n) : subB (n - 1 - k) a = subB (n - 1 - a) k ∧ eitherB (n - 1 - a) (n - 1 - k) = eitherB a k := by
  have h1 := mirror2_all n (by simp; omega)
  unfold mirror2B at h1
  have h2 := List.all_eq_true.1 (List.all_eq_true.1 h1 a (by simpa using ha)) k (by simpa using hk)
  simpa using h2
theorem implied_turned (hn : xs.length = n) (h : n = 2 ∨ n = 4 ∨ n = 8 ∨ n = 16) {a : Nat} (ha : a < n) :
    partOf (fun j => subB j a) (turned xs) = partOf (fun j => subB (n - 1 - a) j) xs := by
  unfold partOf
  rw [turned_length, hn, ← sumTo_turn]
  refine sumTo_congr n (fun k hk => ?_)
  unfold partF
  rw [turned_getD hn _ (by omega), show n - 1 - (n - 1 - k) = k by omega]
  simp only [(mirror2_at h ha hk).1]
theorem turned_mass (hm : massB s xs = true) : massB s (turned xs) = true := by
  have hI := massB_is rfl hm
  have hl : (turned xs).length = xs.length := turned_length xs
  have ha : (turned xs).all (inMost 1000000) = true := by
    rw [all_getD]
    intro k hk
    rw [hl] at hk
    rw [turned_getD rfl k hk]
    have h1 := hI.part (xs.length - 1 - k) (by omega)
    unfold inMost
    simp only [Bool.and_eq_true, decide_eq_true_eq]
    exact h1
  have hx : xs.all (inMost 1000000) = true := by
    unfold massB at hm
    simp only [Bool.and_eq_true] at hm
    exact hm.1.1.2
  rw [massB_of (s := s) (n := xs.length) rfl hI.size hI.fit hx] at hm
  rw [massB_of (s := s) (n := xs.length) hl hI.size hI.fit ha, sumL_turned, gcdL_turned]
  exact hm
/-- the pairs of sets with parts -/
theorem nest_iff : nestB s xs = true ↔ massB s xs = true ∧ ∀ a, a < xs.length → ∀ b, b < xs.length → xs.getD a 0 ≠ 0 → xs.getD b 0 ≠ 0 → eitherB a b = true := by
  unfold nestB
  simp only [Bool.and_eq_true, List.all_eq_true, mem_focL]
  constructor
  · rintro ⟨h1, h2⟩
    exact ⟨h1, fun a ha b hb ha0 hb0 => h2 a ⟨ha, ha0⟩ b ⟨hb, hb0⟩⟩
  · rintro ⟨h1, h2⟩
    exact ⟨h1, fun a ha b hb => h2 a ha.1 b hb.1 ha.2 hb.2⟩
theorem nest_turned (hm : massB s xs = true) : nestB s (turned xs) = nestB s xs := by
  have hI := massB_is rfl hm
  have hl : (turned xs).length = xs.length := turned_length xs
  rw [Bool.eq_iff_iff, nest_iff, nest_iff, hl]
  constructor
  · rintro ⟨_, h2⟩
    refine ⟨hm, fun a ha b hb ha0 hb0 => ?_⟩
    rw [← (mirror2_at hI.nums ha hb).2]
    refine h2 _ (by omega) _ (by omega) ?_ ?_
    · rw [turned_getD rfl _ (by omega), show xs.length - 1 - (xs.length - 1 - a) = a by omega]; exact ha0
    · rw [turned_getD rfl _ (by omega), show xs.length - 1 - (xs.length - 1 - b) = b by omega]; exact hb0
  · rintro ⟨_, h2⟩
    refine ⟨turned_mass hm, fun a ha b hb ha0 hb0 => ?_⟩
    rw [turned_getD rfl a ha] at ha0
    rw [turned_getD rfl b hb] at hb0
    rw [← (mirror2_at hI.nums ha hb).2]
    exact h2 _ (by omega) _ (by omega) ha0 hb0
end Go.Proofs.Ytapkppnjgbcklaa
