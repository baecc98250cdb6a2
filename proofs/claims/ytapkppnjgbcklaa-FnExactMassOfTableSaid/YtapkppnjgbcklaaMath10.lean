/- Plain facts on the kinds of tables; no program in sight. No condition. -/
import Derived.Test.YtapkppnjgbcklaaMath9
namespace Go.Proofs.Ytapkppnjgbcklaa

/-- the kind of a table: implied, believed, possible, common; 4 for none -/
def kindN (kd : ByteArray) : Nat :=
  if kd.toList = [105, 109, 112, 108, 105, 101, 100] then 0 else if kd.toList = [98, 101, 108, 105, 101, 118, 101, 100] then 1 else if kd.toList = [112, 111, 115, 115, 105, 98, 108, 101] then 2 else if kd.toList = [99, 111, 109, 109, 111, 110] then 3 else 4
theorem kind_cases (kd : ByteArray) : kd.toList = [105, 109, 112, 108, 105, 101, 100] ∨ kd.toList = [98, 101, 108, 105, 101, 118, 101, 100] ∨ kd.toList = [112, 111, 115, 115, 105, 98, 108, 101] ∨ kd.toList = [99, 111, 109, 109, 111, 110] ∨ (kd.toList ≠ [105, 109, 112, 108, 105, 101, 100] ∧ kd.toList ≠ [98, 101, 108, 105, 101, 118, 101, 100] ∧ kd.toList ≠ [112, 111, 115, 115, 105, 98, 108, 101] ∧ kd.toList ≠ [99, 111, 109, 109, 111, 110]) := by
  by_cases h0 : kd.toList = [105, 109, 112, 108, 105, 101, 100]
  · exact .inl h0
  · by_cases h1 : kd.toList = [98, 101, 108, 105, 101, 118, 101, 100]
    · exact .inr (.inl h1)
    · by_cases h2 : kd.toList = [112, 111, 115, 115, 105, 98, 108, 101]
      · exact .inr (.inr (.inl h2))
      · by_cases h3 : kd.toList = [99, 111, 109, 109, 111, 110]
        · exact .inr (.inr (.inr (.inl h3)))
        · exact .inr (.inr (.inr (.inr ⟨h0, h1, h2, h3⟩)))
theorem kind0 {kd : ByteArray} (h : kd.toList = [105, 109, 112, 108, 105, 101, 100]) : kindN kd = 0 := by unfold kindN; rw [h]; rfl
theorem kind1 {kd : ByteArray} (h : kd.toList = [98, 101, 108, 105, 101, 118, 101, 100]) : kindN kd = 1 := by unfold kindN; rw [h]; rfl
theorem kind2 {kd : ByteArray} (h : kd.toList = [112, 111, 115, 115, 105, 98, 108, 101]) : kindN kd = 2 := by unfold kindN; rw [h]; rfl
theorem kind3 {kd : ByteArray} (h : kd.toList = [99, 111, 109, 109, 111, 110]) : kindN kd = 3 := by unfold kindN; rw [h]; rfl
theorem kind4 {kd : ByteArray} (h0 : kd.toList ≠ [105, 109, 112, 108, 105, 101, 100]) (h1 : kd.toList ≠ [98, 101, 108, 105, 101, 118, 101, 100]) (h2 : kd.toList ≠ [112, 111, 115, 115, 105, 98, 108, 101]) (h3 : kd.toList ≠ [99, 111, 109, 109, 111, 110]) : kindN kd = 4 := by
  unfold kindN
  rw [if_neg h0, if_neg h1, if_neg h2, if_neg h3]
/-- what TableOf returns -/
def tabB (s : Int) (xs : List Int) (kd : ByteArray) : Bool := massB s xs && decide (kindN kd < 4)
def tabT (s : Int) (xs : List Int) (kd : ByteArray) : List Int := if tabB s xs kd = true then tableL (kindN kd) xs else []
def tabN (s : Int) (xs : List Int) (kd : ByteArray) : Nat := if tabB s xs kd = true then xs.length else 0
theorem tabN_le (s : Int) (xs : List Int) (kd : ByteArray) : tabN s xs kd ≤ xs.length := by
  unfold tabN; split <;> omega
theorem tab_yes {s : Int} {xs : List Int} {kd : ByteArray} {j n : Nat} (hn : xs.length = n) (hm : massB s xs = true) (hk : kindN kd = j) (hj : j < 4) : tabN s xs kd = n ∧ tabT s xs kd = tab n (measK j xs) := by
  have h : tabB s xs kd = true := by simp [tabB, hm, hk, hj]
  exact ⟨by rw [tabN, if_pos h, hn], by rw [tabT, if_pos h, hk, tableL, hn]⟩
theorem tab_no {s : Int} {xs : List Int} {kd : ByteArray} (h : massB s xs = false ∨ kindN kd = 4) : tabN s xs kd = 0 ∧ tabT s xs kd = [] := by
  have h : ¬ tabB s xs kd = true := by rcases h with h | h <;> simp [tabB, h]
  exact ⟨if_neg h, if_neg h⟩
end Go.Proofs.Ytapkppnjgbcklaa
