/- Contract of ParseMass, of the reference. -/
import Derived.Test.YtlfajalhoifliaaGreatDoorW77
namespace Go.Proofs.YtlfajalhoifliaaGreatDoor
open Go.RowKit

theorem good_size {l : List UInt8} {p : Int × List Int} (h : Good l p) : sizeB p.1 = true := (massB_is rfl h.1).size
theorem good_len {l : List UInt8} {p : Int × List Int} (h : Good l p) : p.2.length = 2 ^ p.1.toNat := by
  have hI := massB_is rfl h.1
  have hf := hI.fit
  have hs := hI.size
  simp only [fitB, decide_eq_true_eq] at hf
  rcases size_cases hs with h1 | h1 | h1 | h1 <;> (rw [h1] at hf ⊢; simp at hf ⊢; omega)
/-- what is known when a text is cut at its colon into two -/
structure Cut2 (l p0 p1 : List UInt8) : Prop where
  ne : l ≠ []
  good : ∀ q, Good l q → p0 = Go.Lib.decDigits q.1.toNat ∧ p1 = partsL q.2 q.2.length
theorem cut2_of {l p0 p1 : List UInt8} (h : cutL 58 l = [p0, p1]) : Cut2 l p0 p1 := ⟨fun e => by rw [e] at h; simp [cutL] at h, fun q hq => by
  have h1 := fmtT_cut hq.1
  rw [← hq.2, h] at h1
  simpa using h1⟩
theorem parR_short {l : List UInt8} (h : (cutL 58 l).length ≠ 2) : parR l = none := parR_no fun q hq => h (by rw [hq.2, fmtT_cut hq.1]; rfl)
/-- how far the parts are read: m the size, N = 2 ^ m, L the entries -/
def ReadInv (l : List UInt8) (m N : Nat) (L : List (List UInt8)) (k : Nat) (xs : List Int) : Prop :=
  ∀ q, Good l q → q.1 = m ∧ q.2.length = N ∧ L = (focL q.2 N).map (entL q.2) ∧ xs = putTo q.2 N k
theorem ReadInv.start {l p0 p1 : List UInt8} (hc : Cut2 l p0 p1) {v : Int} {m N : Nat} {ok : Bool} (hv : ∀ u : Nat, u ≤ 1000000000 → p0 = Go.Lib.decDigits u → v = u ∧ ok = true) (hm : v = m) (hN : N = 2 ^ m) : ReadInv l m N (cutL 44 p1) 0 (List.replicate N 0) := fun q hq => by
  have h1 := hc.good q hq
  have hs := size_cases (good_size hq)
  have h2 := hv q.1.toNat (by omega) h1.1
  have h3 : q.1 = m := by omega
  have h4 : q.2.length = N := by rw [good_len hq, hN, h3]; simp
  refine ⟨h3, h4, ?_, ?_⟩
  · rw [h1.2, partsL_cut hq.1, h4]
  · rw [putTo_zero]
theorem ReadInv.entry {l : List UInt8} {m N k : Nat} {L : List (List UInt8)} {xs : List Int} (h : ReadInv l m N L k xs) (hk : k < L.length) (hN : N ≤ 16) {v : Nat} {x : Int} {R : Prop}
    (hE : ∀ (ys : List Int) (j : Nat), j < 16 → 0 ≤ ys.getD j 0 ∧ ys.getD j 0 ≤ 1000000 → L.getD k [] = entL ys j → v = j ∧ x = ys.getD j 0 ∧ R) :
    ∀ q, Good l q → v < N ∧ R ∧ xs.set v x = putTo q.2 N (k + 1) := fun q hq => by
  obtain ⟨h1, h2, h3, h4⟩ := h q hq
  have hI := massB_is h2 hq.1
  have hkf : k < (focL q.2 N).length := by rw [h3] at hk; simpa using hk
  have hat := focL_at hkf
  have hg : L.getD k [] = entL q.2 ((focL q.2 N).getD k 0) := by
    rw [h3]; simp [List.getD, hkf]
  have h5 := hE q.2 _ (by omega) (hI.part _ hat.1) hg
  refine ⟨by rw [h5.1]; exact hat.1, h5.2.2, ?_⟩
  have h6 := putTo_step (xs := q.2) (n := N) (i := k) (by rw [h2]; exact hkf)
  rw [h6, h2, ← h4, ← h5.1, h5.2.1, ← h5.1]
theorem ReadInv.bad {l : List UInt8} (h : ∀ q, Good l q → False) : parR l = none := parR_no h
theorem ReadInv.last {l : List UInt8} {m N : Nat} {L : List (List UInt8)} {xs : List Int} (h : ReadInv l m N L L.length xs) : ∀ q, Good l q → q = ((m : Int), xs) := fun q hq => by
  obtain ⟨h1, h2, h3, h4⟩ := h q hq
  have hl : L.length = (focL q.2 N).length := by rw [h3]; simp
  have h5 := putTo_all q.2
  rw [h2, ← hl, ← h4] at h5
  exact Prod.ext h1 h5.symm
theorem good_of {l : List UInt8} {p0 p1 : List UInt8} (hc : Cut2 l p0 p1) {m : Int} {xs : List Int} (h : l = fmtT m xs) : Good l (m, xs) := by
  refine ⟨?_, h⟩
  by_cases hm : massB m xs = true
  · exact hm
  · rw [fmtT, if_neg hm] at h
    exact absurd h hc.ne
theorem setB_lt {m N : Nat} (hm : 1 ≤ m ∧ m ≤ 4) (hN : N = 2 ^ m) (v : Nat) : setB (m : Int) (v : Int) = decide (v < N) := by
  subst hN
  obtain ⟨h1, h4⟩ := hm
  have : m = 1 ∨ m = 2 ∨ m = 3 ∨ m = 4 := by omega
  rcases this with rfl | rfl | rfl | rfl <;> (simp [setB]; try omega)
end Go.Proofs.YtlfajalhoifliaaGreatDoor
