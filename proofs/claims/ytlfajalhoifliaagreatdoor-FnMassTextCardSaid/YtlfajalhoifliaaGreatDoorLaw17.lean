/- Plain facts: a text is that of one mass. No program. -/
import Derived.Test.YtlfajalhoifliaaGreatDoorW78
namespace Go.Proofs.YtlfajalhoifliaaGreatDoor
open Go.RowKit

theorem dec_inj {u v : Nat} (h : Go.Lib.decDigits u = Go.Lib.decDigits v) : u = v := by
  rw [← numFrom_dec u, h, numFrom_dec v]
theorem ents_at {a b : List Int} {N j : Nat} (hN : N ≤ 16) (ha : ∀ k, k < N → 0 ≤ a.getD k 0 ∧ a.getD k 0 ≤ 1000000) (hb : ∀ k, k < N → 0 ≤ b.getD k 0 ∧ b.getD k 0 ≤ 1000000)
    (h : (focL a N).map (entL a) = (focL b N).map (entL b)) (hj : j < N) (h0 : a.getD j 0 ≠ 0) : a.getD j 0 = b.getD j 0 := by
  have hm : entL a j ∈ (focL b N).map (entL b) := by
    rw [← h]
    exact List.mem_map.2 ⟨j, (mem_focL N).2 ⟨hj, h0⟩, rfl⟩
  obtain ⟨k, hk, he⟩ := List.mem_map.1 hm
  have hkN := ((mem_focL N).1 hk).1
  have hc := congrArg (cutL 32) he
  rw [entL_cut, entL_cut] at hc
  simp only [List.cons.injEq, and_true] at hc
  have hkj := setL_inj (by omega) (by omega) hc.1
  subst hkj
  have h1 := dec_inj hc.2
  have h2 := ha k hj
  have h3 := hb k hj
  omega
theorem ents_inj {a b : List Int} {N : Nat} (hN : N ≤ 16) (la : a.length = N) (lb : b.length = N) (ha : ∀ k, k < N → 0 ≤ a.getD k 0 ∧ a.getD k 0 ≤ 1000000) (hb : ∀ k, k < N → 0 ≤ b.getD k 0 ∧ b.getD k 0 ≤ 1000000)
    (h : (focL a N).map (entL a) = (focL b N).map (entL b)) : a = b := by
  refine List.ext_getElem (by omega) (fun j h1 h2 => ?_)
  rw [← getD_at h1, ← getD_at h2]
  by_cases h0 : a.getD j 0 = 0
  · by_cases h3 : b.getD j 0 = 0
    · rw [h0, h3]
    · exact (ents_at hN hb ha h.symm (by omega) h3).symm
  · exact ents_at hN ha hb h (by omega) h0
theorem good_one {l : List UInt8} {p q : Int × List Int} (hp : Good l p) (hq : Good l q) : q = p := by
  have c1 := fmtT_cut hp.1
  have c2 := fmtT_cut hq.1
  rw [← hp.2] at c1
  rw [← hq.2, c1] at c2
  simp only [List.cons.injEq, and_true] at c2
  have s1 := size_cases (good_size hp)
  have s2 := size_cases (good_size hq)
  have hs := dec_inj c2.1
  have hsz : p.1 = q.1 := by omega
  have hl : p.2.length = q.2.length := by rw [good_len hp, good_len hq, hsz]
  have hparts := congrArg (cutL 44) c2.2
  rw [partsL_cut hp.1, partsL_cut hq.1] at hparts
  have i1 := massB_is rfl hp.1
  have i2 := massB_is rfl hq.1
  have hn := i1.nums
  rw [← hl] at hparts i2
  exact Prod.ext hsz.symm (ents_inj (by omega) rfl hl.symm i1.part i2.part hparts).symm
/-- a mass is parsed from its text -/
theorem parR_text {s : Int} {xs : List Int} (h : massB s xs = true) : parR (fmtT s xs) = some (s, xs) := parR_yes ⟨h, rfl⟩ (fun _ hq => good_one (p := (s, xs)) ⟨h, rfl⟩ hq)
/-- a text that is parsed is that of the mass -/
theorem parR_some {l : List UInt8} {p : Int × List Int} (h : parR l = some p) : Good l p := by
  unfold parR at h
  split at h
  · rename_i he
    rw [← Option.some.inj h]
    exact Classical.choose_spec he
  · cases h
end Go.Proofs.YtlfajalhoifliaaGreatDoor
