/- Contracts: subsets and signs of sets. -/
import Derived.Test.YtffkpmmgfgcngaaW53
import Derived.Test.YtffkpmmgfgcngaaW54
import Derived.Test.YtffkpmmgfgcngaaLaw
namespace Go.Proofs.Ytffkpmmgfgcngaa
open Go.RowKit

def subsT (y : Nat) : Nat → List Nat
  | 0 => []
  | k + 1 => if subB k y = true then subsT y k ++ [k] else subsT y k
theorem subsT_is (y : Nat) : ∀ k, subsT y k = (List.range k).filter (fun b => subB b y)
  | 0 => rfl
  | k + 1 => by
    rw [List.range_succ, List.filter_append, ← subsT_is y k]
    simp only [subsT]
    by_cases h : subB k y = true
    · simp [h]
    · simp [h]
theorem subsT_le (y : Nat) : ∀ k, (subsT y k).length ≤ k
  | 0 => by simp [subsT]
  | k + 1 => by
    have := subsT_le y k
    simp only [subsT]
    split <;> (try simp only [List.length_append, List.length_singleton]) <;> omega
theorem subsN_is (y : Nat) : subsN y = subsT y (y + 1) := (subsT_is y (y + 1)).symm
theorem subAt_le {y j : Nat} (h : j < (subsN y).length) : subAt y j ≤ y := by
  have h1 : subAt y j ∈ subsN y := by unfold subAt; simp [List.getD, h]
  unfold subsN at h1
  have := (List.mem_filter.1 h1).1
  rw [List.mem_range] at this
  omega
theorem set4 {y : Nat} (h : y < 16) : setB 4 (y : Int) = true := by
  unfold setB
  simp
  omega
set_option maxHeartbeats 800000 in
theorem SignOf_any (y : Nat) (w : World) (hy : y < 16) : Calls Try.prog 52 #[.int .i64 y] w fun e w' => e = .returned (.int .i64 (sgn y)) ∧ w = w' := by
  have HV := Lib.hid (fun W => isSetOf_any 4 (y : Int) W rfl)
  rw [set4 hy] at HV
  have HS := Lib.hid (fun W => signOf_any y W hy)
  obtain ⟨v, hv⟩ : ∃ v, v = sgn y := ⟨_, rfl⟩
  rw [← hv] at HS ⊢
  clear hv
  go_enter Try.func52, Try.ntmps52
  go_wp2_with fail
  refine (HV.out _).mono ?_
  rintro e w' ⟨rfl, rfl⟩
  go_wp2_with fail
  refine (HS.out _).mono ?_
  rintro e w' ⟨rfl, rfl⟩
  go_wp2_with fail
  go_ret
  exact ⟨rfl, rfl⟩
set_option maxHeartbeats 1600000 in
theorem SubsetsOf_any (y : Nat) (w : World) (hy : y < 16) :
    Calls Try.prog 51 #[.int .i64 y] w fun e w' => ∃ A l C, e = .returned (.slice A l C) ∧ l = (subsN y).length ∧ Own w.heap.size w' A l C (ints (subsN y)) ∧ Below w.heap.size w w' := by
  have HV := Lib.hid (fun W => isSetOf_any 4 (y : Int) W rfl)
  rw [set4 hy] at HV
  have hown0 : Own w.heap.size (w.alloc (.cells #[] 3)) (some ⟨w.heap.size, 0, none⟩) 0 0 [] := World.ownsRow_lit w #[] 0 (Nat.le_refl _) (by unfold maxLen; omega) rfl
  have hb0 : Below w.heap.size w (w.alloc (.cells #[] 3)) := (Below.refl _ _).alloc (Nat.le_refl _) _
  go_enter Try.func51, Try.ntmps51
  go_wp2_with fail
  refine (HV.out _).mono ?_
  rintro e w' ⟨rfl, rfl⟩
  go_wp2_with fail
  go_loopw [3, 11] (fun v i wr => ∃ (k : Nat) (A : Option Addr) (l C : Nat), k ≤ y + 1 ∧ i = .int .i64 k ∧ v = .slice A l C ∧ Hid (l = (subsT y k).length) ∧ Own w.heap.size wr A l C (ints (subsT y k)) ∧ Below w.heap.size w wr) (fun _ i _ => y + 1 - (intOf i).toNat)
  case atStart => exact ⟨0, _, 0, 0, Nat.zero_le _, rfl, rfl, rfl, hown0, hb0⟩
  case round =>
    obtain ⟨k, A, l, C, hk, rfl, rfl, HL, ho, hbr⟩ := hrel
    clear hown0 hb0
    have HO := Lib.hid ho; clear ho
    by_cases hlt : k < y + 1
    · have hle := subsT_le y k
      have hl16 : l ≤ 16 := by rw [HL.out]; omega
      have e1 := bits_andNot k y (by omega) hy
      have g1 := sub_bits16 ⟨k, by omega⟩ ⟨y, hy⟩
      simp only at g1
      obtain ⟨u, hu⟩ : ∃ u : Nat, u = k &&& (15 - y) := ⟨_, rfl⟩
      rw [← hu] at e1 g1
      have hlti : (k : Int) < (y : Int) + 1 := by omega
      clear hu hle
      by_cases h0 : u = 0
      · have HF : Hid (subsT y (k + 1) = subsT y k ++ [k]) := if_pos (by rw [← g1, h0]; rfl)
        subst h0
        clear g1
        have hbs := hbr.size
        go_wp2_with (at_builtin; refine wpList_push _ rfl _ _ rfl A l C _ (k : Int) _ w rfl rfl HO.out hbr hbs (by omega) ?_)
        intro A' C' w3 ho' hb'
        rw [← ints_snoc, ← HF.out] at ho'
        have HO' := Lib.hid ho'; clear ho'
        go_wp2_with fail
        go_roundw
        case rel => exact ⟨k + 1, A', l + 1, C', by omega, by go_num, rfl, by show _ = _; rw [HF.out, List.length_append, ← HL.out]; rfl, HO'.out, hb'⟩
        case measure => simp [intOf]; omega
      · have HF : Hid (subsT y (k + 1) = subsT y k) := if_neg (by rw [← g1]; simpa using h0)
        have hu0 : ((u : Int) == 0) = false := by simp; omega
        clear g1 h0
        go_wp2_with fail
        go_roundw
        case rel => exact ⟨k + 1, A, l, C, by omega, by go_num, rfl, by show _ = _; rw [HF.out]; exact HL.out, by rw [HF.out]; exact HO.out, hbr⟩
        case measure => simp [intOf]; omega
    · have hk' : k = y + 1 := by omega
      subst hk'
      have HBR := Lib.hid hbr; clear hbr
      have hnl : ¬ ((y : Int) + 1 < (y : Int) + 1) := by omega
      go_wp2_with fail
      go_ret
      exact ⟨A, l, C, rfl, by rw [subsN_is]; exact HL.out, by rw [subsN_is]; exact HO.out, HBR.out⟩
end Go.Proofs.Ytffkpmmgfgcngaa
