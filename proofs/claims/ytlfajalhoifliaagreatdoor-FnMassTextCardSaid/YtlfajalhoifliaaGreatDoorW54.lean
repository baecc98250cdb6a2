/- Contracts: focal sets, chances, nested masses. -/
import Derived.Test.YtlfajalhoifliaaGreatDoorW53
namespace Go.Proofs.YtlfajalhoifliaaGreatDoor
open Go.RowKit

theorem and_pred16 : ∀ a : Fin 16, a.val ≠ 0 → bits .and .i64 (a.val : Int) ((a.val : Int) - 1) = ((a.val &&& (a.val - 1) : Nat) : Int) := by decide +kernel
theorem sub_bits16 : ∀ a b : Fin 16, (a.val &&& (15 - b.val) == 0) = subB a.val b.val := by decide +kernel
theorem all_bad {p : Nat → Bool} {l : List Nat} {i : Nat} (hi : i < l.length) (h : p (l.getD i 0) = false) : l.all p = false := by
  have hm : l.getD i 0 ∈ l := by simp [List.getD, hi]
  cases hc : l.all p with
  | false => rfl
  | true => rw [List.all_eq_true] at hc; rw [hc _ hm] at h; cases h
theorem take_all_snoc {p : Nat → Bool} {l : List Nat} {i : Nat} (hi : i < l.length) (h : (l.take i).all p = true) (hp : p (l.getD i 0) = true) : (l.take (i + 1)).all p = true := by
  have e : l.take (i + 1) = l.take i ++ [l.getD i 0] := by
    rw [List.take_succ_eq_append_getElem hi]; simp [List.getD, hi]
  rw [e, List.all_append, h]
  simpa using hp
set_option maxHeartbeats 1600000 in
theorem focalSets_any (s : Int) (a : Option Addr) (n c : Nat) (xs : List Int) (w : World) (hr : Row w a n xs) (hn : n ≤ 16) :
    Calls Tryz.prog 16 #[massV s a n c] w fun e w' => ∃ A l C, e = .returned (.slice A l C) ∧ l = (focL xs n).length ∧ Own w.heap.size w' A l C (ints (focL xs n)) ∧ Below w.heap.size w w' := by
  obtain ⟨w0, hw0⟩ : ∃ w0, w0 = w.alloc (.cells #[.int .i64 s, .slice a n c] 25) := ⟨_, rfl⟩
  have hbx : Box w0 w.heap.size 25 (.int .i64 s) (.slice a n c) := by rw [hw0]; exact Box.new _ _ _ _
  have hb1 : Below w.heap.size w w0 := by rw [hw0]; exact (Below.refl w.heap.size w).alloc (Nat.le_refl _) _
  have hs0 : w0.heap.size = w.heap.size + 1 := by rw [hw0]; simp
  have hr1 := hr.below hb1
  obtain ⟨c1, c2, _, _⟩ := (hbx.alloc (.cells #[] 3)).cells
  have hown0 : Own w0.heap.size (w0.alloc (.cells #[] 3)) (some ⟨w0.heap.size, 0, none⟩) 0 0 [] := World.ownsRow_lit w0 #[] 0 (Nat.le_refl _) (by unfold maxLen; omega) rfl
  have hb0 : Below w0.heap.size w0 (w0.alloc (.cells #[] 3)) := (Below.refl _ _).alloc (Nat.le_refl _) _
  have HW := Lib.hid hw0
  have HB1 := Lib.hid hb1
  have HS0 := Lib.hid hs0
  clear hw0 hb1 hr hbx hs0
  go_enter Tryz.func16, Tryz.ntmps16
  go_wp2_with fail
  rw [← HW.out]
  go_wp2_with fail
  clear c1 c2
  go_loopw [3, 10] (fun v i wr => ∃ (k : Nat) (A : Option Addr) (l C : Nat), k ≤ n ∧ i = .int .i64 k ∧ v = .slice A l C ∧ Hid (l = (focL xs k).length) ∧ Own w0.heap.size wr A l C (ints (focL xs k)) ∧ Below w0.heap.size w0 wr) (fun _ i _ => n - (intOf i).toNat)
  case atStart => exact ⟨0, _, 0, 0, Nat.zero_le _, rfl, by rw [HS0.out], rfl, hown0, hb0⟩
  case round =>
    obtain ⟨k, A, l, C, hk, rfl, rfl, HL, ho, hbr⟩ := hrel
    clear hown0 hb0
    have HO := Lib.hid ho; clear ho
    by_cases hlt : k < n
    · obtain ⟨b, off, x, rfl, hx, hc⟩ := (hr1.below hbr).at_ hlt
      have hle := focL_le xs k
      have hl16 : l ≤ 16 := by rw [HL.out]; omega
      by_cases h0 : x = 0
      · have hf := focL_no (xs := xs) (k := k) (by rw [← hx]; exact h0)
        have HF := Lib.hid hf
        subst h0
        clear hx hf hle
        go_wp2_with fail
        go_roundw
        case rel => exact ⟨k + 1, A, l, C, by omega, by go_num, rfl, by rw [HF.out]; exact HL.out, by rw [HF.out]; exact HO.out, hbr⟩
        case measure => simp [intOf]; omega
      · have hf := focL_yes (xs := xs) (k := k) (by rw [← hx]; exact h0)
        have HF := Lib.hid hf
        have h0' : (x != 0) = true := by simpa using h0
        clear hx hf hle h0
        have hbs := hbr.size
        go_wp2_with (at_builtin; refine wpList_push _ rfl _ _ rfl A l C _ (k : Int) _ w0 rfl rfl HO.out hbr hbs (by omega) ?_)
        intro A' C' w3 ho' hb'
        rw [← ints_snoc, ← HF.out] at ho'
        have HO' := Lib.hid ho'; clear ho'
        go_wp2_with fail
        go_roundw
        case rel => exact ⟨k + 1, A', l + 1, C', by omega, by go_num, rfl, by show _ = _; rw [HF.out, List.length_append, ← HL.out]; rfl, HO'.out, hb'⟩
        case measure => simp [intOf]; omega
    · have hk' : k = n := by omega
      subst hk'
      have HBR := Lib.hid hbr; clear hbr
      go_wp2_with fail
      go_ret
      exact ⟨A, l, C, rfl, HL.out, HO.out.mono (by rw [HS0.out]; omega), HB1.out.trans (HBR.out.mono (by rw [HS0.out]; omega))⟩
