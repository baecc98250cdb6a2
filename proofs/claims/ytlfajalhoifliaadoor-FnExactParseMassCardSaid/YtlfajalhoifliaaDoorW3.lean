/- Contracts of the helpers of the statements: copies, comparisons, marks. -/
import Derived.Test.YtlfajalhoifliaaDoorW2
namespace Go.Proofs.YtlfajalhoifliaaDoor
open Go.RowKit

set_option maxHeartbeats 400000 in
theorem toIntS_any (a : Option Addr) (n c : Nat) (xs : List Int) (w : World) (hr : Row w a n xs) (hn : n ≤ 1048576) :
    Calls Tryd.prog 32 #[.slice a n c] w fun e w' => e = .returned (.slice (some ⟨w.heap.size, 0, none⟩) n n) ∧ Own w.heap.size w' (some ⟨w.heap.size, 0, none⟩) n n xs ∧ Below w.heap.size w w' := by
  obtain ⟨i0, hi, hz0, hz1, hz2⟩ := info_parts info_int
  go_enter Tryd.func32, Tryd.ntmps32
  go_wp2_with (at_make; go_loud (refine wpList_make_full _ rfl _ _ 22 rfl w.heap.size 3 i0 (.int .i64 0) 1 Tryd.underlying22 hi hz0 hz1 _ _ _ _ n rfl rfl (by omega) (by omega) (by rw [hz2]; omega) (by unfold maxLen; omega) (Nat.le_refl _) ?_))
  intro w1 hown hg
  rw [toList_madeCells_one, ← List.map_replicate (f := Value.int .i64) (a := 0)] at hown
  have how : Own w.heap.size w1 (some ⟨w.heap.size, 0, none⟩) n n (List.replicate n 0) := hown
  have hbw : Below w.heap.size w w1 := (Below.refl _ _).grown hg (Nat.le_refl _) (fun k h => by cases h)
  clear hown hg hi hz0 hz1 hz2
  go_wp2
  go_loopw [4] (fun i wr => ∃ k : Nat, k ≤ n ∧ i = .int .i64 k ∧ Own w.heap.size wr (some ⟨w.heap.size, 0, none⟩) n n (filled xs n k) ∧ Below w.heap.size w wr) (fun i _ => n - (intOf i).toNat)
  case atStart => exact ⟨0, Nat.zero_le _, rfl, by rw [filled_zero]; exact how, hbw⟩
  case round =>
    obtain ⟨k, hk, rfl, ho, hbr⟩ := hrel
    clear how hbw
    by_cases hlt : k < n
    · obtain ⟨b, off, x, rfl, hx, hc⟩ := (hr.below hbr).at_ hlt
      have HX := Lib.hid hx; clear hx
      have hfr := ho.frozen k
      have hce := ho.cell hlt
      obtain ⟨y, hy⟩ : ∃ y, y = (filled xs n k).getD k 0 := ⟨_, rfl⟩
      rw [← hy] at hce
      clear hy
      have HO := Lib.hid ho; clear ho
      go_wp2
      go_roundw
      case rel => exact ⟨k + 1, by omega, by go_num, by rw [← filled_set xs n k, ← HX.out]; exact HO.out.set k x, hbr.setCell (Nat.le_refl _) _⟩
      case measure => simp [intOf]; omega
    · have hk' : k = n := by omega
      subst hk'
      have HO := Lib.hid ho; clear ho
      go_wp2
      go_ret
      exact ⟨rfl, by rw [← filled_full xs k hr.1]; exact HO.out, hbr⟩
set_option maxHeartbeats 400000 in
theorem eqIntS_any (a b : Option Addr) (n c m d : Nat) (xs ys : List Int) (w : World) (hr : Row w a n xs) (hs : Row w b m ys) (hn : n ≤ 1048576) (hm : m ≤ 1048576) :
    Calls Tryd.prog 25 #[.slice a n c, .slice b m d] w fun e w' => e = .returned (.bool (eqB xs ys)) ∧ Below w.heap.size w w' := by
  by_cases hnm : n = m
  · subst hnm
    go_enter Tryd.func25, Tryd.ntmps25
    go_wp2
    go_loopw [5] (fun i wr => ∃ k : Nat, k ≤ n ∧ i = .int .i64 k ∧ xs.take k = ys.take k ∧ Below w.heap.size w wr) (fun i _ => n - (intOf i).toNat)
    case atStart => exact ⟨0, Nat.zero_le _, rfl, rfl, Below.refl _ _⟩
    case round =>
      obtain ⟨k, hk, rfl, ht, hbr⟩ := hrel
      have HT := Lib.hid ht; clear ht
      by_cases hlt : k < n
      · obtain ⟨b1, off1, x, rfl, hx, hc⟩ := (hr.below hbr).at_ hlt
        obtain ⟨b2, off2, y, rfl, hy, hd⟩ := (hs.below hbr).at_ hlt
        by_cases hxy : x = y
        · have HE := Lib.hid (hx.symm.trans (hxy.trans hy)); clear hx hy
          subst hxy
          go_wp2
          go_quiet (fail)
          go_wp2
          go_roundw
          case rel => exact ⟨k + 1, by omega, by go_num, take_eq_succ hr.1 hs.1 hlt HT.out HE.out, below_drewN hbr _⟩
          case measure => simp [intOf]; omega
        · have hne : (x != y) = true := by simpa using hxy
          have HE := Lib.hid (ne_of_getD (k := k) (xs := xs) (ys := ys) (by rw [← hx, ← hy]; exact hxy)); clear hx hy hxy
          go_wp2
          go_quiet (fail)
          go_wp2
          go_ret
          exact ⟨ret_bool HE.out.symm, below_drewN hbr _⟩
      · have hk' : k = n := by omega
        have HE : Hid (eqB xs ys = true) := by
          have := HT.out
          rw [List.take_of_length_le (by have := hr.1; omega), List.take_of_length_le (by have := hs.1; omega)] at this
          show _ = _
          rw [this, eqB_self]
        subst hk'
        go_wp2
        go_ret
        exact ⟨ret_bool HE.out.symm, hbr⟩
  · have hne : ((n : Int) != (m : Int)) = true := by simp; omega
    have HE : Hid (eqB xs ys = false) := by
      show _ = _
      simp only [eqB, decide_eq_false_iff_not]
      intro e
      have h1 := hr.1; have h2 := hs.1
      rw [e] at h1
      omega
    go_enter Tryd.func25, Tryd.ntmps25
    go_wp2
    go_ret
    exact ⟨ret_bool HE.out.symm, Below.refl _ _⟩
set_option maxHeartbeats 400000 in
theorem markIntS_any (B : Nat) (a : Option Addr) (n c : Nat) (xs : List Int) (z : Int) (w : World) (ho : Own B w a n c xs) (hn : n ≤ 1048576) (hz : 0 ≤ z ∧ z ≤ 1048576000) :
    Calls Tryd.prog 26 #[.slice a n c, .int .i64 z] w fun e w' => e = .returned (.int .i64 (z + n)) ∧ Own B w' a n c (marks n z) ∧ w.grownBy w' (Value.slice a n c).ownBlock := by
  go_enter Tryd.func26, Tryd.ntmps26
  go_wp2
  go_loopw [1, 5] (fun q i wr => ∃ k : Nat, k ≤ n ∧ i = .int .i64 k ∧ q = .int .i64 (z + k) ∧ Own B wr a n c (tab n (fun j => if j < k then z + j else xs.getD j 0)) ∧ w.grownBy wr (Value.slice a n c).ownBlock) (fun _ i _ => n - (intOf i).toNat)
  case atStart => exact ⟨0, Nat.zero_le _, rfl, by go_num, by rw [show tab n (fun j => if j < 0 then z + j else xs.getD j 0) = xs from (tab_congr (fun k _ => by simp)).trans (tab_self xs n ho.len)]; exact ho, World.grownBy.refl _ _⟩
  case round =>
    obtain ⟨k, hk, rfl, rfl, hor, hbr⟩ := hrel
    clear ho
    by_cases hlt : k < n
    · rcases hor.form with ⟨_, h0, _⟩ | ⟨g, rfl, _, _, _⟩
      · omega
      have hfr := hor.frozen k
      have hce := hor.cell hlt
      obtain ⟨y, hy⟩ : ∃ y, y = (tab n (fun j => if j < k then z + j else xs.getD j 0)).getD k 0 := ⟨_, rfl⟩
      rw [← hy] at hce
      clear hy
      have HO := Lib.hid hor; clear hor
      go_wp2
      go_roundw
      case rel =>
        refine ⟨k + 1, by omega, by go_num, by go_num, ?_, ?_⟩
        · have := HO.out.set k (z + k)
          rw [tab_set] at this
          rw [show tab n (fun j => if j < k + 1 then z + j else xs.getD j 0) = tab n (fun i => if i = k then z + k else if i < k then z + i else xs.getD i 0) from tab_congr (fun i hi => by
            by_cases e : i = k
            · subst e; simp
            · by_cases h1 : i < k
              · simp [e, h1, show i < k + 1 by omega]
              · simp [e, h1, show ¬ i < k + 1 by omega])]
          exact this
        · exact grown_trans hbr (World.ownsRow.stored HO.out k (.int .i64 (z + k))).2
      case measure => simp [intOf]; omega
    · have hk' : k = n := by omega
      subst hk'
      have HO := Lib.hid hor; clear hor
      go_wp2
      go_ret
      exact ⟨rfl, by rw [show marks k z = tab k (fun j => if j < k then z + j else xs.getD j 0) from tab_congr (fun i hi => by simp [hi])]; exact HO.out, hbr⟩
set_option maxHeartbeats 400000 in
theorem heldIntS_any (a : Option Addr) (n c : Nat) (z : Int) (w : World) (hr : Row w a n (marks n z)) (hn : n ≤ 1048576) (hz : 0 ≤ z ∧ z ≤ 1048576000) :
    Calls Tryd.prog 27 #[.slice a n c, .int .i64 z] w fun e w' => e = .returned (.int .i64 (z + n)) ∧ Below w.heap.size w w' := by
  go_enter Tryd.func27, Tryd.ntmps27
  go_wp2
  go_loopw [1, 5] (fun q i wr => ∃ k : Nat, k ≤ n ∧ i = .int .i64 k ∧ q = .int .i64 (z + k) ∧ Below w.heap.size w wr) (fun _ i _ => n - (intOf i).toNat)
  case atStart => exact ⟨0, Nat.zero_le _, rfl, by go_num, Below.refl _ _⟩
  case round =>
    obtain ⟨k, hk, rfl, rfl, hbr⟩ := hrel
    by_cases hlt : k < n
    · obtain ⟨b1, off1, x, rfl, hx, hc⟩ := (hr.below hbr).at_ hlt
      rw [marks, tab_getD _ _ _ hlt] at hx
      subst hx
      go_wp2
      go_roundw
      case rel => exact ⟨k + 1, by omega, by go_num, by go_num, hbr⟩
      case measure => simp [intOf]; omega
    · have hk' : k = n := by omega
      subst hk'
      go_wp2
      go_ret
      exact ⟨rfl, hbr⟩
theorem szIntS_any (a : Option Addr) (n c : Nat) (z : Int) (w : World) (hn : n ≤ 140737488351232) (hz : 0 ≤ z ∧ z ≤ 1048576) :
    Calls Tryd.prog 28 #[.slice a n c, .int .i64 z] w fun e w' => e = .returned (.int .i64 (if z < n then -1 else z - n)) ∧ w = w' := by
  by_cases h : z < n
  · have h2 : z - n < 0 := by omega
    rw [if_pos h]
    go_enter Tryd.func28, Tryd.ntmps28
    go_wp2
    go_ret
    exact ⟨rfl, rfl⟩
  · have h2 : 0 ≤ z - n := by omega
    rw [if_neg h]
    go_enter Tryd.func28, Tryd.ntmps28
    go_wp2
    go_ret
    exact ⟨rfl, rfl⟩
end Go.Proofs.YtlfajalhoifliaaDoor
