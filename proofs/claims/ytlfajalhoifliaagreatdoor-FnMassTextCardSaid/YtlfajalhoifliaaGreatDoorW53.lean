/- Contracts: equal lists and masses, the whole, normal masses, other sets, the order of fractions. -/
import Derived.Test.YtlfajalhoifliaaGreatDoorW12
import Derived.Test.YtlfajalhoifliaaGreatDoorW19
import Derived.Test.YtlfajalhoifliaaGreatDoorW23
import Derived.Test.YtlfajalhoifliaaGreatDoorMath
namespace Go.Proofs.YtlfajalhoifliaaGreatDoor
open Go.RowKit

theorem prod_within {a b : Int} (ha : -1000000000 ≤ a ∧ a ≤ 1000000000) (hb : 1 ≤ b ∧ b ≤ 1000000000) : -1000000000000000000 ≤ a * b ∧ a * b ≤ 1000000000000000000 := by
  rcases Int.le_total 0 a with h | h
  · have h1 := mul_bound (a := a) (b := b) (A := 1000000000) (B := 1000000000) ⟨h, by omega⟩ ⟨by omega, by omega⟩
    omega
  · have h1 := mul_bound (a := -a) (b := b) (A := 1000000000) (B := 1000000000) ⟨by omega, by omega⟩ ⟨by omega, by omega⟩
    have h2 : -a * b = -(a * b) := Int.neg_mul _ _
    omega
set_option maxHeartbeats 800000 in
theorem weSame_any (a b : Option Addr) (n c m d : Nat) (xs ys : List Int) (w : World) (hr : Row w a n xs) (hs : Row w b m ys) (hn : n ≤ 1048576) (hm : m ≤ 1048576) :
    Calls Tryz.prog 32 #[.slice a n c, .slice b m d] w fun e w' => e = .returned (.bool (eqB xs ys)) ∧ Below w.heap.size w w' := by
  go_enter Tryz.func32, Tryz.ntmps32
  go_wp2_with fail
  go_loopw [5] (fun i wr => ∃ k : Nat, k ≤ n ∧ k ≤ m ∧ i = .int .i64 k ∧ xs.take k = ys.take k ∧ Below w.heap.size w wr) (fun i _ => n - (intOf i).toNat)
  case atStart => exact ⟨0, Nat.zero_le _, Nat.zero_le _, rfl, rfl, Below.refl _ _⟩
  case round =>
    obtain ⟨k, hk, hkm, rfl, ht, hbr⟩ := hrel
    have HT := Lib.hid ht; clear ht
    by_cases hlt : k < n
    · by_cases hltm : k < m
      · obtain ⟨b1, off1, x, rfl, hx, hc⟩ := (hr.below hbr).at_ hlt
        obtain ⟨b2, off2, y, rfl, hy, hd⟩ := (hs.below hbr).at_ hltm
        by_cases hxy : x = y
        · have he := hx.symm.trans (hxy.trans hy)
          have HE : Hid (xs.take (k + 1) = ys.take (k + 1)) := by
            show _ = _
            rw [take_snoc xs k (by have := hr.1; omega), take_snoc ys k (by have := hs.1; omega), HT.out, he]
          clear hx hy he
          subst hxy
          go_wp2_with fail
          go_quiet (fail)
          go_wp2_with fail
          go_roundw
          case rel => exact ⟨k + 1, by omega, by omega, by go_num, HE.out, below_drewN hbr _⟩
          case measure => simp [intOf]; omega
        · have hne : (x != y) = true := by simpa using hxy
          have HE := Lib.hid (ne_of_getD (k := k) (xs := xs) (ys := ys) (by rw [← hx, ← hy]; exact hxy)); clear hx hy hxy
          go_wp2_with fail
          go_quiet (fail)
          go_wp2_with fail
          go_ret
          exact ⟨ret_bool HE.out.symm, below_drewN hbr _⟩
      · have hkm' : k = m := by omega
        have hlm : ((k : Int) < (m : Int)) = False := by simp; omega
        have HE : Hid (eqB xs ys = false) := by
          show _ = _
          simp only [eqB, decide_eq_false_iff_not]
          intro e
          have h1 := hr.1; have h2 := hs.1
          rw [e] at h1
          omega
        have hne : ((n : Int) == (m : Int)) = false := by simp; omega
        subst hkm'
        go_wp2_with fail
        go_ret
        exact ⟨ret_bool HE.out.symm, hbr⟩
    · have hk' : k = n := by omega
      by_cases hnm : n = m
      · have HE : Hid (eqB xs ys = true) := by
          have := HT.out
          rw [List.take_of_length_le (by have := hr.1; omega), List.take_of_length_le (by have := hs.1; omega)] at this
          show _ = _
          rw [this, eqB_self]
        subst hk'
        subst hnm
        go_wp2_with fail
        go_ret
        exact ⟨ret_bool HE.out.symm, hbr⟩
      · have HE : Hid (eqB xs ys = false) := by
          show _ = _
          simp only [eqB, decide_eq_false_iff_not]
          intro e
          have h1 := hr.1; have h2 := hs.1
          rw [e] at h1
          omega
        have hne : ((n : Int) == (m : Int)) = false := by simp; omega
        subst hk'
        go_wp2_with fail
        go_ret
        exact ⟨ret_bool HE.out.symm, hbr⟩
set_option maxHeartbeats 800000 in
theorem weEqual_any (s t : Int) (a b : Option Addr) (n c m d : Nat) (xs ys : List Int) (w : World) (hr : Row w a n xs) (hs : Row w b m ys) (hn : n ≤ 1048576) (hm : m ≤ 1048576) :
    Calls Tryz.prog 10 #[massV s a n c, massV t b m d] w fun e w' => e = .returned (.bool ((s == t) && eqB xs ys)) ∧ Below w.heap.size w w' := by
  obtain ⟨w0, hw0⟩ : ∃ w0, w0 = (w.alloc (.cells #[.int .i64 s, .slice a n c] 25)).alloc (.cells #[.int .i64 t, .slice b m d] 25) := ⟨_, rfl⟩
  have hb0 : Below w.heap.size w w0 := by rw [hw0]; exact ((Below.refl _ _).alloc (Nat.le_refl _) _).alloc (by simp) _
  have h1 : Box w0 w.heap.size 25 (.int .i64 s) (.slice a n c) := by rw [hw0]; exact (Box.new _ _ _ _).alloc _
  have h2 : Box w0 (w.heap.size + 1) 25 (.int .i64 t) (.slice b m d) := by rw [hw0]; exact alloc_at (by simp)
  obtain ⟨c1, c2, _, _⟩ := h1.cells
  obtain ⟨d1, d2, _, _⟩ := h2.cells
  have HS := Lib.hid (weSame_any a b n c m d xs ys w0 (hr.below hb0) (hs.below hb0) hn hm)
  have HB := Lib.hid hb0
  have HW := Lib.hid hw0
  obtain ⟨q, hq⟩ : ∃ q, q = eqB xs ys := ⟨_, rfl⟩
  rw [← hq] at HS ⊢
  clear hb0 hw0 h1 h2 hr hs hq
  by_cases hst : s = t
  · subst hst
    have he : (s == s) = true := by simp
    have HE := Lib.hid he
    rw [he]
    clear he
    go_enter Tryz.func10, Tryz.ntmps10
    go_wp2_with (fail)
    rw [← HW.out]
    go_wp2_with (fail)
    refine HS.out.mono ?_
    rintro e w1 ⟨rfl, b1⟩
    go_wp2_with fail
    go_ret
    exact ⟨rfl, HB.out.trans (b1.mono HB.out.size)⟩
  · have he : (s == t) = false := by simpa using hst
    rw [he]
    go_enter Tryz.func10, Tryz.ntmps10
    go_wp2_with (fail)
    try rw [← HW.out]
    try go_wp2_with (fail)
    go_ret
    exact ⟨rfl, HB.out⟩
set_option maxHeartbeats 800000 in
theorem iMassValid_any (s : Int) (a : Option Addr) (n c : Nat) (xs : List Int) (w : World) (hr : Row w a n xs) (hn : n ≤ 1048576) :
    Calls Tryz.prog 7 #[massV s a n c] w fun e w' => e = .returned (.bool (massB s xs)) ∧ Below w.heap.size w w' := by
  have hb1 : Below w.heap.size w (w.alloc (.cells #[.int .i64 s, .slice a n c] 25)) := (Below.refl w.heap.size w).alloc (Nat.le_refl _) _
  have HM := Lib.hid (isMass_any s a n c xs _ (hr.below hb1) hn)
  obtain ⟨q, hq⟩ : ∃ q, q = massB s xs := ⟨_, rfl⟩
  rw [← hq] at HM ⊢
  clear hq
  go_enter Tryz.func7, Tryz.ntmps7
  go_wp2_with fail
  refine HM.out.mono ?_
  rintro e w1 ⟨rfl, b1⟩
  have hb := hb1.trans (b1.mono (by simp))
  go_wp2_with fail
  go_ret
  exact ⟨rfl, hb⟩
