/- Contracts of the products of two masses, of the reference. -/
import Derived.Test.YtffkpmmgfgcngaaW27
import Derived.Test.YtffkpmmgfgcngaaW5
import Derived.BigRegion
namespace Go.Proofs.Ytffkpmmgfgcngaa
open Go.RowKit

set_option maxHeartbeats 3200000 in
set_option maxRecDepth 100000 in
theorem l6Parts_and (sM sN : Int) (aM aN : Option Addr) (n cM cN : Nat) (xs ys : List Int) (w : World) (hM : Row w aM n xs) (hN : Row w aN n ys) (hnn : n = 2 ∨ n = 4 ∨ n = 8 ∨ n = 16) (hx : ∀ k, k < n → 0 ≤ xs.getD k 0 ∧ xs.getD k 0 ≤ 1000000) (hy : ∀ k, k < n → 0 ≤ ys.getD k 0 ∧ ys.getD k 0 ≤ 1000000) :
    Calls Try.prog 109 #[massV sM aM n cM, massV sN aN n cN, .string { data := #[97, 110, 100] }] w fun e w' => ∃ A C, e = .returned (.slice A n C) ∧ Own w.heap.size w' A n C (prods (fun a b => a &&& b) xs ys) ∧ Below w.heap.size w w' := by
  have hn : n ≤ 16 := by omega
  have HOP := Lib.hid (fun i j (h1 : i < n) (h2 : j < n) => and_lt' hnn h1 h2)
  have HX := Lib.hid hx; clear hx
  have HY := Lib.hid hy; clear hy hnn
  obtain ⟨w0, hw0⟩ : ∃ w0, w0 = (w.alloc (.cells #[.int .i64 sM, .slice aM n cM] 25)).alloc (.cells #[.int .i64 sN, .slice aN n cN] 25) := ⟨_, rfl⟩
  have HBM : Hid (Box w0 w.heap.size 25 (.int .i64 sM) (.slice aM n cM)) := by rw [hw0]; exact (Box.new _ _ _ _).alloc _
  have HBN : Hid (Box w0 (w.heap.size + 1) 25 (.int .i64 sN) (.slice aN n cN)) := by rw [hw0]; exact alloc_at (by simp)
  have HB0 : Hid (Below w.heap.size w w0) := by rw [hw0]; exact ((Below.refl _ _).alloc (Nat.le_refl _) _).alloc (by simp) _
  have HS0 : Hid (w0.heap.size = w.heap.size + 1 + 1) := by show _ = _; rw [hw0]; simp
  have hM0 := hM.below HB0.out
  have hN0 := hN.below HB0.out
  have HW0 := Lib.hid hw0; clear hw0
  obtain ⟨i0, hi, hz0, hz1, hz2⟩ := info_parts info_int
  go_enter Try.func109, Try.ntmps109
  go_wp2_with (at_make; go_loud (refine wpList_make_full _ rfl _ _ 23 rfl (w.heap.size + 1 + 1) 3 i0 (.int .i64 0) 1 Try.underlying23 hi hz0 hz1 _ _ _ _ n rfl rfl (by omega) (by omega) (by rw [hz2]; omega) (by unfold maxLen; omega) (by simp) ?_))
  intro w1 hown hg
  rw [toList_madeCells_one, ← List.map_replicate (f := Value.int .i64) (a := 0)] at hown
  rw [← HW0.out] at hg
  have how : Own (w.heap.size + 1 + 1) w1 (some ⟨w.heap.size + 1 + 1, 0, none⟩) n n (List.replicate n 0) := hown
  have hbw : Below (w.heap.size + 1 + 1) w0 w1 := (Below.refl _ _).grown hg (by rw [HS0.out]; exact Nat.le_refl _) (fun k h => by cases h)
  rw [← prodT_zero (fun a b => a &&& b) xs ys n] at how
  clear hown hg hi hz0 hz1 hz2 hM hN
  go_wp2_with fail
  go_loopw [8] (fun i wr => ∃ k : Nat, k ≤ n ∧ i = .int .i64 k ∧ Own (w.heap.size + 1 + 1) wr (some ⟨w.heap.size + 1 + 1, 0, none⟩) n n (prodT (fun a b => a &&& b) xs ys n k 0) ∧ Below (w.heap.size + 1 + 1) w0 wr) (fun i _ => n - (intOf i).toNat)
  case atStart => exact ⟨0, Nat.zero_le _, rfl, how, hbw⟩
  case round =>
    obtain ⟨k, hk, rfl, ho, hbr⟩ := hrel
    clear how hbw
    have HO := Lib.hid ho; clear ho
    have HBR := Lib.hid hbr; clear hbr
    by_cases hlt : k < n
    · obtain ⟨b, off, x, rfl, hxe, hc⟩ := hM0.at_ hlt
      have hxb := HX.out k hlt
      rw [← hxe] at hxb
      have HXE := Lib.hid hxe; clear hxe
      have HC := Lib.hid hc; clear hc
      obtain ⟨c1, c2, _, _⟩ := (HBM.out.below HBR.out (by omega)).cells
      go_wp2_with fail
      clear c1 c2
      obtain ⟨wo, hwo⟩ : ∃ wo : World, wo = wr := ⟨_, rfl⟩
      clear hwo
      go_loopw [9] (fun i wi => ∃ l : Nat, l ≤ n ∧ i = .int .i64 l ∧ Hid (Own (w.heap.size + 1 + 1) wi (some ⟨w.heap.size + 1 + 1, 0, none⟩) n n (prodT (fun a b => a &&& b) xs ys n k l)) ∧ Hid (Below (w.heap.size + 1 + 1) w0 wi)) (fun i _ => n - (intOf i).toNat)
      case atStart => exact ⟨0, Nat.zero_le _, rfl, HO, HBR⟩
      case round =>
        obtain ⟨l, hl, rfl, HOI, HBI⟩ := hrel
        obtain ⟨d1, d2, _, _⟩ := (HBN.out.below HBI.out (by omega)).cells
        by_cases hlt2 : l < n
        · obtain ⟨b2, off2, y, rfl, hye, hc2⟩ := (hN0.below (by rw [HS0.out]; exact HBI.out)).at_ hlt2
          obtain ⟨c1, c2, _, _⟩ := (HBM.out.below HBI.out (by omega)).cells
          have hlb : b < w.heap.size + 1 + 1 := by have := World.block_lt_of_cell? _ _ HC.out; rw [HS0.out] at this; exact this
          have hc1 : wr.cell? ⟨b, off + k, none⟩ = some (.int .i64 x) := (HBI.out.cell (p := ⟨b, off + k, none⟩) hlb).trans HC.out
          have hyb := HY.out l hlt2
          rw [← hye] at hyb
          have hcn := HOP.out k l hlt hlt2
          have HST := Lib.hid (prodT_step (fun a b => a &&& b) xs ys n k l)
          have htb := prodT_bound (op := fun a b => a &&& b) hn HX.out HY.out k l (k &&& l) hlt hl hcn
          have hcl := HOI.out.cell hcn
          have hfr := HOI.out.frozen (k &&& l)
          have e0 := bits_and k l (by omega) (by omega)
          rw [← HXE.out, ← hye] at HST
          obtain ⟨t, ht⟩ : ∃ t, t = (prodT (fun a b => a &&& b) xs ys n k l).getD (k &&& l) 0 := ⟨_, rfl⟩
          rw [← ht] at hcl htb HST
          obtain ⟨v, hv⟩ : ∃ v, v = x * y := ⟨_, rfl⟩
          have hvb : 0 ≤ v ∧ v ≤ 1000000000000 := by
            rw [hv]
            refine ⟨Int.mul_nonneg hxb.1 hyb.1, ?_⟩
            have := Int.mul_le_mul hxb.2 hyb.2 hyb.1 (by omega)
            omega
          have e1 : IntKind.i64.wrap (x * y) = v := by rw [← hv]; exact IntWalk.i64_in _ (by omega)
          have e2 : IntKind.i64.wrap (t + v) = t + v := IntWalk.i64_in _ (by omega)
          rw [← hv] at HST
          obtain ⟨q, hq⟩ : ∃ q, q = k &&& l := ⟨_, rfl⟩
          rw [← hq] at hcn hcl hfr HST e0
          clear ht hv hq hye
          have hi1 : (q : Int) < (n : Int) := by omega
          go_wp2_with fail
          go_region
          all_goals
            go_wp2_with fail
            go_roundw
            case rel => exact ⟨l + 1, by omega, by go_num, by rw [← HST.out]; exact (HOI.out.below (w' := wr.drew) (Below.refl _ _).drew).set q (t + v), HBI.out.drew.setCell (Nat.le_refl _) _⟩
            case measure => simp [intOf]; omega
        · have hl' : l = n := by omega
          subst hl'
          go_wp2_with fail
          go_roundw
          case rel => exact ⟨k + 1, by omega, by go_num, by rw [← prodT_row]; exact HOI.out, HBI.out⟩
          case measure => simp [intOf]; omega
    · have hk' : k = n := by omega
      have HD := Lib.hid (prodT_done (op := fun a b => a &&& b) (ys := ys) hM0.1)
      obtain ⟨c1, c2, _, _⟩ := (HBM.out.below HBR.out (by omega)).cells
      subst hk'
      go_wp2_with fail
      go_ret
      exact ⟨_, _, rfl, by rw [← HD.out]; exact HO.out.mono (by omega), HB0.out.trans (HBR.out.mono (by omega))⟩
set_option maxHeartbeats 3200000 in
set_option maxRecDepth 100000 in
theorem l6Parts_or (sM sN : Int) (aM aN : Option Addr) (n cM cN : Nat) (xs ys : List Int) (w : World) (hM : Row w aM n xs) (hN : Row w aN n ys) (hnn : n = 2 ∨ n = 4 ∨ n = 8 ∨ n = 16) (hx : ∀ k, k < n → 0 ≤ xs.getD k 0 ∧ xs.getD k 0 ≤ 1000000) (hy : ∀ k, k < n → 0 ≤ ys.getD k 0 ∧ ys.getD k 0 ≤ 1000000) :
    Calls Try.prog 109 #[massV sM aM n cM, massV sN aN n cN, .string { data := #[111, 114] }] w fun e w' => ∃ A C, e = .returned (.slice A n C) ∧ Own w.heap.size w' A n C (prods (fun a b => a ||| b) xs ys) ∧ Below w.heap.size w w' := by
  have hn : n ≤ 16 := by omega
  have HOP := Lib.hid (fun i j (h1 : i < n) (h2 : j < n) => or_lt' hnn h1 h2)
  have HX := Lib.hid hx; clear hx
  have HY := Lib.hid hy; clear hy hnn
  obtain ⟨w0, hw0⟩ : ∃ w0, w0 = (w.alloc (.cells #[.int .i64 sM, .slice aM n cM] 25)).alloc (.cells #[.int .i64 sN, .slice aN n cN] 25) := ⟨_, rfl⟩
  have HBM : Hid (Box w0 w.heap.size 25 (.int .i64 sM) (.slice aM n cM)) := by rw [hw0]; exact (Box.new _ _ _ _).alloc _
  have HBN : Hid (Box w0 (w.heap.size + 1) 25 (.int .i64 sN) (.slice aN n cN)) := by rw [hw0]; exact alloc_at (by simp)
  have HB0 : Hid (Below w.heap.size w w0) := by rw [hw0]; exact ((Below.refl _ _).alloc (Nat.le_refl _) _).alloc (by simp) _
  have HS0 : Hid (w0.heap.size = w.heap.size + 1 + 1) := by show _ = _; rw [hw0]; simp
  have hM0 := hM.below HB0.out
  have hN0 := hN.below HB0.out
  have HW0 := Lib.hid hw0; clear hw0
  obtain ⟨i0, hi, hz0, hz1, hz2⟩ := info_parts info_int
  go_enter Try.func109, Try.ntmps109
  go_wp2_with (at_make; go_loud (refine wpList_make_full _ rfl _ _ 23 rfl (w.heap.size + 1 + 1) 3 i0 (.int .i64 0) 1 Try.underlying23 hi hz0 hz1 _ _ _ _ n rfl rfl (by omega) (by omega) (by rw [hz2]; omega) (by unfold maxLen; omega) (by simp) ?_))
  intro w1 hown hg
  rw [toList_madeCells_one, ← List.map_replicate (f := Value.int .i64) (a := 0)] at hown
  rw [← HW0.out] at hg
  have how : Own (w.heap.size + 1 + 1) w1 (some ⟨w.heap.size + 1 + 1, 0, none⟩) n n (List.replicate n 0) := hown
  have hbw : Below (w.heap.size + 1 + 1) w0 w1 := (Below.refl _ _).grown hg (by rw [HS0.out]; exact Nat.le_refl _) (fun k h => by cases h)
  rw [← prodT_zero (fun a b => a ||| b) xs ys n] at how
  clear hown hg hi hz0 hz1 hz2 hM hN
  go_wp2_with fail
  go_loopw [8] (fun i wr => ∃ k : Nat, k ≤ n ∧ i = .int .i64 k ∧ Own (w.heap.size + 1 + 1) wr (some ⟨w.heap.size + 1 + 1, 0, none⟩) n n (prodT (fun a b => a ||| b) xs ys n k 0) ∧ Below (w.heap.size + 1 + 1) w0 wr) (fun i _ => n - (intOf i).toNat)
  case atStart => exact ⟨0, Nat.zero_le _, rfl, how, hbw⟩
  case round =>
    obtain ⟨k, hk, rfl, ho, hbr⟩ := hrel
    clear how hbw
    have HO := Lib.hid ho; clear ho
    have HBR := Lib.hid hbr; clear hbr
    by_cases hlt : k < n
    · obtain ⟨b, off, x, rfl, hxe, hc⟩ := hM0.at_ hlt
      have hxb := HX.out k hlt
      rw [← hxe] at hxb
      have HXE := Lib.hid hxe; clear hxe
      have HC := Lib.hid hc; clear hc
      obtain ⟨c1, c2, _, _⟩ := (HBM.out.below HBR.out (by omega)).cells
      go_wp2_with fail
      clear c1 c2
      obtain ⟨wo, hwo⟩ : ∃ wo : World, wo = wr := ⟨_, rfl⟩
      clear hwo
      go_loopw [9] (fun i wi => ∃ l : Nat, l ≤ n ∧ i = .int .i64 l ∧ Hid (Own (w.heap.size + 1 + 1) wi (some ⟨w.heap.size + 1 + 1, 0, none⟩) n n (prodT (fun a b => a ||| b) xs ys n k l)) ∧ Hid (Below (w.heap.size + 1 + 1) w0 wi)) (fun i _ => n - (intOf i).toNat)
      case atStart => exact ⟨0, Nat.zero_le _, rfl, HO, HBR⟩
      case round =>
        obtain ⟨l, hl, rfl, HOI, HBI⟩ := hrel
        obtain ⟨d1, d2, _, _⟩ := (HBN.out.below HBI.out (by omega)).cells
        by_cases hlt2 : l < n
        · obtain ⟨b2, off2, y, rfl, hye, hc2⟩ := (hN0.below (by rw [HS0.out]; exact HBI.out)).at_ hlt2
          obtain ⟨c1, c2, _, _⟩ := (HBM.out.below HBI.out (by omega)).cells
          have hlb : b < w.heap.size + 1 + 1 := by have := World.block_lt_of_cell? _ _ HC.out; rw [HS0.out] at this; exact this
          have hc1 : wr.cell? ⟨b, off + k, none⟩ = some (.int .i64 x) := (HBI.out.cell (p := ⟨b, off + k, none⟩) hlb).trans HC.out
          have hyb := HY.out l hlt2
          rw [← hye] at hyb
          have hcn := HOP.out k l hlt hlt2
          have HST := Lib.hid (prodT_step (fun a b => a ||| b) xs ys n k l)
          have htb := prodT_bound (op := fun a b => a ||| b) hn HX.out HY.out k l (k ||| l) hlt hl hcn
          have hcl := HOI.out.cell hcn
          have hfr := HOI.out.frozen (k ||| l)
          have e0 := bits_or k l (by omega) (by omega)
          rw [← HXE.out, ← hye] at HST
          obtain ⟨t, ht⟩ : ∃ t, t = (prodT (fun a b => a ||| b) xs ys n k l).getD (k ||| l) 0 := ⟨_, rfl⟩
          rw [← ht] at hcl htb HST
          obtain ⟨v, hv⟩ : ∃ v, v = x * y := ⟨_, rfl⟩
          have hvb : 0 ≤ v ∧ v ≤ 1000000000000 := by
            rw [hv]
            refine ⟨Int.mul_nonneg hxb.1 hyb.1, ?_⟩
            have := Int.mul_le_mul hxb.2 hyb.2 hyb.1 (by omega)
            omega
          have e1 : IntKind.i64.wrap (x * y) = v := by rw [← hv]; exact IntWalk.i64_in _ (by omega)
          have e2 : IntKind.i64.wrap (t + v) = t + v := IntWalk.i64_in _ (by omega)
          rw [← hv] at HST
          obtain ⟨q, hq⟩ : ∃ q, q = k ||| l := ⟨_, rfl⟩
          rw [← hq] at hcn hcl hfr HST e0
          clear ht hv hq hye
          have hi1 : (q : Int) < (n : Int) := by omega
          go_wp2_with fail
          go_region
          all_goals
            go_wp2_with fail
            go_roundw
            case rel => exact ⟨l + 1, by omega, by go_num, by rw [← HST.out]; exact (HOI.out.below (w' := wr.drew) (Below.refl _ _).drew).set q (t + v), HBI.out.drew.setCell (Nat.le_refl _) _⟩
            case measure => simp [intOf]; omega
        · have hl' : l = n := by omega
          subst hl'
          go_wp2_with fail
          go_roundw
          case rel => exact ⟨k + 1, by omega, by go_num, by rw [← prodT_row]; exact HOI.out, HBI.out⟩
          case measure => simp [intOf]; omega
    · have hk' : k = n := by omega
      have HD := Lib.hid (prodT_done (op := fun a b => a ||| b) (ys := ys) hM0.1)
      obtain ⟨c1, c2, _, _⟩ := (HBM.out.below HBR.out (by omega)).cells
      subst hk'
      go_wp2_with fail
      go_ret
      exact ⟨_, _, rfl, by rw [← HD.out]; exact HO.out.mono (by omega), HB0.out.trans (HBR.out.mono (by omega))⟩
set_option maxHeartbeats 3200000 in
set_option maxRecDepth 100000 in
theorem l6Parts_xor (sM sN : Int) (aM aN : Option Addr) (n cM cN : Nat) (xs ys : List Int) (w : World) (hM : Row w aM n xs) (hN : Row w aN n ys) (hnn : n = 2 ∨ n = 4 ∨ n = 8 ∨ n = 16) (hx : ∀ k, k < n → 0 ≤ xs.getD k 0 ∧ xs.getD k 0 ≤ 1000000) (hy : ∀ k, k < n → 0 ≤ ys.getD k 0 ∧ ys.getD k 0 ≤ 1000000) :
    Calls Try.prog 109 #[massV sM aM n cM, massV sN aN n cN, .string { data := #[120, 111, 114] }] w fun e w' => ∃ A C, e = .returned (.slice A n C) ∧ Own w.heap.size w' A n C (prods (fun a b => a ^^^ b) xs ys) ∧ Below w.heap.size w w' := by
  have hn : n ≤ 16 := by omega
  have HOP := Lib.hid (fun i j (h1 : i < n) (h2 : j < n) => xor_lt' hnn h1 h2)
  have HX := Lib.hid hx; clear hx
  have HY := Lib.hid hy; clear hy hnn
  obtain ⟨w0, hw0⟩ : ∃ w0, w0 = (w.alloc (.cells #[.int .i64 sM, .slice aM n cM] 25)).alloc (.cells #[.int .i64 sN, .slice aN n cN] 25) := ⟨_, rfl⟩
  have HBM : Hid (Box w0 w.heap.size 25 (.int .i64 sM) (.slice aM n cM)) := by rw [hw0]; exact (Box.new _ _ _ _).alloc _
  have HBN : Hid (Box w0 (w.heap.size + 1) 25 (.int .i64 sN) (.slice aN n cN)) := by rw [hw0]; exact alloc_at (by simp)
  have HB0 : Hid (Below w.heap.size w w0) := by rw [hw0]; exact ((Below.refl _ _).alloc (Nat.le_refl _) _).alloc (by simp) _
  have HS0 : Hid (w0.heap.size = w.heap.size + 1 + 1) := by show _ = _; rw [hw0]; simp
  have hM0 := hM.below HB0.out
  have hN0 := hN.below HB0.out
  have HW0 := Lib.hid hw0; clear hw0
  obtain ⟨i0, hi, hz0, hz1, hz2⟩ := info_parts info_int
  go_enter Try.func109, Try.ntmps109
  go_wp2_with (at_make; go_loud (refine wpList_make_full _ rfl _ _ 23 rfl (w.heap.size + 1 + 1) 3 i0 (.int .i64 0) 1 Try.underlying23 hi hz0 hz1 _ _ _ _ n rfl rfl (by omega) (by omega) (by rw [hz2]; omega) (by unfold maxLen; omega) (by simp) ?_))
  intro w1 hown hg
  rw [toList_madeCells_one, ← List.map_replicate (f := Value.int .i64) (a := 0)] at hown
  rw [← HW0.out] at hg
  have how : Own (w.heap.size + 1 + 1) w1 (some ⟨w.heap.size + 1 + 1, 0, none⟩) n n (List.replicate n 0) := hown
  have hbw : Below (w.heap.size + 1 + 1) w0 w1 := (Below.refl _ _).grown hg (by rw [HS0.out]; exact Nat.le_refl _) (fun k h => by cases h)
  rw [← prodT_zero (fun a b => a ^^^ b) xs ys n] at how
  clear hown hg hi hz0 hz1 hz2 hM hN
  go_wp2_with fail
  go_loopw [8] (fun i wr => ∃ k : Nat, k ≤ n ∧ i = .int .i64 k ∧ Own (w.heap.size + 1 + 1) wr (some ⟨w.heap.size + 1 + 1, 0, none⟩) n n (prodT (fun a b => a ^^^ b) xs ys n k 0) ∧ Below (w.heap.size + 1 + 1) w0 wr) (fun i _ => n - (intOf i).toNat)
  case atStart => exact ⟨0, Nat.zero_le _, rfl, how, hbw⟩
  case round =>
    obtain ⟨k, hk, rfl, ho, hbr⟩ := hrel
    clear how hbw
    have HO := Lib.hid ho; clear ho
    have HBR := Lib.hid hbr; clear hbr
    by_cases hlt : k < n
    · obtain ⟨b, off, x, rfl, hxe, hc⟩ := hM0.at_ hlt
      have hxb := HX.out k hlt
      rw [← hxe] at hxb
      have HXE := Lib.hid hxe; clear hxe
      have HC := Lib.hid hc; clear hc
      obtain ⟨c1, c2, _, _⟩ := (HBM.out.below HBR.out (by omega)).cells
      go_wp2_with fail
      clear c1 c2
      obtain ⟨wo, hwo⟩ : ∃ wo : World, wo = wr := ⟨_, rfl⟩
      clear hwo
      go_loopw [9] (fun i wi => ∃ l : Nat, l ≤ n ∧ i = .int .i64 l ∧ Hid (Own (w.heap.size + 1 + 1) wi (some ⟨w.heap.size + 1 + 1, 0, none⟩) n n (prodT (fun a b => a ^^^ b) xs ys n k l)) ∧ Hid (Below (w.heap.size + 1 + 1) w0 wi)) (fun i _ => n - (intOf i).toNat)
      case atStart => exact ⟨0, Nat.zero_le _, rfl, HO, HBR⟩
      case round =>
        obtain ⟨l, hl, rfl, HOI, HBI⟩ := hrel
        obtain ⟨d1, d2, _, _⟩ := (HBN.out.below HBI.out (by omega)).cells
        by_cases hlt2 : l < n
        · obtain ⟨b2, off2, y, rfl, hye, hc2⟩ := (hN0.below (by rw [HS0.out]; exact HBI.out)).at_ hlt2
          obtain ⟨c1, c2, _, _⟩ := (HBM.out.below HBI.out (by omega)).cells
          have hlb : b < w.heap.size + 1 + 1 := by have := World.block_lt_of_cell? _ _ HC.out; rw [HS0.out] at this; exact this
          have hc1 : wr.cell? ⟨b, off + k, none⟩ = some (.int .i64 x) := (HBI.out.cell (p := ⟨b, off + k, none⟩) hlb).trans HC.out
          have hyb := HY.out l hlt2
          rw [← hye] at hyb
          have hcn := HOP.out k l hlt hlt2
          have HST := Lib.hid (prodT_step (fun a b => a ^^^ b) xs ys n k l)
          have htb := prodT_bound (op := fun a b => a ^^^ b) hn HX.out HY.out k l (k ^^^ l) hlt hl hcn
          have hcl := HOI.out.cell hcn
          have hfr := HOI.out.frozen (k ^^^ l)
          have e0 := bits_xor k l (by omega) (by omega)
          rw [← HXE.out, ← hye] at HST
          obtain ⟨t, ht⟩ : ∃ t, t = (prodT (fun a b => a ^^^ b) xs ys n k l).getD (k ^^^ l) 0 := ⟨_, rfl⟩
          rw [← ht] at hcl htb HST
          obtain ⟨v, hv⟩ : ∃ v, v = x * y := ⟨_, rfl⟩
          have hvb : 0 ≤ v ∧ v ≤ 1000000000000 := by
            rw [hv]
            refine ⟨Int.mul_nonneg hxb.1 hyb.1, ?_⟩
            have := Int.mul_le_mul hxb.2 hyb.2 hyb.1 (by omega)
            omega
          have e1 : IntKind.i64.wrap (x * y) = v := by rw [← hv]; exact IntWalk.i64_in _ (by omega)
          have e2 : IntKind.i64.wrap (t + v) = t + v := IntWalk.i64_in _ (by omega)
          rw [← hv] at HST
          obtain ⟨q, hq⟩ : ∃ q, q = k ^^^ l := ⟨_, rfl⟩
          rw [← hq] at hcn hcl hfr HST e0
          clear ht hv hq hye
          have hi1 : (q : Int) < (n : Int) := by omega
          go_wp2_with fail
          go_region
          all_goals
            go_wp2_with fail
            go_roundw
            case rel => exact ⟨l + 1, by omega, by go_num, by rw [← HST.out]; exact (HOI.out.below (w' := wr.drew) (Below.refl _ _).drew).set q (t + v), HBI.out.drew.setCell (Nat.le_refl _) _⟩
            case measure => simp [intOf]; omega
        · have hl' : l = n := by omega
          subst hl'
          go_wp2_with fail
          go_roundw
          case rel => exact ⟨k + 1, by omega, by go_num, by rw [← prodT_row]; exact HOI.out, HBI.out⟩
          case measure => simp [intOf]; omega
    · have hk' : k = n := by omega
      have HD := Lib.hid (prodT_done (op := fun a b => a ^^^ b) (ys := ys) hM0.1)
      obtain ⟨c1, c2, _, _⟩ := (HBM.out.below HBR.out (by omega)).cells
      subst hk'
      go_wp2_with fail
      go_ret
      exact ⟨_, _, rfl, by rw [← HD.out]; exact HO.out.mono (by omega), HB0.out.trans (HBR.out.mono (by omega))⟩
end Go.Proofs.Ytffkpmmgfgcngaa
