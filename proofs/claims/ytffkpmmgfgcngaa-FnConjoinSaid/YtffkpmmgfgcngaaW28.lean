/- Contract of the products of two masses, of the program. -/
import Derived.Test.YtffkpmmgfgcngaaW27
import Derived.Test.YtffkpmmgfgcngaaW5
namespace Go.Proofs.Ytffkpmmgfgcngaa
open Go.RowKit

set_option maxHeartbeats 3200000 in
set_option maxRecDepth 100000 in
theorem together_any (K : Nat) (hcf : ∀ (args : Array Value) (w : World), (callFunc K args).run Try.prog w = .ok (.enter K args) w) (op : Nat → Nat → Nat) (hf : ∀ (i j : Nat) (w : World), i < 16 → j < 16 → Calls Try.prog K #[.int .i64 i, .int .i64 j] w fun e w' => e = .returned (.int .i64 (op i j)) ∧ w = w')
    (sM sN : Int) (aM aN : Option Addr) (n cM cN : Nat) (xs ys : List Int) (w : World) (hM : Row w aM n xs) (hN : Row w aN n ys) (hn : n ≤ 16) (hop : ∀ i j, i < n → j < n → op i j < n) (hx : ∀ k, k < n → 0 ≤ xs.getD k 0 ∧ xs.getD k 0 ≤ 1000000) (hy : ∀ k, k < n → 0 ≤ ys.getD k 0 ∧ ys.getD k 0 ≤ 1000000) :
    Calls Try.prog 103 #[massV sM aM n cM, massV sN aN n cN, .func (.func K) #[] #[]] w fun e w' => ∃ A C, e = .returned (.slice A n C) ∧ Own w.heap.size w' A n C (prods op xs ys) ∧ Below w.heap.size w w' := by
  have HF := Lib.hid hf; clear hf
  have HOP := Lib.hid hop; clear hop
  have HX := Lib.hid hx; clear hx
  have HY := Lib.hid hy; clear hy
  obtain ⟨w0, hw0⟩ : ∃ w0, w0 = (w.alloc (.cells #[.int .i64 sM, .slice aM n cM] 25)).alloc (.cells #[.int .i64 sN, .slice aN n cN] 25) := ⟨_, rfl⟩
  have HBM : Hid (Box w0 w.heap.size 25 (.int .i64 sM) (.slice aM n cM)) := by rw [hw0]; exact (Box.new _ _ _ _).alloc _
  have HBN : Hid (Box w0 (w.heap.size + 1) 25 (.int .i64 sN) (.slice aN n cN)) := by rw [hw0]; exact alloc_at (by simp)
  have HB0 : Hid (Below w.heap.size w w0) := by rw [hw0]; exact ((Below.refl _ _).alloc (Nat.le_refl _) _).alloc (by simp) _
  have HS0 : Hid (w0.heap.size = w.heap.size + 1 + 1) := by show _ = _; rw [hw0]; simp
  have hM0 := hM.below HB0.out
  have hN0 := hN.below HB0.out
  have HW0 := Lib.hid hw0; clear hw0
  obtain ⟨i0, hi, hz0, hz1, hz2⟩ := info_parts info_int
  go_enter Try.func103, Try.ntmps103
  go_wp2_with (at_make; go_loud (refine wpList_make_full _ rfl _ _ 23 rfl (w.heap.size + 1 + 1) 3 i0 (.int .i64 0) 1 Try.underlying23 hi hz0 hz1 _ _ _ _ n rfl rfl (by omega) (by omega) (by rw [hz2]; omega) (by unfold maxLen; omega) (by simp) ?_))
  intro w1 hown hg
  rw [toList_madeCells_one, ← List.map_replicate (f := Value.int .i64) (a := 0)] at hown
  rw [← HW0.out] at hg
  have how : Own (w.heap.size + 1 + 1) w1 (some ⟨w.heap.size + 1 + 1, 0, none⟩) n n (List.replicate n 0) := hown
  have hbw : Below (w.heap.size + 1 + 1) w0 w1 := (Below.refl _ _).grown hg (by rw [HS0.out]; exact Nat.le_refl _) (fun k h => by cases h)
  rw [← prodT_zero op xs ys n] at how
  clear hown hg hi hz0 hz1 hz2 hM hN
  obtain ⟨c1, c2, _, _⟩ := (HBM.out.below hbw (by omega)).cells
  go_wp2_with fail
  clear c1 c2
  go_loopw [19] (fun i wr => ∃ k : Nat, k ≤ n ∧ i = .int .i64 k ∧ Own (w.heap.size + 1 + 1) wr (some ⟨w.heap.size + 1 + 1, 0, none⟩) n n (prodT op xs ys n k 0) ∧ Below (w.heap.size + 1 + 1) w0 wr) (fun i _ => n - (intOf i).toNat)
  case atStart => exact ⟨0, Nat.zero_le _, rfl, how, hbw⟩
  case round =>
    obtain ⟨k, hk, rfl, ho, hbr⟩ := hrel
    clear how hbw
    have HO := Lib.hid ho; clear ho
    have HBR := Lib.hid hbr; clear hbr
    by_cases hlt : k < n
    · obtain ⟨b, off, x, rfl, hxe, hc⟩ := (hM0.below (by rw [HS0.out]; exact HBR.out)).at_ hlt
      have hxb := HX.out k hlt
      rw [← hxe] at hxb
      have HXE := Lib.hid hxe; clear hxe
      obtain ⟨c1, c2, _, _⟩ := (HBN.out.below HBR.out (by omega)).cells
      go_wp2_with fail
      clear c1 c2 hc
      obtain ⟨wo, hwo⟩ : ∃ wo : World, wo = wr := ⟨_, rfl⟩
      clear hwo
      go_loopw [27] (fun i wi => ∃ l : Nat, l ≤ n ∧ i = .int .i64 l ∧ Hid (Own (w.heap.size + 1 + 1) wi (some ⟨w.heap.size + 1 + 1, 0, none⟩) n n (prodT op xs ys n k l)) ∧ Hid (Below (w.heap.size + 1 + 1) w0 wi)) (fun i _ => n - (intOf i).toNat)
      case atStart => exact ⟨0, Nat.zero_le _, rfl, HO, HBR⟩
      case round =>
        obtain ⟨l, hl, rfl, HOI, HBI⟩ := hrel
        by_cases hlt2 : l < n
        · obtain ⟨b2, off2, y, rfl, hye, hc2⟩ := (hN0.below (by rw [HS0.out]; exact HBI.out)).at_ hlt2
          have hyb := HY.out l hlt2
          rw [← hye] at hyb
          have hcn := HOP.out k l hlt hlt2
          have HST := Lib.hid (prodT_step op xs ys n k l)
          have htb := prodT_bound (op := op) hn HX.out HY.out k l (op k l) hlt hl hcn
          have hcl := HOI.out.cell hcn
          have hfr := HOI.out.frozen (op k l)
          have HC := Lib.hid (HF.out k l wr (by omega) (by omega))
          rw [← HXE.out, ← hye] at HST
          obtain ⟨t, ht⟩ : ∃ t, t = (prodT op xs ys n k l).getD (op k l) 0 := ⟨_, rfl⟩
          rw [← ht] at hcl htb HST
          obtain ⟨v, hv⟩ : ∃ v, v = x * y := ⟨_, rfl⟩
          have hvb : 0 ≤ v ∧ v ≤ 1000000000000 := by
            rw [hv]
            refine ⟨Int.mul_nonneg hxb.1 hyb.1, ?_⟩
            have := Int.mul_le_mul hxb.2 hyb.2 hyb.1 (by omega)
            omega
          have e1 : IntKind.i64.wrap (x * y) = v := by rw [← hv]; exact IntWalk.i64_in _ (by omega)
          rw [← hv] at HST
          obtain ⟨q, hq⟩ : ∃ q, q = op k l := ⟨_, rfl⟩
          rw [← hq] at hcn hcl hfr HC HST
          clear ht hv hq hye
          have hi1 : (q : Int) < (n : Int) := by omega
          go_wp2_with fail
          refine HC.out.mono ?_
          rintro e w' ⟨rfl, rfl⟩
          go_wp2_with fail
          go_roundw
          case rel => exact ⟨l + 1, by omega, by go_num, by rw [← HST.out]; exact HOI.out.set q (t + v), HBI.out.setCell (Nat.le_refl _) _⟩
          case measure => simp [intOf]; omega
        · have hl' : l = n := by omega
          subst hl'
          go_wp2_with fail
          go_roundw
          case rel => exact ⟨k + 1, by omega, by go_num, by rw [← prodT_row]; exact HOI.out, HBI.out⟩
          case measure => simp [intOf]; omega
    · have hk' : k = n := by omega
      have HD := Lib.hid (prodT_done (op := op) (ys := ys) hM0.1)
      subst hk'
      go_wp2_with fail
      go_ret
      exact ⟨_, _, rfl, by rw [← HD.out]; exact HO.out.mono (by omega), HB0.out.trans (HBR.out.mono (by omega))⟩
end Go.Proofs.Ytffkpmmgfgcngaa
