/- Contracts of the measures of the reference. -/
import Derived.Test.YtapkppnjgbcklaaW13
import Derived.Deep.RegionHeld3
namespace Go.Proofs.Ytapkppnjgbcklaa
open Go.RowKit

set_option maxHeartbeats 1600000 in
theorem sImpliedPart_any (s x : Int) (a : Option Addr) (n c : Nat) (xs : List Int) (w : World) (hr : Row w a n xs) (hn : n ≤ 1048576) :
    Calls Try.prog 36 #[massV s a n c, .int .i64 x] w fun e w' => e = .returned (.int .i64 (measure s xs x (partOf (fun j => subB j x.toNat) xs))) ∧ Below w.heap.size w w' := by
  have hb1 : Below w.heap.size w (w.alloc (.cells #[.int .i64 s, .slice a n c] 30)) := (Below.refl w.heap.size w).alloc (Nat.le_refl _) _
  have HS := Lib.hid (l3Set_any s x a n c xs _ (hr.below hb1) hn)
  by_cases hm : (massB s xs && setB s x) = true
  · rw [hm] at HS
    rw [measure, if_pos hm]
    simp only [Bool.and_eq_true] at hm
    have hI := massB_is hr.1 hm.1
    obtain ⟨y, rfl, hy⟩ := set_nat hI hm.2
    rw [Int.toNat_natCast]
    have hnl : n ≤ 16 := by have := hI.nums; omega
    have hxb := hI.part 0 (by omega)
    have hpb := partOf_bound (pr := fun j => subB j y) hr.1 hI.part
    have HP := Lib.hid (fun W h => l4Implied_any s y a n c xs W h hnl (by omega) hI.part)
    obtain ⟨z, hz⟩ : ∃ z, z = partOf (fun j => subB j y) xs := ⟨_, rfl⟩
    rw [← hz] at HP hpb ⊢
    clear hm hI hz
    go_enter Try.func36, Try.ntmps36
    go_wp2_with fail
    refine HS.out.mono ?_
    rintro e w1 ⟨rfl, b1⟩
    obtain ⟨c1, c2, _, _⟩ := box2 (k := w.heap.size) (alloc_at rfl) b1
    have hb := hb1.trans (b1.mono (by simp))
    clear b1
    have HR := Lib.hid (hr.below hb)
    clear hr
    go_wp2_with fail
    refine (HP.out _ HR.out).mono ?_
    rintro e w2 ⟨rfl, b2⟩
    have hb2 := hb.trans (b2.mono hb.size)
    go_wp2_with fail
    go_ret
    exact ⟨rfl, hb2⟩
  · have hm' : (massB s xs && setB s x) = false := by simpa using hm
    rw [hm'] at HS
    rw [measure, if_neg hm]
    clear hm hm'
    go_enter Try.func36, Try.ntmps36
    go_wp2_with fail
    refine HS.out.mono ?_
    rintro e w1 ⟨rfl, b1⟩
    have hb := hb1.trans (b1.mono (by simp))
    go_wp2_with fail
    go_ret
    exact ⟨rfl, hb⟩
