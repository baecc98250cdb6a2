/- Contracts of ContourOf, of the program and of the reference. -/
import Derived.Test.YtapkppnjgbcklaaW14
import Derived.Test.YtapkppnjgbcklaaW15
import Derived.Deep.RegionHeld3
import Derived.Test.YtapkppnjgbcklaaBase3
namespace Go.Proofs.Ytapkppnjgbcklaa
open Go.RowKit

/-- the possible parts of the single answers -/
def contour (m : Nat) (xs : List Int) : List Int := tab m (fun k => partOf (fun j => meetB (2 ^ k) j) xs)
theorem size_nat {s : Int} (h : sizeB s = true) : ∃ m : Nat, s = (m : Int) ∧ 1 ≤ m ∧ m ≤ 4 := by
  simp [sizeB] at h
  exact ⟨s.toNat, by omega, by omega, by omega⟩
set_option maxHeartbeats 1600000 in
set_option maxRecDepth 100000 in
theorem contourOf_any (m : Nat) (a : Option Addr) (n c : Nat) (xs : List Int) (w : World) (hr : Row w a n xs) (hn : n ≤ 16) (hm : m ≤ 4) (hp : ∀ k, k < n → 0 ≤ xs.getD k 0 ∧ xs.getD k 0 ≤ 1000000) :
    Calls Try.prog 109 #[massV m a n c] w fun e w' => ∃ A C, e = .returned (.slice A m C) ∧ Own w.heap.size w' A m C (contour m xs) ∧ Below w.heap.size w w' := by
  have HP := Lib.hid (fun (k : Nat) (hk : k < 4) W h => possiblePart_any m (2 ^ k) a n c xs W h hn (by have h : k = 0 ∨ k = 1 ∨ k = 2 ∨ k = 3 := (by omega); rcases h with rfl | rfl | rfl | rfl <;> decide) hp)
  clear hp
  obtain ⟨w0, hw0⟩ : ∃ w0, w0 = w.alloc (.cells #[.int .i64 m, .slice a n c] 30) := ⟨_, rfl⟩
  have HK : Hid (w0.heap[w.heap.size]? = some (.cells #[.int .i64 m, .slice a n c] 30)) := by rw [hw0]; exact alloc_at rfl
  have HB0 : Hid (Below w.heap.size w w0) := by rw [hw0]; exact (Below.refl w.heap.size w).alloc (Nat.le_refl _) _
  have hr0 := hr.below HB0.out
  have hs0 : w0.heap.size = w.heap.size + 1 := by rw [hw0]; simp
  have HS0 := Lib.hid hs0; clear hs0
  have hown0 : Own w0.heap.size (w0.alloc (.cells #[] 3)) (some ⟨w0.heap.size, 0, none⟩) 0 0 (tab 0 (fun k => partOf (fun j => meetB (2 ^ k) j) xs)) := World.ownsRow_lit w0 #[] 0 (Nat.le_refl _) (by unfold maxLen; omega) rfl
  have hb0 : Below w0.heap.size w0 (w0.alloc (.cells #[] 3)) := (Below.refl _ _).alloc (Nat.le_refl _) _
  have HW0 := Lib.hid hw0; clear hw0 hr
  go_enter Try.func109, Try.ntmps109
  go_wp2_with fail
  rw [← HW0.out]
  go_loopw [3, 8] (fun v i wr => ∃ (k : Nat) (A : Option Addr) (C : Nat), k ≤ m ∧ i = .int .i64 k ∧ v = .slice A k C ∧ Own w0.heap.size wr A k C (tab k (fun k => partOf (fun j => meetB (2 ^ k) j) xs)) ∧ Below w0.heap.size w0 wr) (fun _ i _ => m - (intOf i).toNat)
  case atStart => exact ⟨0, _, 0, Nat.zero_le _, rfl, by rw [HS0.out], hown0, hb0⟩
  case round =>
    obtain ⟨k, A, C, hk, rfl, rfl, ho, hbr⟩ := hrel
    clear hown0 hb0
    by_cases hlt : k < m
    · obtain ⟨c1, c2, _, _⟩ := box2 HK.out hbr
      have HPk := Lib.hid (HP.out k (by omega))
      obtain ⟨z, hz⟩ : ∃ z, z = partOf (fun j => meetB (2 ^ k) j) xs := ⟨_, rfl⟩
      rw [← hz] at HPk
      have HT : Hid (tab k (fun k => partOf (fun j => meetB (2 ^ k) j) xs) ++ [z] = tab (k + 1) (fun k => partOf (fun j => meetB (2 ^ k) j) xs)) := by show _ = _; rw [tab_succ, hz]
      obtain ⟨ys, hys⟩ : ∃ ys, ys = tab k (fun k => partOf (fun j => meetB (2 ^ k) j) xs) := ⟨_, rfl⟩
      rw [← hys] at ho HT
      clear hz hys
      have HO := Lib.hid (ho.below (w' := wr.drew) (Below.refl _ _).drew); clear ho
      have HBD := Lib.hid (hbr.drew)
      have HR := Lib.hid ((hr0.below hbr).below (w' := wr.drew) (Below.refl _ _).drew)
      have hz0 : w.heap.size < wr.heap.size := World.block_lt_of_cell? _ _ c1
      have h4 : k = 0 ∨ k = 1 ∨ k = 2 ∨ k = 3 := by omega
      clear hbr
      rcases h4 with rfl | rfl | rfl | rfl
      all_goals
        go_wp2_with fail
        go_region_held3 (fun W => W.cell? ⟨w.heap.size, 0, none⟩ = some (.int .i64 m) ∧ W.cell? ⟨w.heap.size, 1, none⟩ = some (.slice a n c))
          (first | go_keep | exact ⟨(hb'.cell (by rw [HS0.out]; simp)).trans (cell_of_row _ _ _ _ _ _ HK.out), (hb'.cell (by rw [HS0.out]; simp)).trans (cell_of_row _ _ _ _ _ _ HK.out)⟩ | exact ⟨(b2.cell hz0).trans c1, (b2.cell hz0).trans c2⟩)
          (first | (go_at_call 97; refine (HPk.out _ HR.out).mono ?_; rintro e w2 ⟨rfl, b2⟩) | (refine step_push w2 rfl _ _ (by rfl) A _ C ys z _ w0 (by rfl) (by rfl) (HO.out.below b2) (HBD.out.trans (b2.mono HBD.out.size)) (HBD.out.trans (b2.mono HBD.out.size)).size (by omega) ?_; intro A' C' w3 ho' hb'))
        rw [HT.out] at ho'
        have HO' := Lib.hid ho'; clear ho'
        go_wp2_with fail
        go_roundw
        case rel => first | exact ⟨1, A', C', by omega, rfl, rfl, HO'.out, hb'⟩ | exact ⟨2, A', C', by omega, rfl, rfl, HO'.out, hb'⟩ | exact ⟨3, A', C', by omega, rfl, rfl, HO'.out, hb'⟩ | exact ⟨4, A', C', by omega, rfl, rfl, HO'.out, hb'⟩
        case measure => simp [intOf]; omega
    · have hk' : k = m := by omega
      subst hk'
      have HO := Lib.hid ho; clear ho
      go_wp2_with fail
      go_ret
      exact ⟨A, C, rfl, HO.out.mono (by rw [HS0.out]; omega), HB0.out.trans (hbr.mono (by rw [HS0.out]; omega))⟩
/-- what ContourOf returns: nothing for what is no mass -/
def contourT (s : Int) (xs : List Int) : List Int := if massB s xs = true then contour s.toNat xs else []
def contourN (s : Int) (xs : List Int) : Nat := if massB s xs = true then s.toNat else 0
set_option maxHeartbeats 400000 in
theorem iContourOf_any (s : Int) (a : Option Addr) (n c : Nat) (xs : List Int) (w : World) (hr : Row w a n xs) (hn : n ≤ 1048576) :
    Calls Try.prog 59 #[massV s a n c] w fun e w' => ∃ A C, e = .returned (.slice A (contourN s xs) C) ∧ Own w.heap.size w' A (contourN s xs) C (contourT s xs) ∧ Below w.heap.size w w' := by
  have hb1 : Below w.heap.size w (w.alloc (.cells #[.int .i64 s, .slice a n c] 30)) := (Below.refl w.heap.size w).alloc (Nat.le_refl _) _
  have HM := Lib.hid (isMass_any s a n c xs _ (hr.below hb1) hn)
  by_cases hm : massB s xs = true
  · have hI := massB_is hr.1 hm
    obtain ⟨m, rfl, _, hm4⟩ := size_nat hI.size
    have hnl : n ≤ 16 := by have := hI.nums; omega
    rw [show contourN m xs = m by simp [contourN, hm], show contourT m xs = contour m xs by simp [contourT, hm]]
    rw [hm] at HM
    have HP := Lib.hid (fun W h => contourOf_any m a n c xs W h hnl hm4 hI.part)
    clear hm hI
    go_enter Try.func59, Try.ntmps59
    go_wp2_with fail
    refine HM.out.mono ?_
    rintro e w1 ⟨rfl, b1⟩
    obtain ⟨c1, c2, _, _⟩ := box2 (k := w.heap.size) (alloc_at rfl) b1
    have hb := hb1.trans (b1.mono (by simp))
    clear b1
    go_wp2_with fail
    refine (HP.out _ (hr.below hb)).mono ?_
    rintro e w2 ⟨A, C, rfl, o2, b2⟩
    have HO := Lib.hid (o2.mono hb.size); clear o2
    have hb2 := hb.trans (b2.mono hb.size)
    go_wp2_with fail
    go_ret
    exact ⟨A, C, rfl, HO.out, hb2⟩
  · have hm' : massB s xs = false := by simpa using hm
    rw [hm'] at HM
    rw [show contourN s xs = 0 by simp [contourN, hm'], show contourT s xs = [] by simp [contourT, hm']]
    clear hm hm'
    go_enter Try.func59, Try.ntmps59
    go_wp2_with fail
    refine HM.out.mono ?_
    rintro e w1 ⟨rfl, b1⟩
    have hb := hb1.trans (b1.mono (by simp))
    clear b1
    go_wp2_with fail
    go_ret
    exact ⟨none, 0, rfl, Own.nil _ _, hb⟩
