/- Contracts: two masses of one question. -/
import Derived.Test.YtffkpmmgfgcngaaW12
import Derived.Test.YtffkpmmgfgcngaaBase3
import Derived.Test.YtffkpmmgfgcngaaMath
namespace Go.Proofs.Ytffkpmmgfgcngaa
open Go.RowKit

set_option maxHeartbeats 1600000 in
theorem ofOneQuestion_any (sM sN : Int) (aM aN : Option Addr) (nM nN cM cN : Nat) (xsM xsN : List Int) (w : World) (hM : Row w aM nM xsM) (hN : Row w aN nN xsN) (hnM : nM ≤ 1048576) (hnN : nN ≤ 1048576) :
    Calls Try.prog 91 #[massV sM aM nM cM, massV sN aN nN cN] w fun e w' => e = .returned (.bool (bothB sM xsM sN xsN)) ∧ Below w.heap.size w w' := by
  obtain ⟨w0, hw0⟩ : ∃ w0, w0 = (w.alloc (.cells #[.int .i64 sM, .slice aM nM cM] 25)).alloc (.cells #[.int .i64 sN, .slice aN nN cN] 25) := ⟨_, rfl⟩
  have HBM : Hid (Box w0 w.heap.size 25 (.int .i64 sM) (.slice aM nM cM)) := by rw [hw0]; exact (Box.new _ _ _ _).alloc _
  have HBN : Hid (Box w0 (w.heap.size + 1) 25 (.int .i64 sN) (.slice aN nN cN)) := by rw [hw0]; exact alloc_at (by simp)
  have HB0 : Hid (Below w.heap.size w w0) := by rw [hw0]; exact ((Below.refl _ _).alloc (Nat.le_refl _) _).alloc (by simp) _
  have hM0 := hM.below HB0.out
  have hN0 := hN.below HB0.out
  have HW0 := Lib.hid hw0; clear hw0
  have HM := Lib.hid (isMass_any sM aM nM cM xsM w0 hM0 hnM)
  have HN := Lib.hid (fun W h => isMass_any sN aN nN cN xsN W h hnN)
  have HE : Hid (bothB sM xsM sN xsN = (massB sM xsM && massB sN xsN && (sM == sN))) := rfl
  rw [HE.out]
  by_cases hm : massB sM xsM = true
  · rw [hm] at HM ⊢
    by_cases hn : massB sN xsN = true
    · rw [hn] at HN ⊢
      clear hm hn HE hM0 hM hN
      go_enter Try.func91, Try.ntmps91
      go_wp2_with fail
      rw [← HW0.out]
      refine HM.out.mono ?_
      rintro e w1 ⟨rfl, b1⟩
      have HBM1 := Lib.hid (HBM.out.below b1 HBM.out.lt)
      have HBN1 := Lib.hid (HBN.out.below b1 HBN.out.lt)
      have hN1 := hN0.below b1
      have HB1 := Lib.hid (HB0.out.trans (b1.mono HB0.out.size))
      clear b1
      obtain ⟨c1, c2, _, _⟩ := HBN1.out.cells
      go_wp2_with fail
      clear c1 c2
      refine (HN.out w1 hN1).mono ?_
      rintro e w2 ⟨rfl, b2⟩
      obtain ⟨c1, c2, _, _⟩ := (HBN1.out.below b2 HBN1.out.lt).cells
      obtain ⟨d1, d2, _, _⟩ := (HBM1.out.below b2 HBM1.out.lt).cells
      have HB2 := Lib.hid (HB1.out.trans (b2.mono HB1.out.size))
      clear b2
      go_wp2_with fail
      go_ret
      exact ⟨rfl, HB2.out⟩
    · have hn' : massB sN xsN = false := by simpa using hn
      rw [hn'] at HN ⊢
      clear hm hn hn' HE hM0 hM hN
      go_enter Try.func91, Try.ntmps91
      go_wp2_with fail
      rw [← HW0.out]
      refine HM.out.mono ?_
      rintro e w1 ⟨rfl, b1⟩
      have HBN1 := Lib.hid (HBN.out.below b1 HBN.out.lt)
      have hN1 := hN0.below b1
      have HB1 := Lib.hid (HB0.out.trans (b1.mono HB0.out.size))
      clear b1
      obtain ⟨c1, c2, _, _⟩ := HBN1.out.cells
      go_wp2_with fail
      clear c1 c2
      refine (HN.out w1 hN1).mono ?_
      rintro e w2 ⟨rfl, b2⟩
      have HB2 := Lib.hid (HB1.out.trans (b2.mono HB1.out.size))
      clear b2
      go_wp2_with fail
      go_ret
      exact ⟨rfl, HB2.out⟩
  · have hm' : massB sM xsM = false := by simpa using hm
    rw [hm'] at HM ⊢
    clear hm hm' HE hM0 hM hN
    go_enter Try.func91, Try.ntmps91
    go_wp2_with fail
    rw [← HW0.out]
    refine HM.out.mono ?_
    rintro e w1 ⟨rfl, b1⟩
    have HB1 := Lib.hid (HB0.out.trans (b1.mono HB0.out.size))
    clear b1
    go_wp2_with fail
    go_ret
    exact ⟨rfl, HB1.out⟩
set_option maxHeartbeats 1600000 in
theorem l3Both_any (sM sN : Int) (aM aN : Option Addr) (nM nN cM cN : Nat) (xsM xsN : List Int) (w : World) (hM : Row w aM nM xsM) (hN : Row w aN nN xsN) (hnM : nM ≤ 1048576) (hnN : nN ≤ 1048576) :
    Calls Try.prog 108 #[massV sM aM nM cM, massV sN aN nN cN] w fun e w' => e = .returned (.bool (bothB sM xsM sN xsN)) ∧ Below w.heap.size w w' := by
  obtain ⟨w0, hw0⟩ : ∃ w0, w0 = (w.alloc (.cells #[.int .i64 sM, .slice aM nM cM] 25)).alloc (.cells #[.int .i64 sN, .slice aN nN cN] 25) := ⟨_, rfl⟩
  have HBM : Hid (Box w0 w.heap.size 25 (.int .i64 sM) (.slice aM nM cM)) := by rw [hw0]; exact (Box.new _ _ _ _).alloc _
  have HBN : Hid (Box w0 (w.heap.size + 1) 25 (.int .i64 sN) (.slice aN nN cN)) := by rw [hw0]; exact alloc_at (by simp)
  have HB0 : Hid (Below w.heap.size w w0) := by rw [hw0]; exact ((Below.refl _ _).alloc (Nat.le_refl _) _).alloc (by simp) _
  have hM0 := hM.below HB0.out
  have hN0 := hN.below HB0.out
  have HW0 := Lib.hid hw0; clear hw0
  have HM := Lib.hid (MassValid_any sM aM nM cM xsM w0 hM0 hnM)
  have HN := Lib.hid (fun W h => MassValid_any sN aN nN cN xsN W h hnN)
  have HE : Hid (bothB sM xsM sN xsN = (massB sM xsM && massB sN xsN && (sM == sN))) := rfl
  rw [HE.out]
  by_cases hm : massB sM xsM = true
  · rw [hm] at HM ⊢
    by_cases hn : massB sN xsN = true
    · rw [hn] at HN ⊢
      clear hm hn HE hM0 hM hN
      go_enter Try.func108, Try.ntmps108
      go_wp2_with fail
      rw [← HW0.out]
      refine HM.out.mono ?_
      rintro e w1 ⟨rfl, b1⟩
      have HBM1 := Lib.hid (HBM.out.below b1 HBM.out.lt)
      have HBN1 := Lib.hid (HBN.out.below b1 HBN.out.lt)
      have hN1 := hN0.below b1
      have HB1 := Lib.hid (HB0.out.trans (b1.mono HB0.out.size))
      clear b1
      obtain ⟨c1, c2, _, _⟩ := HBN1.out.cells
      go_wp2_with fail
      clear c1 c2
      refine (HN.out w1 hN1).mono ?_
      rintro e w2 ⟨rfl, b2⟩
      obtain ⟨c1, c2, _, _⟩ := (HBN1.out.below b2 HBN1.out.lt).cells
      obtain ⟨d1, d2, _, _⟩ := (HBM1.out.below b2 HBM1.out.lt).cells
      have HB2 := Lib.hid (HB1.out.trans (b2.mono HB1.out.size))
      clear b2
      go_wp2_with fail
      go_ret
      exact ⟨rfl, HB2.out⟩
    · have hn' : massB sN xsN = false := by simpa using hn
      rw [hn'] at HN ⊢
      clear hm hn hn' HE hM0 hM hN
      go_enter Try.func108, Try.ntmps108
      go_wp2_with fail
      rw [← HW0.out]
      refine HM.out.mono ?_
      rintro e w1 ⟨rfl, b1⟩
      have HBN1 := Lib.hid (HBN.out.below b1 HBN.out.lt)
      have hN1 := hN0.below b1
      have HB1 := Lib.hid (HB0.out.trans (b1.mono HB0.out.size))
      clear b1
      obtain ⟨c1, c2, _, _⟩ := HBN1.out.cells
      go_wp2_with fail
      clear c1 c2
      refine (HN.out w1 hN1).mono ?_
      rintro e w2 ⟨rfl, b2⟩
      have HB2 := Lib.hid (HB1.out.trans (b2.mono HB1.out.size))
      clear b2
      go_wp2_with fail
      go_ret
      exact ⟨rfl, HB2.out⟩
  · have hm' : massB sM xsM = false := by simpa using hm
    rw [hm'] at HM ⊢
    clear hm hm' HE hM0 hM hN
    go_enter Try.func108, Try.ntmps108
    go_wp2_with fail
    rw [← HW0.out]
    refine HM.out.mono ?_
    rintro e w1 ⟨rfl, b1⟩
    have HB1 := Lib.hid (HB0.out.trans (b1.mono HB0.out.size))
    clear b1
    go_wp2_with fail
    go_ret
    exact ⟨rfl, HB1.out⟩
end Go.Proofs.Ytffkpmmgfgcngaa
