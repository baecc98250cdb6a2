/- Contracts of quotients in lowest terms, of the program and of the reference. -/
import Derived.Test.YtffkpmmgfgcngaaW22
import Derived.Test.YtffkpmmgfgcngaaMath
import Derived.Deep.RegionHeld3
namespace Go.Proofs.Ytffkpmmgfgcngaa
open Go.RowKit

theorem RetF.none_ : RetF none (.returned (.tuple #[fracV 0 0, .bool false])) := rfl
theorem RetF.some_ (a b : Int) : RetF (some (a, b)) (.returned (.tuple #[fracV a b, .bool true])) := rfl
set_option maxHeartbeats 1600000 in
set_option maxRecDepth 100000 in
theorem lowest_any (num den : Int) (w : World) (hn : -4000000000000000000 ≤ num ∧ num ≤ 4000000000000000000) (hd : 1 ≤ den ∧ den ≤ 4000000000000000000) :
    Calls Try.prog 114 #[.int .i64 num, .int .i64 den] w fun e w' => RetF (fracOf num den) e ∧ Below w.heap.size w w' := by
  obtain ⟨g, p, q, hg, hg1, hg2, hp, hq, hpb, hqb, hF⟩ := frac_facts hn hd
  have HF := Lib.hid hF; clear hF
  obtain ⟨w0, hw0⟩ : ∃ w0, w0 = w.alloc (.cells #[.int .i64 0, .int .i64 0] 40) := ⟨_, rfl⟩
  have HBX : Hid (Box w0 w.heap.size 40 (.int .i64 0) (.int .i64 0)) := by rw [hw0]; exact Box.new _ _ _ _
  have HB0 : Hid (Below w.heap.size w w0) := by rw [hw0]; exact (Below.refl _ _).alloc (Nat.le_refl _) _
  have HS0 : Hid (w0.heap.size = w.heap.size + 1) := by show _ = _; rw [hw0]; simp
  have HW0 := Lib.hid hw0; clear hw0
  have hb1 : Below w0.heap.size w0 (w0.alloc (.cells #[.int .i64 num, .int .i64 den] 3)) := (Below.refl _ _).alloc (Nat.le_refl _) _
  have HD := Lib.hid (divisorOf_any (some ⟨w.heap.size + 1, 0, none⟩) 2 2 [num, den] _ (Row.two w0 num den 3 HS0.out.symm) (by omega) (fun k hk => by have h : k = 0 ∨ k = 1 := (by omega); rcases h with rfl | rfl <;> simp <;> omega))
  rw [gcdL_two, ← hg] at HD
  have HI := Lib.hid (fun W => isFraction_any p q W)
  have hg0 : ¬ g = 0 := by omega
  have hd0 : ¬ den < 0 := by omega
  have e1 : IntKind.i64.wrap (num.tdiv (g : Int)) = p := by rw [← hp]; exact IntWalk.i64_in _ (by omega)
  have e2 : IntKind.i64.wrap (den.tdiv (g : Int)) = q := by rw [← hq]; exact IntWalk.i64_in _ (by omega)
  clear hg hp hq
  by_cases hb : fracB p q = true
  · have HR := Lib.hid (fracOf_yes HF.out hb)
    rw [hb] at HI
    rw [HR.out]
    clear hb
    go_enter Try.func114, Try.ntmps114
    go_wp2_with fail
    rw [← HW0.out]
    refine HD.out.mono ?_
    rintro e w1 ⟨rfl, b1⟩
    have HB1 := Lib.hid (hb1.trans (b1.mono (hb1.size)))
    clear b1 hb1 HD
    have HX1 := Lib.hid (Box.new w1 40 (.int .i64 p) (.int .i64 q)).drew
    have HR1 := Lib.hid ((HBX.out.below HB1.out HBX.out.lt).alloc (.cells #[.int .i64 p, .int .i64 q] 40)).drew
    have HB2 := Lib.hid (HB1.out.alloc HB1.out.size (.cells #[.int .i64 p, .int .i64 q] 40)).drew
    go_wp2_with fail
    go_region
    all_goals
      go_wp2_with fail
      refine (HI.out _).mono ?_
      rintro e w2 ⟨rfl, b2⟩
      obtain ⟨c1, c2, _, _⟩ := (HX1.out.below b2 HX1.out.lt).cells
      obtain ⟨d1, d2, f1, f2⟩ := (HR1.out.below b2 HR1.out.lt).cells
      have HB3 := Lib.hid (HB0.out.trans ((HB2.out.trans (b2.mono HB2.out.size)).mono HB0.out.size))
      clear b2
      go_wp2_with fail
      refine bodyPost_ret (v := .tuple #[fracV p q, .bool true]) (by simp [results, Try.results114, go_sem, d1, d2]) rfl ?_
      exact ⟨RetF.some_ _ _, (HB3.out.setCell (by simp) _).setCell (by simp) _⟩
  · have hb' : fracB p q = false := by simpa using hb
    have HR := Lib.hid (fracOf_no HF.out hb')
    rw [hb'] at HI
    rw [HR.out]
    clear hb hb'
    go_enter Try.func114, Try.ntmps114
    go_wp2_with fail
    rw [← HW0.out]
    refine HD.out.mono ?_
    rintro e w1 ⟨rfl, b1⟩
    have HB1 := Lib.hid (hb1.trans (b1.mono (hb1.size)))
    clear b1 hb1 HD
    have HX1 := Lib.hid (Box.new w1 40 (.int .i64 p) (.int .i64 q)).drew
    have HR1 := Lib.hid ((HBX.out.below HB1.out HBX.out.lt).alloc (.cells #[.int .i64 p, .int .i64 q] 40)).drew
    have HB2 := Lib.hid (HB1.out.alloc HB1.out.size (.cells #[.int .i64 p, .int .i64 q] 40)).drew
    go_wp2_with fail
    go_region
    all_goals
      go_wp2_with fail
      refine (HI.out _).mono ?_
      rintro e w2 ⟨rfl, b2⟩
      obtain ⟨c1, c2, _, _⟩ := (HX1.out.below b2 HX1.out.lt).cells
      obtain ⟨d1, d2, f1, f2⟩ := (HR1.out.below b2 HR1.out.lt).cells
      have HB3 := Lib.hid (HB0.out.trans ((HB2.out.trans (b2.mono HB2.out.size)).mono HB0.out.size))
      clear b2
      go_wp2_with fail
      refine bodyPost_ret (v := .tuple #[fracV 0 0, .bool false]) (by simp [results, Try.results114, go_sem, d1, d2]) rfl ?_
      exact ⟨RetF.none_, (HB3.out.setCell (by simp) _).setCell (by simp) _⟩
set_option maxHeartbeats 1600000 in
set_option maxRecDepth 100000 in
theorem l2Made_any (num den : Int) (w : World) (hn : -4000000000000000000 ≤ num ∧ num ≤ 4000000000000000000) (hd : 1 ≤ den ∧ den ≤ 4000000000000000000) :
    Calls Try.prog 116 #[.int .i64 num, .int .i64 den] w fun e w' => RetF (fracOf num den) e ∧ Below w.heap.size w w' := by
  obtain ⟨g, p, q, hg, hg1, hg2, hp, hq, hpb, hqb, hF⟩ := frac_facts hn hd
  have HF := Lib.hid hF; clear hF
  obtain ⟨w0, hw0⟩ : ∃ w0, w0 = w.alloc (.cells #[.int .i64 0, .int .i64 0] 40) := ⟨_, rfl⟩
  have HBX : Hid (Box w0 w.heap.size 40 (.int .i64 0) (.int .i64 0)) := by rw [hw0]; exact Box.new _ _ _ _
  have HB0 : Hid (Below w.heap.size w w0) := by rw [hw0]; exact (Below.refl _ _).alloc (Nat.le_refl _) _
  have HS0 : Hid (w0.heap.size = w.heap.size + 1) := by show _ = _; rw [hw0]; simp
  have HW0 := Lib.hid hw0; clear hw0
  have HD := Lib.hid (l2Divisor_any num den w0 hn (by omega))
  rw [← hg] at HD
  have HI := Lib.hid (fun W => FractionValid_any p q W)
  have hg0 : ¬ g = 0 := by omega
  have hd0 : ¬ den < 0 := by omega
  have e1 : IntKind.i64.wrap (num.tdiv (g : Int)) = p := by rw [← hp]; exact IntWalk.i64_in _ (by omega)
  have e2 : IntKind.i64.wrap (den.tdiv (g : Int)) = q := by rw [← hq]; exact IntWalk.i64_in _ (by omega)
  clear hg hp hq
  by_cases hb : fracB p q = true
  · have HR := Lib.hid (fracOf_yes HF.out hb)
    rw [hb] at HI
    rw [HR.out]
    clear hb
    go_enter Try.func116, Try.ntmps116
    go_wp2_with fail
    rw [← HW0.out]
    refine HD.out.mono ?_
    rintro e w1 ⟨rfl, rfl⟩
    have HB1 := Lib.hid (Below.refl w0.heap.size w0)
    have HX1 := Lib.hid (Box.new w0 40 (.int .i64 p) (.int .i64 q)).drew
    have HR1 := Lib.hid ((HBX.out.below HB1.out HBX.out.lt).alloc (.cells #[.int .i64 p, .int .i64 q] 40)).drew
    have HB2 := Lib.hid (HB1.out.alloc HB1.out.size (.cells #[.int .i64 p, .int .i64 q] 40)).drew
    go_wp2_with fail
    go_region
    all_goals
      go_wp2_with fail
      refine (HI.out _).mono ?_
      rintro e w2 ⟨rfl, b2⟩
      obtain ⟨c1, c2, _, _⟩ := (HX1.out.below b2 HX1.out.lt).cells
      obtain ⟨d1, d2, f1, f2⟩ := (HR1.out.below b2 HR1.out.lt).cells
      have HB3 := Lib.hid (HB0.out.trans ((HB2.out.trans (b2.mono HB2.out.size)).mono HB0.out.size))
      clear b2
      go_wp2_with fail
      refine bodyPost_ret (v := .tuple #[fracV p q, .bool true]) (by simp [results, Try.results116, go_sem, d1, d2]) rfl ?_
      exact ⟨RetF.some_ _ _, (HB3.out.setCell (by simp) _).setCell (by simp) _⟩
  · have hb' : fracB p q = false := by simpa using hb
    have HR := Lib.hid (fracOf_no HF.out hb')
    rw [hb'] at HI
    rw [HR.out]
    clear hb hb'
    go_enter Try.func116, Try.ntmps116
    go_wp2_with fail
    rw [← HW0.out]
    refine HD.out.mono ?_
    rintro e w1 ⟨rfl, rfl⟩
    have HB1 := Lib.hid (Below.refl w0.heap.size w0)
    have HX1 := Lib.hid (Box.new w0 40 (.int .i64 p) (.int .i64 q)).drew
    have HR1 := Lib.hid ((HBX.out.below HB1.out HBX.out.lt).alloc (.cells #[.int .i64 p, .int .i64 q] 40)).drew
    have HB2 := Lib.hid (HB1.out.alloc HB1.out.size (.cells #[.int .i64 p, .int .i64 q] 40)).drew
    go_wp2_with fail
    go_region
    all_goals
      go_wp2_with fail
      refine (HI.out _).mono ?_
      rintro e w2 ⟨rfl, b2⟩
      obtain ⟨c1, c2, _, _⟩ := (HX1.out.below b2 HX1.out.lt).cells
      obtain ⟨d1, d2, f1, f2⟩ := (HR1.out.below b2 HR1.out.lt).cells
      have HB3 := Lib.hid (HB0.out.trans ((HB2.out.trans (b2.mono HB2.out.size)).mono HB0.out.size))
      clear b2
      go_wp2_with fail
      refine bodyPost_ret (v := .tuple #[fracV 0 0, .bool false]) (by simp [results, Try.results116, go_sem, d1, d2]) rfl ?_
      exact ⟨RetF.none_, (HB3.out.setCell (by simp) _).setCell (by simp) _⟩
end Go.Proofs.Ytffkpmmgfgcngaa
