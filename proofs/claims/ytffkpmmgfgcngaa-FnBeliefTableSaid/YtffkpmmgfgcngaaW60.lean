/- Contracts: the arguments of the laws on tables are drawn. -/
import Derived.Test.YtffkpmmgfgcngaaW59
import Derived.Test.YtffkpmmgfgcngaaW52
namespace Go.Proofs.Ytffkpmmgfgcngaa
open Go.RowKit

/-- a drawn list -/
def ArgL (w : World) (e : Ending) (w' : World) : Prop := ∃ A l C xs, e = .returned (.slice A l C) ∧ l ≤ 17 ∧ Row w' A l xs ∧ Below w.heap.size w w'
set_option maxHeartbeats 800000 in
set_option maxRecDepth 100000 in
theorem DrawSumsBelow_any (a : Option Addr) (l c : Nat) (bs : List Int) (w : World) (hr : BRow w a l bs) (hnc : l ≤ c ∨ l ≤ 2000) :
    Calls Try.prog 78 #[.slice a l c] w fun e w' => ArgL w e w' := by
  have HO := Lib.hid (l14Open_any a l c bs w hr hnc)
  clear hr
  go_enter Try.func78, Try.ntmps78
  go_wp2_with fail
  refine HO.out.mono ?_
  rintro e w1 ⟨rfl, hs1, b1⟩
  have HS := Lib.hid (l5List_any (w0 := w) w.heap.size 0 w1 b1 (Nat.le_refl _) hs1 (by omega))
  have HB := Lib.hid b1
  clear hs1 b1
  go_wp2_with fail
  refine HS.out.mono ?_
  rintro e w2 ⟨A, n, C, xs, q2, rfl, hn, ho, _, _, hg⟩
  have HO2 := Lib.hid ho
  have HB2 := Lib.hid (HB.out.grown hg HB.out.size (fun g h => by cases h; exact Nat.le_refl _))
  clear ho hg
  go_wp2_with fail
  go_ret
  exact ⟨A, n, C, xs, rfl, hn, HO2.out.row, HB2.out⟩
set_option maxHeartbeats 800000 in
set_option maxRecDepth 100000 in
theorem DrawPartsBelow_any (a : Option Addr) (l c : Nat) (bs : List Int) (w : World) (hr : BRow w a l bs) (hnc : l ≤ c ∨ l ≤ 2000) :
    Calls Try.prog 71 #[.slice a l c] w fun e w' => ArgL w e w' := by
  have HO := Lib.hid (l14Open_any a l c bs w hr hnc)
  clear hr
  go_enter Try.func71, Try.ntmps71
  go_wp2_with fail
  refine HO.out.mono ?_
  rintro e w1 ⟨rfl, hs1, b1⟩
  have HS := Lib.hid (l5List_any (w0 := w) w.heap.size 0 w1 b1 (Nat.le_refl _) hs1 (by omega))
  have HB := Lib.hid b1
  clear hs1 b1
  go_wp2_with fail
  refine HS.out.mono ?_
  rintro e w2 ⟨A, n, C, xs, q2, rfl, hn, ho, _, _, hg⟩
  have HO2 := Lib.hid ho
  have HB2 := Lib.hid (HB.out.grown hg HB.out.size (fun g h => by cases h; exact Nat.le_refl _))
  clear ho hg
  go_wp2_with fail
  go_ret
  exact ⟨A, n, C, xs, rfl, hn, HO2.out.row, HB2.out⟩
set_option maxHeartbeats 800000 in
set_option maxRecDepth 100000 in
theorem DrawIsBeliefTable_any (a : Option Addr) (l c : Nat) (bs : List Int) (w : World) (hr : BRow w a l bs) (hnc : l ≤ c ∨ l ≤ 2000) :
    Calls Try.prog 81 #[.slice a l c] w fun e w' => ArgL w e w' := by
  have HO := Lib.hid (l14Open_any a l c bs w hr hnc)
  clear hr
  go_enter Try.func81, Try.ntmps81
  go_wp2_with fail
  refine HO.out.mono ?_
  rintro e w1 ⟨rfl, hs1, b1⟩
  have HS := Lib.hid (l5List_any (w0 := w) w.heap.size 0 w1 b1 (Nat.le_refl _) hs1 (by omega))
  have HB := Lib.hid b1
  clear hs1 b1
  go_wp2_with fail
  refine HS.out.mono ?_
  rintro e w2 ⟨A, n, C, xs, q2, rfl, hn, ho, _, _, hg⟩
  have HO2 := Lib.hid ho
  have HB2 := Lib.hid (HB.out.grown hg HB.out.size (fun g h => by cases h; exact Nat.le_refl _))
  clear ho hg
  go_wp2_with fail
  go_ret
  exact ⟨A, n, C, xs, rfl, hn, HO2.out.row, HB2.out⟩
end Go.Proofs.Ytffkpmmgfgcngaa
