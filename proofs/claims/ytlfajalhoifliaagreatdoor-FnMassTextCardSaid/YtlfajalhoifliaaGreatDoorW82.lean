/- Contract of DrawParseMass: some string that is not too long. -/
import Derived.Test.YtlfajalhoifliaaGreatDoorW81
import Derived.Test.YtlfajalhoifliaaGreatDoorW52
import Derived.Deep.RegionHeld3
import Derived.Deep.DeepMust
import Derived.Deep.DeepFit
namespace Go.Proofs.YtlfajalhoifliaaGreatDoor
open Go.RowKit

set_option maxHeartbeats 1600000 in
set_option maxRecDepth 100000 in
theorem ofT_any {w0 : World} (k : Nat) (q : Int) (g m c : Nat) (ls : List ByteArray) (w : World) (hB : Below w0.heap.size w0 w) (hk : w0.heap.size ≤ k) (hx : Src w0 k q w) (hq : 0 ≤ q ∧ q ≤ 1000000)
    (hL : ∀ j, j < m → w.cell? ⟨g, j, none⟩ = some (.string (ls.getD j .empty))) (hm : 1 ≤ m ∧ m ≤ 1000000) (hg : g < w.heap.size) (hne : g ≠ k) :
    Calls Tryz.prog 35 #[.pointer (some ⟨k, 0, none⟩), .slice (some ⟨g, 0, none⟩) m c] w fun e w' => ∃ z : Nat, z < m ∧ e = .returned (.string (ls.getD z .empty)) ∧ Src w0 k (q + 1) w' ∧ w.grownBy w' (some k) := by
  have HP := Lib.hid (pickS_any k q (m : Int) w hB hk hx hq (by omega))
  have HL := Lib.hid hL; clear hL
  go_enter Tryz.func35, Tryz.ntmps35
  go_wp2_with fail
  refine HP.out.mono ?_
  rintro e w1 ⟨z, rfl, hz, hx1, hgr⟩
  obtain ⟨y, rfl⟩ : ∃ y : Nat, z = y := ⟨z.toNat, by omega⟩
  have hym : y < m := by omega
  have hym2 : (y : Int) < (m : Int) := by omega
  obtain ⟨v, hv⟩ : ∃ v, v = ls.getD y .empty := ⟨_, rfl⟩
  have hc : w1.cell? ⟨g, y, none⟩ = some (.string v) := by
    have h1 := HL.out y hym
    have h2 := hgr.block g hg (fun e => by cases e; exact hne rfl)
    rw [hv, ← h1]
    unfold World.cell?
    simp [h2]
  have HX := Lib.hid hx1
  have HG := Lib.hid hgr
  have HV := Lib.hid hv
  clear hx1 hgr hv hx hB HL
  go_wp2_with fail
  go_ret
  exact ⟨y, hym, by rw [← HV.out]; rfl, HX.out, HG.out⟩
/-- the arguments of a law: a text -/
def ArgT (w : World) (e : Ending) (w' : World) : Prop := ∃ l : List UInt8, e = .returned (.string (bs l)) ∧ l.length ≤ 1000 ∧ Below w.heap.size w w'
theorem ArgT.of {w w' : World} {S : ByteArray} (h : S.size ≤ 1000) (hb : Below w.heap.size w w') : ArgT w (.returned (.string S)) w' := by
  obtain ⟨l, rfl⟩ := bs_list S
  exact ⟨l, rfl, by rw [bs_size] at h; exact h, hb⟩
theorem fmtT_le {s : Int} {xs : List Int} (h : massB s xs = true) : 1 ≤ (fmtT s xs).length ∧ (fmtT s xs).length ≤ 300 := by
  have hI := massB_is rfl h
  have h1 := partsL_le hI.part xs.length (Nat.le_refl _)
  have h2 := dec_length (k := 1) (u := s.toNat) (by omega) (by have := size_cases hI.size; omega)
  have h3 := hI.nums
  rw [fmtT, if_pos h]
  unfold headL
  rw [List.length_append, List.length_append, List.length_singleton]
  omega
theorem run_head (S X : ByteArray) (j : Nat) (h2 : j ≤ S.size) (hX : X = S.extract 0 j) (W : World) : Sem.run Tryz.prog (Instr.slice 9 (.string S) none (some (.int .i64 (j : Int))) none) W = .ok (.string X) W := by
  subst hX
  simp [Instr.slice, Instr.sliceBounds, go_sem, run_underlying Tryz.underlying9]
  omega
theorem run_rest (S X : ByteArray) (z : Int) (j : Nat) (hz : z = j) (h2 : j ≤ S.size) (hX : X = S.extract j S.size) (W : World) : Sem.run Tryz.prog (Instr.slice 9 (.string S) (some (.int .i64 z)) none none) W = .ok (.string X) W := by
  subst hX; subst hz
  simp [Instr.slice, Instr.sliceBounds, go_sem, run_underlying Tryz.underlying9]
  omega
theorem wrap_sumA {y p t : Nat} (h : t = y + p) (ht : t ≤ 300) : IntKind.i64.wrap ((y : Int) + (p : Int)) = (t : Int) := by
  rw [show (y : Int) + (p : Int) = (t : Int) by omega]
  exact IntWalk.i64_in _ (by omega)
theorem wrap_sumB {y p t : Nat} (h : t = y + p) (ht : t ≤ 300) : wrap64 ((y : Int) + (p : Int)) = (t : Int) := by
  rw [show (y : Int) + (p : Int) = (t : Int) by omega]
  exact IntWalk.wrap64_in _ (by omega)
theorem sixL {z : Nat} (h : z < 6) : (([{ data := #[] }, { data := #[44] }, { data := #[32] }, { data := #[97] }, { data := #[49] }, { data := #[58] }] : List ByteArray).getD z .empty).size ≤ 1 := by
  have : z = 0 ∨ z = 1 ∨ z = 2 ∨ z = 3 ∨ z = 4 ∨ z = 5 := by omega
  rcases this with rfl | rfl | rfl | rfl | rfl | rfl <;> decide
set_option maxHeartbeats 3200000 in
set_option maxRecDepth 100000 in
theorem DrawParseMass_any (a : Option Addr) (l c : Nat) (bl : List Int) (w : World) (hr : BRow w a l bl) (hnc : l ≤ c ∨ l ≤ 2000) :
    Calls Tryz.prog 11 #[.slice a l c] w fun e w' => ArgT w e w' := by
  have HO := Lib.hid (l14Open_any a l c bl w hr hnc)
  clear hr
  go_enter Tryz.func11, Tryz.ntmps11
  go_wp2_with fail
  refine HO.out.mono ?_
  rintro e w1 ⟨rfl, hs1, b1⟩
  have HS := Lib.hid (l3Some_any (w0 := w) w.heap.size 0 w1 b1 (Nat.le_refl _) hs1 (by omega))
  have HB1 := Lib.hid b1
  clear hs1 b1
  go_wp2_with fail
  refine HS.out.mono ?_
  rintro e w2 ⟨s, A, n, C, xs, q2, rfl, hm, ho, hs2, hq2, hg2⟩
  have hfl := fmtT_le hm
  have hn16 : n ≤ 1048576 := by have h1 := (massB_is ho.len hm).nums; omega
  have HFM := Lib.hid (sFormatMass_any s A n C xs w2 ho.row hn16)
  obtain ⟨S, hS⟩ : ∃ S, S = bs (fmtT s xs) := ⟨_, rfl⟩
  have hS1 : 1 ≤ S.size ∧ S.size ≤ 300 := by rw [hS, bs_size]; exact hfl
  rw [← hS] at HFM
  have HS2 := Lib.hid hs2
  have HB2 : Hid (Below w.heap.size w w2) := HB1.out.grown hg2 HB1.out.size (fun g h => by cases h; exact Nat.le_refl _)
  clear hm ho hs2 hg2 hfl hS
  go_wp2_with fail
  refine HFM.out.mono ?_
  rintro e w3 ⟨rfl, b3⟩
  have HS3 := Lib.hid (HS2.out.below b3)
  have HB3 := Lib.hid (HB2.out.trans (b3.mono HB2.out.size))
  have HP := Lib.hid (pickS_any w.heap.size q2 2 w3 HB3.out (Nat.le_refl _) HS3.out (by omega) (by omega))
  clear b3
  go_wp2_with fail
  refine HP.out.mono ?_
  rintro e w4 ⟨z, rfl, hz, hs4, hg4⟩
  have HS4 := Lib.hid hs4
  have HB4 : Hid (Below w.heap.size w w4) := HB3.out.grown hg4 HB3.out.size (fun g h => by cases h; exact Nat.le_refl _)
  clear hs4 hg4
  by_cases h0 : z = 0
  · subst h0
    go_wp2_with fail
    go_ret
    exact ArgT.of (by omega) HB4.out
  · have hzz : (z == 0) = false := by simp; exact h0
    have HP5 := Lib.hid (pickS_any w.heap.size (q2 + 1) (S.size : Int) w4 HB4.out (Nat.le_refl _) HS4.out (by omega) (by omega))
    clear hz h0
    go_wp2_with fail
    refine HP5.out.mono ?_
    rintro e w5 ⟨y, rfl, hy, hs5, hg5⟩
    obtain ⟨y, rfl⟩ : ∃ j : Nat, y = j := ⟨y.toNat, by omega⟩
    have hyS : y < S.size := by omega
    have HS5 := Lib.hid hs5
    have HB5 : Hid (Below w.heap.size w w5) := HB4.out.grown hg5 HB4.out.size (fun g h => by cases h; exact Nat.le_refl _)
    clear hs5 hg5 hy
    obtain ⟨X1, hX1⟩ : ∃ X, X = S.extract 0 y := ⟨_, rfl⟩
    have hX1s : X1.size ≤ 300 := by rw [hX1, ByteArray.size_extract]; omega
    have hsl := run_head S X1 y (by omega) hX1
    have hbl : Below w5.heap.size w5 (World.drew (w5.alloc (.cells #[.string { data := #[] }, .string { data := #[44] }, .string { data := #[32] }, .string { data := #[97] }, .string { data := #[49] }, .string { data := #[58] }] 9))) := ((Below.refl w5.heap.size w5).alloc (Nat.le_refl _) _).drew
    have hkw := HS5.out.lt
    have hS300 : S.size ≤ 300 := hS1.2
    have hq6 : 0 ≤ q2 + 1 + 1 ∧ q2 + 1 + 1 ≤ 1000000 := by omega
    have HOF := Lib.hid (ofT_any (w0 := w) w.heap.size (q2 + 1 + 1) w5.heap.size 6 6 [{ data := #[] }, { data := #[44] }, { data := #[32] }, { data := #[97] }, { data := #[49] }, { data := #[58] }] (World.drew (w5.alloc (.cells #[.string { data := #[] }, .string { data := #[44] }, .string { data := #[32] }, .string { data := #[97] }, .string { data := #[49] }, .string { data := #[58] }] 9))) (HB5.out.trans (hbl.mono HB5.out.size)) (Nat.le_refl _) (HS5.out.below hbl) hq6 (fun j hj => by
      have h : j = 0 ∨ j = 1 ∨ j = 2 ∨ j = 3 ∨ j = 4 ∨ j = 5 := by omega
      have hn : (World.drew (w5.alloc (.cells #[.string { data := #[] }, .string { data := #[44] }, .string { data := #[32] }, .string { data := #[97] }, .string { data := #[49] }, .string { data := #[58] }] 9))).heap[w5.heap.size]? = some (.cells #[.string { data := #[] }, .string { data := #[44] }, .string { data := #[32] }, .string { data := #[97] }, .string { data := #[49] }, .string { data := #[58] }] 9) := heap_alloc_new w5 _
      rcases h with rfl | rfl | rfl | rfl | rfl | rfl <;> exact (cell_of_row _ _ _ _ _ _ hn).trans rfl) (by omega) (by simp) (by omega))
    have HBL : Hid (Below w.heap.size w (World.drew (w5.alloc (.cells #[.string { data := #[] }, .string { data := #[44] }, .string { data := #[32] }, .string { data := #[97] }, .string { data := #[49] }, .string { data := #[58] }] 9)))) := HB5.out.trans (hbl.mono HB5.out.size)
    have HPK : Hid (∀ W, Src w w.heap.size (q2 + 1 + 1 + 1) W → Below w.heap.size w W → Calls Tryz.prog 34 #[.pointer (some ⟨w.heap.size, 0, none⟩), .int .i64 2] W fun e w' => ∃ z, e = .returned (.int .i64 z) ∧ (0 ≤ z ∧ (1 ≤ (2 : Int) → z < 2) ∧ ((2 : Int) < 1 → z = 0)) ∧ Src w w.heap.size (q2 + 1 + 1 + 1 + 1) w' ∧ W.grownBy w' (some w.heap.size)) := fun W h hb => pickS_any w.heap.size (q2 + 1 + 1 + 1) 2 W hb (Nat.le_refl _) h (by omega) (by omega)
    clear hX1 hbl
    go_wp2_with fail
    have HD5 : Hid (Below w.heap.size w (World.drew w5)) := HB5.out.drew
    go_region_held3 (fun W => Below w.heap.size w W) (first | with_reducible exact HD5.out | with_reducible exact HBL.out | with_reducible assumption | go_keep) (first
      | (have _t := TK0; go_at_call 34; go_must (refine (HPK.out _ hs6 hB6).mono ?_; rintro e w7 ⟨p, rfl, hp, _, hg7⟩; obtain ⟨p, rfl⟩ : ∃ j : Nat, p = j := ⟨p.toNat, by omega⟩; have hp2 : p < 2 := (by omega); have hB7 : Below w.heap.size w w7 := hB6.grown hg7 hB6.size (fun g h => by cases h; exact Nat.le_refl _); obtain ⟨t, ht⟩ : ∃ t, t = y + p := ⟨_, rfl⟩; have htS : t ≤ S.size := (by omega); have ht0 : (0 : Int) ≤ (t : Int) := Int.natCast_nonneg t; have htI : (t : Int) ≤ (S.size : Int) := Int.ofNat_le.2 htS; obtain ⟨X3, hX3⟩ : ∃ X, X = S.extract t S.size := ⟨_, rfl⟩; have hX3s : X3.size ≤ 300 := (by rw [hX3, ByteArray.size_extract]; omega); have hsl3 := run_rest S X3 (t : Int) t rfl htS hX3; have hk2 := cat_run (X1 ++ V) X3 (by rw [ByteArray.size_append]; omega); have hwA := wrap_sumA ht (Nat.le_trans htS hS300); clear hp hg7 hX3 ht))
      | (go_at_call 35; go_must (refine HOF.out.mono ?_; rintro e w6 ⟨j, hj, rfl, hs6, hg6⟩; obtain ⟨V, hV⟩ : ∃ V, V = ([{ data := #[] }, { data := #[44] }, { data := #[32] }, { data := #[97] }, { data := #[49] }, { data := #[58] }] : List ByteArray).getD j .empty := ⟨_, rfl⟩; have hVs : V.size ≤ 1 := (by rw [hV]; exact sixL hj); rw [← hV]; have hk1 := cat_run X1 V (by omega); have hB6 : Below w.heap.size w w6 := HBL.out.grown hg6 HBL.out.size (fun g h => by cases h; exact Nat.le_refl _); clear hV hg6; have TK0 : True := trivial)))
    all_goals
      go_wp2_with fail
      go_ret
      exact ArgT.of (by rw [ByteArray.size_append, ByteArray.size_append]; omega) hB7
end Go.Proofs.YtlfajalhoifliaaGreatDoor
