/- Contract: a drawn mass is sometimes made bad. -/
import Derived.Test.YtlfajalhoifliaaGreatDoorW49
namespace Go.Proofs.YtlfajalhoifliaaGreatDoor
open Go.RowKit

/-- what stands while the parts of a mass are doubled -/
def BadR (w0 wb w : World) (k : Nat) (q s : Int) (g n C : Nat) (wr : World) : Prop :=
  ∃ ps, Own wb.heap.size wr (some ⟨g, 0, none⟩) n C ps ∧ Box wr w.heap.size 25 (.int .i64 s) (.slice (some ⟨g, 0, none⟩) n C) ∧ Box wr (w.heap.size + 1) 25 (.int .i64 0) (.slice none 0 0) ∧ Src w0 k q wr ∧ wb.grownBy wr (some k)
theorem BadR.at_ {w0 wb w : World} {k : Nat} {q s : Int} {g n C : Nat} {wr : World} (h : BadR w0 wb w k q s g n C wr) {j : Nat} (hj : j < n) (hg : g < w.heap.size) (hk : k < wb.heap.size) (hgb : wb.heap.size ≤ g) :
    ∃ x, wr.cell? ⟨g, j, none⟩ = some (.int .i64 x) ∧ wr.frozen? ⟨g, j, none⟩ = false ∧ wr.cell? ⟨w.heap.size, 1, none⟩ = some (.slice (some ⟨g, 0, none⟩) n C) ∧ ∀ v, BadR w0 wb w k q s g n C (wr.drew.setCell ⟨g, j, none⟩ (.int .i64 v)) := by
  obtain ⟨ps, ho, hm, hx, hs, hgr⟩ := h
  refine ⟨_, ho.cell hj, ho.frozen j, hm.cells.2.1, fun v => ⟨ps.set j v, (ho.below (w' := wr.drew) (Below.refl _ _).drew).set j v, hm.drew.far (by simp; omega) _, hx.drew.far (by simp; omega) _, (hs.below (w' := wr.drew) (Below.refl _ _).drew).grown (grown_setCell _ _ _) (by simp; omega), set_grown (grown_trans hgr (grown_of_below (w' := wr.drew) (Below.refl _ _).drew _)) (by simp; omega)⟩⟩
set_option maxHeartbeats 6400000 in
set_option maxRecDepth 100000 in
theorem l3Bad_any {w0 wb : World} (k : Nat) (q0 q s : Int) (A : Option Addr) (n C : Nat) (xs : List Int) (w : World) (hgb : wb.grownBy w (some k)) (hkb : k < wb.heap.size) (hB : Below w0.heap.size w0 w) (hk : w0.heap.size ≤ k) (hx : Src w0 k q w) (hq0 : 0 ≤ q0 ∧ q0 ≤ 800000) (hq : q0 ≤ q ∧ q ≤ q0 + 50) (hn : 1 ≤ n ∧ n ≤ 16) (ho : Own wb.heap.size w A n C xs) :
    Calls Tryz.prog 40 #[.pointer (some ⟨k, 0, none⟩), massV s A n C] w fun e w' => DrawnM w0 k q0 60 wb e w' := by
  obtain ⟨wx, hwx⟩ : ∃ wx, wx = (w.alloc (.cells #[.int .i64 s, .slice A n C] 25)).alloc (.cells #[.int .i64 0, .slice none 0 0] 25) := ⟨_, rfl⟩
  have hbm : Box wx w.heap.size 25 (.int .i64 s) (.slice A n C) := by rw [hwx]; exact (Box.new _ _ _ _).alloc _
  have hbx : Box wx (w.heap.size + 1) 25 (.int .i64 0) (.slice none 0 0) := by rw [hwx]; exact alloc_at (by simp)
  have hbw : Below w.heap.size w wx := by rw [hwx]; exact ((Below.refl _ _).alloc (Nat.le_refl _) _).alloc (by simp) _
  have hsx : wx.heap.size = w.heap.size + 1 + 1 := by rw [hwx]; simp
  have hwbw := hgb.size
  have HP := Lib.hid (pickS_any k q 40 wx (hB.trans (hbw.mono hB.size)) hk (hx.below hbw) (by omega) (by omega))
  have HO := Lib.hid (ho.below hbw)
  have HG := Lib.hid (grown_trans hgb (grown_of_below hbw (some k)))
  have HBW := Lib.hid (hB.trans (hbw.mono hB.size))
  have HM := Lib.hid hbm
  have HX := Lib.hid hbx
  have HW := Lib.hid hwx
  have hund := ho.under
  clear hwx hbm hbx hbw hx hB ho hgb
  go_enter Tryz.func40, Tryz.ntmps40
  go_wp2_with fail
  rw [← HW.out]
  refine HP.out.mono ?_
  rintro e w2 ⟨z, rfl, hz, hs2, hg2⟩
  have HO2 := Lib.hid (HO.out.kept hg2 (fun g hgk => by
    rcases HO.out.form with ⟨h, _⟩ | ⟨g', h, h2, _⟩
    · rw [h] at hgk; cases hgk
    · rw [h] at hgk; cases hgk; intro e; cases e; omega))
  have HG2 := Lib.hid (grown_trans HG.out hg2)
  have HM2 := Lib.hid (HM.out.grown hg2 (fun e => by simp at e; omega))
  have HX2 := Lib.hid (HX.out.grown hg2 (fun e => by simp at e; omega))
  have HS2 := Lib.hid hs2
  have HB2 := Lib.hid (HBW.out.grown hg2 HBW.out.size (fun g h => by cases h; exact hk))
  have hfar : ∀ g, A = some ⟨g, 0, none⟩ → g < w.heap.size := hund
  have HKA := Lib.hid (show ∀ g, A = some ⟨g, 0, none⟩ → wb.heap.size ≤ g from fun g hgk => by
    rcases HO2.out.form with ⟨h, _⟩ | ⟨g', h, h2, _⟩
    · rw [h] at hgk; cases hgk
    · rw [h] at hgk; cases hgk; exact h2)
  have hs2l : w.heap.size + 1 + 1 ≤ w2.heap.size := by rw [← hsx]; exact hg2.size
  clear hs2 hg2
  have h6 : z = 0 ∨ z = 1 ∨ z = 2 ∨ z = 3 ∨ z = 4 ∨ 5 ≤ z := by omega
  rcases h6 with rfl | rfl | rfl | rfl | rfl | h6
  · have hL := Row.lit w2 #[.int .i64 0, .int .i64 5, .int .i64 (-1), .int .i64 (wrap64 (s + 1)), .int .i64 9223372036854775807] [0, 5, (-1), (wrap64 (s + 1)), 9223372036854775807] 3 w2.heap.size rfl (fun j hj => by
      have h : j = 0 ∨ j = 1 ∨ j = 2 ∨ j = 3 ∨ j = 4 := by simp at hj; omega
      rcases h with rfl | rfl | rfl | rfl | rfl <;> rfl)
    have hba : Below w2.heap.size w2 (w2.alloc (.cells #[.int .i64 0, .int .i64 5, .int .i64 (-1), .int .i64 (wrap64 (s + 1)), .int .i64 9223372036854775807] 3)) := (Below.refl _ _).alloc (Nat.le_refl _) _
    have hkw2 : k < w2.heap.size := HS2.out.lt
    have HN := Lib.hid (numS_any k (q + 1) (some ⟨w2.heap.size, 0, none⟩) 5 5 [0, 5, (-1), (wrap64 (s + 1)), 9223372036854775807] _ (HB2.out.trans (hba.mono HB2.out.size)) hk (HS2.out.below hba) (by omega) hL (by omega) (fun b off h => by cases h; omega))
    have HMa := Lib.hid (HM2.out.below hba HM2.out.lt)
    have HXa := Lib.hid (HX2.out.below hba HX2.out.lt)
    have HOa := Lib.hid (HO2.out.below hba)
    have HGa := Lib.hid (grown_trans HG2.out (grown_of_below hba _))
    clear hL hba
    obtain ⟨c1, c2, c3, c4⟩ := HM2.out.cells
    go_wp2_with fail
    clear c1 c2 c3 c4
    refine HN.out.mono ?_
    rintro e w3 ⟨z, hz, rfl, hs3, hg3⟩
    obtain ⟨v, hv⟩ : ∃ v, v = ([0, 5, -1, wrap64 (s + 1), 9223372036854775807] : List Int).getD z 0 := ⟨_, rfl⟩
    rw [← hv]
    have HM3 := Lib.hid (HMa.out.grown hg3 (fun e => by simp at e; omega))
    have HX3 := Lib.hid (HXa.out.grown hg3 (fun e => by simp at e; omega))
    have HO3 := Lib.hid (HOa.out.kept hg3 (fun g hgk => by have := HKA.out g hgk; intro e; cases e; omega))
    have HG3 := Lib.hid (grown_trans HGa.out hg3)
    have HS3 := Lib.hid hs3
    have hs3l : w2.heap.size ≤ w3.heap.size := by have := hg3.size; simp at this; omega
    clear hv hs3 hg3 HM2 HX2 HO2 HG2 HS2 HB2 HMa HXa HOa HGa HN
    obtain ⟨c1, c2, c3, c4⟩ := HM3.out.cells
    go_upto_region 15 with fail
    obtain ⟨w4, hw4⟩ : ∃ W, W = w3.setCell ⟨w.heap.size, 0, none⟩ (.int .i64 v) := ⟨_, rfl⟩
    have HM4 : Hid (Box w4 w.heap.size 25 (.int .i64 v) (.slice A n C)) := by rw [hw4]; exact Lib.hid (HM3.out.set0 _)
    have HX4 : Hid (Box w4 (w.heap.size + 1) 25 (.int .i64 0) (.slice none 0 0)) := by rw [hw4]; exact Lib.hid (HX3.out.far (by simp) _)
    have HO4 : Hid (Own wb.heap.size w4 A n C xs) := by rw [hw4]; exact Lib.hid (HO3.out.setFar (fun g hg => by have := hfar g hg; simp; omega) _)
    have HS4 : Hid (Src w0 k (q + 1 + 1) w4) := by rw [hw4]; exact Lib.hid (HS3.out.grown (grown_setCell _ _ _) (by simp; omega))
    have HG4 : Hid (wb.grownBy w4 (some k)) := by rw [hw4]; exact Lib.hid (set_grown HG3.out (by simp; omega))
    rw [← hw4]
    clear hw4 c1 c2 c3 c4 HM3 HX3 HO3 HG3 HS3
    obtain ⟨c1, c2, _, _⟩ := HM4.out.cells
    obtain ⟨d1, d2, f1, f2⟩ := HX4.out.cells
    go_wp2_with fail
    refine bodyPost_ret (v := massV v A n C) (by simp [results, Tryz.results40, go_sem, d1, d2]) rfl ?_
    exact ⟨v, A, n, C, xs, _, rfl, by omega, (HO4.out.setFar (fun g hg => by have := hfar g hg; simp; omega) _).setFar (fun g hg => by have := hfar g hg; simp; omega) _, (HS4.out.grown (grown_setCell _ _ _) (by simp; omega)).grown (grown_setCell _ _ _) (by simp; omega), by omega, set_grown (set_grown HG4.out (by simp; omega)) (by simp; omega)⟩
  · have hown : Own w2.heap.size (w2.alloc (.cells #[] 3)) (some ⟨w2.heap.size, 0, none⟩) 0 0 [] := World.ownsRow_lit w2 #[] 0 (Nat.le_refl _) (by unfold maxLen; omega) rfl
    have hbe : Below w2.heap.size w2 (w2.alloc (.cells #[] 3)) := (Below.refl _ _).alloc (Nat.le_refl _) _
    have hr1 := HO2.out.row.below hbe
    obtain ⟨_, c2, c3, c4⟩ := (HM2.out.alloc (.cells #[] 3)).cells
    go_wp2_with (at_builtin; go_loud (refine wpList_appendAll _ rfl _ _ rfl (some ⟨w2.heap.size, 0, none⟩) 0 0 [] A n C xs _ w2 rfl rfl hown hr1 (by omega) hbe hbe.size (by omega) ?_))
    intro A3 C3 w3 ho3 hb3
    have hz3 := hb3.size
    try simp only [Nat.zero_add, List.nil_append] at ho3
    try simp only [Nat.zero_add]
    clear hown hbe hr1 c2 c3 c4
    go_wp2_with (at_builtin; refine wpList_push _ rfl _ _ rfl A3 n C3 xs 0 w2.heap.size w2 rfl rfl ho3 hb3 hz3 (by omega) ?_)
    intro A4 C4 w4 ho4 hb4
    have hz4 := hb4.size
    obtain ⟨c1, c2, c3, c4⟩ := (HM2.out.below hb4 (by omega)).cells
    have HM4 := Lib.hid (HM2.out.below hb4 (by omega))
    have HX4 := Lib.hid (HX2.out.below hb4 (by omega))
    have HO4 := Lib.hid (ho4.mono (show wb.heap.size ≤ w2.heap.size by omega))
    have hf4 : ∀ g, A4 = some ⟨g, 0, none⟩ → w2.heap.size ≤ g := fun g hg => by
      rcases ho4.form with ⟨h, _⟩ | ⟨g', h, h2, _⟩
      · rw [h] at hg; cases hg
      · rw [h] at hg; cases hg; exact h2
    have HS4 := Lib.hid (HS2.out.below hb4)
    have HG4 := Lib.hid (grown_trans HG2.out (grown_of_below hb4 _))
    clear ho3 hb3 ho4 hb4
    go_upto_region 15 with fail
    obtain ⟨w5, hw5⟩ : ∃ W, W = w4.setCell ⟨w.heap.size, 1, none⟩ (.slice A4 (n + 1) C4) := ⟨_, rfl⟩
    have HM5 : Hid (Box w5 w.heap.size 25 (.int .i64 s) (.slice A4 (n + 1) C4)) := by rw [hw5]; exact Lib.hid (HM4.out.set1 _)
    have HX5 : Hid (Box w5 (w.heap.size + 1) 25 (.int .i64 0) (.slice none 0 0)) := by rw [hw5]; exact Lib.hid (HX4.out.far (by simp) _)
    have HO5 : Hid (Own wb.heap.size w5 A4 (n + 1) C4 (xs ++ [0])) := by rw [hw5]; exact Lib.hid (HO4.out.setFar (fun g hg => by have := hf4 g hg; simp; omega) _)
    have HS5 : Hid (Src w0 k (q + 1) w5) := by rw [hw5]; exact Lib.hid (HS4.out.grown (grown_setCell _ _ _) (by simp; omega))
    have HG5 : Hid (wb.grownBy w5 (some k)) := by rw [hw5]; exact Lib.hid (set_grown HG4.out (by simp; omega))
    rw [← hw5]
    clear hw5 c1 c2 c3 c4 HM4 HX4 HO4 HG4 HS4 HO2 HM2 HX2 HS2 HG2 HB2
    obtain ⟨c1, c2, _, _⟩ := HM5.out.cells
    obtain ⟨d1, d2, f1, f2⟩ := HX5.out.cells
    go_wp2_with fail
    refine bodyPost_ret (v := massV s A4 (n + 1) C4) (by simp [results, Tryz.results40, go_sem, d1, d2]) rfl ?_
    exact ⟨s, A4, n + 1, C4, _, _, rfl, by omega, (HO5.out.setFar (fun g hg => by have := hf4 g hg; simp; omega) _).setFar (fun g hg => by have := hf4 g hg; simp; omega) _, (HS5.out.grown (grown_setCell _ _ _) (by simp; omega)).grown (grown_setCell _ _ _) (by simp; omega), by omega, set_grown (set_grown HG5.out (by simp; omega)) (by simp; omega)⟩
  · rcases HO2.out.form with ⟨_, h0, _⟩ | ⟨g, rfl, hg1, hg2, hnc⟩
    · omega
    have hL := Row.lit w2 #[.int .i64 (-1), .int .i64 1000001, .int .i64 9223372036854775807] [-1, 1000001, 9223372036854775807] 3 w2.heap.size rfl (fun j hj => by
      have h : j = 0 ∨ j = 1 ∨ j = 2 := by simp at hj; omega
      rcases h with rfl | rfl | rfl <;> rfl)
    have hba : Below w2.heap.size w2 (World.drew (w2.alloc (.cells #[.int .i64 (-1), .int .i64 1000001, .int .i64 9223372036854775807] 3))) := ((Below.refl _ _).alloc (Nat.le_refl _) _).drew
    have hkw2 : k < w2.heap.size := HS2.out.lt
    have HN := Lib.hid (numS_any k (q + 1) (some ⟨w2.heap.size, 0, none⟩) 3 3 [-1, 1000001, 9223372036854775807] _ (HB2.out.trans (hba.mono HB2.out.size)) hk (HS2.out.below hba) (by omega) (hL.below (w' := World.drew _) (Below.refl _ _).drew) (by omega) (fun b off h => by cases h; omega))
    have HMa := Lib.hid (HM2.out.below hba HM2.out.lt)
    have HXa := Lib.hid (HX2.out.below hba HX2.out.lt)
    have HOa := Lib.hid (HO2.out.below hba)
    have HGa := Lib.hid (grown_trans HG2.out (grown_of_below hba _))
    have hn0 : (0 : Int) < (n : Int) := by omega
    have hn1 : 0 < n := by omega
    have hgw : g < w.heap.size := hfar g rfl
    have c2 := HM2.out.cells.2.1
    have HC2 := Lib.hid HMa.out.cells.2.1
    clear hL hba
    go_wp2_with fail
    go_region_held3 (fun W => W.cell? ⟨w.heap.size, 1, none⟩ = some (.slice (some ⟨g, 0, none⟩) n C))
      (first | exact c2 | exact HC2.out | exact HM3.out.cells.2.1 | exact (HM3.out.far (by simp; omega) _).cells.2.1 | go_keep)
      ((go_at_call 55; refine (HN.out).mono ?_; rintro e w3 ⟨z, hz, rfl, hs3, hg3⟩; obtain ⟨v, hv⟩ : ∃ v, v = ([-1, 1000001, 9223372036854775807] : List Int).getD z 0 := ⟨_, rfl⟩; rw [← hv]; clear hv; have HM3 := Lib.hid (HMa.out.grown hg3 (fun e => by simp at e; omega)); have HX3 := Lib.hid (HXa.out.grown hg3 (fun e => by simp at e; omega)); have HO3 := Lib.hid (HOa.out.kept hg3 (fun g' hgk => by cases hgk; intro e; cases e; omega)); have HG3 := Lib.hid (grown_trans HGa.out hg3); have HS3 := Lib.hid hs3; have pc3 := HO3.out.cell (show 0 < n by omega); have pf3 := HO3.out.frozen 0; clear hs3 hg3))
    all_goals
      obtain ⟨w4, hw4⟩ : ∃ W, W = w3.setCell ⟨g, 0, none⟩ (.int .i64 v) := ⟨_, rfl⟩
      have HM4 : Hid (Box w4 w.heap.size 25 (.int .i64 s) (.slice (some ⟨g, 0, none⟩) n C)) := by rw [hw4]; exact Lib.hid (HM3.out.far (by simp; omega) _)
      have HX4 : Hid (Box w4 (w.heap.size + 1) 25 (.int .i64 0) (.slice none 0 0)) := by rw [hw4]; exact Lib.hid (HX3.out.far (by simp; omega) _)
      have HO4 : Hid (Own wb.heap.size w4 (some ⟨g, 0, none⟩) n C (xs.set 0 v)) := by rw [hw4]; exact Lib.hid (HO3.out.set 0 v)
      have HS4 : Hid (Src w0 k (q + 1 + 1) w4) := by rw [hw4]; exact Lib.hid (HS3.out.grown (grown_setCell _ _ _) (by simp; omega))
      have HG4 : Hid (wb.grownBy w4 (some k)) := by rw [hw4]; exact Lib.hid (set_grown HG3.out (by simp; omega))
      rw [← hw4]
      clear hw4 pc3 pf3 c2 HC2 HMa HXa HOa HGa HN HM3 HX3 HO3 HG3 HS3
      obtain ⟨c1, c2, _, _⟩ := HM4.out.cells
      obtain ⟨d1, d2, f1, f2⟩ := HX4.out.cells
      go_wp2_with fail
      refine bodyPost_ret (v := massV s (some ⟨g, 0, none⟩) n C) (by simp [results, Tryz.results40, go_sem, d1, d2]) rfl ?_
      exact ⟨s, _, n, C, _, _, rfl, by omega, (HO4.out.setFar (fun g' hg => by cases hg; simp; omega) _).setFar (fun g' hg => by cases hg; simp; omega) _, (HS4.out.grown (grown_setCell _ _ _) (by simp; omega)).grown (grown_setCell _ _ _) (by simp; omega), by omega, set_grown (set_grown HG4.out (by simp; omega)) (by simp; omega)⟩
  · rcases HO2.out.form with ⟨_, h0, _⟩ | ⟨g, rfl, hg1, hg2, hnc⟩
    · omega
    have HR0 : Hid (BadR w0 wb w k (q + 1) s g n C w2) := Lib.hid ⟨xs, HO2.out, HM2.out, HX2.out, HS2.out, HG2.out⟩
    have hgw : g < w.heap.size := hfar g rfl
    clear HO2 HM2 HX2 HS2 HG2 HB2
    go_wp2_with fail
    go_loopw [5] (fun i wr => ∃ j : Nat, j ≤ n ∧ i = .int .i64 j ∧ Hid (BadR w0 wb w k (q + 1) s g n C wr)) (fun i _ => n - (intOf i).toNat)
    case atStart => exact ⟨0, Nat.zero_le _, rfl, HR0⟩
    case round =>
      obtain ⟨j, hj, rfl, HR⟩ := hrel
      by_cases hlt : j < n
      · have hji : (j : Int) < (n : Int) := by omega
        obtain ⟨x, pc, pf, c2, hset⟩ := HR.out.at_ hlt hgw hkb hg1
        have HSET := Lib.hid hset; clear hset HR
        go_wp2_with fail
        go_region
        all_goals
          go_wp2_with fail
          go_roundw
          case rel => exact ⟨j + 1, by omega, by go_num, Lib.hid (HSET.out _)⟩
          case measure => simp [intOf]; omega
      · obtain ⟨ps, ho, hm, hx, hs, hg⟩ := HR.out
        obtain ⟨c1, c2, _, _⟩ := hm.cells
        obtain ⟨d1, d2, f1, f2⟩ := hx.cells
        have HO4 := Lib.hid ho
        have HS4 := Lib.hid hs
        have HG4 := Lib.hid hg
        clear ho hm hx hs hg HR
        go_wp2_with fail
        refine bodyPost_ret (v := massV s (some ⟨g, 0, none⟩) n C) (by simp [results, Tryz.results40, go_sem, d1, d2]) rfl ?_
        exact ⟨s, _, n, C, _, _, rfl, by omega, (HO4.out.setFar (fun g' hg => by cases hg; simp; omega) _).setFar (fun g' hg => by cases hg; simp; omega) _, (HS4.out.grown (grown_setCell _ _ _) (by simp; omega)).grown (grown_setCell _ _ _) (by simp; omega), by omega, set_grown (set_grown HG4.out (by simp; omega)) (by simp; omega)⟩
  · obtain ⟨i0, hi, hz0, hz1, hz2⟩ := info_parts info_int
    obtain ⟨c1, c2, c3, c4⟩ := HM2.out.cells
    go_wp2_with (at_make; go_loud (refine wpList_make_full _ rfl _ _ 23 rfl w2.heap.size 3 i0 (.int .i64 0) 1 Tryz.underlying23 hi hz0 hz1 _ _ _ _ n rfl rfl (by omega) (by omega) (by rw [hz2]; omega) (by unfold maxLen; omega) (by simp) ?_))
    intro w3 hown hgr
    rw [toList_madeCells_one, ← List.map_replicate (f := Value.int .i64) (a := 0)] at hown
    have how : Own w2.heap.size w3 (some ⟨w2.heap.size, 0, none⟩) n n (List.replicate n 0) := hown
    have hbw : Below w2.heap.size w2 w3 := (Below.refl _ _).grown hgr (Nat.le_refl _) (fun k h => by cases h)
    have HM3 := Lib.hid (HM2.out.below hbw (by omega))
    have HX3 := Lib.hid (HX2.out.below hbw (by omega))
    have HO3 := Lib.hid (how.mono (show wb.heap.size ≤ w2.heap.size by omega))
    have HS3 := Lib.hid (HS2.out.below hbw)
    have HG3 := Lib.hid (grown_trans HG2.out (grown_of_below hbw _))
    clear hown hgr how hbw hi hz0 hz1 hz2 c1 c2 c3 c4 HO2 HM2 HX2 HS2 HG2 HB2
    obtain ⟨c1, c2, c3, c4⟩ := HM3.out.cells
    go_upto_region 15 with fail
    obtain ⟨w5, hw5⟩ : ∃ W, W = w3.setCell ⟨w.heap.size, 1, none⟩ (.slice (some ⟨w2.heap.size, 0, none⟩) n n) := ⟨_, rfl⟩
    have HM5 : Hid (Box w5 w.heap.size 25 (.int .i64 s) (.slice (some ⟨w2.heap.size, 0, none⟩) n n)) := by rw [hw5]; exact Lib.hid (HM3.out.set1 _)
    have HX5 : Hid (Box w5 (w.heap.size + 1) 25 (.int .i64 0) (.slice none 0 0)) := by rw [hw5]; exact Lib.hid (HX3.out.far (by simp) _)
    have HO5 : Hid (Own wb.heap.size w5 (some ⟨w2.heap.size, 0, none⟩) n n (List.replicate n 0)) := by rw [hw5]; exact Lib.hid (HO3.out.setFar (fun g hg => by cases hg; simp; omega) _)
    have HS5 : Hid (Src w0 k (q + 1) w5) := by rw [hw5]; exact Lib.hid (HS3.out.grown (grown_setCell _ _ _) (by simp; omega))
    have HG5 : Hid (wb.grownBy w5 (some k)) := by rw [hw5]; exact Lib.hid (set_grown HG3.out (by simp; omega))
    rw [← hw5]
    clear hw5 c1 c2 c3 c4 HM3 HX3 HO3 HG3 HS3
    obtain ⟨c1, c2, _, _⟩ := HM5.out.cells
    obtain ⟨d1, d2, f1, f2⟩ := HX5.out.cells
    go_wp2_with fail
    refine bodyPost_ret (v := massV s (some ⟨w2.heap.size, 0, none⟩) n n) (by simp [results, Tryz.results40, go_sem, d1, d2]) rfl ?_
    exact ⟨s, _, n, n, _, _, rfl, by omega, (HO5.out.setFar (fun g hg => by cases hg; simp; omega) _).setFar (fun g hg => by cases hg; simp; omega) _, (HS5.out.grown (grown_setCell _ _ _) (by simp; omega)).grown (grown_setCell _ _ _) (by simp; omega), by omega, set_grown (set_grown HG5.out (by simp; omega)) (by simp; omega)⟩
  · obtain ⟨c1, c2, _, _⟩ := HM2.out.cells
    obtain ⟨d1, d2, f1, f2⟩ := HX2.out.cells
    go_wp2_with fail
    refine bodyPost_ret (v := massV s A n C) (by simp [results, Tryz.results40, go_sem, d1, d2]) rfl ?_
    exact ⟨s, A, n, C, xs, _, rfl, by omega, (HO2.out.setFar (fun g hg => by have := hfar g hg; simp; omega) _).setFar (fun g hg => by have := hfar g hg; simp; omega) _, (HS2.out.grown (grown_setCell _ _ _) (by simp; omega)).grown (grown_setCell _ _ _) (by simp; omega), by omega, set_grown (set_grown HG2.out (by simp; omega)) (by simp; omega)⟩
end Go.Proofs.YtlfajalhoifliaaGreatDoor
