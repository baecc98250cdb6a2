/- Contract: two masses are drawn, mostly of one question. -/
import Derived.Test.YtffkpmmgfgcngaaW52
import Derived.Deep.RegionHeld3
namespace Go.Proofs.Ytffkpmmgfgcngaa
open Go.RowKit

theorem World.cell_far {w : World} {b o k i j : Nat} {u v x : Value} (h1 : b ≠ k) (h2 : b ≠ k) (h : w.cell? ⟨b, o, none⟩ = some x) : ((w.setCell ⟨k, i, none⟩ u).setCell ⟨k, j, none⟩ v).cell? ⟨b, o, none⟩ = some x := by
  have e : ((w.setCell ⟨k, i, none⟩ u).setCell ⟨k, j, none⟩ v).heap[b]? = w.heap[b]? := (Below.heap_setCell _ ⟨k, j, none⟩ v b h1).trans (Below.heap_setCell w ⟨k, i, none⟩ u b h2)
  rw [← h]
  unfold World.cell?
  simp [e]
/-- two drawn masses -/
def DrawnMM (w0 : World) (k : Nat) (q d : Int) (w : World) (e : Ending) (w' : World) : Prop :=
  ∃ s A n C xs t B m D ys q', e = .returned (.tuple #[massV s A n C, massV t B m D]) ∧ (1 ≤ n ∧ n ≤ 17) ∧ (1 ≤ m ∧ m ≤ 17) ∧ Own w.heap.size w' A n C xs ∧ Own w.heap.size w' B m D ys ∧ Src w0 k q' w' ∧ (q ≤ q' ∧ q' ≤ q + d) ∧ w.grownBy w' (some k)
/-- the arguments of a law: two masses -/
def ArgMM (w : World) (e : Ending) (w' : World) : Prop :=
  ∃ s A n C xs t B m D ys, e = .returned (.tuple #[massV s A n C, massV t B m D]) ∧ (1 ≤ n ∧ n ≤ 17) ∧ (1 ≤ m ∧ m ≤ 17) ∧ Row w' A n xs ∧ Row w' B m ys ∧ Below w.heap.size w w'
set_option maxHeartbeats 6400000 in
set_option maxRecDepth 100000 in
theorem l3Pair_any {w0 : World} (k : Nat) (q : Int) (w : World) (hB : Below w0.heap.size w0 w) (hk : w0.heap.size ≤ k) (hx : Src w0 k q w) (hq : 0 ≤ q ∧ q ≤ 500000) :
    Calls Try.prog 89 #[.pointer (some ⟨k, 0, none⟩)] w fun e w' => DrawnMM w0 k q 200 w e w' := by
  have hkw := hx.lt
  obtain ⟨wx, hwx⟩ : ∃ wx, wx = (w.alloc (.cells #[.int .i64 0, .slice none 0 0] 25)).alloc (.cells #[.int .i64 0, .slice none 0 0] 25) := ⟨_, rfl⟩
  have hbx : Box wx w.heap.size 25 (.int .i64 0) (.slice none 0 0) := by rw [hwx]; exact (Box.new _ _ _ _).alloc _
  have hby : Box wx (w.heap.size + 1) 25 (.int .i64 0) (.slice none 0 0) := by rw [hwx]; exact alloc_at (by simp)
  have hbw0 : Below w.heap.size w wx := by rw [hwx]; exact ((Below.refl _ _).alloc (Nat.le_refl _) _).alloc (by simp) _
  have hsx : wx.heap.size = w.heap.size + 1 + 1 := by rw [hwx]; simp
  have hBx := hB.trans (hbw0.mono hB.size)
  have HP := Lib.hid (l3Open_any k q wx hBx hk (hx.below hbw0) (by omega))
  have HX := Lib.hid hbx
  have HY := Lib.hid hby
  have HG := Lib.hid (grown_of_below hbw0 (some k))
  have HB := Lib.hid hBx
  have HW := Lib.hid hwx
  clear hwx hbx hby hbw0 hBx hx hB
  go_enter Try.func89, Try.ntmps89
  go_wp2_with fail
  rw [← HW.out]
  refine HP.out.mono ?_
  rintro e w2 ⟨s, A, n, C, xs, q2, rfl, hn, ho, hs2, hqq, hg2⟩
  have HX2 := Lib.hid (HX.out.grown hg2 (fun e => by simp at e; omega))
  have HY2 := Lib.hid (HY.out.grown hg2 (fun e => by simp at e; omega))
  have HG2 := Lib.hid (grown_trans HG.out hg2)
  have HB2 := Lib.hid (HB.out.grown hg2 HB.out.size (fun g h => by cases h; exact hk))
  have HO2 := Lib.hid ho
  have HS2 := Lib.hid hs2
  have hsz2 := hg2.size
  have hk2 := hs2.lt
  clear ho hs2 hg2
  go_upto_region 2 with fail
  obtain ⟨w3, hw3⟩ : ∃ W, W = w2.alloc (.cells #[.int .i64 s, .slice A n C] 25) := ⟨_, rfl⟩
  have ba : Below w2.heap.size w2 w3 := by rw [hw3]; exact (Below.refl _ _).alloc (Nat.le_refl _) _
  have HM3 : Hid (Box w3 w2.heap.size 25 (.int .i64 s) (.slice A n C)) := by rw [hw3]; exact Lib.hid (Box.new _ _ _ _)
  rw [← hw3]
  have HX3 := Lib.hid (HX2.out.below ba HX2.out.lt)
  have HY3 := Lib.hid (HY2.out.below ba HY2.out.lt)
  have HO3 := Lib.hid (HO2.out.below ba)
  have HS3 := Lib.hid (HS2.out.below ba)
  have HG3 := Lib.hid (grown_trans HG2.out (grown_of_below ba _))
  have HB3 := Lib.hid (HB2.out.trans (ba.mono HB2.out.size))
  clear hw3 ba HX2 HY2 HO2 HS2 HG2
  have hkA : ∀ g, A = some ⟨g, 0, none⟩ → some k ≠ some g := fun g h => by
    rcases HO3.out.form with ⟨h1, _⟩ | ⟨g1, h1, h2, _⟩
    · rw [h1] at h; cases h
    · rw [h1] at h; cases h; intro e; cases e; omega
  have HKA := Lib.hid hkA; clear hkA
  have HV := Lib.hid (MassValid_any s A n C xs w3 HO3.out.row (by omega))
  obtain ⟨c1, c2, _, _⟩ := HM3.out.cells
  go_wp2_with fail
  clear c1 c2
  refine HV.out.mono ?_
  rintro e w5 ⟨rfl, b5⟩
  have HM5 := Lib.hid (HM3.out.below b5 HM3.out.lt)
  have HX5 := Lib.hid (HX3.out.below b5 HX3.out.lt)
  have HY5 := Lib.hid (HY3.out.below b5 HY3.out.lt)
  have HO5 := Lib.hid (HO3.out.below b5)
  have HS5 := Lib.hid (HS3.out.below b5)
  have HG5 := Lib.hid (grown_trans HG3.out (grown_of_below b5 _))
  have HB5 := Lib.hid (HB3.out.trans (b5.mono HB3.out.size))
  clear b5 HM3 HX3 HY3 HO3 HS3 HG3 HB3 HV
  have k1 : w2.heap.size ≠ w.heap.size := by omega
  have k2 : w2.heap.size ≠ w.heap.size + 1 := by omega
  have HF1 : Hid (∀ (W : World) (u v : Value), (W.cell? ⟨w2.heap.size, 0, none⟩ = some (.int .i64 s) ∧ W.cell? ⟨w2.heap.size, 1, none⟩ = some (.slice A n C)) → (((W.setCell ⟨w.heap.size, 0, none⟩ u).setCell ⟨w.heap.size, 1, none⟩ v).cell? ⟨w2.heap.size, 0, none⟩ = some (.int .i64 s) ∧ ((W.setCell ⟨w.heap.size, 0, none⟩ u).setCell ⟨w.heap.size, 1, none⟩ v).cell? ⟨w2.heap.size, 1, none⟩ = some (.slice A n C))) := fun W u v h => ⟨World.cell_far k1 k1 h.1, World.cell_far k1 k1 h.2⟩
  have HF2 : Hid (∀ (W : World) (u v : Value), (W.cell? ⟨w2.heap.size, 0, none⟩ = some (.int .i64 s) ∧ W.cell? ⟨w2.heap.size, 1, none⟩ = some (.slice A n C)) → (((W.setCell ⟨w.heap.size + 1, 0, none⟩ u).setCell ⟨w.heap.size + 1, 1, none⟩ v).cell? ⟨w2.heap.size, 0, none⟩ = some (.int .i64 s) ∧ ((W.setCell ⟨w.heap.size + 1, 0, none⟩ u).setCell ⟨w.heap.size + 1, 1, none⟩ v).cell? ⟨w2.heap.size, 1, none⟩ = some (.slice A n C))) := fun W u v h => ⟨World.cell_far k2 k2 h.1, World.cell_far k2 k2 h.2⟩
  by_cases hm : massB s xs = true
  · rw [hm]
    have HP5 := Lib.hid (pickS_any k q2 16 w5 HB5.out hk HS5.out (by omega) (by omega))
    have HMV := Lib.hid hm
    clear hm
    go_wp2_with fail
    refine HP5.out.mono ?_
    rintro e w6 ⟨z, rfl, hz, hs6, hg6⟩
    have hkA := HKA.out
    have HM6 := Lib.hid (HM5.out.grown hg6 (fun e => by simp at e; omega))
    have HX6 := Lib.hid (HX5.out.grown hg6 (fun e => by simp at e; omega))
    have HY6 := Lib.hid (HY5.out.grown hg6 (fun e => by simp at e; omega))
    have HO6 := Lib.hid (HO5.out.kept hg6 hkA)
    have HG6 := Lib.hid (grown_trans HG5.out hg6)
    have HS6 := Lib.hid hs6
    have HB6 := Lib.hid (HB5.out.grown hg6 HB5.out.size (fun g h => by cases h; exact hk))
    clear hs6 hg6 HM5 HX5 HY5 HO5 HS5 HG5 HB5 HP5 hkA
    have hlt6 := HM6.out.lt
    by_cases h0 : 0 < z
    · have hI := massB_is HO6.out.len HMV.out
      have hsb := hI.size
      obtain ⟨sm, rfl⟩ : ∃ sm : Nat, s = sm := ⟨s.toNat, by have := size_cases hsb; omega⟩
      have HD := Lib.hid (l3Draw_any k (q2 + 1) sm n w6.drew hI.size hI.fit HB6.out.drew hk (HS6.out.below (w' := w6.drew) (Below.refl _ _).drew) (by omega))
      have HM7 := Lib.hid HM6.out.drew
      have HX7 := Lib.hid HX6.out.drew
      have HY7 := Lib.hid HY6.out.drew
      have HO7 := Lib.hid (HO6.out.below (w' := w6.drew) (Below.refl _ _).drew)
      have HG7 := Lib.hid (grown_trans HG6.out (grown_of_below (w' := w6.drew) (Below.refl _ _).drew (some k)))
      have HB7 := Lib.hid HB6.out.drew
      have hsz7 : w6.drew.heap.size = w6.heap.size := rfl
      obtain ⟨d1, d2, _, _⟩ := HM7.out.cells
      have hkA := HKA.out
      clear hI hsb
      go_wp2_with fail
      go_region_held3 (fun W => W.cell? ⟨w2.heap.size, 0, none⟩ = some (.int .i64 sm) ∧ W.cell? ⟨w2.heap.size, 1, none⟩ = some (.slice A n C))
        (first | with_reducible exact ⟨d1, d2⟩ | with_reducible exact HF1.out _ _ _ (by assumption) | with_reducible exact HF2.out _ _ _ (by assumption) | exact ⟨HM9.out.cells.1, HM9.out.cells.2.1⟩ | exact ⟨HM8.out.cells.1, HM8.out.cells.2.1⟩ | go_keep)
        (first
          | ((go_at_call 156; refine HD.out.mono ?_; rintro e w8 ⟨r, A8, n8, C8, xs8, q8, rfl, hv8, ho8, hs8, hqq8, hg8⟩; have HM8 := Lib.hid (HM7.out.grown hg8 (fun e => by simp at e; omega)); have HX8 := Lib.hid (HX7.out.grown hg8 (fun e => by simp at e; omega)); have HY8 := Lib.hid (HY7.out.grown hg8 (fun e => by simp at e; omega)); have HO8 := Lib.hid (HO7.out.kept hg8 hkA); have HG8 := Lib.hid (grown_trans HG7.out hg8); have HB8 := Lib.hid (HB7.out.grown hg8 HB7.out.size (fun g h => by cases h; exact hk)); have hm8 := massB_is ho8.len hv8; have hn8 : 1 ≤ n8 ∧ n8 ≤ 16 := by have h := hm8.nums; omega))
          | ((go_at_call 155; refine (l3Bad_any (wb := w6.drew) k (q2 + 1) q8 r A8 n8 C8 xs8 _ hg8 (by have h := HS6.out.lt; rw [hsz7]; exact h) HB8.out hk hs8 (by omega) (by omega) hn8 ho8).mono ?_; rintro e w9 ⟨t, A2, n2, C2, xs2, q9, rfl, hn2, ho9, hs9, hqq9, hg9⟩; have HM9 := Lib.hid (HM7.out.grown hg9 (fun e => by simp at e; omega)); have HX9 := Lib.hid (HX7.out.grown hg9 (fun e => by simp at e; omega)); have HY9 := Lib.hid (HY7.out.grown hg9 (fun e => by simp at e; omega)); have HO9 := Lib.hid (HO7.out.kept hg9 hkA); have HG9 := Lib.hid (grown_trans HG7.out hg9); have HP9 := Lib.hid ho9; have HS9 := Lib.hid hs9; obtain ⟨x1, x2, x3, x4⟩ := HX9.out.cells; obtain ⟨y1, y2, y3, y4⟩ := HY9.out.cells)))
      all_goals
        go_wp2_with fail
        refine bodyPost_ret (v := .tuple #[massV sm A n C, massV t A2 n2 C2]) (by simp [results, Try.results89, go_sem, x1, x2, y1, y2]) rfl ?_
        exact ⟨sm, A, n, C, xs, t, A2, n2, C2, xs2, _, rfl, hn, hn2, ((((HO9.out.setBox (by omega) _ _).setBox (by omega) _ _)).mono (by omega)), ((((HP9.out.setBox (by omega) _ _).setBox (by omega) _ _)).mono (by omega)), (((HS9.out.grown (grown_setCell _ _ _) (by simp; omega)).grown (grown_setCell _ _ _) (by simp; omega)).grown (grown_setCell _ _ _) (by simp; omega)).grown (grown_setCell _ _ _) (by simp; omega), by omega, set_grown (set_grown (set_grown (set_grown HG9.out (by simp)) (by simp)) (by simp)) (by simp)⟩
    · have hz0 : z = 0 := by omega
      subst hz0
      have HD := Lib.hid (l3Open_any k (q2 + 1) w6.drew HB6.out.drew hk (HS6.out.below (w' := w6.drew) (Below.refl _ _).drew) (by omega))
      have HM7 := Lib.hid HM6.out.drew
      have HX7 := Lib.hid HX6.out.drew
      have HY7 := Lib.hid HY6.out.drew
      have HO7 := Lib.hid (HO6.out.below (w' := w6.drew) (Below.refl _ _).drew)
      have HG7 := Lib.hid (grown_trans HG6.out (grown_of_below (w' := w6.drew) (Below.refl _ _).drew (some k)))
      have hsz7 : w6.drew.heap.size = w6.heap.size := rfl
      obtain ⟨d1, d2, _, _⟩ := HM7.out.cells
      have hkA := HKA.out
      have HM8 := HM7
      go_wp2_with fail
      go_region_held3 (fun W => W.cell? ⟨w2.heap.size, 0, none⟩ = some (.int .i64 s) ∧ W.cell? ⟨w2.heap.size, 1, none⟩ = some (.slice A n C))
        (first | with_reducible exact ⟨d1, d2⟩ | with_reducible exact HF1.out _ _ _ (by assumption) | with_reducible exact HF2.out _ _ _ (by assumption) | exact ⟨HM9.out.cells.1, HM9.out.cells.2.1⟩ | exact ⟨HM8.out.cells.1, HM8.out.cells.2.1⟩ | go_keep)
        (first
          | ((go_at_call 118; refine HD.out.mono ?_; rintro e w9 ⟨t, A2, n2, C2, xs2, q9, rfl, hn2, ho9, hs9, hqq9, hg9⟩; have HM9 := Lib.hid (HM7.out.grown hg9 (fun e => by simp at e; omega)); have HX9 := Lib.hid (HX7.out.grown hg9 (fun e => by simp at e; omega)); have HY9 := Lib.hid (HY7.out.grown hg9 (fun e => by simp at e; omega)); have HO9 := Lib.hid (HO7.out.kept hg9 hkA); have HG9 := Lib.hid (grown_trans HG7.out hg9); have HP9 := Lib.hid ho9; have HS9 := Lib.hid hs9; obtain ⟨x1, x2, x3, x4⟩ := HX9.out.cells; obtain ⟨y1, y2, y3, y4⟩ := HY9.out.cells)))
      all_goals
        go_wp2_with fail
        refine bodyPost_ret (v := .tuple #[massV s A n C, massV t A2 n2 C2]) (by simp [results, Try.results89, go_sem, x1, x2, y1, y2]) rfl ?_
        exact ⟨s, A, n, C, xs, t, A2, n2, C2, xs2, _, rfl, hn, hn2, ((((HO9.out.setBox (by omega) _ _).setBox (by omega) _ _)).mono (by omega)), ((((HP9.out.setBox (by omega) _ _).setBox (by omega) _ _)).mono (by omega)), (((HS9.out.grown (grown_setCell _ _ _) (by simp; omega)).grown (grown_setCell _ _ _) (by simp; omega)).grown (grown_setCell _ _ _) (by simp; omega)).grown (grown_setCell _ _ _) (by simp; omega), by omega, set_grown (set_grown (set_grown (set_grown HG9.out (by simp)) (by simp)) (by simp)) (by simp)⟩
  · have hm' : massB s xs = false := by simpa using hm
    rw [hm']
    clear hm hm'
    have hlt5 := HM5.out.lt
    have HD := Lib.hid (l3Open_any k q2 w5.drew HB5.out.drew hk (HS5.out.below (w' := w5.drew) (Below.refl _ _).drew) (by omega))
    have HM7 := Lib.hid HM5.out.drew
    have HX7 := Lib.hid HX5.out.drew
    have HY7 := Lib.hid HY5.out.drew
    have HO7 := Lib.hid (HO5.out.below (w' := w5.drew) (Below.refl _ _).drew)
    have HG7 := Lib.hid (grown_trans HG5.out (grown_of_below (w' := w5.drew) (Below.refl _ _).drew (some k)))
    have hsz7 : w5.drew.heap.size = w5.heap.size := rfl
    obtain ⟨d1, d2, _, _⟩ := HM7.out.cells
    have hkA := HKA.out
    have HM8 := HM7
    go_wp2_with fail
    go_region_held3 (fun W => W.cell? ⟨w2.heap.size, 0, none⟩ = some (.int .i64 s) ∧ W.cell? ⟨w2.heap.size, 1, none⟩ = some (.slice A n C))
      (first | with_reducible exact ⟨d1, d2⟩ | with_reducible exact HF1.out _ _ _ (by assumption) | with_reducible exact HF2.out _ _ _ (by assumption) | exact ⟨HM9.out.cells.1, HM9.out.cells.2.1⟩ | exact ⟨HM8.out.cells.1, HM8.out.cells.2.1⟩ | go_keep)
      (first
        | ((go_at_call 118; refine HD.out.mono ?_; rintro e w9 ⟨t, A2, n2, C2, xs2, q9, rfl, hn2, ho9, hs9, hqq9, hg9⟩; have HM9 := Lib.hid (HM7.out.grown hg9 (fun e => by simp at e; omega)); have HX9 := Lib.hid (HX7.out.grown hg9 (fun e => by simp at e; omega)); have HY9 := Lib.hid (HY7.out.grown hg9 (fun e => by simp at e; omega)); have HO9 := Lib.hid (HO7.out.kept hg9 hkA); have HG9 := Lib.hid (grown_trans HG7.out hg9); have HP9 := Lib.hid ho9; have HS9 := Lib.hid hs9; obtain ⟨x1, x2, x3, x4⟩ := HX9.out.cells; obtain ⟨y1, y2, y3, y4⟩ := HY9.out.cells)))
    all_goals
      go_wp2_with fail
      refine bodyPost_ret (v := .tuple #[massV s A n C, massV t A2 n2 C2]) (by simp [results, Try.results89, go_sem, x1, x2, y1, y2]) rfl ?_
      exact ⟨s, A, n, C, xs, t, A2, n2, C2, xs2, _, rfl, hn, hn2, ((((HO9.out.setBox (by omega) _ _).setBox (by omega) _ _)).mono (by omega)), ((((HP9.out.setBox (by omega) _ _).setBox (by omega) _ _)).mono (by omega)), (((HS9.out.grown (grown_setCell _ _ _) (by simp; omega)).grown (grown_setCell _ _ _) (by simp; omega)).grown (grown_setCell _ _ _) (by simp; omega)).grown (grown_setCell _ _ _) (by simp; omega), by omega, set_grown (set_grown (set_grown (set_grown HG9.out (by simp)) (by simp)) (by simp)) (by simp)⟩
set_option maxHeartbeats 800000 in
set_option maxRecDepth 100000 in
theorem DrawConjoinMasses_any (a : Option Addr) (l c : Nat) (bs : List Int) (w : World) (hr : BRow w a l bs) (hnc : l ≤ c ∨ l ≤ 2000) :
    Calls Try.prog 15 #[.slice a l c] w fun e w' => ArgMM w e w' := by
  obtain ⟨wx, hwx⟩ : ∃ wx, wx = (w.alloc (.cells #[.int .i64 0, .slice none 0 0] 25)).alloc (.cells #[.int .i64 0, .slice none 0 0] 25) := ⟨_, rfl⟩
  have hbx : Box wx w.heap.size 25 (.int .i64 0) (.slice none 0 0) := by rw [hwx]; exact (Box.new _ _ _ _).alloc _
  have hby : Box wx (w.heap.size + 1) 25 (.int .i64 0) (.slice none 0 0) := by rw [hwx]; exact alloc_at (by simp)
  have hbw0 : Below w.heap.size w wx := by rw [hwx]; exact ((Below.refl _ _).alloc (Nat.le_refl _) _).alloc (by simp) _
  have hsx : wx.heap.size = w.heap.size + 1 + 1 := by rw [hwx]; simp
  have HO := Lib.hid (l14Open_any a l c bs wx (hr.below hbw0) hnc)
  rw [hsx] at HO
  have HX := Lib.hid hbx
  have HY := Lib.hid hby
  have HB := Lib.hid hbw0
  have HW := Lib.hid hwx
  clear hwx hbx hby hbw0 hr
  go_enter Try.func15, Try.ntmps15
  go_wp2_with fail
  rw [← HW.out]
  refine HO.out.mono ?_
  rintro e w1 ⟨rfl, hs1, b1⟩
  have HS := Lib.hid (l3Pair_any (w0 := wx) (w.heap.size + 1 + 1) 0 w1 (by rw [hsx] <;> exact b1) (by omega) hs1 (by omega))
  have HX1 := Lib.hid (HX.out.below b1 (by omega))
  have HY1 := Lib.hid (HY.out.below b1 (by omega))
  have HB1 := Lib.hid (HB.out.trans (b1.mono (by omega)))
  have hsz1 := HY1.out.lt
  clear hs1 b1
  go_wp2_with fail
  refine HS.out.mono ?_
  rintro e w2 ⟨s, A, n, C, xs, t, A2, n2, C2, xs2, q2, rfl, hn, hn2, ho, ho2, _, _, hg⟩
  obtain ⟨x1, x2, x3, x4⟩ := (HX1.out.grown hg (by simp; omega)).cells
  obtain ⟨y1, y2, y3, y4⟩ := (HY1.out.grown hg (by simp)).cells
  have HO2 := Lib.hid ho
  have HP2 := Lib.hid ho2
  have HB2 := Lib.hid (HB1.out.grown hg HB1.out.size (fun g h => by cases h; omega))
  clear ho ho2 hg hsx
  go_wp2_with fail
  refine bodyPost_ret (v := .tuple #[massV s A n C, massV t A2 n2 C2]) (by simp [results, Try.results15, go_sem, x1, x2, y1, y2]) rfl ?_
  exact ⟨s, A, n, C, xs, t, A2, n2, C2, xs2, rfl, hn, hn2, ((HO2.out.setBox (by omega) _ _).setBox (by omega) _ _).row, ((HP2.out.setBox (by omega) _ _).setBox (by omega) _ _).row, (((HB2.out.setCell (Nat.le_refl _) _).setCell (Nat.le_refl _) _).setCell (by simp) _).setCell (by simp) _⟩
set_option maxHeartbeats 800000 in
set_option maxRecDepth 100000 in
theorem DrawDisjoinMasses_any (a : Option Addr) (l c : Nat) (bs : List Int) (w : World) (hr : BRow w a l bs) (hnc : l ≤ c ∨ l ≤ 2000) :
    Calls Try.prog 22 #[.slice a l c] w fun e w' => ArgMM w e w' := by
  obtain ⟨wx, hwx⟩ : ∃ wx, wx = (w.alloc (.cells #[.int .i64 0, .slice none 0 0] 25)).alloc (.cells #[.int .i64 0, .slice none 0 0] 25) := ⟨_, rfl⟩
  have hbx : Box wx w.heap.size 25 (.int .i64 0) (.slice none 0 0) := by rw [hwx]; exact (Box.new _ _ _ _).alloc _
  have hby : Box wx (w.heap.size + 1) 25 (.int .i64 0) (.slice none 0 0) := by rw [hwx]; exact alloc_at (by simp)
  have hbw0 : Below w.heap.size w wx := by rw [hwx]; exact ((Below.refl _ _).alloc (Nat.le_refl _) _).alloc (by simp) _
  have hsx : wx.heap.size = w.heap.size + 1 + 1 := by rw [hwx]; simp
  have HO := Lib.hid (l14Open_any a l c bs wx (hr.below hbw0) hnc)
  rw [hsx] at HO
  have HX := Lib.hid hbx
  have HY := Lib.hid hby
  have HB := Lib.hid hbw0
  have HW := Lib.hid hwx
  clear hwx hbx hby hbw0 hr
  go_enter Try.func22, Try.ntmps22
  go_wp2_with fail
  rw [← HW.out]
  refine HO.out.mono ?_
  rintro e w1 ⟨rfl, hs1, b1⟩
  have HS := Lib.hid (l3Pair_any (w0 := wx) (w.heap.size + 1 + 1) 0 w1 (by rw [hsx] <;> exact b1) (by omega) hs1 (by omega))
  have HX1 := Lib.hid (HX.out.below b1 (by omega))
  have HY1 := Lib.hid (HY.out.below b1 (by omega))
  have HB1 := Lib.hid (HB.out.trans (b1.mono (by omega)))
  have hsz1 := HY1.out.lt
  clear hs1 b1
  go_wp2_with fail
  refine HS.out.mono ?_
  rintro e w2 ⟨s, A, n, C, xs, t, A2, n2, C2, xs2, q2, rfl, hn, hn2, ho, ho2, _, _, hg⟩
  obtain ⟨x1, x2, x3, x4⟩ := (HX1.out.grown hg (by simp; omega)).cells
  obtain ⟨y1, y2, y3, y4⟩ := (HY1.out.grown hg (by simp)).cells
  have HO2 := Lib.hid ho
  have HP2 := Lib.hid ho2
  have HB2 := Lib.hid (HB1.out.grown hg HB1.out.size (fun g h => by cases h; omega))
  clear ho ho2 hg hsx
  go_wp2_with fail
  refine bodyPost_ret (v := .tuple #[massV s A n C, massV t A2 n2 C2]) (by simp [results, Try.results22, go_sem, x1, x2, y1, y2]) rfl ?_
  exact ⟨s, A, n, C, xs, t, A2, n2, C2, xs2, rfl, hn, hn2, ((HO2.out.setBox (by omega) _ _).setBox (by omega) _ _).row, ((HP2.out.setBox (by omega) _ _).setBox (by omega) _ _).row, (((HB2.out.setCell (Nat.le_refl _) _).setCell (Nat.le_refl _) _).setCell (by simp) _).setCell (by simp) _⟩
set_option maxHeartbeats 800000 in
set_option maxRecDepth 100000 in
theorem DrawDifferMasses_any (a : Option Addr) (l c : Nat) (bs : List Int) (w : World) (hr : BRow w a l bs) (hnc : l ≤ c ∨ l ≤ 2000) :
    Calls Try.prog 28 #[.slice a l c] w fun e w' => ArgMM w e w' := by
  obtain ⟨wx, hwx⟩ : ∃ wx, wx = (w.alloc (.cells #[.int .i64 0, .slice none 0 0] 25)).alloc (.cells #[.int .i64 0, .slice none 0 0] 25) := ⟨_, rfl⟩
  have hbx : Box wx w.heap.size 25 (.int .i64 0) (.slice none 0 0) := by rw [hwx]; exact (Box.new _ _ _ _).alloc _
  have hby : Box wx (w.heap.size + 1) 25 (.int .i64 0) (.slice none 0 0) := by rw [hwx]; exact alloc_at (by simp)
  have hbw0 : Below w.heap.size w wx := by rw [hwx]; exact ((Below.refl _ _).alloc (Nat.le_refl _) _).alloc (by simp) _
  have hsx : wx.heap.size = w.heap.size + 1 + 1 := by rw [hwx]; simp
  have HO := Lib.hid (l14Open_any a l c bs wx (hr.below hbw0) hnc)
  rw [hsx] at HO
  have HX := Lib.hid hbx
  have HY := Lib.hid hby
  have HB := Lib.hid hbw0
  have HW := Lib.hid hwx
  clear hwx hbx hby hbw0 hr
  go_enter Try.func28, Try.ntmps28
  go_wp2_with fail
  rw [← HW.out]
  refine HO.out.mono ?_
  rintro e w1 ⟨rfl, hs1, b1⟩
  have HS := Lib.hid (l3Pair_any (w0 := wx) (w.heap.size + 1 + 1) 0 w1 (by rw [hsx] <;> exact b1) (by omega) hs1 (by omega))
  have HX1 := Lib.hid (HX.out.below b1 (by omega))
  have HY1 := Lib.hid (HY.out.below b1 (by omega))
  have HB1 := Lib.hid (HB.out.trans (b1.mono (by omega)))
  have hsz1 := HY1.out.lt
  clear hs1 b1
  go_wp2_with fail
  refine HS.out.mono ?_
  rintro e w2 ⟨s, A, n, C, xs, t, A2, n2, C2, xs2, q2, rfl, hn, hn2, ho, ho2, _, _, hg⟩
  obtain ⟨x1, x2, x3, x4⟩ := (HX1.out.grown hg (by simp; omega)).cells
  obtain ⟨y1, y2, y3, y4⟩ := (HY1.out.grown hg (by simp)).cells
  have HO2 := Lib.hid ho
  have HP2 := Lib.hid ho2
  have HB2 := Lib.hid (HB1.out.grown hg HB1.out.size (fun g h => by cases h; omega))
  clear ho ho2 hg hsx
  go_wp2_with fail
  refine bodyPost_ret (v := .tuple #[massV s A n C, massV t A2 n2 C2]) (by simp [results, Try.results28, go_sem, x1, x2, y1, y2]) rfl ?_
  exact ⟨s, A, n, C, xs, t, A2, n2, C2, xs2, rfl, hn, hn2, ((HO2.out.setBox (by omega) _ _).setBox (by omega) _ _).row, ((HP2.out.setBox (by omega) _ _).setBox (by omega) _ _).row, (((HB2.out.setCell (Nat.le_refl _) _).setCell (Nat.le_refl _) _).setCell (by simp) _).setCell (by simp) _⟩
set_option maxHeartbeats 800000 in
set_option maxRecDepth 100000 in
theorem DrawYagerMass_any (a : Option Addr) (l c : Nat) (bs : List Int) (w : World) (hr : BRow w a l bs) (hnc : l ≤ c ∨ l ≤ 2000) :
    Calls Try.prog 31 #[.slice a l c] w fun e w' => ArgMM w e w' := by
  obtain ⟨wx, hwx⟩ : ∃ wx, wx = (w.alloc (.cells #[.int .i64 0, .slice none 0 0] 25)).alloc (.cells #[.int .i64 0, .slice none 0 0] 25) := ⟨_, rfl⟩
  have hbx : Box wx w.heap.size 25 (.int .i64 0) (.slice none 0 0) := by rw [hwx]; exact (Box.new _ _ _ _).alloc _
  have hby : Box wx (w.heap.size + 1) 25 (.int .i64 0) (.slice none 0 0) := by rw [hwx]; exact alloc_at (by simp)
  have hbw0 : Below w.heap.size w wx := by rw [hwx]; exact ((Below.refl _ _).alloc (Nat.le_refl _) _).alloc (by simp) _
  have hsx : wx.heap.size = w.heap.size + 1 + 1 := by rw [hwx]; simp
  have HO := Lib.hid (l14Open_any a l c bs wx (hr.below hbw0) hnc)
  rw [hsx] at HO
  have HX := Lib.hid hbx
  have HY := Lib.hid hby
  have HB := Lib.hid hbw0
  have HW := Lib.hid hwx
  clear hwx hbx hby hbw0 hr
  go_enter Try.func31, Try.ntmps31
  go_wp2_with fail
  rw [← HW.out]
  refine HO.out.mono ?_
  rintro e w1 ⟨rfl, hs1, b1⟩
  have HS := Lib.hid (l3Pair_any (w0 := wx) (w.heap.size + 1 + 1) 0 w1 (by rw [hsx] <;> exact b1) (by omega) hs1 (by omega))
  have HX1 := Lib.hid (HX.out.below b1 (by omega))
  have HY1 := Lib.hid (HY.out.below b1 (by omega))
  have HB1 := Lib.hid (HB.out.trans (b1.mono (by omega)))
  have hsz1 := HY1.out.lt
  clear hs1 b1
  go_wp2_with fail
  refine HS.out.mono ?_
  rintro e w2 ⟨s, A, n, C, xs, t, A2, n2, C2, xs2, q2, rfl, hn, hn2, ho, ho2, _, _, hg⟩
  obtain ⟨x1, x2, x3, x4⟩ := (HX1.out.grown hg (by simp; omega)).cells
  obtain ⟨y1, y2, y3, y4⟩ := (HY1.out.grown hg (by simp)).cells
  have HO2 := Lib.hid ho
  have HP2 := Lib.hid ho2
  have HB2 := Lib.hid (HB1.out.grown hg HB1.out.size (fun g h => by cases h; omega))
  clear ho ho2 hg hsx
  go_wp2_with fail
  refine bodyPost_ret (v := .tuple #[massV s A n C, massV t A2 n2 C2]) (by simp [results, Try.results31, go_sem, x1, x2, y1, y2]) rfl ?_
  exact ⟨s, A, n, C, xs, t, A2, n2, C2, xs2, rfl, hn, hn2, ((HO2.out.setBox (by omega) _ _).setBox (by omega) _ _).row, ((HP2.out.setBox (by omega) _ _).setBox (by omega) _ _).row, (((HB2.out.setCell (Nat.le_refl _) _).setCell (Nat.le_refl _) _).setCell (by simp) _).setCell (by simp) _⟩
set_option maxHeartbeats 800000 in
set_option maxRecDepth 100000 in
theorem DrawJoinMasses_any (a : Option Addr) (l c : Nat) (bs : List Int) (w : World) (hr : BRow w a l bs) (hnc : l ≤ c ∨ l ≤ 2000) :
    Calls Try.prog 39 #[.slice a l c] w fun e w' => ArgMM w e w' := by
  obtain ⟨wx, hwx⟩ : ∃ wx, wx = (w.alloc (.cells #[.int .i64 0, .slice none 0 0] 25)).alloc (.cells #[.int .i64 0, .slice none 0 0] 25) := ⟨_, rfl⟩
  have hbx : Box wx w.heap.size 25 (.int .i64 0) (.slice none 0 0) := by rw [hwx]; exact (Box.new _ _ _ _).alloc _
  have hby : Box wx (w.heap.size + 1) 25 (.int .i64 0) (.slice none 0 0) := by rw [hwx]; exact alloc_at (by simp)
  have hbw0 : Below w.heap.size w wx := by rw [hwx]; exact ((Below.refl _ _).alloc (Nat.le_refl _) _).alloc (by simp) _
  have hsx : wx.heap.size = w.heap.size + 1 + 1 := by rw [hwx]; simp
  have HO := Lib.hid (l14Open_any a l c bs wx (hr.below hbw0) hnc)
  rw [hsx] at HO
  have HX := Lib.hid hbx
  have HY := Lib.hid hby
  have HB := Lib.hid hbw0
  have HW := Lib.hid hwx
  clear hwx hbx hby hbw0 hr
  go_enter Try.func39, Try.ntmps39
  go_wp2_with fail
  rw [← HW.out]
  refine HO.out.mono ?_
  rintro e w1 ⟨rfl, hs1, b1⟩
  have HS := Lib.hid (l3Pair_any (w0 := wx) (w.heap.size + 1 + 1) 0 w1 (by rw [hsx] <;> exact b1) (by omega) hs1 (by omega))
  have HX1 := Lib.hid (HX.out.below b1 (by omega))
  have HY1 := Lib.hid (HY.out.below b1 (by omega))
  have HB1 := Lib.hid (HB.out.trans (b1.mono (by omega)))
  have hsz1 := HY1.out.lt
  clear hs1 b1
  go_wp2_with fail
  refine HS.out.mono ?_
  rintro e w2 ⟨s, A, n, C, xs, t, A2, n2, C2, xs2, q2, rfl, hn, hn2, ho, ho2, _, _, hg⟩
  obtain ⟨x1, x2, x3, x4⟩ := (HX1.out.grown hg (by simp; omega)).cells
  obtain ⟨y1, y2, y3, y4⟩ := (HY1.out.grown hg (by simp)).cells
  have HO2 := Lib.hid ho
  have HP2 := Lib.hid ho2
  have HB2 := Lib.hid (HB1.out.grown hg HB1.out.size (fun g h => by cases h; omega))
  clear ho ho2 hg hsx
  go_wp2_with fail
  refine bodyPost_ret (v := .tuple #[massV s A n C, massV t A2 n2 C2]) (by simp [results, Try.results39, go_sem, x1, x2, y1, y2]) rfl ?_
  exact ⟨s, A, n, C, xs, t, A2, n2, C2, xs2, rfl, hn, hn2, ((HO2.out.setBox (by omega) _ _).setBox (by omega) _ _).row, ((HP2.out.setBox (by omega) _ _).setBox (by omega) _ _).row, (((HB2.out.setCell (Nat.le_refl _) _).setCell (Nat.le_refl _) _).setCell (by simp) _).setCell (by simp) _⟩
end Go.Proofs.Ytffkpmmgfgcngaa
