/- Contract: a table is drawn. -/
import Derived.Test.YtlfajalhoifliaaW58
namespace Go.Proofs.Ytlfajalhoifliaa
open Go.RowKit

set_option maxHeartbeats 6400000 in
set_option maxRecDepth 100000 in
theorem l5List_any {w0 : World} (k : Nat) (q : Int) (w : World) (hB : Below w0.heap.size w0 w) (hk : w0.heap.size ≤ k) (hx : Src w0 k q w) (hq : 0 ≤ q ∧ q ≤ 800000) :
    Calls Try.prog 45 #[.pointer (some ⟨k, 0, none⟩)] w fun e w' => DrawnL w0 k q 120 w e w' := by
  have hkw := hx.lt
  have HD := Lib.hid (l3Some_any k q w hB hk hx hq)
  have HB := Lib.hid hB
  clear hx hB
  go_enter Try.func45, Try.ntmps45
  go_wp2_with fail
  refine HD.out.mono ?_
  rintro e w1 ⟨s, A, n, C, xs, q1, rfl, hm, ho, hs1, hqq, hg1⟩
  have hI := massB_is ho.len hm
  have hn : n = 2 ∨ n = 4 ∨ n = 8 ∨ n = 16 := fit_le hI.size hI.fit
  have hn16 : 1 ≤ n ∧ n ≤ 16 := by omega
  have hxl := ho.len
  have HMV := Lib.hid hm
  have HO := Lib.hid ho
  have HS := Lib.hid hs1
  have HG1 := Lib.hid hg1
  have hsz1 := hg1.size
  have hk1 := hs1.lt
  clear hm ho hs1 hg1 hI hn HD
  go_upto_region 2 with fail
  obtain ⟨b, hb⟩ : ∃ b, b = w1.alloc (.cells #[.int .i64 s, .slice A n C] 25) := ⟨_, rfl⟩
  have ba : Below w1.heap.size w1 b := by rw [hb]; exact (Below.refl _ _).alloc (Nat.le_refl _) _
  have hbox : Box b w1.heap.size 25 (.int .i64 s) (.slice A n C) := by rw [hb]; exact Box.new _ _ _ _
  have HG := Lib.hid (grown_trans HG1.out (grown_of_below ba _))
  have HM := Lib.hid (show Ms k w1.heap.size s A n C xs b from ⟨hbox, (HO.out.below ba).row, by omega, fun g off h => by
    rcases HO.out.form with ⟨h1, _⟩ | ⟨g1, h1, h2, _⟩
    · rw [h1] at h; cases h
    · rw [h1] at h; cases h; omega⟩)
  have HBB := Lib.hid (show Below w0.heap.size w0 b from (HB.out.grown HG1.out HB.out.size (fun g h => by cases h; exact hk)).trans (ba.mono (Nat.le_trans HB.out.size hsz1)))
  have hkb : k < b.heap.size := Nat.lt_of_lt_of_le hk1 ba.size
  have L1 := Lib.hid (Li.new (HS.out.below ba))
  rw [← hb]
  clear hb ba hbox HO HS HG1 HB
  go_wp2_with fail
  refine (L1.out.pick HBB.out hk hkb (by omega) (by omega)).mono ?_
  rintro e w2 ⟨z, rfl, hz, l2, _⟩
  have L2 := Lib.hid (l2.mono (d' := 2) (by omega))
  clear l2 L1
  have h4 : z = 0 ∨ z = 1 ∨ z = 2 ∨ 3 ≤ z := by omega
  rcases h4 with rfl | rfl | rfl | h4
  · have HM2 := Lib.hid (HM.out.li L2.out)
    obtain ⟨c1, c2, c3, c4⟩ := HM2.out.1.cells
    have hba : Below w2.heap.size w2 (World.drew (w2.alloc (.cells #[.string { data := #[105, 109, 112, 108, 105, 101, 100] }, .string { data := #[98, 101, 108, 105, 101, 118, 101, 100] }, .string { data := #[112, 111, 115, 115, 105, 98, 108, 101] }, .string { data := #[99, 111, 109, 109, 111, 110] }] 9))) := ((Below.refl _ _).alloc (Nat.le_refl _) _).drew
    have HMa := Lib.hid (HM2.out.grown (grown_of_below hba _))
    have hL : ∀ j, j < 4 → (World.drew (w2.alloc (.cells #[.string { data := #[105, 109, 112, 108, 105, 101, 100] }, .string { data := #[98, 101, 108, 105, 101, 118, 101, 100] }, .string { data := #[112, 111, 115, 115, 105, 98, 108, 101] }, .string { data := #[99, 111, 109, 109, 111, 110] }] 9))).cell? ⟨w2.heap.size, j, none⟩ = some (.string (([{ data := #[105, 109, 112, 108, 105, 101, 100] }, { data := #[98, 101, 108, 105, 101, 118, 101, 100] }, { data := #[112, 111, 115, 115, 105, 98, 108, 101] }, { data := #[99, 111, 109, 109, 111, 110] }] : List ByteArray).getD j .empty)) := fun j hj => by
      have hc := cell_of_row (World.drew (w2.alloc (.cells #[.string { data := #[105, 109, 112, 108, 105, 101, 100] }, .string { data := #[98, 101, 108, 105, 101, 118, 101, 100] }, .string { data := #[112, 111, 115, 115, 105, 98, 108, 101] }, .string { data := #[99, 111, 109, 109, 111, 110] }] 9))) w2.heap.size j _ _ (0, 0) (heap_alloc_new w2 _)
      rw [hc]
      have h : j = 0 ∨ j = 1 ∨ j = 2 ∨ j = 3 := by omega
      rcases h with rfl | rfl | rfl | rfl <;> rfl
    have hsz2 := L2.out.size
    have HF := Lib.hid ((L2.out.below hba).of (m := 4) (c := 4) HBB.out hk hkb (by omega) hL (by omega) (by simp) (by omega))
    have HC2 := Lib.hid HMa.out.1.cells
    have htab : ∀ y, y < 4 → tabN s xs (([{ data := #[105, 109, 112, 108, 105, 101, 100] }, { data := #[98, 101, 108, 105, 101, 118, 101, 100] }, { data := #[112, 111, 115, 115, 105, 98, 108, 101] }, { data := #[99, 111, 109, 109, 111, 110] }] : List ByteArray).getD y .empty) = n := fun y hy => tabN_four hxl HMV.out hy
    have HTAB := Lib.hid htab
    clear hL hba htab L2
    go_wp2_with fail
    go_region_held3 (fun W => W.cell? ⟨w1.heap.size, 0, none⟩ = some (.int .i64 s) ∧ W.cell? ⟨w1.heap.size, 1, none⟩ = some (.slice A n C))
      (first | with_reducible exact ⟨c1, c2⟩ | exact ⟨HC2.out.1, HC2.out.2.1⟩ | exact ⟨HM8.out.1.cells.1, HM8.out.1.cells.2.1⟩ | exact ⟨HM7.out.1.cells.1, HM7.out.1.cells.2.1⟩ | go_keep)
      (first
        | ((go_at_call 52; refine HF.out.mono ?_; rintro e w7 ⟨y, hy, rfl, l7, g7⟩; have ht7 := HTAB.out y hy; obtain ⟨kd, hkd⟩ : ∃ kd, kd = ([{ data := #[105, 109, 112, 108, 105, 101, 100] }, { data := #[98, 101, 108, 105, 101, 118, 101, 100] }, { data := #[112, 111, 115, 115, 105, 98, 108, 101] }, { data := #[99, 111, 109, 109, 111, 110] }] : List ByteArray).getD y .empty := ⟨_, rfl⟩; rw [← hkd] at ht7; rw [← hkd]; have HM7 := Lib.hid (HMa.out.grown g7); have L7 := Lib.hid l7; have HT := Lib.hid (sTableOf_any s kd A n C xs w7 HM7.out.2.1 (by omega)); rw [ht7] at HT; clear hkd l7 g7))
        | ((go_at_call 8; refine HT.out.mono ?_; rintro e w8 ⟨A8, C8, rfl, ho8, hb8⟩; have HM8 := Lib.hid (HM7.out.grown (grown_of_below hb8 _)); have L8 := Lib.hid (L7.out.to hkb (ho8.mono L7.out.size) (hb8.mono L7.out.size)))))
    all_goals
      clear HM8 HM7 L7 HT HF HC2 HMa HM2 HTAB c1 c2 c3 c4
      go_wp2_with fail
      refine (L8.out.pick HBB.out hk hkb (by omega) (by omega)).mono ?_
      rintro e wu ⟨zt, rfl, hzt, lu, _⟩
      have LU := Lib.hid (lu.mono (d' := 60) (by omega))
      clear lu L8
      have h4t : zt = 0 ∨ zt = 1 ∨ zt = 2 ∨ 3 ≤ zt := by omega
      rcases h4t with rfl | rfl | rfl | h4t
      · obtain ⟨ys, _, hown, _⟩ := LU.out
        have hszu := LU.out.size
        have hbe := Below.refl b.heap.size wu
        go_wp2_with (at_builtin; refine wpList_push _ rfl _ _ rfl _ _ _ ys 0 b.heap.size wu rfl rfl hown hbe hszu (by omega) ?_)
        intro A9 C9 w9 ho9 hb9
        have L9 := Lib.hid (LU.out.to hkb ho9 hb9)
        clear ho9 hb9 hown hbe
        go_wp2_with fail
        go_ret
        exact Li.done (q0 := q) (D := 120) L9.out HG.out (by omega) (by omega)
      · obtain ⟨g, rfl⟩ := LU.out.at0 (by omega)
        have hL := Row.lit wu #[.int .i64 1000000001, .int .i64 (-9223372036854775808), .int .i64 1000000000] [1000000001, -9223372036854775808, 1000000000] 3 wu.heap.size rfl (fun j hj => by
          have h : j = 0 ∨ j = 1 ∨ j = 2 := by simp at hj; omega
          rcases h with rfl | rfl | rfl <;> rfl)
        have hba : Below wu.heap.size wu (wu.alloc (.cells #[.int .i64 1000000001, .int .i64 (-9223372036854775808), .int .i64 1000000000] 3)) := (Below.refl _ _).alloc (Nat.le_refl _) _
        have hszu := LU.out.size
        have HN := Lib.hid ((LU.out.below hba).num (m := 3) (cL := 3) HBB.out hk hkb (by omega) hL (by omega) (fun b off h => by cases h; omega))
        have hlp : (0 : Int) < (n : Int) := by omega
        have hlp2 : 0 < n := by omega
        clear hL hba LU
        go_wp2_with fail
        refine HN.out.mono ?_
        rintro e w9 ⟨y, hy, rfl, l9, _⟩
        obtain ⟨v, hv⟩ : ∃ v, v = ([1000000001, -9223372036854775808, 1000000000] : List Int).getD y 0 := ⟨_, rfl⟩
        rw [← hv]
        obtain ⟨u9, pc9⟩ := l9.cell (j := 0) hlp2
        have pf9 := l9.fr 0
        have L9 := Lib.hid (l9.set hkb 0 v)
        clear hv l9 HN
        go_wp2_with fail
        go_ret
        exact Li.done (q0 := q) (D := 120) L9.out HG.out (by omega) (by omega)
      · have hszu := LU.out.size
        have hba : Below b.heap.size wu (wu.alloc (.cells #[] 3)) := (Below.refl _ _).alloc hszu _
        have ho9 : Own b.heap.size (wu.alloc (.cells #[] 3)) (some ⟨wu.heap.size, 0, none⟩) 0 0 [] := World.ownsRow_lit wu #[] 0 hszu (by unfold maxLen; omega) rfl
        have L9 := Lib.hid (LU.out.to hkb ho9 hba)
        clear ho9 hba LU
        go_wp2_with fail
        go_ret
        exact Li.done (q0 := q) (D := 120) L9.out HG.out (by omega) (by omega)
      · go_wp2_with fail
        go_ret
        exact Li.done (q0 := q) (D := 120) LU.out HG.out (by omega) (by omega)
  · have HM2 := Lib.hid (HM.out.li L2.out)
    obtain ⟨c1, c2, c3, c4⟩ := HM2.out.1.cells
    have hr2 := HM2.out.2.1
    obtain ⟨ys, _, hown, _⟩ := L2.out
    have hsz2 := L2.out.size
    have hbe := Below.refl b.heap.size w2
    go_wp2_with (at_builtin; go_loud (refine wpList_appendAll _ rfl _ _ rfl _ _ _ ys A n C xs b.heap.size w2 rfl rfl hown hr2 (by omega) hbe hsz2 (by omega) ?_))
    intro A3 C3 w3 ho3 hb3
    try simp only [Nat.zero_add] at ho3
    try simp only [Nat.zero_add]
    have L3 := Lib.hid (L2.out.to hkb ho3 hb3)
    clear ho3 hb3 hown hbe hr2 c1 c2 c3 c4 HM2 L2
    go_wp2_with fail
    refine (L3.out.pick HBB.out hk hkb (by omega) (by omega)).mono ?_
    rintro e wu ⟨zt, rfl, hzt, lu, _⟩
    have LU := Lib.hid (lu.mono (d' := 60) (by omega))
    clear lu L3
    have h4t : zt = 0 ∨ zt = 1 ∨ zt = 2 ∨ 3 ≤ zt := by omega
    rcases h4t with rfl | rfl | rfl | h4t
    · obtain ⟨ys, _, hown, _⟩ := LU.out
      have hszu := LU.out.size
      have hbe := Below.refl b.heap.size wu
      go_wp2_with (at_builtin; refine wpList_push _ rfl _ _ rfl _ _ _ ys 0 b.heap.size wu rfl rfl hown hbe hszu (by omega) ?_)
      intro A9 C9 w9 ho9 hb9
      have L9 := Lib.hid (LU.out.to hkb ho9 hb9)
      clear ho9 hb9 hown hbe
      go_wp2_with fail
      go_ret
      exact Li.done (q0 := q) (D := 120) L9.out HG.out (by omega) (by omega)
    · obtain ⟨g, rfl⟩ := LU.out.at0 (by omega)
      have hL := Row.lit wu #[.int .i64 1000000001, .int .i64 (-9223372036854775808), .int .i64 1000000000] [1000000001, -9223372036854775808, 1000000000] 3 wu.heap.size rfl (fun j hj => by
        have h : j = 0 ∨ j = 1 ∨ j = 2 := by simp at hj; omega
        rcases h with rfl | rfl | rfl <;> rfl)
      have hba : Below wu.heap.size wu (wu.alloc (.cells #[.int .i64 1000000001, .int .i64 (-9223372036854775808), .int .i64 1000000000] 3)) := (Below.refl _ _).alloc (Nat.le_refl _) _
      have hszu := LU.out.size
      have HN := Lib.hid ((LU.out.below hba).num (m := 3) (cL := 3) HBB.out hk hkb (by omega) hL (by omega) (fun b off h => by cases h; omega))
      have hlp : (0 : Int) < (n : Int) := by omega
      have hlp2 : 0 < n := by omega
      clear hL hba LU
      go_wp2_with fail
      refine HN.out.mono ?_
      rintro e w9 ⟨y, hy, rfl, l9, _⟩
      obtain ⟨v, hv⟩ : ∃ v, v = ([1000000001, -9223372036854775808, 1000000000] : List Int).getD y 0 := ⟨_, rfl⟩
      rw [← hv]
      obtain ⟨u9, pc9⟩ := l9.cell (j := 0) hlp2
      have pf9 := l9.fr 0
      have L9 := Lib.hid (l9.set hkb 0 v)
      clear hv l9 HN
      go_wp2_with fail
      go_ret
      exact Li.done (q0 := q) (D := 120) L9.out HG.out (by omega) (by omega)
    · have hszu := LU.out.size
      have hba : Below b.heap.size wu (wu.alloc (.cells #[] 3)) := (Below.refl _ _).alloc hszu _
      have ho9 : Own b.heap.size (wu.alloc (.cells #[] 3)) (some ⟨wu.heap.size, 0, none⟩) 0 0 [] := World.ownsRow_lit wu #[] 0 hszu (by unfold maxLen; omega) rfl
      have L9 := Lib.hid (LU.out.to hkb ho9 hba)
      clear ho9 hba LU
      go_wp2_with fail
      go_ret
      exact Li.done (q0 := q) (D := 120) L9.out HG.out (by omega) (by omega)
    · go_wp2_with fail
      go_ret
      exact Li.done (q0 := q) (D := 120) LU.out HG.out (by omega) (by omega)
  · have HM2 := Lib.hid (HM.out.li L2.out)
    obtain ⟨c1, c2, c3, c4⟩ := HM2.out.1.cells
    have HT := Lib.hid (sTableOf_any s { data := #[105, 109, 112, 108, 105, 101, 100] } A n C xs w2 HM2.out.2.1 (by omega))
    rw [(tab_yes (j := 0) hxl HMV.out (kind0 (by decide +kernel)) (by omega)).1] at HT
    go_wp2_with fail
    refine HT.out.mono ?_
    rintro e w3 ⟨A3, C3, rfl, ho3, hb3⟩
    have L3 := Lib.hid (L2.out.to hkb (ho3.mono L2.out.size) (hb3.mono L2.out.size))
    clear ho3 hb3 c1 c2 c3 c4 HM2 L2 HT
    go_wp2_with fail
    refine (L3.out.pick HBB.out hk hkb (by omega) (by omega)).mono ?_
    rintro e w4 ⟨z4, rfl, hz4, l4, _⟩
    obtain ⟨y, rfl⟩ : ∃ y : Nat, z4 = y := ⟨z4.toNat, by omega⟩
    have hyl : y < n := by omega
    have hyl2 : (y : Int) < (n : Int) := by omega
    obtain ⟨g, rfl⟩ := l4.at0 (by omega)
    have L4 := Lib.hid l4.drew
    obtain ⟨u4, pc4⟩ := l4.drew.cell hyl
    clear l4 L3
    go_wp2_with fail
    go_region_with (go_at_call 42; refine (L4.out.pick HBB.out hk hkb (by omega) (by omega)).mono ?_; rintro e w7 ⟨v7, rfl, hv7, l7, g7⟩; have pc7 := (L4.out.celk hkb g7 y).trans pc4; have pf7 := l7.fr y; obtain ⟨x1, e7⟩ : ∃ x, IntKind.i64.wrap (u4 + v7) = x := ⟨_, rfl⟩; obtain ⟨x2, e8⟩ : ∃ x, IntKind.i64.wrap (x1 - 1) = x := ⟨_, rfl⟩)
    all_goals
      have L8 := Lib.hid (l7.set hkb y x2)
      obtain ⟨w8, hw8⟩ : ∃ W, W = w7.setCell ⟨g, y, none⟩ (.int .i64 x2) := ⟨_, rfl⟩
      rw [← hw8] at L8 ⊢
      clear hw8 l7 g7 pc7 pf7 pc4 e7 e8 L4
      go_wp2_with fail
      refine (L8.out.pick HBB.out hk hkb (by omega) (by omega)).mono ?_
      rintro e wu ⟨zt, rfl, hzt, lu, _⟩
      have LU := Lib.hid (lu.mono (d' := 60) (by omega))
      clear lu L8
      have h4t : zt = 0 ∨ zt = 1 ∨ zt = 2 ∨ 3 ≤ zt := by omega
      rcases h4t with rfl | rfl | rfl | h4t
      · obtain ⟨ys, _, hown, _⟩ := LU.out
        have hszu := LU.out.size
        have hbe := Below.refl b.heap.size wu
        go_wp2_with (at_builtin; refine wpList_push _ rfl _ _ rfl _ _ _ ys 0 b.heap.size wu rfl rfl hown hbe hszu (by omega) ?_)
        intro A9 C9 w9 ho9 hb9
        have L9 := Lib.hid (LU.out.to hkb ho9 hb9)
        clear ho9 hb9 hown hbe
        go_wp2_with fail
        go_ret
        exact Li.done (q0 := q) (D := 120) L9.out HG.out (by omega) (by omega)
      · have hpin := hkb
        have hL := Row.lit wu #[.int .i64 1000000001, .int .i64 (-9223372036854775808), .int .i64 1000000000] [1000000001, -9223372036854775808, 1000000000] 3 wu.heap.size rfl (fun j hj => by
          have h : j = 0 ∨ j = 1 ∨ j = 2 := by simp at hj; omega
          rcases h with rfl | rfl | rfl <;> rfl)
        have hba : Below wu.heap.size wu (wu.alloc (.cells #[.int .i64 1000000001, .int .i64 (-9223372036854775808), .int .i64 1000000000] 3)) := (Below.refl _ _).alloc (Nat.le_refl _) _
        have hszu := LU.out.size
        have HN := Lib.hid ((LU.out.below hba).num (m := 3) (cL := 3) HBB.out hk hkb (by omega) hL (by omega) (fun b off h => by cases h; omega))
        have hlp : (0 : Int) < (n : Int) := by omega
        have hlp2 : 0 < n := by omega
        clear hL hba LU
        go_wp2_with fail
        refine HN.out.mono ?_
        rintro e w9 ⟨y, hy, rfl, l9, _⟩
        obtain ⟨v, hv⟩ : ∃ v, v = ([1000000001, -9223372036854775808, 1000000000] : List Int).getD y 0 := ⟨_, rfl⟩
        rw [← hv]
        obtain ⟨u9, pc9⟩ := l9.cell (j := 0) hlp2
        have pf9 := l9.fr 0
        have L9 := Lib.hid (l9.set hkb 0 v)
        clear hv l9 HN
        go_wp2_with fail
        go_ret
        exact Li.done (q0 := q) (D := 120) L9.out HG.out (by omega) (by omega)
      · have hszu := LU.out.size
        have hba : Below b.heap.size wu (wu.alloc (.cells #[] 3)) := (Below.refl _ _).alloc hszu _
        have ho9 : Own b.heap.size (wu.alloc (.cells #[] 3)) (some ⟨wu.heap.size, 0, none⟩) 0 0 [] := World.ownsRow_lit wu #[] 0 hszu (by unfold maxLen; omega) rfl
        have L9 := Lib.hid (LU.out.to hkb ho9 hba)
        clear ho9 hba LU
        go_wp2_with fail
        go_ret
        exact Li.done (q0 := q) (D := 120) L9.out HG.out (by omega) (by omega)
      · go_wp2_with fail
        go_ret
        exact Li.done (q0 := q) (D := 120) LU.out HG.out (by omega) (by omega)
  · have e0 : (z == 0) = false := by simp; omega
    have e1 : (z == 1) = false := by simp; omega
    have e2 : (z == 2) = false := by simp; omega
    go_wp2_with fail
    try simp only [e0, e1, e2]
    clear hz h4 e0 e1 e2
    go_loopw [4, 6] (fun v i wr => ∃ (j : Nat) (A' : Option Addr) (C' : Nat), j ≤ n ∧ i = .int .i64 j ∧ v = .slice A' j C' ∧ Hid (Li w0 b k q1 (2 + (j : Int)) A' j C' wr)) (fun _ i _ => n - (intOf i).toNat)
    case atStart => exact ⟨0, _, 0, Nat.zero_le _, rfl, rfl, L2⟩
    case round =>
      obtain ⟨j, A', C', hj, rfl, rfl, LR⟩ := hrel
      clear L2
      have HM2 := Lib.hid (HM.out.li LR.out)
      obtain ⟨c1, c2, c3, c4⟩ := HM2.out.1.cells
      by_cases hlt : j < n
      · have hji : (j : Int) < (n : Int) := by omega
        go_wp2_with fail
        refine (LR.out.pick HBB.out hk hkb (by omega) (by omega)).mono ?_
        rintro e w7 ⟨v7, rfl, hv7, l7, _⟩
        obtain ⟨x1, e7⟩ : ∃ x, IntKind.i64.wrap (v7 - 3) = x := ⟨_, rfl⟩
        obtain ⟨x2, e8⟩ : ∃ x, wrap64 (v7 - 3) = x := ⟨_, rfl⟩
        have L7 := Lib.hid l7
        obtain ⟨ys, _, hown, _⟩ := l7
        have hsz7 := L7.out.size
        have hbe := Below.refl b.heap.size w7
        clear LR
        go_wp2_with (at_builtin; refine wpList_push _ rfl _ _ rfl _ _ _ ys _ b.heap.size w7 rfl rfl hown hbe hsz7 (by omega) ?_)
        intro A9 C9 w9 ho9 hb9
        have L9 := Lib.hid ((L7.out.to hkb ho9 hb9).mono (d' := 2 + ((j + 1 : Nat) : Int)) (by omega))
        clear ho9 hb9 hown hbe L7
        go_wp2_with fail
        go_roundw
        case rel => exact ⟨j + 1, A9, C9, by omega, by go_num, rfl, L9⟩
        case measure => simp [intOf]; omega
      · have L3 := Lib.hid LR.out
        clear LR
        go_wp2_with fail
        refine (L3.out.pick HBB.out hk hkb (by omega) (by omega)).mono ?_
        rintro e wu ⟨zt, rfl, hzt, lu, _⟩
        have LU := Lib.hid (lu.mono (d' := 60) (by omega))
        clear lu L3
        have h4t : zt = 0 ∨ zt = 1 ∨ zt = 2 ∨ 3 ≤ zt := by omega
        rcases h4t with rfl | rfl | rfl | h4t
        · obtain ⟨ys, _, hown, _⟩ := LU.out
          have hszu := LU.out.size
          have hbe := Below.refl b.heap.size wu
          go_wp2_with (at_builtin; refine wpList_push _ rfl _ _ rfl _ _ _ ys 0 b.heap.size wu rfl rfl hown hbe hszu (by omega) ?_)
          intro A9 C9 w9 ho9 hb9
          have L9 := Lib.hid (LU.out.to hkb ho9 hb9)
          clear ho9 hb9 hown hbe
          go_wp2_with fail
          go_ret
          exact Li.done (q0 := q) (D := 120) L9.out HG.out (by omega) (by omega)
        · obtain ⟨g, rfl⟩ := LU.out.at0 (by omega)
          have hL := Row.lit wu #[.int .i64 1000000001, .int .i64 (-9223372036854775808), .int .i64 1000000000] [1000000001, -9223372036854775808, 1000000000] 3 wu.heap.size rfl (fun j hj => by
            have h : j = 0 ∨ j = 1 ∨ j = 2 := by simp at hj; omega
            rcases h with rfl | rfl | rfl <;> rfl)
          have hba : Below wu.heap.size wu (wu.alloc (.cells #[.int .i64 1000000001, .int .i64 (-9223372036854775808), .int .i64 1000000000] 3)) := (Below.refl _ _).alloc (Nat.le_refl _) _
          have hszu := LU.out.size
          have HN := Lib.hid ((LU.out.below hba).num (m := 3) (cL := 3) HBB.out hk hkb (by omega) hL (by omega) (fun b off h => by cases h; omega))
          have hlp : (0 : Int) < (j : Int) := by omega
          have hlp2 : 0 < j := by omega
          clear hL hba LU
          go_wp2_with fail
          refine HN.out.mono ?_
          rintro e w9 ⟨y, hy, rfl, l9, _⟩
          obtain ⟨v, hv⟩ : ∃ v, v = ([1000000001, -9223372036854775808, 1000000000] : List Int).getD y 0 := ⟨_, rfl⟩
          rw [← hv]
          obtain ⟨u9, pc9⟩ := l9.cell (j := 0) hlp2
          have pf9 := l9.fr 0
          have L9 := Lib.hid (l9.set hkb 0 v)
          clear hv l9 HN
          go_wp2_with fail
          go_ret
          exact Li.done (q0 := q) (D := 120) L9.out HG.out (by omega) (by omega)
        · have hszu := LU.out.size
          have hba : Below b.heap.size wu (wu.alloc (.cells #[] 3)) := (Below.refl _ _).alloc hszu _
          have ho9 : Own b.heap.size (wu.alloc (.cells #[] 3)) (some ⟨wu.heap.size, 0, none⟩) 0 0 [] := World.ownsRow_lit wu #[] 0 hszu (by unfold maxLen; omega) rfl
          have L9 := Lib.hid (LU.out.to hkb ho9 hba)
          clear ho9 hba LU
          go_wp2_with fail
          go_ret
          exact Li.done (q0 := q) (D := 120) L9.out HG.out (by omega) (by omega)
        · go_wp2_with fail
          go_ret
          exact Li.done (q0 := q) (D := 120) LU.out HG.out (by omega) (by omega)
end Go.Proofs.Ytlfajalhoifliaa
