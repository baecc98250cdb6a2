/- Contracts of ConflictOf, of the program. -/
import Derived.Test.YtffkpmmgfgcngaaW23
import Derived.Test.YtffkpmmgfgcngaaW30
import Derived.Test.YtffkpmmgfgcngaaBase6
namespace Go.Proofs.Ytffkpmmgfgcngaa
open Go.RowKit

set_option maxHeartbeats 6400000 in
set_option maxRecDepth 100000 in
theorem iConflictOf_any (sM sN : Int) (aM aN : Option Addr) (nM nN cM cN : Nat) (xsM xsN : List Int) (w : World) (hM : Row w aM nM xsM) (hN : Row w aN nN xsN) (hnM : nM ≤ 1048576) (hnN : nN ≤ 1048576) :
    Calls Try.prog 38 #[massV sM aM nM cM, massV sN aN nN cN] w fun e w' => RetF (conflR sM xsM sN xsN) e ∧ Below w.heap.size w w' := by
  obtain ⟨w0, hw0⟩ : ∃ w0, w0 = ((w.alloc (.cells #[.int .i64 sM, .slice aM nM cM] 25)).alloc (.cells #[.int .i64 sN, .slice aN nN cN] 25)).alloc (.cells #[.int .i64 0, .int .i64 0] 40) := ⟨_, rfl⟩
  have HBM : Hid (Box w0 w.heap.size 25 (.int .i64 sM) (.slice aM nM cM)) := by rw [hw0]; exact ((Box.new _ _ _ _).alloc _).alloc _
  have HBN : Hid (Box w0 (w.heap.size + 1) 25 (.int .i64 sN) (.slice aN nN cN)) := by rw [hw0]; exact (show Box _ _ _ _ _ from alloc_at (by simp)).alloc _
  have HBX : Hid (Box w0 (w.heap.size + 1 + 1) 40 (.int .i64 0) (.int .i64 0)) := by rw [hw0]; exact alloc_at (by simp)
  have HB0 : Hid (Below w.heap.size w w0) := by rw [hw0]; exact (((Below.refl _ _).alloc (Nat.le_refl _) _).alloc (by simp) _).alloc (by simp; omega) _
  have HS0 : Hid (w0.heap.size = w.heap.size + 1 + 1 + 1) := by show _ = _; rw [hw0]; simp
  have hM0 := hM.below HB0.out
  have hN0 := hN.below HB0.out
  have HW0 := Lib.hid hw0; clear hw0
  have HBT := Lib.hid (ofOneQuestion_any sM sN aM aN nM nN cM cN xsM xsN w0 hM0 hN0 hnM hnN)
  by_cases hb : bothB sM xsM sN xsN = true
  · rw [hb] at HBT
    obtain ⟨iM, iN, hss, hnn⟩ := both_is hM.1 hN.1 hb
    rw [show conflR sM xsM sN xsN = fracOf ((prods (fun a b => a &&& b) xsM xsN).getD 0 0) (sumL xsM * sumL xsN) from if_pos hb]
    simp only [bothB, Bool.and_eq_true] at hb
    subst sN
    subst nN
    have hnl : nM ≤ 16 := by have := iM.nums; omega
    have hpos : 0 < nM := by have := iM.nums; omega
    have hpb := prods_bound (op := fun a b => a &&& b) hM.1 hnl iM.part iN.part 0 hpos
    have hu := iM.whole
    have hv := iN.whole
    have HP := Lib.hid (fun W (h1 : Row W aM nM xsM) (h2 : Row W aN nM xsN) => conjoined_any sM sM aM aN nM cM cN xsM xsN W h1 h2 iM.nums iM.part iN.part)
    have HWM := Lib.hid (fun W (h : Row W aM nM xsM) => wholeOf_any sM aM nM cM xsM W h hnl iM.part)
    have HWN := Lib.hid (fun W (h : Row W aN nM xsN) => wholeOf_any sM aN nM cN xsN W h hnl iN.part)
    obtain ⟨u, hue⟩ : ∃ u, u = sumL xsM := ⟨_, rfl⟩
    obtain ⟨v, hve⟩ : ∃ v, v = sumL xsN := ⟨_, rfl⟩
    rw [← hue] at HWM hu ⊢
    rw [← hve] at HWN hv ⊢
    obtain ⟨p0, hp0⟩ : ∃ p, p = (prods (fun a b => a &&& b) xsM xsN).getD 0 0 := ⟨_, rfl⟩
    rw [← hp0] at hpb ⊢
    have HP0 := Lib.hid hp0
    have huv : 1 ≤ u * v ∧ u * v ≤ 1000000000000 := by
      refine ⟨?_, ?_⟩
      · have := Int.mul_le_mul hu.1 hv.1 (by omega) (by omega)
        omega
      · have := Int.mul_le_mul hu.2 hv.2 (by omega) (by omega)
        omega
    obtain ⟨q, hq⟩ : ∃ q, q = u * v := ⟨_, rfl⟩
    have e1 : IntKind.i64.wrap (u * v) = q := by rw [← hq] at huv; rw [← hq]; exact IntWalk.i64_in _ (by omega)
    rw [← hq] at huv ⊢
    have HL := Lib.hid (fun W => lowest_any p0 q W (by omega) (by omega))
    obtain ⟨r, hr1⟩ : ∃ r, r = fracOf p0 q := ⟨_, rfl⟩
    rw [← hr1] at HL ⊢
    have RM := hM0
    have RN := hN0
    clear hr1 hq hue hve hp0 iM iN hb hM0 hN0 hM hN
    go_enter Try.func38, Try.ntmps38
    go_wp2_with fail
    rw [← HW0.out]
    refine HBT.out.mono ?_
    rintro e w1 ⟨rfl, b1⟩
    have BXM := HBM.out
    have BXN := HBN.out
    have BXX := HBX.out
    have BB := HB0.out
    replace BXM := BXM.below b1 BXM.lt; replace BXN := BXN.below b1 BXN.lt; replace BXX := BXX.below b1 BXX.lt; replace RM := RM.below b1; replace RN := RN.below b1; replace BB := BB.trans (b1.mono BB.size)
    clear b1 HBT HBX HBM HBN
    obtain ⟨c1, c2, _, _⟩ := BXM.cells
    obtain ⟨c3, c4, _, _⟩ := BXN.cells
    replace BXM := BXM.drew
    replace BXN := BXN.drew
    replace BXX := BXX.drew
    replace BB := BB.drew
    replace RM := RM.below (w' := w1.drew) (Below.refl _ _).drew
    replace RN := RN.below (w' := w1.drew) (Below.refl _ _).drew
    have hk1 : w.heap.size ≠ w.heap.size + 1 + 1 := by omega
    have hk2 : w.heap.size + 1 ≠ w.heap.size + 1 + 1 := by omega
    have hn0 : (0 : Int) < (nM : Int) := by omega
    have hxl : w.heap.size + 1 + 1 < w1.drew.heap.size := BXX.lt
    go_wp2_with fail
    refine wp_region_held_drew (S := fun W => W.cell? ⟨w.heap.size, 0, none⟩ = some (.int .i64 sM) ∧ W.cell? ⟨w.heap.size, 1, none⟩ = some (.slice aM nM cM) ∧ W.cell? ⟨w.heap.size + 1, 0, none⟩ = some (.int .i64 sM) ∧ W.cell? ⟨w.heap.size + 1, 1, none⟩ = some (.slice aN nM cN)) (by kernel_rfl) ?_ (fun hHeld => ?_)
    · exact ⟨BXM.cells.1, BXM.cells.2.1, BXN.cells.1, BXN.cells.2.1⟩
    refine wpAnyH_take (i := 0) (oi := { dst := some 11, op := Op.load 25 (Operand.tmp 2), type := 25, pos := "l6_combining.go:40", after := #[], guard := none }) (v := ?_) rfl (by kernel_rfl) (by kernel_rfl) (by kernel_rfl) (fun _ _ _ h => h) (Or.inl ⟨by rfl, ?_⟩) (by assumption) ?_
    rotate_left
    · intro w hSw
      (try dsimp only at hSw)
      go_simp
      (try with_reducible rfl)
    (try simp only [Act.put, List.setIfInBounds_toArray, List.set_cons_zero, List.set_cons_succ])
    refine wpAnyH_take (i := 1) (oi := { dst := some 12, op := Op.load 25 (Operand.tmp 3), type := 25, pos := "l6_combining.go:40", after := #[], guard := none }) (v := ?_) rfl (by kernel_rfl) (by kernel_rfl) (by kernel_rfl) (fun _ _ _ h => h) (Or.inl ⟨by rfl, ?_⟩) (by assumption) ?_
    rotate_left
    · intro w hSw
      (try dsimp only at hSw)
      go_simp
      (try with_reducible rfl)
    (try simp only [Act.put, List.setIfInBounds_toArray, List.set_cons_zero, List.set_cons_succ])
    refine wpAnyH_take (i := 5) (oi := { dst := some 16, op := Op.load 25 (Operand.tmp 2), type := 25, pos := "l6_combining.go:40", after := #[], guard := none }) (v := ?_) rfl (by kernel_rfl) (by kernel_rfl) (by kernel_rfl) (fun _ _ _ h => h) (Or.inl ⟨by rfl, ?_⟩) (by assumption) ?_
    rotate_left
    · intro w hSw
      (try dsimp only at hSw)
      go_simp
      (try with_reducible rfl)
    (try simp only [Act.put, List.setIfInBounds_toArray, List.set_cons_zero, List.set_cons_succ])
    refine wpAnyH_take (i := 7) (oi := { dst := some 18, op := Op.load 25 (Operand.tmp 3), type := 25, pos := "l6_combining.go:40", after := #[], guard := none }) (v := ?_) rfl (by kernel_rfl) (by kernel_rfl) (by kernel_rfl) (fun _ _ _ h => h) (Or.inl ⟨by rfl, ?_⟩) (by assumption) ?_
    rotate_left
    · intro w hSw
      (try dsimp only at hSw)
      go_simp
      (try with_reducible rfl)
    (try simp only [Act.put, List.setIfInBounds_toArray, List.set_cons_zero, List.set_cons_succ])
    refine wpAnyH_ready (rs := [2]) (by kernel_rfl) (by simp) ?_
    refine AllReadyH.cons (o := { dst := some 13, op := Op.call { callee := Callee.value (Operand.func 93), args := #[Operand.tmp 11, Operand.tmp 12], argTypes := #[25, 25] }, type := 23, pos := "l6_combining.go:40", after := #[{ on := 0, ground := Ground.data }, { on := 1, ground := Ground.data }], guard := none }) rfl (fun K hK => ?_) AllReadyH.nil
    go_simp
    go_at_call 93
    refine (HP.out _ RM RN).mono ?_
    rintro e w2 ⟨A2, C2, rfl, o2, b2⟩
    replace BXM := BXM.below b2 BXM.lt
    replace BXN := BXN.below b2 BXN.lt
    replace BXX := BXX.below b2 BXX.lt
    replace RM := RM.below b2
    replace RN := RN.below b2
    replace BB := BB.trans (b2.mono BB.size)
    obtain ⟨g2, rfl⟩ := o2.at0 hpos
    have q0 := o2.cell hpos
    rw [← HP0.out] at q0
    go_simp
    refine hK.out _ _ ?_ (fun hHeld => ?_)
    · exact ⟨BXM.cells.1, BXM.cells.2.1, BXN.cells.1, BXN.cells.2.1⟩
    clear hK K
    (try simp only [Act.put, List.setIfInBounds_toArray, List.set_cons_zero, List.set_cons_succ])
    refine wpAnyH_weak (S' := fun W => W.cell? ⟨w.heap.size, 0, none⟩ = some (.int .i64 sM) ∧ W.cell? ⟨w.heap.size, 1, none⟩ = some (.slice aM nM cM) ∧ W.cell? ⟨w.heap.size + 1, 0, none⟩ = some (.int .i64 sM) ∧ W.cell? ⟨w.heap.size + 1, 1, none⟩ = some (.slice aN nM cN) ∧ W.cell? ⟨g2, 0, none⟩ = some (.int .i64 p0)) (fun W h => ⟨h.1, h.2.1, h.2.2.1, h.2.2.2.1⟩) _ _ _ _ ?_
    replace hHeld : (fun W : World => W.cell? ⟨w.heap.size, 0, none⟩ = some (.int .i64 sM) ∧ W.cell? ⟨w.heap.size, 1, none⟩ = some (.slice aM nM cM) ∧ W.cell? ⟨w.heap.size + 1, 0, none⟩ = some (.int .i64 sM) ∧ W.cell? ⟨w.heap.size + 1, 1, none⟩ = some (.slice aN nM cN) ∧ W.cell? ⟨g2, 0, none⟩ = some (.int .i64 p0)) w2 := ⟨BXM.cells.1, BXM.cells.2.1, BXN.cells.1, BXN.cells.2.1, q0⟩
    refine wpAnyH_take (i := 3) (oi := { dst := some 14, op := Op.indexAddr 23 (Operand.tmp 13) (Operand.const (Value.int IntKind.i64 0)), type := 0, pos := "l6_combining.go:40", after := #[{ on := 2, ground := Ground.data }], guard := none }) (v := ?_) rfl (by kernel_rfl) (by kernel_rfl) (by kernel_rfl) (fun _ _ _ h => h) (Or.inl ⟨by rfl, ?_⟩) (by assumption) ?_
    rotate_left
    · intro w hSw
      (try dsimp only at hSw)
      go_simp
      (try with_reducible rfl)
    (try simp only [Act.put, List.setIfInBounds_toArray, List.set_cons_zero, List.set_cons_succ])
    refine wpAnyH_take (i := 4) (oi := { dst := some 15, op := Op.load 3 (Operand.tmp 14), type := 3, pos := "l6_combining.go:40", after := #[{ on := 3, ground := Ground.data }], guard := none }) (v := ?_) rfl (by kernel_rfl) (by kernel_rfl) (by kernel_rfl) (fun _ _ _ h => h) (Or.inl ⟨by rfl, ?_⟩) (by assumption) ?_
    rotate_left
    · intro w hSw
      (try dsimp only at hSw)
      go_simp
      (try with_reducible rfl)
    (try simp only [Act.put, List.setIfInBounds_toArray, List.set_cons_zero, List.set_cons_succ])
    refine wpAnyH_ready (rs := [6]) (by kernel_rfl) (by simp) ?_
    refine AllReadyH.cons (o := { dst := some 17, op := Op.call { callee := Callee.value (Operand.func 99), args := #[Operand.tmp 16], argTypes := #[25] }, type := 3, pos := "l6_combining.go:40", after := #[{ on := 5, ground := Ground.data }, { on := 2, ground := Ground.chain }], guard := none }) rfl (fun K hK => ?_) AllReadyH.nil
    go_simp
    go_at_call 99
    refine (HWM.out _ RM).mono ?_
    rintro e w3 ⟨rfl, b3⟩
    replace BXM := BXM.below b3 BXM.lt
    replace BXN := BXN.below b3 BXN.lt
    replace BXX := BXX.below b3 BXX.lt
    replace RM := RM.below b3
    replace RN := RN.below b3
    replace BB := BB.trans (b3.mono BB.size)
    replace o2 := o2.below b3
    have q0 := o2.cell hpos
    rw [← HP0.out] at q0
    go_simp
    refine hK.out _ _ ?_ (fun hHeld => ?_)
    · exact ⟨BXM.cells.1, BXM.cells.2.1, BXN.cells.1, BXN.cells.2.1, q0⟩
    clear hK K
    (try simp only [Act.put, List.setIfInBounds_toArray, List.set_cons_zero, List.set_cons_succ])
    refine wpAnyH_ready (rs := [8]) (by kernel_rfl) (by simp) ?_
    refine AllReadyH.cons (o := { dst := some 19, op := Op.call { callee := Callee.value (Operand.func 99), args := #[Operand.tmp 18], argTypes := #[25] }, type := 3, pos := "l6_combining.go:40", after := #[{ on := 7, ground := Ground.data }, { on := 6, ground := Ground.chain }], guard := none }) rfl (fun K hK => ?_) AllReadyH.nil
    go_simp
    go_at_call 99
    refine (HWN.out _ RN).mono ?_
    rintro e w4 ⟨rfl, b4⟩
    replace BXM := BXM.below b4 BXM.lt
    replace BXN := BXN.below b4 BXN.lt
    replace BXX := BXX.below b4 BXX.lt
    replace RM := RM.below b4
    replace RN := RN.below b4
    replace BB := BB.trans (b4.mono BB.size)
    replace o2 := o2.below b4
    have q0 := o2.cell hpos
    rw [← HP0.out] at q0
    go_simp
    refine hK.out _ _ ?_ (fun hHeld => ?_)
    · exact ⟨BXM.cells.1, BXM.cells.2.1, BXN.cells.1, BXN.cells.2.1, q0⟩
    clear hK K
    (try simp only [Act.put, List.setIfInBounds_toArray, List.set_cons_zero, List.set_cons_succ])
    refine wpAnyH_take (i := 9) (oi := { dst := some 20, op := Op.binOp BinOp.mul 3 (Operand.tmp 17) (Operand.tmp 19) 3, type := 3, pos := "l6_combining.go:40", after := #[{ on := 6, ground := Ground.data }, { on := 8, ground := Ground.data }], guard := none }) (v := ?_) rfl (by kernel_rfl) (by kernel_rfl) (by kernel_rfl) (fun _ _ _ h => h) (Or.inl ⟨by rfl, ?_⟩) (by assumption) ?_
    rotate_left
    · intro w hSw
      (try dsimp only at hSw)
      go_simp
      (try with_reducible rfl)
    (try simp only [Act.put, List.setIfInBounds_toArray, List.set_cons_zero, List.set_cons_succ])
    refine wpAnyH_ready (rs := [10]) (by kernel_rfl) (by simp) ?_
    refine AllReadyH.cons (o := { dst := some 21, op := Op.call { callee := Callee.value (Operand.func 114), args := #[Operand.tmp 15, Operand.tmp 20], argTypes := #[3, 3] }, type := 41, pos := "l6_combining.go:40", after := #[{ on := 4, ground := Ground.data }, { on := 9, ground := Ground.data }, { on := 8, ground := Ground.chain }], guard := none }) rfl (fun K hK => ?_) AllReadyH.nil
    go_simp
    go_at_call 114
    refine (HL.out _).mono ?_
    rintro e w5 ⟨rfl, b5⟩
    replace BXM := BXM.below b5 BXM.lt
    replace BXN := BXN.below b5 BXN.lt
    replace BXX := BXX.below b5 BXX.lt
    replace RM := RM.below b5
    replace RN := RN.below b5
    replace BB := BB.trans (b5.mono BB.size)
    replace o2 := o2.below b5
    have q0 := o2.cell hpos
    rw [← HP0.out] at q0
    obtain ⟨d1, d2, f1, f2⟩ := BXX.cells
    go_simp
    refine hK.out _ _ ?_ (fun hHeld => ?_)
    · exact ⟨BXM.cells.1, BXM.cells.2.1, BXN.cells.1, BXN.cells.2.1, q0⟩
    clear hK K
    (try simp only [Act.put, List.setIfInBounds_toArray, List.set_cons_zero, List.set_cons_succ])
    refine wpAnyH_take (i := 11) (oi := { dst := some 22, op := Op.extract (Operand.tmp 21) 0, type := 40, pos := "l6_combining.go:40", after := #[{ on := 10, ground := Ground.data }], guard := none }) (v := ?_) rfl (by kernel_rfl) (by kernel_rfl) (by kernel_rfl) (fun _ _ _ h => h) (Or.inl ⟨by rfl, ?_⟩) (by assumption) ?_
    rotate_left
    · intro w hSw
      (try dsimp only at hSw)
      go_simp
      (try with_reducible rfl)
    (try simp only [Act.put, List.setIfInBounds_toArray, List.set_cons_zero, List.set_cons_succ])
    refine wpAnyH_take (i := 12) (oi := { dst := some 23, op := Op.extract (Operand.tmp 21) 1, type := 4, pos := "l6_combining.go:40", after := #[{ on := 10, ground := Ground.data }], guard := none }) (v := ?_) rfl (by kernel_rfl) (by kernel_rfl) (by kernel_rfl) (fun _ _ _ h => h) (Or.inl ⟨by rfl, ?_⟩) (by assumption) ?_
    rotate_left
    · intro w hSw
      (try dsimp only at hSw)
      go_simp
      (try with_reducible rfl)
    (try simp only [Act.put, List.setIfInBounds_toArray, List.set_cons_zero, List.set_cons_succ])
    refine wpAnyH_ready (rs := [13]) (by kernel_rfl) (by simp) ?_
    refine AllReadyH.cons (o := { dst := none, op := Op.store 40 (Operand.tmp 4) (Operand.tmp 22), type := 0, pos := "l6_combining.go:40", after := #[{ on := 11, ground := Ground.data }, { on := 10, ground := Ground.chain }, { on := 0, ground := Ground.phase }, { on := 1, ground := Ground.phase }, { on := 2, ground := Ground.phase }, { on := 3, ground := Ground.phase }, { on := 4, ground := Ground.phase }, { on := 5, ground := Ground.phase }, { on := 6, ground := Ground.phase }, { on := 7, ground := Ground.phase }, { on := 8, ground := Ground.phase }, { on := 9, ground := Ground.phase }, { on := 10, ground := Ground.phase }, { on := 11, ground := Ground.phase }, { on := 12, ground := Ground.phase }], guard := none }) rfl (fun K hK => ?_) AllReadyH.nil
    go_simp
    have hg2 : ¬ g2 = w.heap.size + 1 + 1 := by rcases o2.form with ⟨h, _⟩ | ⟨g', h, h2, _⟩ <;> (cases h); omega
    have q1 := (o2.setFar (p := ⟨w.heap.size + 1 + 1, 0, none⟩) (fun g hg => by cases hg; exact hg2) (.int .i64 (fN r))).setFar (p := ⟨w.heap.size + 1 + 1, 1, none⟩) (fun g hg => by cases hg; exact hg2) (.int .i64 (fD r))
    replace q1 := q1.cell hpos
    rw [← HP0.out] at q1
    refine hK.out _ _ ?_ (fun hHeld => ?_)
    · exact ⟨((BXM.far hk1 _).far hk1 _).cells.1, ((BXM.far hk1 _).far hk1 _).cells.2.1, ((BXN.far hk2 _).far hk2 _).cells.1, ((BXN.far hk2 _).far hk2 _).cells.2.1, q1⟩
    clear hK K
    (try simp only [Act.put, List.setIfInBounds_toArray, List.set_cons_zero, List.set_cons_succ])
    refine wpAnyH_take (i := 14) (oi := { dst := some 5, op := Op.assign (Operand.tmp 23), type := 4, pos := "l6_combining.go:40", after := #[{ on := 12, ground := Ground.data }, { on := 13, ground := Ground.chain }, { on := 0, ground := Ground.phase }, { on := 1, ground := Ground.phase }, { on := 2, ground := Ground.phase }, { on := 3, ground := Ground.phase }, { on := 4, ground := Ground.phase }, { on := 5, ground := Ground.phase }, { on := 6, ground := Ground.phase }, { on := 7, ground := Ground.phase }, { on := 8, ground := Ground.phase }, { on := 9, ground := Ground.phase }, { on := 10, ground := Ground.phase }, { on := 11, ground := Ground.phase }, { on := 12, ground := Ground.phase }, { on := 13, ground := Ground.phase }], guard := none }) (v := ?_) rfl (by kernel_rfl) (by kernel_rfl) (by kernel_rfl) (fun _ _ _ h => h) (Or.inl ⟨by rfl, ?_⟩) (by assumption) ?_
    rotate_left
    · intro w hSw
      (try dsimp only at hSw)
      go_simp
      (try with_reducible rfl)
    (try simp only [Act.put, List.setIfInBounds_toArray, List.set_cons_zero, List.set_cons_succ])
    refine wpAnyH_done (by kernel_rfl) ?_ _
    have HB5 := Lib.hid BB
    go_wp2_with fail
    refine bodyPost_ret (v := .tuple #[fracV (fN r) (fD r), .bool (fB r)]) (by simp [results, Try.results38, go_sem, d1, d2]) rfl ?_
    exact ⟨rfl, (HB5.out.setCell (by simp; omega) _).setCell (by simp; omega) _⟩
  · have hb' : bothB sM xsM sN xsN = false := by simpa using hb
    rw [hb'] at HBT
    rw [show conflR sM xsM sN xsN = none from if_neg hb]
    clear hb hb' hM0 hN0 hM hN
    go_enter Try.func38, Try.ntmps38
    go_wp2_with fail
    rw [← HW0.out]
    refine HBT.out.mono ?_
    rintro e w1 ⟨rfl, b1⟩
    obtain ⟨d1, d2, f1, f2⟩ := (HBX.out.below b1 HBX.out.lt).cells
    have HB1 := Lib.hid (HB0.out.trans (b1.mono HB0.out.size))
    clear b1
    go_wp2_with fail
    refine bodyPost_ret (v := .tuple #[fracV 0 0, .bool false]) (by simp [results, Try.results38, go_sem, d1, d2]) rfl ?_
    exact ⟨RetF.none_, (HB1.out.setCell (by simp; omega) _).setCell (by simp; omega) _⟩
end Go.Proofs.Ytffkpmmgfgcngaa
