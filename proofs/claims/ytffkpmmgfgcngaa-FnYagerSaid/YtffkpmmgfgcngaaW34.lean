/- Contracts of YagerMass, of the program and of the reference. -/
import Derived.Test.YtffkpmmgfgcngaaW33
import Derived.Test.YtffkpmmgfgcngaaW19
namespace Go.Proofs.Ytffkpmmgfgcngaa
open Go.RowKit

theorem toAll_bound {ps : List Int} {n : Nat} (hl : ps.length = n) (h : ∀ k, k < n → 0 ≤ ps.getD k 0 ∧ ps.getD k 0 ≤ 300000000000000) (k : Nat) (hk : k < n) : 0 ≤ (toAll ps).getD k 0 ∧ (toAll ps).getD k 0 ≤ 600000000000000 := by
  have h1 := h k hk
  have h2 := h 0 (by omega)
  have h3 := h (n - 1) (by omega)
  unfold toAll
  by_cases h0 : k = 0
  · subst h0
    simp [List.getD, hl, hk]
  · by_cases hf : k = n - 1
    · subst hf
      rw [hl]
      simp only [List.getD, List.getElem?_set] at *
      simp [Ne.symm h0, hl, hk] at *
      omega
    · simp only [List.getD, List.getElem?_set] at *
      simp [Ne.symm h0, show ¬ n - 1 = k from fun e => hf e.symm, hl] at *
      omega
set_option maxHeartbeats 6400000 in
set_option maxRecDepth 100000 in
theorem iYagerMass_any (sM sN : Int) (aM aN : Option Addr) (nM nN cM cN : Nat) (xsM xsN : List Int) (w : World) (hM : Row w aM nM xsM) (hN : Row w aN nN xsN) (hnM : nM ≤ 1048576) (hnN : nN ≤ 1048576) :
    Calls Try.prog 32 #[massV sM aM nM cM, massV sN aN nN cN] w fun e w' => RetM w.heap.size (yagerR sM xsM sN xsN) e w' ∧ Below w.heap.size w w' := by
  obtain ⟨w0, hw0⟩ : ∃ w0, w0 = ((w.alloc (.cells #[.int .i64 sM, .slice aM nM cM] 25)).alloc (.cells #[.int .i64 sN, .slice aN nN cN] 25)).alloc (.cells #[.int .i64 0, .slice none 0 0] 25) := ⟨_, rfl⟩
  have HBM : Hid (Box w0 w.heap.size 25 (.int .i64 sM) (.slice aM nM cM)) := by rw [hw0]; exact ((Box.new _ _ _ _).alloc _).alloc _
  have HBN : Hid (Box w0 (w.heap.size + 1) 25 (.int .i64 sN) (.slice aN nN cN)) := by rw [hw0]; exact (show Box _ _ _ _ _ from alloc_at (by simp)).alloc _
  have HBX : Hid (Box w0 (w.heap.size + 1 + 1) 25 (.int .i64 0) (.slice none 0 0)) := by rw [hw0]; exact alloc_at (by simp)
  have HB0 : Hid (Below w.heap.size w w0) := by rw [hw0]; exact (((Below.refl _ _).alloc (Nat.le_refl _) _).alloc (by simp) _).alloc (by simp; omega) _
  have HS0 : Hid (w0.heap.size = w.heap.size + 1 + 1 + 1) := by show _ = _; rw [hw0]; simp
  have hM0 := hM.below HB0.out
  have hN0 := hN.below HB0.out
  have HW0 := Lib.hid hw0; clear hw0
  have HBT := Lib.hid (ofOneQuestion_any sM sN aM aN nM nN cM cN xsM xsN w0 hM0 hN0 hnM hnN)
  by_cases hb : bothB sM xsM sN xsN = true
  · rw [hb] at HBT
    obtain ⟨iM, iN, hss, hnn⟩ := both_is hM.1 hN.1 hb
    rw [show yagerR sM xsM sN xsN = makeM sM (toAll (prods (fun a b => a &&& b) xsM xsN)) from if_pos hb]
    subst sN
    subst nN
    have hnl : nM ≤ 16 := by have := iM.nums; omega
    have hpos : 2 ≤ nM := by have := iM.nums; omega
    have hpb : ∀ k, k < nM → 0 ≤ (prods (fun a b => a &&& b) xsM xsN).getD k 0 ∧ (prods (fun a b => a &&& b) xsM xsN).getD k 0 ≤ 300000000000000 := fun k hk => prods_bound (op := fun a b => a &&& b) hM.1 hnl iM.part iN.part k hk
    have hpl : (prods (fun a b => a &&& b) xsM xsN).length = nM := by rw [prods_length]; exact hM.1
    have HP := Lib.hid (fun W (h1 : Row W aM nM xsM) (h2 : Row W aN nM xsN) => conjoined_any sM sM aM aN nM cM cN xsM xsN W h1 h2 iM.nums iM.part iN.part)
    have HFS := Lib.hid (fun W => fullSet_any sM nM W iM.size iM.fit)
    obtain ⟨ps, hps⟩ : ∃ ps, ps = prods (fun a b => a &&& b) xsM xsN := ⟨_, rfl⟩
    rw [← hps] at hpb hpl HP ⊢
    have HK := Lib.hid (fun A C W h => makeMass_any sM A nM C (toAll ps) W h hnM (fun k hk => by have := toAll_bound hpl hpb k hk; omega))
    obtain ⟨r, hr1⟩ : ∃ r, r = makeM sM (toAll ps) := ⟨_, rfl⟩
    rw [← hr1] at HK ⊢
    obtain ⟨f, hf⟩ : ∃ f, f = nM - 1 := ⟨_, rfl⟩
    rw [← hf] at HFS
    have hb0 := hpb 0 (by omega)
    have hbf := hpb f (by omega)
    obtain ⟨p0, hp0⟩ : ∃ p, p = ps.getD 0 0 := ⟨_, rfl⟩
    obtain ⟨t, ht⟩ : ∃ p, p = ps.getD f 0 := ⟨_, rfl⟩
    have HTA : Hid (toAll ps = (ps.set f (t + p0)).set 0 0) := by show _ = _; rw [toAll, hpl, ← hf, ← ht, ← hp0]
    rw [← hp0] at hb0
    rw [← ht] at hbf
    have HP0 := Lib.hid hp0
    have HT := Lib.hid ht
    have e1 : IntKind.i64.wrap (t + p0) = t + p0 := IntWalk.i64_in _ (by omega)
    have hfn : f < nM := by omega
    have hf0 : ¬ f = 0 := by omega
    have hf1 : ¬ 0 = f := by omega
    have hfi : (f : Int) < (nM : Int) := by omega
    have hn0 : (0 : Int) < (nM : Int) := by omega
    have hfw : (nM : Int) - 1 = (f : Int) := by omega
    have HRM := Lib.hid hM0
    have HRN := Lib.hid hN0
    clear hr1 hps hpb hpl hp0 ht iM iN hb hM0 hN0 hM hN hf
    go_enter Try.func32, Try.ntmps32
    go_wp2_with fail
    rw [← HW0.out]
    refine HBT.out.mono ?_
    rintro e w1 ⟨rfl, b1⟩
    have HX1 := Lib.hid (HBX.out.below b1 HBX.out.lt)
    have HM1 := Lib.hid (HBM.out.below b1 HBM.out.lt)
    have HN1 := Lib.hid (HBN.out.below b1 HBN.out.lt)
    have HRM1 := Lib.hid (HRM.out.below b1)
    have HRN1 := Lib.hid (HRN.out.below b1)
    have HB1 := Lib.hid (HB0.out.trans (b1.mono HB0.out.size))
    clear b1 HBT HBX HBM HBN HRM HRN
    obtain ⟨c1, c2, _, _⟩ := HM1.out.cells
    obtain ⟨c3, c4, _, _⟩ := HN1.out.cells
    go_wp2_with fail
    clear c1 c2 c3 c4
    refine (HP.out _ HRM1.out HRN1.out).mono ?_
    rintro e w2 ⟨A2, C2, rfl, o2, b2⟩
    obtain ⟨g, rfl⟩ := o2.at0 (by omega)
    have hgl : w1.heap.size ≤ g := by rcases o2.form with ⟨h, _⟩ | ⟨g', h, h2, _⟩ <;> (cases h); exact h2
    have HX2 := Lib.hid (HX1.out.below b2 HX1.out.lt)
    have HM2 := Lib.hid (HM1.out.below b2 HM1.out.lt)
    have HB2 := Lib.hid (HB1.out.trans (b2.mono HB1.out.size))
    have hxl := HX1.out.lt
    have hk1 : w.heap.size ≠ g := by omega
    have hk2 : w.heap.size + 1 + 1 ≠ g := by omega
    have hk3 : w.heap.size ≤ g := by omega
    have q0 := o2.cell (k := 0) (by omega)
    rw [← HP0.out] at q0
    have qf := o2.cell hfn
    rw [← HT.out] at qf
    have r0 := o2.frozen 0
    have rf := o2.frozen f
    obtain ⟨c1, c2, _, _⟩ := HM2.out.cells
    have HO2 := Lib.hid o2
    clear o2 b2
    go_wp2_with fail
    go_region_with (go_at_call 102; refine (HFS.out _).mono ?_; rintro e w' ⟨rfl, rfl⟩)
    all_goals
      clear c1 c2 q0 qf r0 rf
      obtain ⟨w3, hw3⟩ : ∃ w3, w3 = (w2.setCell ⟨g, f, none⟩ (.int .i64 (t + p0))).drew := ⟨_, rfl⟩
      have ho3 : Own w1.heap.size w3 (some ⟨g, 0, none⟩) nM C2 (ps.set f (t + p0)) := by rw [hw3]; exact (HO2.out.set f (t + p0)).below (Below.refl _ _).drew
      have HX3 : Hid (Box w3 (w.heap.size + 1 + 1) 25 (.int .i64 0) (.slice none 0 0)) := by rw [hw3]; exact (HX2.out.far hk2 _).drew
      have HM3 : Hid (Box w3 w.heap.size 25 (.int .i64 sM) (.slice aM nM cM)) := by rw [hw3]; exact (HM2.out.far hk1 _).drew
      have HB3 : Hid (Below w.heap.size w w3) := by rw [hw3]; exact (HB2.out.setCell hk3 _).drew
      have q0 : ∃ z, w3.cell? ⟨g, 0, none⟩ = some (.int .i64 z) := ⟨_, ho3.cell (k := 0) (by omega)⟩
      have r0 := ho3.frozen 0
      have HO3 := Lib.hid ho3
      first | rw [← hw3] | (rw [show (w2.drew.setCell ⟨g, f, none⟩ (.int .i64 (t + p0))) = w3 from hw3.symm])
      clear ho3 hw3
      obtain ⟨z0, q0⟩ := q0
      obtain ⟨c1, c2, _, _⟩ := HM3.out.cells
      go_wp2_with fail
      clear c1 c2 q0 r0
      have HO4 := Lib.hid (HO3.out.set 0 0)
      rw [← HTA.out] at HO4
      have HX4 := Lib.hid (HX3.out.far (p := ⟨g, 0, none⟩) hk2 (.int .i64 0))
      have HB4 := Lib.hid (HB3.out.setCell (p := ⟨g, 0, none⟩) hk3 (.int .i64 0))
      refine (HK.out _ _ _ HO4.out.row).mono ?_
      rintro e w5 ⟨⟨A5, C5, rfl, o5⟩, b5⟩
      obtain ⟨d1, d2, f1, f2⟩ := (HX4.out.below b5 HX4.out.lt).cells
      have hz := HX4.out.lt
      have HO5 := Lib.hid o5
      have HB5 := Lib.hid (HB4.out.trans (b5.mono HB4.out.size))
      have hzz := HB4.out.size
      clear b5 o5
      go_wp2_with fail
      refine bodyPost_ret (v := .tuple #[massV (rS r) A5 (rN r) C5, .bool (rB r)]) (by simp [results, Try.results32, go_sem, d1, d2]) rfl ?_
      exact ⟨⟨A5, C5, rfl, (HO5.out.setBox hz _ _).mono hzz⟩, (HB5.out.setCell (by simp; omega) _).setCell (by simp; omega) _⟩
  · have hb' : bothB sM xsM sN xsN = false := by simpa using hb
    rw [hb'] at HBT
    rw [show yagerR sM xsM sN xsN = none from if_neg hb]
    clear hb hb' hM0 hN0 hM hN
    go_enter Try.func32, Try.ntmps32
    go_wp2_with fail
    rw [← HW0.out]
    refine HBT.out.mono ?_
    rintro e w1 ⟨rfl, b1⟩
    obtain ⟨d1, d2, f1, f2⟩ := (HBX.out.below b1 HBX.out.lt).cells
    have HB1 := Lib.hid (HB0.out.trans (b1.mono HB0.out.size))
    clear b1
    go_wp2_with fail
    refine bodyPost_ret (v := .tuple #[massV 0 none 0 0, .bool false]) (by simp [results, Try.results32, go_sem, d1, d2]) rfl ?_
    exact ⟨RetM.none_ _ _, (HB1.out.setCell (by simp; omega) _).setCell (by simp; omega) _⟩
set_option maxHeartbeats 6400000 in
set_option maxRecDepth 100000 in
theorem sYagerMass_any (sM sN : Int) (aM aN : Option Addr) (nM nN cM cN : Nat) (xsM xsN : List Int) (w : World) (hM : Row w aM nM xsM) (hN : Row w aN nN xsN) (hnM : nM ≤ 1048576) (hnN : nN ≤ 1048576) :
    Calls Try.prog 33 #[massV sM aM nM cM, massV sN aN nN cN] w fun e w' => RetM w.heap.size (yagerR sM xsM sN xsN) e w' ∧ Below w.heap.size w w' := by
  obtain ⟨w0, hw0⟩ : ∃ w0, w0 = ((w.alloc (.cells #[.int .i64 sM, .slice aM nM cM] 25)).alloc (.cells #[.int .i64 sN, .slice aN nN cN] 25)).alloc (.cells #[.int .i64 0, .slice none 0 0] 25) := ⟨_, rfl⟩
  have HBM : Hid (Box w0 w.heap.size 25 (.int .i64 sM) (.slice aM nM cM)) := by rw [hw0]; exact ((Box.new _ _ _ _).alloc _).alloc _
  have HBN : Hid (Box w0 (w.heap.size + 1) 25 (.int .i64 sN) (.slice aN nN cN)) := by rw [hw0]; exact (show Box _ _ _ _ _ from alloc_at (by simp)).alloc _
  have HBX : Hid (Box w0 (w.heap.size + 1 + 1) 25 (.int .i64 0) (.slice none 0 0)) := by rw [hw0]; exact alloc_at (by simp)
  have HB0 : Hid (Below w.heap.size w w0) := by rw [hw0]; exact (((Below.refl _ _).alloc (Nat.le_refl _) _).alloc (by simp) _).alloc (by simp; omega) _
  have HS0 : Hid (w0.heap.size = w.heap.size + 1 + 1 + 1) := by show _ = _; rw [hw0]; simp
  have hM0 := hM.below HB0.out
  have hN0 := hN.below HB0.out
  have HW0 := Lib.hid hw0; clear hw0
  have HBT := Lib.hid (l3Both_any sM sN aM aN nM nN cM cN xsM xsN w0 hM0 hN0 hnM hnN)
  by_cases hb : bothB sM xsM sN xsN = true
  · rw [hb] at HBT
    obtain ⟨iM, iN, hss, hnn⟩ := both_is hM.1 hN.1 hb
    rw [show yagerR sM xsM sN xsN = makeM sM (toAll (prods (fun a b => a &&& b) xsM xsN)) from if_pos hb]
    subst sN
    subst nN
    have hnl : nM ≤ 16 := by have := iM.nums; omega
    have hpos : 2 ≤ nM := by have := iM.nums; omega
    have hpb : ∀ k, k < nM → 0 ≤ (prods (fun a b => a &&& b) xsM xsN).getD k 0 ∧ (prods (fun a b => a &&& b) xsM xsN).getD k 0 ≤ 300000000000000 := fun k hk => prods_bound (op := fun a b => a &&& b) hM.1 hnl iM.part iN.part k hk
    have hpl : (prods (fun a b => a &&& b) xsM xsN).length = nM := by rw [prods_length]; exact hM.1
    have HP := Lib.hid (fun W (h1 : Row W aM nM xsM) (h2 : Row W aN nM xsN) => l6Parts_and sM sM aM aN nM cM cN xsM xsN W h1 h2 iM.nums iM.part iN.part)
    obtain ⟨ps, hps⟩ : ∃ ps, ps = prods (fun a b => a &&& b) xsM xsN := ⟨_, rfl⟩
    rw [← hps] at hpb hpl HP ⊢
    have HK := Lib.hid (fun A C W h => l3Made_any sM A nM C (toAll ps) W h hnM (fun k hk => by have := toAll_bound hpl hpb k hk; omega))
    obtain ⟨r, hr1⟩ : ∃ r, r = makeM sM (toAll ps) := ⟨_, rfl⟩
    rw [← hr1] at HK ⊢
    obtain ⟨f, hf⟩ : ∃ f, f = nM - 1 := ⟨_, rfl⟩
    have hb0 := hpb 0 (by omega)
    have hbf := hpb f (by omega)
    obtain ⟨p0, hp0⟩ : ∃ p, p = ps.getD 0 0 := ⟨_, rfl⟩
    obtain ⟨t, ht⟩ : ∃ p, p = ps.getD f 0 := ⟨_, rfl⟩
    have HTA : Hid (toAll ps = (ps.set f (t + p0)).set 0 0) := by show _ = _; rw [toAll, hpl, ← hf, ← ht, ← hp0]
    rw [← hp0] at hb0
    rw [← ht] at hbf
    have HP0 := Lib.hid hp0
    have HT := Lib.hid ht
    have e1 : IntKind.i64.wrap (t + p0) = t + p0 := IntWalk.i64_in _ (by omega)
    have hfn : f < nM := by omega
    have hf0 : ¬ f = 0 := by omega
    have hf1 : ¬ 0 = f := by omega
    have hfi : (f : Int) < (nM : Int) := by omega
    have hn0 : (0 : Int) < (nM : Int) := by omega
    have hfw : (nM : Int) - 1 = (f : Int) := by omega
    have HRM := Lib.hid hM0
    have HRN := Lib.hid hN0
    clear hr1 hps hpb hpl hp0 ht iM iN hb hM0 hN0 hM hN hf
    go_enter Try.func33, Try.ntmps33
    go_wp2_with fail
    rw [← HW0.out]
    refine HBT.out.mono ?_
    rintro e w1 ⟨rfl, b1⟩
    have HX1 := Lib.hid (HBX.out.below b1 HBX.out.lt)
    have HM1 := Lib.hid (HBM.out.below b1 HBM.out.lt)
    have HN1 := Lib.hid (HBN.out.below b1 HBN.out.lt)
    have HRM1 := Lib.hid (HRM.out.below b1)
    have HRN1 := Lib.hid (HRN.out.below b1)
    have HB1 := Lib.hid (HB0.out.trans (b1.mono HB0.out.size))
    clear b1 HBT HBX HBM HBN HRM HRN
    obtain ⟨c1, c2, _, _⟩ := HM1.out.cells
    obtain ⟨c3, c4, _, _⟩ := HN1.out.cells
    go_wp2_with fail
    clear c1 c2 c3 c4
    refine (HP.out _ HRM1.out HRN1.out).mono ?_
    rintro e w2 ⟨A2, C2, rfl, o2, b2⟩
    obtain ⟨g, rfl⟩ := o2.at0 (by omega)
    have hgl : w1.heap.size ≤ g := by rcases o2.form with ⟨h, _⟩ | ⟨g', h, h2, _⟩ <;> (cases h); exact h2
    have HX2 := Lib.hid (HX1.out.below b2 HX1.out.lt)
    have HM2 := Lib.hid (HM1.out.below b2 HM1.out.lt)
    have HB2 := Lib.hid (HB1.out.trans (b2.mono HB1.out.size))
    have hxl := HX1.out.lt
    have hk1 : w.heap.size ≠ g := by omega
    have hk2 : w.heap.size + 1 + 1 ≠ g := by omega
    have hk3 : w.heap.size ≤ g := by omega
    have q0 := o2.cell (k := 0) (by omega)
    rw [← HP0.out] at q0
    have qf := o2.cell hfn
    rw [← HT.out] at qf
    have r0 := o2.frozen 0
    have rf := o2.frozen f
    obtain ⟨c1, c2, _, _⟩ := HM2.out.cells
    have HO2 := Lib.hid o2
    clear o2 b2
    go_wp2_with fail
    go_region
    all_goals
      clear c1 c2 q0 qf r0 rf
      obtain ⟨w3, hw3⟩ : ∃ w3, w3 = (w2.setCell ⟨g, f, none⟩ (.int .i64 (t + p0))).drew := ⟨_, rfl⟩
      have ho3 : Own w1.heap.size w3 (some ⟨g, 0, none⟩) nM C2 (ps.set f (t + p0)) := by rw [hw3]; exact (HO2.out.set f (t + p0)).below (Below.refl _ _).drew
      have HX3 : Hid (Box w3 (w.heap.size + 1 + 1) 25 (.int .i64 0) (.slice none 0 0)) := by rw [hw3]; exact (HX2.out.far hk2 _).drew
      have HM3 : Hid (Box w3 w.heap.size 25 (.int .i64 sM) (.slice aM nM cM)) := by rw [hw3]; exact (HM2.out.far hk1 _).drew
      have HB3 : Hid (Below w.heap.size w w3) := by rw [hw3]; exact (HB2.out.setCell hk3 _).drew
      have q0 : ∃ z, w3.cell? ⟨g, 0, none⟩ = some (.int .i64 z) := ⟨_, ho3.cell (k := 0) (by omega)⟩
      have r0 := ho3.frozen 0
      have HO3 := Lib.hid ho3
      first | rw [← hw3] | (rw [show (w2.drew.setCell ⟨g, f, none⟩ (.int .i64 (t + p0))) = w3 from hw3.symm])
      clear ho3 hw3
      obtain ⟨z0, q0⟩ := q0
      obtain ⟨c1, c2, _, _⟩ := HM3.out.cells
      go_wp2_with fail
      clear c1 c2 q0 r0
      have HO4 := Lib.hid (HO3.out.set 0 0)
      rw [← HTA.out] at HO4
      have HX4 := Lib.hid (HX3.out.far (p := ⟨g, 0, none⟩) hk2 (.int .i64 0))
      have HB4 := Lib.hid (HB3.out.setCell (p := ⟨g, 0, none⟩) hk3 (.int .i64 0))
      refine (HK.out _ _ _ HO4.out.row).mono ?_
      rintro e w5 ⟨⟨A5, C5, rfl, o5⟩, b5⟩
      obtain ⟨d1, d2, f1, f2⟩ := (HX4.out.below b5 HX4.out.lt).cells
      have hz := HX4.out.lt
      have HO5 := Lib.hid o5
      have HB5 := Lib.hid (HB4.out.trans (b5.mono HB4.out.size))
      have hzz := HB4.out.size
      clear b5 o5
      go_wp2_with fail
      refine bodyPost_ret (v := .tuple #[massV (rS r) A5 (rN r) C5, .bool (rB r)]) (by simp [results, Try.results33, go_sem, d1, d2]) rfl ?_
      exact ⟨⟨A5, C5, rfl, (HO5.out.setBox hz _ _).mono hzz⟩, (HB5.out.setCell (by simp; omega) _).setCell (by simp; omega) _⟩
  · have hb' : bothB sM xsM sN xsN = false := by simpa using hb
    rw [hb'] at HBT
    rw [show yagerR sM xsM sN xsN = none from if_neg hb]
    clear hb hb' hM0 hN0 hM hN
    go_enter Try.func33, Try.ntmps33
    go_wp2_with fail
    rw [← HW0.out]
    refine HBT.out.mono ?_
    rintro e w1 ⟨rfl, b1⟩
    obtain ⟨d1, d2, f1, f2⟩ := (HBX.out.below b1 HBX.out.lt).cells
    have HB1 := Lib.hid (HB0.out.trans (b1.mono HB0.out.size))
    clear b1
    go_wp2_with fail
    refine bodyPost_ret (v := .tuple #[massV 0 none 0 0, .bool false]) (by simp [results, Try.results33, go_sem, d1, d2]) rfl ?_
    exact ⟨RetM.none_ _ _, (HB1.out.setCell (by simp; omega) _).setCell (by simp; omega) _⟩
end Go.Proofs.Ytffkpmmgfgcngaa
