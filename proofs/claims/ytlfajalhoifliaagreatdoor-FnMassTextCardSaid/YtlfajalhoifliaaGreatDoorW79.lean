/- Contract of ParseMass, of the reference (the walk). -/
import Derived.Test.YtlfajalhoifliaaGreatDoorW78
namespace Go.Proofs.YtlfajalhoifliaaGreatDoor
open Go.RowKit

theorem grown_set {a b : World} {g : Nat} (h : a.grownBy b (some g)) (k : Nat) (v : Value) : a.grownBy (b.setCell ⟨g, k, none⟩ v) (some g) :=
  ⟨h.os, h.tape, h.output, by have := h.size; simpa [World.setCell] using this, fun i hi hne => (Below.heap_setCell b ⟨g, k, none⟩ v i (fun e => hne (by rw [e]))).trans (h.block i hi hne)⟩
set_option maxHeartbeats 6400000 in
set_option maxRecDepth 100000 in
theorem sParseMass_any (l : List UInt8) (w : World) (hl : l.length ≤ 1048576) : Calls Tryz.prog 12 #[.string (bs l)] w fun e w' => RetM w.heap.size (parR l) e w' ∧ Below w.heap.size w w' := by
  obtain ⟨w0, hw0⟩ : ∃ w0, w0 = w.alloc (.cells #[.int .i64 0, .slice none 0 0] 25) := ⟨_, rfl⟩
  have HBX : Hid (Box w0 w.heap.size 25 (.int .i64 0) (.slice none 0 0)) := by rw [hw0]; exact Box.new _ _ _ _
  have HB0 : Hid (Below w.heap.size w w0) := by rw [hw0]; exact (Below.refl _ _).alloc (Nat.le_refl _) _
  have hs0 : w0.heap.size = w.heap.size + 1 := by rw [hw0]; simp
  have HW0 := Lib.hid hw0; clear hw0
  have HCU := Lib.hid (l14Cut_any l 58 58 rfl w0 hl)
  obtain ⟨S, hS⟩ : ∃ S, S = bs l := ⟨_, rfl⟩
  have HS := Lib.hid hS
  rw [← hS] at HCU ⊢
  obtain ⟨L0, hL⟩ : ∃ L, L = cutL 58 l := ⟨_, rfl⟩
  have HL0 := Lib.hid hL
  rw [← hL] at HCU
  obtain ⟨n, hn⟩ : ∃ n, n = L0.length := ⟨_, rfl⟩
  have HN := Lib.hid hn
  have HMX : Hid (∀ x ∈ L0, x.length ≤ 1048576) := fun x hx => by
    rw [hL] at hx
    exact Nat.le_trans (cutL_mem hx) hl
  rw [← hn] at HCU
  clear hS hL hn hl
  by_cases h2 : n = 2
  · subst h2
    obtain ⟨p0, hp⟩ : ∃ p, p = L0.getD 0 [] := ⟨_, rfl⟩
    obtain ⟨p1, hq⟩ : ∃ q, q = L0.getD 1 [] := ⟨_, rfl⟩
    have hnl := HN.out
    have HCT : Hid (Cut2 l p0 p1) := by
      refine cut2_of ?_
      rw [← HL0.out, hp, hq]
      match L0, hnl with
      | [a, b], _ => rfl
    have hl1 := HMX.out p1 (by rw [hq]; exact getS_mem (by omega))
    have HNU := Lib.hid (fun W => l14Num_any p0 W (HMX.out _ (by rw [hp]; exact getS_mem (by omega))))
    have HC2 := Lib.hid (fun W => l14Cut_any p1 44 44 rfl W hl1)
    have HML : Hid (∀ x ∈ cutL 44 p1, x.length ≤ 1048576) := fun x hx => Nat.le_trans (cutL_mem hx) hl1
    have hll : (cutL 44 p1).length ≤ 1048577 := Nat.le_trans (cutL_length 44 p1) (by omega)
    obtain ⟨P, hP⟩ : ∃ P, P = bs p0 := ⟨_, rfl⟩
    obtain ⟨Q, hQ⟩ : ∃ Q, Q = bs p1 := ⟨_, rfl⟩
    have HC0 : Hid (∀ W B G C, OwnS B W (some ⟨G, 0, none⟩) 2 C (L0.map bs) → W.cell? ⟨G, 0, none⟩ = some (.string P) ∧ W.cell? ⟨G, 1, none⟩ = some (.string Q)) := fun W B G C h => ⟨by rw [hP, hp]; exact h.cell (by omega), by rw [hQ, hq]; exact h.cell (by omega)⟩
    rw [← hP] at HNU
    rw [← hQ] at HC2
    clear hp hq hP hQ hnl HN hl1 HMX
    go_enter Tryz.func12, Tryz.ntmps12
    go_wp2_with fail
    rw [← HW0.out]
    refine HCU.out.mono ?_
    rintro e w1 ⟨G, C, rfl, ho, hb⟩
    obtain ⟨c0, c1⟩ := HC0.out _ _ _ _ ho
    have HO1 := Lib.hid ho
    have HB1 := Lib.hid (HB0.out.trans (hb.mono HB0.out.size))
    have HX1 := Lib.hid (HBX.out.below hb HBX.out.lt)
    have hs1 := hb.size
    clear ho hb
    go_wp2_with fail
    refine (HNU.out _).mono ?_
    rintro e w' ⟨⟨v, ok, rfl, hvv⟩, rfl⟩
    have HV := Lib.hid hvv
    clear hvv
    obtain ⟨d1, d2, e1, e2⟩ := HX1.out.cells
    rcases ok with _ | _
    · have HR : Hid (parR l = none) := parR_no fun q hq => by
        have h1 := HCT.out.good q hq
        have h2 := size_cases (good_size hq)
        exact absurd (HV.out _ (by omega) h1.1).2 Bool.false_ne_true
      go_wp2_with fail
      refine bodyPost_ret (v := .tuple #[massV 0 none 0 0, .bool false]) (by simp [results, Tryz.results12, go_sem, d1, d2]) rfl ?_
      rw [HR.out]
      exact ⟨RetM.none_ _ _, (HB1.out.setCell (by simp) _).setCell (by simp) _⟩
    · have HZ := Lib.hid (fun W => SizeValid_any v W)
      by_cases hz : sizeB v = true
      · rw [hz] at HZ
        have hv4 := size_cases hz
        obtain ⟨m, rfl⟩ : ∃ m : Nat, v = m := ⟨v.toNat, by omega⟩
        have hm : 1 ≤ m ∧ m ≤ 4 := by omega
        obtain ⟨N, hN⟩ : ∃ N, N = 2 ^ m := ⟨_, rfl⟩
        have hN16 : 2 ≤ N ∧ N ≤ 16 := by
          obtain ⟨h1, h4⟩ := hm
          have : m = 1 ∨ m = 2 ∨ m = 3 ∨ m = 4 := by omega
          rcases this with rfl | rfl | rfl | rfl <;> (simp at hN; omega)
        have hw2 : wrap64 (2 ^ m) = (N : Int) := by
          obtain ⟨h1, h4⟩ := hm
          have : m = 1 ∨ m = 2 ∨ m = 3 ∨ m = 4 := by omega
          rcases this with rfl | rfl | rfl | rfl <;> (rw [hN]; decide +kernel)
        have HNM := Lib.hid hN
        obtain ⟨wa, hra, oa, ga⟩ := run_mk w1 N w1.heap.size w1.heap.size (by omega) (Nat.le_refl _) rfl
        have hBa : Below w1.heap.size w1 wa := (Below.refl w1.heap.size w1).grown ga (Nat.le_refl _) (fun k h => by cases h)
        have hwa : w1.heap.size < wa.heap.size := by
          rcases oa.form with ⟨h1, _⟩ | ⟨g1, h1, h2, h3, _⟩
          · cases h1
          · cases h1; exact h3
        obtain ⟨w2, hw2e⟩ : ∃ w2, w2 = wa.alloc (.cells #[.int .i64 m, .slice (some ⟨w1.heap.size, 0, none⟩) N N] 25) := ⟨_, rfl⟩
        have HBM : Hid (Box w2 wa.heap.size 25 (.int .i64 m) (.slice (some ⟨w1.heap.size, 0, none⟩) N N)) := by rw [hw2e]; exact Box.new _ _ _ _
        have hba2 : Below wa.heap.size wa w2 := by rw [hw2e]; exact (Below.refl _ _).alloc (Nat.le_refl _) _
        have HOW : Hid (Own w1.heap.size w2 (some ⟨w1.heap.size, 0, none⟩) N N (List.replicate N 0)) := oa.below hba2
        have hb12 : Below w1.heap.size w1 w2 := hBa.trans (hba2.mono hBa.size)
        have hs2 : w2.heap.size = wa.heap.size + 1 := by rw [hw2e]; simp
        have HB2 := Lib.hid (HB1.out.trans (hb12.mono HB1.out.size))
        have HX2 := Lib.hid (HX1.out.below hb12 HX1.out.lt)
        have HO2 := Lib.hid (HO1.out.below hb12)
        have HW2E := Lib.hid hw2e
        clear hz hv4 oa ga hBa hba2 hb12 hw2e hN
        go_upto_region 8 with (go_at_call 22; refine (HZ.out _).mono ?_; rintro e w' ⟨rfl, rfl⟩)
        rw [← HW2E.out]
        clear c0 c1 d1 d2 e1 e2 hra hw2
        obtain ⟨_, c1⟩ := HC0.out _ _ _ _ HO2.out
        go_wp2_with fail
        obtain ⟨L, hL⟩ : ∃ L, L = cutL 44 p1 := ⟨_, rfl⟩
        obtain ⟨n2, hn2⟩ : ∃ n, n = L.length := ⟨_, rfl⟩
        have HRI : Hid (ReadInv l m N L 0 (List.replicate N 0)) := by rw [hL]; exact ReadInv.start (ok := true) HCT.out (fun u hu h => ⟨(HV.out u hu h).1, rfl⟩) rfl HNM.out
        rw [← hL, ← hn2] at HC2
        rw [← hL] at HML hll
        have HN2 := Lib.hid hn2
        have hn2m : n2 ≤ 1048577 := by omega
        clear c1 hL hn2 hll
        refine (HC2.out _).mono ?_
        rintro e w3 ⟨G2, C2, rfl, ho, hb⟩
        have HO3 := Lib.hid ho
        have HM3 := Lib.hid (HBM.out.below hb HBM.out.lt)
        have HX3 := Lib.hid (HX2.out.below hb HX2.out.lt)
        have HR3 := Lib.hid (HOW.out.below hb)
        have HB3 := Lib.hid (HB2.out.trans (hb.mono HB2.out.size))
        have hs3 := hb.size
        have hG2 : w2.heap.size ≤ G2 ∧ G2 < w3.heap.size := World.ownsRow.lt ho G2 (by simp [Value.ownBlock])
        clear ho hb HOW HBM
        go_wp2_with fail
        go_loopw [9] (fun i wr => ∃ (k : Nat) (xs : List Int), k ≤ n2 ∧ i = .int .i64 k ∧ Hid (Own w1.heap.size wr (some ⟨w1.heap.size, 0, none⟩) N N xs) ∧ Hid (ReadInv l m N L k xs) ∧ Hid (w3.grownBy wr (some w1.heap.size))) (fun i _ => n2 - (intOf i).toNat)
        case atStart => exact ⟨0, _, Nat.zero_le _, rfl, HR3.out, HRI.out, World.grownBy.refl _ _⟩
        case round =>
          obtain ⟨k, xs, hk, rfl, HOX, HI, HGR⟩ := hrel
          have HMr := Lib.hid (HM3.out.grown HGR.out (by simp; omega))
          have HXr := Lib.hid (HX3.out.grown HGR.out (by simp; omega))
          have hsr := HGR.out.size
          by_cases hlt : k < n2
          · have hkL : k < L.length := by rw [← HN2.out]; exact hlt
            have HOr : Hid (OwnS w2.heap.size wr (some ⟨G2, 0, none⟩) n2 C2 (L.map bs)) := World.ownsRow.kept HO3.out HGR.out (.inr (by simp [Value.ownBlock]; omega))
            obtain ⟨y, hy⟩ : ∃ y, y = L.getD k [] := ⟨_, rfl⟩
            have HEN := Lib.hid (fun W => l3Entry_any y W (HML.out _ (by rw [hy]; exact getS_mem hkL)))
            have c0 := HOr.out.cell hkL
            have HY := Lib.hid hy
            rw [← hy] at c0
            obtain ⟨Y, hY⟩ : ∃ Y, Y = bs y := ⟨_, rfl⟩
            rw [← hY] at c0 HEN
            clear hy hY
            go_wp2_with fail
            refine (HEN.out _).mono ?_
            rintro e w4 ⟨⟨v, x, ok, hv16, rfl, hvv⟩, hb⟩
            have HE : Hid (∀ q, Good l q → v < N ∧ ok = true ∧ xs.set v x = putTo q.2 N (k + 1)) := HI.out.entry hkL hN16.2 (by rw [← HY.out]; exact hvv)
            have HM4 := Lib.hid (HMr.out.below hb HMr.out.lt)
            have HX4 := Lib.hid (HXr.out.below hb HXr.out.lt)
            have HO4 := Lib.hid (HOX.out.below hb)
            have HGR4 := Lib.hid (grown_trans HGR.out (grown_of_below hb _))
            have HBE : Hid (Below w.heap.size w w4) := HB3.out.grown HGR4.out HB3.out.size (fun k h => by cases h; omega)
            have hs4 := hb.size
            clear hvv hb c0
            obtain ⟨d1, d2, e1, e2⟩ := HX4.out.cells
            rcases ok with _ | _
            · have HR : Hid (parR l = none) := parR_no fun q hq => absurd (HE.out q hq).2.1 Bool.false_ne_true
              go_wp2_with fail
              refine bodyPost_ret (v := .tuple #[massV 0 none 0 0, .bool false]) (by simp [results, Tryz.results12, go_sem, d1, d2]) rfl ?_
              rw [HR.out]
              exact ⟨RetM.none_ _ _, (HBE.out.setCell (by simp) _).setCell (by simp) _⟩
            · have hsz : sizeB (m : Int) = true := by simp [sizeB]; omega
              have HSV := Lib.hid (fun W => SetValid_any (m : Int) (v : Int) W)
              rw [hsz, setB_lt hm HNM.out v] at HSV
              by_cases hvN : v < N
              · rw [decide_eq_true hvN] at HSV
                have hdd : (true && true) = true := rfl
                rw [hdd] at HSV
                obtain ⟨b1, b2, f1, f2⟩ := HM4.out.cells
                have hcl := HO4.out.cell hvN
                have hfr := HO4.out.frozen v
                obtain ⟨t0, ht0⟩ : ∃ t, t = xs.getD v 0 := ⟨_, rfl⟩
                rw [← ht0] at hcl
                have hvi : (v : Int) < (N : Int) := by omega
                clear hdd hsz ht0 d1 d2 e1 e2
                go_wp2_with (go_at_call 39; refine (HSV.out _).mono ?_; rintro e w' ⟨rfl, rfl⟩)
                go_roundw
                case rel => exact ⟨k + 1, xs.set v x, by omega, by go_num, HO4.out.set v x, fun q hq => ⟨(HI.out q hq).1, (HI.out q hq).2.1, (HI.out q hq).2.2.1, (HE.out q hq).2.2⟩, grown_set HGR4.out v _⟩
                case measure => simp [intOf]; omega
              · have hdd : (true && decide (v < N)) = false := by simp; omega
                rw [hdd] at HSV
                have HR : Hid (parR l = none) := parR_no fun q hq => absurd (HE.out q hq).1 hvN
                clear hdd hsz
                go_wp2_with (go_at_call 39; refine (HSV.out _).mono ?_; rintro e w' ⟨rfl, rfl⟩)
                refine bodyPost_ret (v := .tuple #[massV 0 none 0 0, .bool false]) (by simp [results, Tryz.results12, go_sem, d1, d2]) rfl ?_
                rw [HR.out]
                exact ⟨RetM.none_ _ _, (HBE.out.setCell (by simp) _).setCell (by simp) _⟩
          · obtain rfl : n2 = k := by omega
            have HLA : Hid (∀ q, Good l q → q = ((m : Int), xs)) := by
              have h := HI.out
              rw [HN2.out] at h
              exact h.last
            have HFM := Lib.hid (sFormatMass_any (m : Int) (some ⟨w1.heap.size, 0, none⟩) N N xs wr HOX.out.row (by omega))
            obtain ⟨F, hF⟩ : ∃ F, F = bs (fmtT (m : Int) xs) := ⟨_, rfl⟩
            rw [← hF] at HFM
            have HFF := Lib.hid hF
            clear hF
            have HBR : Hid (Below w.heap.size w wr) := HB3.out.grown HGR.out HB3.out.size (fun k h => by cases h; omega)
            obtain ⟨b1, b2, f1, f2⟩ := HMr.out.cells
            by_cases he : F = S
            · subst he
              have HG : Hid (Good l ((m : Int), xs)) := good_of HCT.out (bs_inj (HS.out.symm.trans HFF.out))
              have HR : Hid (parR l = some ((m : Int), xs)) := parR_yes HG.out HLA.out
              go_wp2_with fail
              refine HFM.out.mono ?_
              rintro e w5 ⟨rfl, hb⟩
              obtain ⟨d1, d2, e1, e2⟩ := (HXr.out.below hb HXr.out.lt).cells
              have HM5 := (HMr.out.below hb HMr.out.lt).cells
              obtain ⟨g1, g2, _, _⟩ := HM5
              have HB5 := Lib.hid (HBR.out.trans (hb.mono HBR.out.size))
              have HO5 := Lib.hid (HOX.out.below hb)
              clear hb b1 b2 f1 f2
              go_wp2_with fail
              refine bodyPost_ret (v := .tuple #[massV (m : Int) (some ⟨w1.heap.size, 0, none⟩) N N, .bool true]) (by simp [results, Tryz.results12, go_sem, d1, d2]) rfl ?_
              rw [HR.out]
              exact ⟨RetM.some_ ((HO5.out.setBox (by omega) _ _).mono (by omega)), (HB5.out.setCell (by simp) _).setCell (by simp) _⟩
            · have hne := toList_ne he
              have HNE : Hid (F ≠ S) := he
              have HR : Hid (parR l = none) := parR_no fun q hq => by
                have h1 := HLA.out q hq
                rw [h1] at hq
                exact HNE.out (by rw [HFF.out, HS.out, ← hq.2])
              clear he
              go_wp2_with fail
              refine HFM.out.mono ?_
              rintro e w5 ⟨rfl, hb⟩
              obtain ⟨d1, d2, e1, e2⟩ := (HXr.out.below hb HXr.out.lt).cells
              have HB5 := Lib.hid (HBR.out.trans (hb.mono HBR.out.size))
              clear hb b1 b2 f1 f2
              go_wp2_with fail
              refine bodyPost_ret (v := .tuple #[massV 0 none 0 0, .bool false]) (by simp [results, Tryz.results12, go_sem, d1, d2]) rfl ?_
              rw [HR.out]
              exact ⟨RetM.none_ _ _, (HB5.out.setCell (by simp) _).setCell (by simp) _⟩
      · have hz' : sizeB v = false := by simpa using hz
        rw [hz'] at HZ
        have HR : Hid (parR l = none) := parR_no fun q hq => by
          have h1 := HCT.out.good q hq
          have h3 := good_size hq
          have h2 := size_cases h3
          have h4 := (HV.out q.1.toNat (by omega) h1.1).1
          rw [show v = q.1 by omega, h3] at hz'
          exact absurd hz' (by simp)
        clear hz hz'
        go_wp2_with (go_at_call 22; refine (HZ.out _).mono ?_; rintro e w' ⟨rfl, rfl⟩)
        refine bodyPost_ret (v := .tuple #[massV 0 none 0 0, .bool false]) (by simp [results, Tryz.results12, go_sem, d1, d2]) rfl ?_
        rw [HR.out]
        exact ⟨RetM.none_ _ _, (HB1.out.setCell (by simp) _).setCell (by simp) _⟩
  · have hne : ((n : Int) != 2) = true := by simp; omega
    have HNE : Hid (¬ n = 2) := h2
    clear h2
    go_enter Tryz.func12, Tryz.ntmps12
    go_wp2_with fail
    rw [← HW0.out]
    refine HCU.out.mono ?_
    rintro e w1 ⟨G, C, rfl, ho, hb⟩
    obtain ⟨d1, d2, e1, e2⟩ := (HBX.out.below hb HBX.out.lt).cells
    have HB1 := Lib.hid (HB0.out.trans (hb.mono HB0.out.size))
    clear ho hb
    go_wp2_with fail
    refine bodyPost_ret (v := .tuple #[massV 0 none 0 0, .bool false]) (by simp [results, Tryz.results12, go_sem, d1, d2]) rfl ?_
    rw [parR_short (by rw [← HL0.out, ← HN.out]; exact HNE.out)]
    exact ⟨RetM.none_ _ _, (HB1.out.setCell (by simp) _).setCell (by simp) _⟩
end Go.Proofs.YtlfajalhoifliaaGreatDoor
