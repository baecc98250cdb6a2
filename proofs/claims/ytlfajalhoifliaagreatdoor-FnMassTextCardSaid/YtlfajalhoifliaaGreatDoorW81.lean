/- Contract of ParseMass, of the program (the walk). -/
import Derived.Test.YtlfajalhoifliaaGreatDoorW80
namespace Go.Proofs.YtlfajalhoifliaaGreatDoor
open Go.RowKit

set_option maxHeartbeats 6400000 in
set_option maxRecDepth 100000 in
theorem iParseMass_any (l : List UInt8) (w : World) (hl : l.length ≤ 1048576) (hE : Env w) : Calls Tryz.prog 9 #[.string (bs l)] w fun e w' => RetM w.heap.size (parR l) e w' ∧ Below w.heap.size w w' := by
  obtain ⟨w0, hw0⟩ : ∃ w0, w0 = w.alloc (.cells #[.int .i64 0, .slice none 0 0] 25) := ⟨_, rfl⟩
  have HBX : Hid (Box w0 w.heap.size 25 (.int .i64 0) (.slice none 0 0)) := by rw [hw0]; exact Box.new _ _ _ _
  have HB0 : Hid (Below w.heap.size w w0) := by rw [hw0]; exact (Below.refl _ _).alloc (Nat.le_refl _) _
  have hs0 : w0.heap.size = w.heap.size + 1 := by rw [hw0]; simp
  have HEV := Lib.hid hE
  have HW0 := Lib.hid hw0; clear hw0 hE
  have HCU := Lib.hid (Cut_any l 58 w0 hl (HEV.out.below HB0.out))
  obtain ⟨S, hS⟩ : ∃ S, S = bs l := ⟨_, rfl⟩
  have HS := Lib.hid hS
  rw [← hS] at HCU ⊢
  have HLL := Lib.hid hl
  clear hS hl
  go_enter Tryz.func9, Tryz.ntmps9
  go_wp2_with fail
  rw [← HW0.out]
  refine HCU.out.mono ?_
  rintro e w1 ⟨⟨p0, p1, ok, rfl, hl0, hl1, hne, hcc⟩, hb⟩
  have HCG : Hid (∀ q, Good l q → p0 = Go.Lib.decDigits q.1.toNat ∧ p1 = partsL q.2 q.2.length ∧ ok = true) := fun q hq => hcc _ _ (dec_no (by simp)) (by rw [hq.2, fmtT, if_pos hq.1, headL, List.append_assoc, List.singleton_append])
  have HLN := Lib.hid hne
  have HB1 := Lib.hid (HB0.out.trans (hb.mono HB0.out.size))
  have HX1 := Lib.hid (HBX.out.below hb HBX.out.lt)
  have hs1 := hb.size
  have HAT := Lib.hid (Atoi_any p0 w1 (Nat.le_trans hl0 HLL.out) (HEV.out.below HB1.out))
  have HL1 : Hid (p1.length ≤ 1048576) := Nat.le_trans hl1 HLL.out
  obtain ⟨P, hP⟩ : ∃ P, P = bs p0 := ⟨_, rfl⟩
  obtain ⟨Q, hQ⟩ : ∃ Q, Q = bs p1 := ⟨_, rfl⟩
  rw [← hP] at HAT ⊢
  rw [← hQ]
  have HQQ := Lib.hid hQ
  clear hcc hb hne hl0 hl1 hP hQ
  go_wp2_with fail
  refine HAT.out.mono ?_
  rintro e w2 ⟨⟨v, err, rfl, her, hvv⟩, hb⟩
  have HV := Lib.hid hvv
  have HB2 := Lib.hid (HB1.out.trans (hb.mono HB1.out.size))
  have HX2 := Lib.hid (HX1.out.below hb HX1.out.lt)
  have hs2 := hb.size
  clear hvv hb
  obtain ⟨d1, d2, e1, e2⟩ := HX2.out.cells
  rcases ok with _ | _
  · have HR : Hid (parR l = none) := parR_no fun q hq => absurd (HCG.out q hq).2.2 Bool.false_ne_true
    clear her
    go_wp2_with fail
    refine bodyPost_ret (v := .tuple #[massV 0 none 0 0, .bool false]) (by simp [results, Tryz.results9, go_sem, d1, d2]) rfl ?_
    rw [HR.out]
    exact ⟨RetM.none_ _ _, (HB2.out.setCell (by simp) _).setCell (by simp) _⟩
  · rcases her with rfl | ⟨et, eN, rfl⟩
    · have HZ := Lib.hid (fun W => isSize_any v W)
      by_cases hz : sizeB v = true
      · rw [hz] at HZ
        have hv4 := size_cases hz
        obtain ⟨m, rfl⟩ : ∃ m : Nat, v = m := ⟨v.toNat, by omega⟩
        have hm : 1 ≤ m ∧ m ≤ 4 := by omega
        obtain ⟨N, hN⟩ : ∃ N, N = 2 ^ m := ⟨_, rfl⟩
        have hN16 : 2 ≤ N ∧ N ≤ 16 := by
          obtain ⟨h1, h4⟩ := hm
          have : m = 1 ∨ m = 2 ∨ m = 3 ∨ m = 4 := by omega
          rcases this with rfl | rfl | rfl | rfl <;> (simp at hN; omega)
        have hw2 : wrap64 (2 ^ m) = (N : Int) := by
          obtain ⟨h1, h4⟩ := hm
          have : m = 1 ∨ m = 2 ∨ m = 3 ∨ m = 4 := by omega
          rcases this with rfl | rfl | rfl | rfl <;> (rw [hN]; decide +kernel)
        have HNM := Lib.hid hN
        obtain ⟨wa, hra, oa, ga⟩ := run_mk w2 N w2.heap.size w2.heap.size (by omega) (Nat.le_refl _) rfl
        have hBa : Below w2.heap.size w2 wa := (Below.refl w2.heap.size w2).grown ga (Nat.le_refl _) (fun k h => by cases h)
        have hwa : w2.heap.size < wa.heap.size := by
          rcases oa.form with ⟨h1, _⟩ | ⟨g1, h1, h2, h3, _⟩
          · cases h1
          · cases h1; exact h3
        obtain ⟨w4, hw4e⟩ : ∃ w4, w4 = wa.alloc (.cells #[.int .i64 m, .slice (some ⟨w2.heap.size, 0, none⟩) N N] 25) := ⟨_, rfl⟩
        have HBM : Hid (Box w4 wa.heap.size 25 (.int .i64 m) (.slice (some ⟨w2.heap.size, 0, none⟩) N N)) := by rw [hw4e]; exact Box.new _ _ _ _
        have hba2 : Below wa.heap.size wa w4 := by rw [hw4e]; exact (Below.refl _ _).alloc (Nat.le_refl _) _
        have HOW : Hid (Own w2.heap.size w4 (some ⟨w2.heap.size, 0, none⟩) N N (List.replicate N 0)) := oa.below hba2
        have hb24 : Below w2.heap.size w2 w4 := hBa.trans (hba2.mono hBa.size)
        have hs4 : w4.heap.size = wa.heap.size + 1 := by rw [hw4e]; simp
        have HB4 := Lib.hid (HB2.out.trans (hb24.mono HB2.out.size))
        have HX4 := Lib.hid (HX2.out.below hb24 HX2.out.lt)
        have HW4E := Lib.hid hw4e
        have HC2 := Lib.hid (Split_any p1 44 w4 HL1.out (HEV.out.below HB4.out))
        rw [← HQQ.out] at HC2
        clear hz hv4 oa ga hBa hba2 hb24 hw4e hN
        go_upto_region 6 with (go_at_call 28; refine (HZ.out _).mono ?_; rintro e w' ⟨rfl, rfl⟩)
        rw [← HW4E.out]
        clear d1 d2 e1 e2 hra hw2
        have hll : (cutL 44 p1).length ≤ 1048577 := Nat.le_trans (cutL_length 44 p1) (by have := HL1.out; omega)
        have HML : Hid (∀ x ∈ cutL 44 p1, x.length ≤ 1048576) := fun x hx => Nat.le_trans (cutL_mem hx) HL1.out
        obtain ⟨L, hL⟩ : ∃ L, L = cutL 44 p1 := ⟨_, rfl⟩
        obtain ⟨n2, hn2⟩ : ∃ n, n = L.length := ⟨_, rfl⟩
        have HCT : Hid (Cut2 l p0 p1) := ⟨HLN.out (by trivial), fun q hq => ⟨(HCG.out q hq).1, (HCG.out q hq).2.1⟩⟩
        have HRI : Hid (ReadInv l m N L 0 (List.replicate N 0)) := by rw [hL]; exact ReadInv.start (ok := true) HCT.out (fun u hu h => ⟨(HV.out u hu h).1, rfl⟩) rfl HNM.out
        rw [← hL, ← hn2] at HC2
        rw [← hL] at HML hll
        have HN2 := Lib.hid hn2
        have hn2m : n2 ≤ 1048577 := by omega
        clear hL hn2 hll
        go_wp2_with fail
        refine HC2.out.mono ?_
        rintro e w3 ⟨G2, C2, rfl, ho, hb⟩
        have HO3 := Lib.hid ho
        have HM3 := Lib.hid (HBM.out.below hb HBM.out.lt)
        have HX3 := Lib.hid (HX4.out.below hb HX4.out.lt)
        have HR3 := Lib.hid (HOW.out.below hb)
        have HB3 := Lib.hid (HB4.out.trans (hb.mono HB4.out.size))
        have hs3 := hb.size
        have hG2 : w4.heap.size ≤ G2 ∧ G2 < w3.heap.size := World.ownsRow.lt ho G2 (by simp [Value.ownBlock])
        clear ho hb HOW HBM
        go_wp2_with fail
        go_loopw [50] (fun i wr => ∃ (k : Nat) (xs : List Int), k ≤ n2 ∧ i = .int .i64 k ∧ Hid (Own w2.heap.size wr (some ⟨w2.heap.size, 0, none⟩) N N xs) ∧ Hid (ReadInv l m N L k xs) ∧ Hid (w3.grownBy wr (some w2.heap.size))) (fun i _ => n2 - (intOf i).toNat)
        case atStart => exact ⟨0, _, Nat.zero_le _, rfl, HR3.out, HRI.out, World.grownBy.refl _ _⟩
        case round =>
          obtain ⟨k, xs, hk, rfl, HOX, HI, HGR⟩ := hrel
          have HMr := Lib.hid (HM3.out.grown HGR.out (by simp; omega))
          have HXr := Lib.hid (HX3.out.grown HGR.out (by simp; omega))
          have hsr := HGR.out.size
          have HBR : Hid (Below w.heap.size w wr) := HB3.out.grown HGR.out HB3.out.size (fun k h => by cases h; omega)
          by_cases hlt : k < n2
          · have hkL : k < L.length := by rw [← HN2.out]; exact hlt
            have HOr : Hid (OwnS w4.heap.size wr (some ⟨G2, 0, none⟩) n2 C2 (L.map bs)) := World.ownsRow.kept HO3.out HGR.out (.inr (by simp [Value.ownBlock]; omega))
            obtain ⟨y, hy⟩ : ∃ y, y = L.getD k [] := ⟨_, rfl⟩
            have hyl := HML.out _ (getS_mem hkL)
            rw [← hy] at hyl
            have HCY := Lib.hid (Cut_any y 32 wr hyl (HEV.out.below HBR.out))
            have c0 := HOr.out.cell hkL
            have HY := Lib.hid hy
            have HYL := Lib.hid hyl
            rw [← hy] at c0
            obtain ⟨Y, hY⟩ : ∃ Y, Y = bs y := ⟨_, rfl⟩
            rw [← hY] at c0 HCY
            clear hy hY hyl
            go_wp2_with fail
            refine HCY.out.mono ?_
            rintro e w5 ⟨⟨a0, b0, okc, rfl, ha0, hb0, _, hcc⟩, hb⟩
            have HCE : Hid (∀ (ys : List Int) (j : Nat), y = entL ys j → a0 = setL j ∧ b0 = Go.Lib.decDigits (ys.getD j 0).toNat) := fun ys j h => by
              have h1 := hcc (setL j) _ (setL_no (.inl rfl)) (by rw [h, entL, List.singleton_append])
              exact ⟨h1.1, h1.2.1⟩
            have HPS := Lib.hid (fun W => iParseSet_any (bs a0) W)
            have HB5 := Lib.hid (HBR.out.trans (hb.mono HBR.out.size))
            have HAY := Lib.hid (Atoi_any b0 w5 (Nat.le_trans hb0 HYL.out) (HEV.out.below HB5.out))
            have HM5 := Lib.hid (HMr.out.below hb HMr.out.lt)
            have HX5 := Lib.hid (HXr.out.below hb HXr.out.lt)
            have HO5 := Lib.hid (HOX.out.below hb)
            have HGR5 := Lib.hid (grown_trans HGR.out (grown_of_below hb (some w2.heap.size)))
            have hs5 := hb.size
            obtain ⟨A, hA⟩ : ∃ A, A = bs a0 := ⟨_, rfl⟩
            obtain ⟨D, hD⟩ : ∃ D, D = bs b0 := ⟨_, rfl⟩
            rw [← hA] at HPS ⊢
            rw [← hD] at HAY ⊢
            have HA := Lib.hid hA
            clear hcc hb c0 ha0 hb0 hA hD
            go_wp2_with fail
            refine (HPS.out _).mono ?_
            rintro e w' ⟨⟨u, fine, hu, rfl, huu⟩, rfl⟩
            have HU := Lib.hid huu
            clear huu
            go_wp2_with fail
            refine HAY.out.mono ?_
            rintro e w6 ⟨⟨x, err, rfl, her, hxx⟩, hb⟩
            have HE : Hid (∀ q, Good l q → u < N ∧ (fine = true ∧ err = .nilIface) ∧ xs.set u x = putTo q.2 N (k + 1)) := HI.out.entry hkL hN16.2 (fun ys j hj hbd he => by
              rw [← HY.out] at he
              have h1 := HCE.out ys j he
              have h2 := HU.out j hj (by rw [HA.out, h1.1])
              have h3 := hxx (ys.getD j 0).toNat (by omega) h1.2
              exact ⟨h2.1, by rw [h3.1]; omega, h2.2, h3.2⟩)
            have HM6 := Lib.hid (HM5.out.below hb HM5.out.lt)
            have HX6 := Lib.hid (HX5.out.below hb HX5.out.lt)
            have HO6 := Lib.hid (HO5.out.below hb)
            have HGR6 := Lib.hid (grown_trans HGR5.out (grown_of_below hb _))
            have HBE := Lib.hid (HB5.out.trans (hb.mono HB5.out.size))
            have hs6 := hb.size
            clear hxx hb
            obtain ⟨d1, d2, e1, e2⟩ := HX6.out.cells
            rcases fine with _ | _
            · have HR : Hid (parR l = none) := parR_no fun q hq => absurd (HE.out q hq).2.1.1 Bool.false_ne_true
              clear her
              go_wp2_with fail
              refine bodyPost_ret (v := .tuple #[massV 0 none 0 0, .bool false]) (by simp [results, Tryz.results9, go_sem, d1, d2]) rfl ?_
              rw [HR.out]
              exact ⟨RetM.none_ _ _, (HBE.out.setCell (by simp) _).setCell (by simp) _⟩
            · rcases her with rfl | ⟨et, eN, rfl⟩
              · have hsz : sizeB (m : Int) = true := by simp [sizeB]; omega
                have HSV := Lib.hid (fun W => isSetOf_any (m : Int) (u : Int) W hsz)
                rw [setB_lt hm HNM.out u] at HSV
                by_cases hvN : u < N
                · rw [decide_eq_true hvN] at HSV
                  obtain ⟨b1, b2, f1, f2⟩ := HM6.out.cells
                  have hcl := HO6.out.cell hvN
                  have hfr := HO6.out.frozen u
                  obtain ⟨t0, ht0⟩ : ∃ t, t = xs.getD u 0 := ⟨_, rfl⟩
                  rw [← ht0] at hcl
                  have hvi : (u : Int) < (N : Int) := by omega
                  clear hsz ht0 d1 d2 e1 e2
                  go_wp2_with (go_at_call 31; refine (HSV.out _).mono ?_; rintro e w' ⟨rfl, rfl⟩)
                  go_roundw
                  case rel => exact ⟨k + 1, xs.set u x, by omega, by go_num, HO6.out.set u x, fun q hq => ⟨(HI.out q hq).1, (HI.out q hq).2.1, (HI.out q hq).2.2.1, (HE.out q hq).2.2⟩, grown_set HGR6.out u _⟩
                  case measure => simp [intOf]; omega
                · have hdd : decide (u < N) = false := by simp; omega
                  rw [hdd] at HSV
                  have HR : Hid (parR l = none) := parR_no fun q hq => absurd (HE.out q hq).1 hvN
                  clear hdd hsz
                  go_wp2_with (go_at_call 31; refine (HSV.out _).mono ?_; rintro e w' ⟨rfl, rfl⟩)
                  refine bodyPost_ret (v := .tuple #[massV 0 none 0 0, .bool false]) (by simp [results, Tryz.results9, go_sem, d1, d2]) rfl ?_
                  rw [HR.out]
                  exact ⟨RetM.none_ _ _, (HBE.out.setCell (by simp) _).setCell (by simp) _⟩
              · have HR : Hid (parR l = none) := parR_no fun q hq => by
                  have h := (HE.out q hq).2.1.2
                  cases h
                go_wp2_with fail
                refine bodyPost_ret (v := .tuple #[massV 0 none 0 0, .bool false]) (by simp [results, Tryz.results9, go_sem, d1, d2]) rfl ?_
                rw [HR.out]
                exact ⟨RetM.none_ _ _, (HBE.out.setCell (by simp) _).setCell (by simp) _⟩
          · obtain rfl : n2 = k := by omega
            have HLA : Hid (∀ q, Good l q → q = ((m : Int), xs)) := by
              have h := HI.out
              rw [HN2.out] at h
              exact h.last
            have HFM := Lib.hid (iFormatMass_any (m : Int) (some ⟨w2.heap.size, 0, none⟩) N N xs wr HOX.out.row (by omega) (HEV.out.below HBR.out).tab)
            obtain ⟨F, hF⟩ : ∃ F, F = bs (fmtT (m : Int) xs) := ⟨_, rfl⟩
            rw [← hF] at HFM
            have HFF := Lib.hid hF
            clear hF
            obtain ⟨b1, b2, f1, f2⟩ := HMr.out.cells
            by_cases he : F = S
            · subst he
              have HG : Hid (Good l ((m : Int), xs)) := good_of HCT.out (bs_inj (HS.out.symm.trans HFF.out))
              have HR : Hid (parR l = some ((m : Int), xs)) := parR_yes HG.out HLA.out
              go_wp2_with fail
              refine HFM.out.mono ?_
              rintro e w5 ⟨rfl, hb⟩
              obtain ⟨d1, d2, e1, e2⟩ := (HXr.out.below hb HXr.out.lt).cells
              obtain ⟨g1, g2, _, _⟩ := (HMr.out.below hb HMr.out.lt).cells
              have HB5 := Lib.hid (HBR.out.trans (hb.mono HBR.out.size))
              have HO5 := Lib.hid (HOX.out.below hb)
              clear hb b1 b2 f1 f2
              go_wp2_with fail
              refine bodyPost_ret (v := .tuple #[massV (m : Int) (some ⟨w2.heap.size, 0, none⟩) N N, .bool true]) (by simp [results, Tryz.results9, go_sem, d1, d2]) rfl ?_
              rw [HR.out]
              exact ⟨RetM.some_ ((HO5.out.setBox (by omega) _ _).mono (by omega)), (HB5.out.setCell (by simp) _).setCell (by simp) _⟩
            · have hne := toList_ne he
              have HNE : Hid (F ≠ S) := he
              have HR : Hid (parR l = none) := parR_no fun q hq => by
                have h1 := HLA.out q hq
                rw [h1] at hq
                exact HNE.out (by rw [HFF.out, HS.out, ← hq.2])
              clear he
              go_wp2_with fail
              refine HFM.out.mono ?_
              rintro e w5 ⟨rfl, hb⟩
              obtain ⟨d1, d2, e1, e2⟩ := (HXr.out.below hb HXr.out.lt).cells
              have HB5 := Lib.hid (HBR.out.trans (hb.mono HBR.out.size))
              clear hb b1 b2 f1 f2
              go_wp2_with fail
              refine bodyPost_ret (v := .tuple #[massV 0 none 0 0, .bool false]) (by simp [results, Tryz.results9, go_sem, d1, d2]) rfl ?_
              rw [HR.out]
              exact ⟨RetM.none_ _ _, (HB5.out.setCell (by simp) _).setCell (by simp) _⟩
      · have hz' : sizeB v = false := by simpa using hz
        rw [hz'] at HZ
        have HR : Hid (parR l = none) := parR_no fun q hq => by
          have h1 := HCG.out q hq
          have h3 := good_size hq
          have h2 := size_cases h3
          have h4 := (HV.out q.1.toNat (by omega) h1.1).1
          rw [show v = q.1 by omega, h3] at hz'
          exact absurd hz' (by simp)
        clear hz hz'
        go_wp2_with (go_at_call 28; refine (HZ.out _).mono ?_; rintro e w' ⟨rfl, rfl⟩)
        refine bodyPost_ret (v := .tuple #[massV 0 none 0 0, .bool false]) (by simp [results, Tryz.results9, go_sem, d1, d2]) rfl ?_
        rw [HR.out]
        exact ⟨RetM.none_ _ _, (HB2.out.setCell (by simp) _).setCell (by simp) _⟩
    · have HR : Hid (parR l = none) := parR_no fun q hq => by
        have h1 := HCG.out q hq
        have h2 := size_cases (good_size hq)
        have h3 := (HV.out q.1.toNat (by omega) h1.1).2
        cases h3
      go_wp2_with fail
      refine bodyPost_ret (v := .tuple #[massV 0 none 0 0, .bool false]) (by simp [results, Tryz.results9, go_sem, d1, d2]) rfl ?_
      rw [HR.out]
      exact ⟨RetM.none_ _ _, (HB2.out.setCell (by simp) _).setCell (by simp) _⟩
end Go.Proofs.YtlfajalhoifliaaGreatDoor
