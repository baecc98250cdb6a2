/- Contracts of MeanSize, of the program and of the reference. -/
import Derived.Test.YtapkppnjgbcklaaW24
import Derived.Test.YtapkppnjgbcklaaW20
namespace Go.Proofs.Ytapkppnjgbcklaa
open Go.RowKit

theorem size_bound {xs : List Int} {n : Nat} (hn : xs.length = n) (h16 : n ≤ 16) (h : ∀ k, k < n → 0 ≤ xs.getD k 0 ∧ xs.getD k 0 ≤ 1000000) : 0 ≤ sumTo (sizeF xs) xs.length ∧ sumTo (sizeF xs) xs.length ≤ 64000000 := by
  rw [hn]
  have := sumTo_between (f := sizeF xs) n 4000000 (fun k hk => part_cnt (h k hk) (cnt k) (cnt_le _))
  omega
set_option maxHeartbeats 3200000 in
set_option maxRecDepth 100000 in
theorem iMeanSize_any (s : Int) (a : Option Addr) (n c : Nat) (xs : List Int) (w : World) (hr : Row w a n xs) (hn : n ≤ 1048576) :
    Calls Try.prog 57 #[massV s a n c] w fun e w' => RetF (meanR s xs) e ∧ Below w.heap.size w w' := by
  obtain ⟨w0, hw0⟩ : ∃ w0, w0 = (w.alloc (.cells #[.int .i64 s, .slice a n c] 30)).alloc (.cells #[.int .i64 0, .int .i64 0] 27) := ⟨_, rfl⟩
  have HBM : Hid (Box w0 w.heap.size 30 (.int .i64 s) (.slice a n c)) := by rw [hw0]; exact (Box.new _ _ _ _).alloc _
  have HBX : Hid (Box w0 (w.heap.size + 1) 27 (.int .i64 0) (.int .i64 0)) := by rw [hw0]; exact alloc_at (by simp)
  have HB0 : Hid (Below w.heap.size w w0) := by rw [hw0]; exact ((Below.refl _ _).alloc (Nat.le_refl _) _).alloc (by simp) _
  have hr0 := hr.below HB0.out
  have HW0 := Lib.hid hw0; clear hw0
  have HM := Lib.hid (isMass_any s a n c xs w0 hr0 hn)
  by_cases hm : massB s xs = true
  · have hI := massB_is hr.1 hm
    rw [hm] at HM
    rw [show meanR s xs = fracOf (sumTo (sizeF xs) xs.length) (sumL xs) by rw [meanR, fracM, if_pos hm]]
    have hnl : n ≤ 16 := by have := hI.nums; omega
    have hub := hI.whole
    have htb := size_bound hr.1 hnl hI.part
    have HP := Lib.hid hI.part
    have HH := Lib.hid (fun W h => wholeOf_any s a n c xs W h hnl hI.part)
    obtain ⟨u, hu⟩ : ∃ u, u = sumL xs := ⟨_, rfl⟩
    obtain ⟨tot, ht⟩ : ∃ tot, tot = sumTo (sizeF xs) xs.length := ⟨_, rfl⟩
    rw [← hu] at HH hub ⊢
    rw [← ht] at htb ⊢
    rw [hr.1] at ht
    have HT := Lib.hid ht
    have HL := Lib.hid (fun W => lowest_any tot u W (by omega) (by omega))
    obtain ⟨r, hr1⟩ : ∃ r, r = fracOf tot u := ⟨_, rfl⟩
    rw [← hr1] at HL ⊢
    clear hr1 hu ht hm hI
    go_enter Try.func57, Try.ntmps57
    go_wp2_with fail
    rw [← HW0.out]
    refine HM.out.mono ?_
    rintro e w1 ⟨rfl, b1⟩
    have HX1 := Lib.hid (HBX.out.below b1 HBX.out.lt)
    have HM1 := Lib.hid (HBM.out.below b1 HBM.out.lt)
    have HB1 := Lib.hid (HB0.out.trans (b1.mono HB0.out.size))
    have hr1 := hr0.below b1
    clear b1 HM HBX HBM HB0 hr0 hr
    obtain ⟨c1, c2, _, _⟩ := HM1.out.cells
    go_wp2_with fail
    go_loop [4, 14] (fun s i => ∃ (k : Nat) (z : Int), k ≤ n ∧ i = .int .i64 k ∧ s = .int .i64 z ∧ 0 ≤ z ∧ z ≤ 4000000 * (k : Int) ∧ Hid (z = sumTo (sizeF xs) k)) (fun _ i => n - (intOf i).toNat)
    case atStart => exact ⟨0, 0, Nat.zero_le _, rfl, rfl, by omega, by omega, rfl⟩
    case round =>
      obtain ⟨k, z, hk, rfl, rfl, hz1, hz2, HZ⟩ := hrel
      by_cases hlt : k < n
      · obtain ⟨b, off, v, rfl, hv, hc⟩ := hr1.at_ hlt
        have hvb := HP.out k hlt
        rw [← hv] at hvb
        have HC := Lib.hid (fun W => oc_any k W (by omega))
        have hql := cnt_le k
        have HE : Hid (sizeF xs k = v * cnt k) := by show _ = _; rw [sizeF, ← hv]
        obtain ⟨q, hq⟩ : ∃ q, q = cnt k := ⟨_, rfl⟩
        rw [← hq] at HC hql HE
        clear hq hv
        have ht := part_cnt hvb q hql
        obtain ⟨t, hte⟩ : ∃ t, t = v * (q : Int) := ⟨_, rfl⟩
        have e2 : IntKind.i64.wrap (v * (q : Int)) = t := by rw [← hte] at ht; rw [← hte]; exact IntWalk.i64_in _ (by omega)
        rw [← hte] at ht HE
        clear hte
        have HN : Hid (z + t = sumTo (sizeF xs) (k + 1)) := by
          show _ = _
          simp only [sumTo]
          rw [HE.out, HZ.out]
        go_wp2_with (go_at_call 107; refine (HC.out _).mono ?_; rintro e w' ⟨rfl, rfl⟩)
        go_round
        case rel => exact ⟨k + 1, z + t, by omega, by go_num, rfl, by omega, by omega, HN⟩
        case measure => simp [intOf]; omega
      · have hk' : k = n := by omega
        have hzt : z = tot := by rw [HZ.out, HT.out, hk']
        subst hzt
        subst hk'
        go_wp2_with fail
        refine (HH.out _ hr1).mono ?_
        rintro e w2 ⟨rfl, b2⟩
        have HX2 := Lib.hid (HX1.out.below b2 HX1.out.lt)
        have HB2 := Lib.hid (HB1.out.trans (b2.mono HB1.out.size))
        clear b2 c1 c2
        go_wp2_with fail
        refine (HL.out _).mono ?_
        rintro e w3 ⟨rfl, b3⟩
        obtain ⟨d1, d2, f1, f2⟩ := (HX2.out.below b3 HX2.out.lt).cells
        have HB3 := Lib.hid (HB2.out.trans (b3.mono HB2.out.size))
        clear b3
        go_wp2_with fail
        refine bodyPost_ret (v := .tuple #[fracV (fN r) (fD r), .bool (fB r)]) (by simp [results, Try.results57, go_sem, d1, d2]) rfl ?_
        exact ⟨rfl, (HB3.out.setCell (by simp) _).setCell (by simp) _⟩
  · have hm' : massB s xs = false := by simpa using hm
    rw [hm'] at HM
    rw [show meanR s xs = none by rw [meanR, fracM, if_neg hm]]
    clear hm hm'
    go_enter Try.func57, Try.ntmps57
    go_wp2_with fail
    rw [← HW0.out]
    refine HM.out.mono ?_
    rintro e w1 ⟨rfl, b1⟩
    obtain ⟨d1, d2, f1, f2⟩ := (HBX.out.below b1 HBX.out.lt).cells
    have HB1 := Lib.hid (HB0.out.trans (b1.mono HB0.out.size))
    clear b1
    go_wp2_with fail
    refine bodyPost_ret (v := .tuple #[fracV 0 0, .bool false]) (by simp [results, Try.results57, go_sem, d1, d2]) rfl ?_
    exact ⟨RetF.none_, (HB1.out.setCell (by simp) _).setCell (by simp) _⟩
set_option maxHeartbeats 3200000 in
set_option maxRecDepth 100000 in
theorem sMeanSize_any (s : Int) (a : Option Addr) (n c : Nat) (xs : List Int) (w : World) (hr : Row w a n xs) (hn : n ≤ 1048576) :
    Calls Try.prog 58 #[massV s a n c] w fun e w' => RetF (meanR s xs) e ∧ Below w.heap.size w w' := by
  obtain ⟨w0, hw0⟩ : ∃ w0, w0 = (w.alloc (.cells #[.int .i64 s, .slice a n c] 30)).alloc (.cells #[.int .i64 0, .int .i64 0] 27) := ⟨_, rfl⟩
  have HBM : Hid (Box w0 w.heap.size 30 (.int .i64 s) (.slice a n c)) := by rw [hw0]; exact (Box.new _ _ _ _).alloc _
  have HBX : Hid (Box w0 (w.heap.size + 1) 27 (.int .i64 0) (.int .i64 0)) := by rw [hw0]; exact alloc_at (by simp)
  have HB0 : Hid (Below w.heap.size w w0) := by rw [hw0]; exact ((Below.refl _ _).alloc (Nat.le_refl _) _).alloc (by simp) _
  have hr0 := hr.below HB0.out
  have HW0 := Lib.hid hw0; clear hw0
  have HM := Lib.hid (MassValid_any s a n c xs w0 hr0 hn)
  by_cases hm : massB s xs = true
  · have hI := massB_is hr.1 hm
    rw [hm] at HM
    rw [show meanR s xs = fracOf (sumTo (sizeF xs) xs.length) (sumL xs) by rw [meanR, fracM, if_pos hm]]
    have hnl : n ≤ 16 := by have := hI.nums; omega
    have hub := hI.whole
    have htb := size_bound hr.1 hnl hI.part
    have HP := Lib.hid hI.part
    have HH := Lib.hid (fun W h => l3Whole_any s a n c xs W h hn)
    rw [whole_is hm] at HH
    obtain ⟨u, hu⟩ : ∃ u, u = sumL xs := ⟨_, rfl⟩
    obtain ⟨tot, ht⟩ : ∃ tot, tot = sumTo (sizeF xs) xs.length := ⟨_, rfl⟩
    rw [← hu] at HH hub ⊢
    rw [← ht] at htb ⊢
    rw [hr.1] at ht
    have HT := Lib.hid ht
    have HL := Lib.hid (fun W => l2Made_any tot u W (by omega) (by omega))
    obtain ⟨r, hr1⟩ : ∃ r, r = fracOf tot u := ⟨_, rfl⟩
    rw [← hr1] at HL ⊢
    clear hr1 hu ht hm hI
    go_enter Try.func58, Try.ntmps58
    go_wp2_with fail
    rw [← HW0.out]
    refine HM.out.mono ?_
    rintro e w1 ⟨rfl, b1⟩
    have HX1 := Lib.hid (HBX.out.below b1 HBX.out.lt)
    have HM1 := Lib.hid (HBM.out.below b1 HBM.out.lt)
    have HB1 := Lib.hid (HB0.out.trans (b1.mono HB0.out.size))
    have hr1 := hr0.below b1
    clear b1 HM HBX HBM HB0 hr0 hr
    go_wp2_with fail
    go_loopw [4, 5] (fun s i wr => ∃ (k : Nat) (z : Int), k ≤ n ∧ i = .int .i64 k ∧ s = .int .i64 z ∧ 0 ≤ z ∧ z ≤ 4000000 * (k : Int) ∧ Hid (z = sumTo (sizeF xs) k) ∧ Below w1.heap.size w1 wr) (fun _ i _ => n - (intOf i).toNat)
    case atStart => exact ⟨0, 0, Nat.zero_le _, rfl, rfl, by omega, by omega, rfl, Below.refl _ _⟩
    case round =>
      obtain ⟨k, z, hk, rfl, rfl, hz1, hz2, HZ, hbr⟩ := hrel
      obtain ⟨c1, c2, _, _⟩ := (HM1.out.below hbr HM1.out.lt).cells
      by_cases hlt : k < n
      · obtain ⟨b, off, v, rfl, hv, hc⟩ := (hr1.below hbr).at_ hlt
        have hvb := HP.out k hlt
        rw [← hv] at hvb
        have hql := cnt_le k
        have HE : Hid (sizeF xs k = v * cnt k) := by show _ = _; rw [sizeF, ← hv]
        clear hv
        have ht := part_cnt hvb (cnt k) hql
        obtain ⟨t, hte⟩ : ∃ t, t = v * (cnt k : Int) := ⟨_, rfl⟩
        have e2 : IntKind.i64.wrap (v * (cnt k : Int)) = t := by rw [← hte] at ht; rw [← hte]; exact IntWalk.i64_in _ (by omega)
        rw [← hte] at ht HE
        clear hte
        have HN : Hid (z + t = sumTo (sizeF xs) (k + 1)) := by
          show _ = _
          simp only [sumTo]
          rw [HE.out, HZ.out]
        have e4 : IntKind.i64.wrap (z + t) = z + t := IntWalk.i64_in _ (by omega)
        have HQ : Hid (∀ (j : Nat) (hj : j < 16) (W : World) (m : Nat), Calls Try.prog 108 #[.int .i64 j] (W.drewN m) fun e w'' => e = .returned (.int .i64 (cnt j)) ∧ ∃ j, w'' = W.drewN j) := fun j hj W m => (l1Count_any j _ hj).mono (fun e w'' h => ⟨h.1, m, h.2.symm⟩)
        have hk16 : k < 16 := by omega
        go_wp2_with fail
        go_quiet ((go_at_call 108; exact HQ.out _ (by assumption) _ _))
        go_wp2_with fail
        go_roundw
        case rel => exact ⟨k + 1, z + t, by omega, by go_num, rfl, by omega, by omega, HN, below_drewN hbr _⟩
        case measure => simp [intOf]; omega
      · have hk' : k = n := by omega
        have hzt : z = tot := by rw [HZ.out, HT.out, hk']
        subst hzt
        subst hk'
        go_wp2_with fail
        refine (HH.out _ (hr1.below hbr)).mono ?_
        rintro e w2 ⟨rfl, b2⟩
        have b2' := hbr.trans (b2.mono hbr.size)
        have HX2 := Lib.hid (HX1.out.below b2' HX1.out.lt)
        have HB2 := Lib.hid (HB1.out.trans (b2'.mono HB1.out.size))
        clear b2 b2' hbr c1 c2
        go_wp2_with fail
        refine (HL.out _).mono ?_
        rintro e w3 ⟨rfl, b3⟩
        obtain ⟨d1, d2, f1, f2⟩ := (HX2.out.below b3 HX2.out.lt).cells
        have HB3 := Lib.hid (HB2.out.trans (b3.mono HB2.out.size))
        clear b3
        go_wp2_with fail
        refine bodyPost_ret (v := .tuple #[fracV (fN r) (fD r), .bool (fB r)]) (by simp [results, Try.results58, go_sem, d1, d2]) rfl ?_
        exact ⟨rfl, (HB3.out.setCell (by simp) _).setCell (by simp) _⟩
  · have hm' : massB s xs = false := by simpa using hm
    rw [hm'] at HM
    rw [show meanR s xs = none by rw [meanR, fracM, if_neg hm]]
    clear hm hm'
    go_enter Try.func58, Try.ntmps58
    go_wp2_with fail
    rw [← HW0.out]
    refine HM.out.mono ?_
    rintro e w1 ⟨rfl, b1⟩
    obtain ⟨d1, d2, f1, f2⟩ := (HBX.out.below b1 HBX.out.lt).cells
    have HB1 := Lib.hid (HB0.out.trans (b1.mono HB0.out.size))
    clear b1
    go_wp2_with fail
    refine bodyPost_ret (v := .tuple #[fracV 0 0, .bool false]) (by simp [results, Try.results58, go_sem, d1, d2]) rfl ?_
    exact ⟨RetF.none_, (HB1.out.setCell (by simp) _).setCell (by simp) _⟩
end Go.Proofs.Ytapkppnjgbcklaa
