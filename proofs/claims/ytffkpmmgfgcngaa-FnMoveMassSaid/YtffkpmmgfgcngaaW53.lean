/- Contracts: equal lists and masses, the whole, normal masses, other sets, the order of fractions. -/
import Derived.Test.YtffkpmmgfgcngaaW12
import Derived.Test.YtffkpmmgfgcngaaW19
import Derived.Test.YtffkpmmgfgcngaaW23
import Derived.Test.YtffkpmmgfgcngaaMath
namespace Go.Proofs.Ytffkpmmgfgcngaa
open Go.RowKit

theorem prod_within {a b : Int} (ha : -1000000000 ≤ a ∧ a ≤ 1000000000) (hb : 1 ≤ b ∧ b ≤ 1000000000) : -1000000000000000000 ≤ a * b ∧ a * b ≤ 1000000000000000000 := by
  rcases Int.le_total 0 a with h | h
  · have h1 := mul_bound (a := a) (b := b) (A := 1000000000) (B := 1000000000) ⟨h, by omega⟩ ⟨by omega, by omega⟩
    omega
  · have h1 := mul_bound (a := -a) (b := b) (A := 1000000000) (B := 1000000000) ⟨by omega, by omega⟩ ⟨by omega, by omega⟩
    have h2 : -a * b = -(a * b) := Int.neg_mul _ _
    omega
set_option maxHeartbeats 800000 in
theorem weSame_any (a b : Option Addr) (n c m d : Nat) (xs ys : List Int) (w : World) (hr : Row w a n xs) (hs : Row w b m ys) (hn : n ≤ 1048576) (hm : m ≤ 1048576) :
    Calls Try.prog 54 #[.slice a n c, .slice b m d] w fun e w' => e = .returned (.bool (eqB xs ys)) ∧ Below w.heap.size w w' := by
  go_enter Try.func54, Try.ntmps54
  go_wp2_with fail
  go_loopw [5] (fun i wr => ∃ k : Nat, k ≤ n ∧ k ≤ m ∧ i = .int .i64 k ∧ xs.take k = ys.take k ∧ Below w.heap.size w wr) (fun i _ => n - (intOf i).toNat)
  case atStart => exact ⟨0, Nat.zero_le _, Nat.zero_le _, rfl, rfl, Below.refl _ _⟩
  case round =>
    obtain ⟨k, hk, hkm, rfl, ht, hbr⟩ := hrel
    have HT := Lib.hid ht; clear ht
    by_cases hlt : k < n
    · by_cases hltm : k < m
      · obtain ⟨b1, off1, x, rfl, hx, hc⟩ := (hr.below hbr).at_ hlt
        obtain ⟨b2, off2, y, rfl, hy, hd⟩ := (hs.below hbr).at_ hltm
        by_cases hxy : x = y
        · have he := hx.symm.trans (hxy.trans hy)
          have HE : Hid (xs.take (k + 1) = ys.take (k + 1)) := by
            show _ = _
            rw [take_snoc xs k (by have := hr.1; omega), take_snoc ys k (by have := hs.1; omega), HT.out, he]
          clear hx hy he
          subst hxy
          go_wp2_with fail
          go_quiet (fail)
          go_wp2_with fail
          go_roundw
          case rel => exact ⟨k + 1, by omega, by omega, by go_num, HE.out, below_drewN hbr _⟩
          case measure => simp [intOf]; omega
        · have hne : (x != y) = true := by simpa using hxy
          have HE := Lib.hid (ne_of_getD (k := k) (xs := xs) (ys := ys) (by rw [← hx, ← hy]; exact hxy)); clear hx hy hxy
          go_wp2_with fail
          go_quiet (fail)
          go_wp2_with fail
          go_ret
          exact ⟨ret_bool HE.out.symm, below_drewN hbr _⟩
      · have hkm' : k = m := by omega
        have hlm : ((k : Int) < (m : Int)) = False := by simp; omega
        have HE : Hid (eqB xs ys = false) := by
          show _ = _
          simp only [eqB, decide_eq_false_iff_not]
          intro e
          have h1 := hr.1; have h2 := hs.1
          rw [e] at h1
          omega
        have hne : ((n : Int) == (m : Int)) = false := by simp; omega
        subst hkm'
        go_wp2_with fail
        go_ret
        exact ⟨ret_bool HE.out.symm, hbr⟩
    · have hk' : k = n := by omega
      by_cases hnm : n = m
      · have HE : Hid (eqB xs ys = true) := by
          have := HT.out
          rw [List.take_of_length_le (by have := hr.1; omega), List.take_of_length_le (by have := hs.1; omega)] at this
          show _ = _
          rw [this, eqB_self]
        subst hk'
        subst hnm
        go_wp2_with fail
        go_ret
        exact ⟨ret_bool HE.out.symm, hbr⟩
      · have HE : Hid (eqB xs ys = false) := by
          show _ = _
          simp only [eqB, decide_eq_false_iff_not]
          intro e
          have h1 := hr.1; have h2 := hs.1
          rw [e] at h1
          omega
        have hne : ((n : Int) == (m : Int)) = false := by simp; omega
        subst hk'
        go_wp2_with fail
        go_ret
        exact ⟨ret_bool HE.out.symm, hbr⟩
set_option maxHeartbeats 800000 in
theorem weEqual_any (s t : Int) (a b : Option Addr) (n c m d : Nat) (xs ys : List Int) (w : World) (hr : Row w a n xs) (hs : Row w b m ys) (hn : n ≤ 1048576) (hm : m ≤ 1048576) :
    Calls Try.prog 18 #[massV s a n c, massV t b m d] w fun e w' => e = .returned (.bool ((s == t) && eqB xs ys)) ∧ Below w.heap.size w w' := by
  obtain ⟨w0, hw0⟩ : ∃ w0, w0 = (w.alloc (.cells #[.int .i64 s, .slice a n c] 25)).alloc (.cells #[.int .i64 t, .slice b m d] 25) := ⟨_, rfl⟩
  have hb0 : Below w.heap.size w w0 := by rw [hw0]; exact ((Below.refl _ _).alloc (Nat.le_refl _) _).alloc (by simp) _
  have h1 : Box w0 w.heap.size 25 (.int .i64 s) (.slice a n c) := by rw [hw0]; exact (Box.new _ _ _ _).alloc _
  have h2 : Box w0 (w.heap.size + 1) 25 (.int .i64 t) (.slice b m d) := by rw [hw0]; exact alloc_at (by simp)
  obtain ⟨c1, c2, _, _⟩ := h1.cells
  obtain ⟨d1, d2, _, _⟩ := h2.cells
  have HS := Lib.hid (weSame_any a b n c m d xs ys w0 (hr.below hb0) (hs.below hb0) hn hm)
  have HB := Lib.hid hb0
  have HW := Lib.hid hw0
  obtain ⟨q, hq⟩ : ∃ q, q = eqB xs ys := ⟨_, rfl⟩
  rw [← hq] at HS ⊢
  clear hb0 hw0 h1 h2 hr hs hq
  by_cases hst : s = t
  · subst hst
    have he : (s == s) = true := by simp
    have HE := Lib.hid he
    rw [he]
    clear he
    go_enter Try.func18, Try.ntmps18
    go_wp2_with (fail)
    rw [← HW.out]
    go_wp2_with (fail)
    refine HS.out.mono ?_
    rintro e w1 ⟨rfl, b1⟩
    go_wp2_with fail
    go_ret
    exact ⟨rfl, HB.out.trans (b1.mono HB.out.size)⟩
  · have he : (s == t) = false := by simpa using hst
    rw [he]
    go_enter Try.func18, Try.ntmps18
    go_wp2_with (fail)
    try rw [← HW.out]
    try go_wp2_with (fail)
    go_ret
    exact ⟨rfl, HB.out⟩
set_option maxHeartbeats 800000 in
theorem WholeOf_any (s : Int) (a : Option Addr) (n c : Nat) (xs : List Int) (w : World) (hr : Row w a n xs) (hn : n ≤ 1048576) :
    Calls Try.prog 20 #[massV s a n c] w fun e w' => e = .returned (.int .i64 (wholeR s xs)) ∧ Below w.heap.size w w' := by
  have hb1 : Below w.heap.size w (w.alloc (.cells #[.int .i64 s, .slice a n c] 25)) := (Below.refl w.heap.size w).alloc (Nat.le_refl _) _
  have HM := Lib.hid (isMass_any s a n c xs _ (hr.below hb1) hn)
  by_cases hm : massB s xs = true
  · have hI := massB_is hr.1 hm
    have hnl : n ≤ 16 := by have := hI.nums; omega
    have HP := Lib.hid (fun W h => wholeOf_any s a n c xs W h hnl hI.part)
    rw [wholeR_yes hm]
    rw [hm] at HM
    obtain ⟨z, hz⟩ : ∃ z, z = sumL xs := ⟨_, rfl⟩
    rw [← hz] at HP ⊢
    clear hz hm hI
    go_enter Try.func20, Try.ntmps20
    go_wp2_with fail
    refine HM.out.mono ?_
    rintro e w1 ⟨rfl, b1⟩
    obtain ⟨c1, c2, _, _⟩ := box2 (k := w.heap.size) (alloc_at rfl) b1
    have hb := hb1.trans (b1.mono (by simp))
    clear b1
    have HR := Lib.hid (hr.below hb)
    clear hr
    go_wp2_with fail
    refine (HP.out _ HR.out).mono ?_
    rintro e w2 ⟨rfl, b2⟩
    have hb2 := hb.trans (b2.mono hb.size)
    go_wp2_with fail
    go_ret
    exact ⟨rfl, hb2⟩
  · have hm' : massB s xs = false := by simpa using hm
    rw [wholeR_no hm']
    rw [hm'] at HM
    clear hm hm'
    go_enter Try.func20, Try.ntmps20
    go_wp2_with fail
    refine HM.out.mono ?_
    rintro e w1 ⟨rfl, b1⟩
    obtain ⟨c1, c2, _, _⟩ := box2 (k := w.heap.size) (alloc_at rfl) b1
    have hb := hb1.trans (b1.mono (by simp))
    clear b1
    go_wp2_with fail
    go_ret
    exact ⟨rfl, hb⟩
set_option maxHeartbeats 800000 in
theorem isNormal_any (s : Int) (a : Option Addr) (n c : Nat) (xs : List Int) (w : World) (hr : Row w a n xs) (hn : n ≤ 1048576) :
    Calls Try.prog 112 #[massV s a n c] w fun e w' => e = .returned (.bool (normB s xs)) ∧ Below w.heap.size w w' := by
  have hb1 : Below w.heap.size w (w.alloc (.cells #[.int .i64 s, .slice a n c] 25)) := (Below.refl w.heap.size w).alloc (Nat.le_refl _) _
  have HM := Lib.hid (isMass_any s a n c xs _ (hr.below hb1) hn)
  by_cases hm : massB s xs = true
  · have hI := massB_is hr.1 hm
    have hn0 : 0 < n := by have := hI.nums; omega
    rw [show normB s xs = (xs.getD 0 0 == 0) by simp [normB, hm]]
    rw [hm] at HM
    clear hm hI
    go_enter Try.func112, Try.ntmps112
    go_wp2_with fail
    refine HM.out.mono ?_
    rintro e w1 ⟨rfl, b1⟩
    obtain ⟨c1, c2, _, _⟩ := box2 (k := w.heap.size) (alloc_at rfl) b1
    have hb := hb1.trans (b1.mono (by simp))
    clear b1
    obtain ⟨b, off, x, rfl, hx, hc⟩ := (hr.below hb).at_ hn0
    have HX0 := Lib.hid hx
    rw [Nat.add_zero] at hc
    have hn1 : (0 : Int) < (n : Int) := by omega
    clear hx hr
    go_wp2_with fail
    go_ret
    exact ⟨ret_bool (by rw [← HX0.out]), hb⟩
  · have hm' : massB s xs = false := by simpa using hm
    rw [show normB s xs = false by simp [normB, hm']]
    rw [hm'] at HM
    clear hm hm'
    go_enter Try.func112, Try.ntmps112
    go_wp2_with fail
    refine HM.out.mono ?_
    rintro e w1 ⟨rfl, b1⟩
    obtain ⟨c1, c2, _, _⟩ := box2 (k := w.heap.size) (alloc_at rfl) b1
    have hb := hb1.trans (b1.mono (by simp))
    clear b1
    go_wp2_with fail
    go_ret
    exact ⟨rfl, hb⟩
set_option maxHeartbeats 800000 in
theorem IsNormal_any (s : Int) (a : Option Addr) (n c : Nat) (xs : List Int) (w : World) (hr : Row w a n xs) (hn : n ≤ 1048576) :
    Calls Try.prog 35 #[massV s a n c] w fun e w' => e = .returned (.bool (normB s xs)) ∧ Below w.heap.size w w' := by
  have hb1 : Below w.heap.size w (w.alloc (.cells #[.int .i64 s, .slice a n c] 25)) := (Below.refl w.heap.size w).alloc (Nat.le_refl _) _
  have HM := Lib.hid (isNormal_any s a n c xs _ (hr.below hb1) hn)
  obtain ⟨q, hq⟩ : ∃ q, q = normB s xs := ⟨_, rfl⟩
  rw [← hq] at HM ⊢
  clear hq
  go_enter Try.func35, Try.ntmps35
  go_wp2_with fail
  refine HM.out.mono ?_
  rintro e w1 ⟨rfl, b1⟩
  have hb := hb1.trans (b1.mono (by simp))
  go_wp2_with fail
  go_ret
  exact ⟨rfl, hb⟩
set_option maxHeartbeats 800000 in
theorem OtherSet_any (s : Int) (n y : Nat) (w : World) (hs : sizeB s = true) (hf : fitB s n = true) (hy : y < n) :
    Calls Try.prog 60 #[.int .i64 s, .int .i64 y] w fun e w' => e = .returned (.int .i64 ((n - 1 - y : Nat) : Int)) ∧ w = w' := by
  have h4 := fit_le hs hf
  have hnn : (n : Int) = 2 ^ s.toNat := by simpa [fitB] using hf
  have hsb : setB s (y : Int) = true := by
    unfold setB
    rw [← hnn]
    simp
    omega
  have HV := Lib.hid (fun W => isSetOf_any s (y : Int) W hs)
  rw [hsb] at HV
  have HZ := Lib.hid (fun W => isSize_any s W)
  rw [hs] at HZ
  have HF := Lib.hid (fun W => fullSet_any s n W hs hf)
  have hx : bits .xor .i64 ((n - 1 : Nat) : Int) (y : Int) = ((n - 1 - y : Nat) : Int) := by
    rw [bits_xor (n - 1) y (by omega) (by omega), full_xor h4 hy]
  have hx2 : bits .xor .i64 ((n : Int) - 1) (y : Int) = ((n - 1 - y : Nat) : Int) := by
    rw [← hx]; congr 1; omega
  obtain ⟨z, hz⟩ : ∃ z : Nat, z = n - 1 - y := ⟨_, rfl⟩
  obtain ⟨g, hg⟩ : ∃ g : Nat, g = n - 1 := ⟨_, rfl⟩
  rw [← hz, ← hg] at hx
  rw [← hg] at HF
  rw [← hz]
  have HX := Lib.hid hx
  clear hnn hsb hs hf hx2 hz hg h4 hy
  go_enter Try.func60, Try.ntmps60
  go_wp2_with (fail)
  refine (HZ.out _).mono ?_
  rintro e w' ⟨rfl, rfl⟩
  go_wp2_with (fail)
  refine (HV.out _).mono ?_
  rintro e w' ⟨rfl, rfl⟩
  go_wp2_with (fail)
  refine (HF.out _).mono ?_
  rintro e w' ⟨rfl, rfl⟩
  clear hx
  go_wp2_with (fail)
  go_ret
  exact ⟨ret_int HX.out, rfl⟩
set_option maxHeartbeats 1600000 in
theorem LessFraction_any (p q r t : Int) (w : World) (hpq : fracB p q = true) (hrt : fracB r t = true) :
    Calls Try.prog 65 #[fracV p q, fracV r t] w fun e w' => e = .returned (.bool (decide (p * t < r * q))) ∧ Below w.heap.size w w' := by
  obtain ⟨w0, hw0⟩ : ∃ w0, w0 = (w.alloc (.cells #[.int .i64 p, .int .i64 q] 40)).alloc (.cells #[.int .i64 r, .int .i64 t] 40) := ⟨_, rfl⟩
  have hb0 : Below w.heap.size w w0 := by rw [hw0]; exact ((Below.refl _ _).alloc (Nat.le_refl _) _).alloc (by simp) _
  have h1 : Box w0 w.heap.size 40 (.int .i64 p) (.int .i64 q) := by rw [hw0]; exact (Box.new _ _ _ _).alloc _
  have h2 : Box w0 (w.heap.size + 1) 40 (.int .i64 r) (.int .i64 t) := by rw [hw0]; exact alloc_at (by simp)
  have HA := Lib.hid (fun W => isFraction_any p q W)
  have HC := Lib.hid (fun W => isFraction_any r t W)
  rw [hpq] at HA
  rw [hrt] at HC
  have hbp : -1000000000 ≤ p ∧ p ≤ 1000000000 ∧ 1 ≤ q ∧ q ≤ 1000000000 := by simp [fracB, isPartB] at hpq; omega
  have hbr : -1000000000 ≤ r ∧ r ≤ 1000000000 ∧ 1 ≤ t ∧ t ≤ 1000000000 := by simp [fracB, isPartB] at hrt; omega
  obtain ⟨u, hu⟩ : ∃ u, u = p * t := ⟨_, rfl⟩
  obtain ⟨v, hv⟩ : ∃ v, v = r * q := ⟨_, rfl⟩
  have hub : -1000000000000000000 ≤ u ∧ u ≤ 1000000000000000000 := by rw [hu]; exact prod_within (by omega) (by omega)
  have hvb : -1000000000000000000 ≤ v ∧ v ≤ 1000000000000000000 := by rw [hv]; exact prod_within (by omega) (by omega)
  have e1 : IntKind.i64.wrap (p * t) = u := by rw [← hu]; exact IntWalk.i64_in _ (by omega)
  have e2 : IntKind.i64.wrap (r * q) = v := by rw [← hv]; exact IntWalk.i64_in _ (by omega)
  have e3 : wrap64 (p * t) = u := by rw [← hu]; exact IntWalk.wrap64_in _ (by omega)
  have e4 : wrap64 (r * q) = v := by rw [← hv]; exact IntWalk.wrap64_in _ (by omega)
  rw [← hu, ← hv]
  have HB := Lib.hid hb0
  have HW := Lib.hid hw0
  have H1 := Lib.hid h1
  have H2 := Lib.hid h2
  clear hb0 hw0 h1 h2 hu hv hpq hrt hbp hbr
  go_enter Try.func65, Try.ntmps65
  go_wp2_with (fail)
  rw [← HW.out]
  obtain ⟨c1, c2, _, _⟩ := H1.out.cells
  go_wp2_with (fail)
  refine (HA.out _).mono ?_
  rintro e w1 ⟨rfl, b1⟩
  clear c1 c2
  obtain ⟨d1, d2, _, _⟩ := (H2.out.below b1 H2.out.lt).cells
  go_wp2_with (fail)
  refine (HC.out _).mono ?_
  rintro e w2 ⟨rfl, b2⟩
  clear d1 d2
  have b12 := b1.trans (b2.mono b1.size)
  obtain ⟨c1, c2, _, _⟩ := (H1.out.below b12 H1.out.lt).cells
  obtain ⟨d1, d2, _, _⟩ := (H2.out.below b12 H2.out.lt).cells
  go_wp2_with (fail)
  go_ret
  exact ⟨rfl, HB.out.trans (b12.mono HB.out.size)⟩
set_option maxHeartbeats 1600000 in
theorem Fractional_any (num den : Int) (w : World) (h1 : isPartB num = true) (h2 : isPartB den = true) (h3 : 1 ≤ den) :
    Calls Try.prog 70 #[.int .i64 num, .int .i64 den] w fun e w' => RetF (fracOf num den) e ∧ Below w.heap.size w w' := by
  have hb1 : Below w.heap.size w (w.alloc (.cells #[.int .i64 0, .int .i64 0] 40)) := (Below.refl w.heap.size w).alloc (Nat.le_refl _) _
  have hx := Box.new w 40 (.int .i64 0) (.int .i64 0)
  have HA := Lib.hid (fun W => isPart_any num W)
  have HC := Lib.hid (fun W => isPart_any den W)
  rw [h1] at HA
  rw [h2] at HC
  have hnb : -1000000000 ≤ num ∧ num ≤ 1000000000 := by simpa [isPartB] using h1
  have hdb : -1000000000 ≤ den ∧ den ≤ 1000000000 := by simpa [isPartB] using h2
  have HL := Lib.hid (fun W => lowest_any num den W (by omega) (by omega))
  obtain ⟨r, hr⟩ : ∃ r, r = fracOf num den := ⟨_, rfl⟩
  rw [← hr] at HL ⊢
  have hd0 : (den == 0) = false := by simp; omega
  have HB := Lib.hid hb1
  have HX := Lib.hid hx
  clear hb1 hx h1 h2 hr hnb hdb
  go_enter Try.func70, Try.ntmps70
  go_wp2_with (fail)
  refine (HA.out _).mono ?_
  rintro e w' ⟨rfl, rfl⟩
  go_wp2_with (fail)
  refine (HC.out _).mono ?_
  rintro e w' ⟨rfl, rfl⟩
  go_wp2_with (fail)
  refine (HL.out _).mono ?_
  rintro e w2 ⟨he, b2⟩
  unfold RetF at he
  subst he
  obtain ⟨d1, d2, f1, f2⟩ := (HX.out.below b2 HX.out.lt).cells
  have HB2 := Lib.hid (HB.out.trans (b2.mono HB.out.size))
  clear b2
  go_wp2_with fail
  refine bodyPost_ret (v := .tuple #[fracV (fN r) (fD r), .bool (fB r)]) (by simp [results, Try.results70, go_sem, d1, d2]) rfl ?_
  exact ⟨rfl, (HB2.out.setCell (Nat.le_refl _) _).setCell (Nat.le_refl _) _⟩
end Go.Proofs.Ytffkpmmgfgcngaa
