/- Plain laws on tables of masses: a mass has its table, a table its mass. No condition. -/
import Derived.Test.YtlfajalhoifliaaLaw
namespace Go.Proofs.Ytlfajalhoifliaa
variable {xs : List Int} {n : Nat} {s : Int}
theorem sums_below_is (hn : xs.length = n) {a : Nat} (ha : a < n) : (sums false false xs).getD a 0 = partOf (fun j => subB j a) xs := by
  rw [sums_getD _ _ _ _ (by omega), hn, part_lin _ hn]
  unfold over
  refine sumTo_congr n (fun k _ => ?_)
  simp only [facS, Bool.false_eq_true, if_false]
  rw [Int.mul_comm]
theorem sums_above_is (hn : xs.length = n) {a : Nat} (ha : a < n) : (sums true false xs).getD a 0 = partOf (fun j => subB a j) xs := by
  rw [sums_getD _ _ _ _ (by omega), hn, part_lin _ hn]
  unfold over
  refine sumTo_congr n (fun k _ => ?_)
  simp only [facS, if_true, Bool.false_eq_true, if_false]
  rw [Int.mul_comm]
/-- what is implied are the sums of parts -/
theorem table_implied (hn : xs.length = n) : tab n (measK 0 xs) = sums false false xs := by
  refine getD_ext (n := n) (tab_length _ _) (by rw [sums_length, hn]) (fun k hk => ?_)
  rw [tab_getD _ _ _ hk, sums_below_is hn hk]; rfl
theorem table_common (hn : xs.length = n) : tab n (measK 3 xs) = sums true false xs := by
  refine getD_ext (n := n) (tab_length _ _) (by rw [sums_length, hn]) (fun k hk => ?_)
  rw [tab_getD _ _ _ hk, sums_above_is hn hk]; rfl
theorem tables_dual (hn : xs.length = n) (h : n = 2 ∨ n = 4 ∨ n = 8 ∨ n = 16) {a : Nat} (ha : a < n) : measK 0 xs a + measK 2 xs (n - 1 - a) = sumL xs := by
  have h1 := possible_dual hn h (show n - 1 - a < n by omega)
  rw [show n - 1 - (n - 1 - a) = a by omega] at h1
  show partOf (fun j => subB j a) xs + partOf (fun j => meetB (n - 1 - a) j) xs = sumL xs
  omega
theorem sub_none : ∀ k : Fin 16, subB k.val 0 = decide (k.val = 0) := by decide +kernel
theorem sup_none : ∀ k : Fin 16, subB 0 k.val = true := by decide +kernel
theorem meet_none : ∀ k : Fin 16, meetB 0 k.val = false := by decide +kernel
def topB (n : Nat) : Bool := (List.range n).all fun k => subB k (n - 1)
theorem top_all : ∀ n ∈ [2, 4, 8, 16], topB n = true := by decide +kernel
theorem implied_none (hn : xs.length = n) (h1 : 1 ≤ n) (h16 : n ≤ 16) : measK 0 xs 0 = xs.getD 0 0 := by
  show partOf (fun j => subB j 0) xs = _
  unfold partOf
  rw [hn, sumTo_congr (g := fun k => if k = 0 then xs.getD 0 0 else 0) n (fun k hk => by
    have := sub_none ⟨k, by omega⟩
    simp only at this
    simp only [partF, this]
    by_cases e : k = 0 <;> simp [e]), sumTo_one, if_pos (by omega)]
theorem implied_all (hn : xs.length = n) (h : n = 2 ∨ n = 4 ∨ n = 8 ∨ n = 16) : measK 0 xs (n - 1) = sumL xs := by
  show partOf (fun j => subB j (n - 1)) xs = _
  unfold partOf sumL
  rw [hn]
  refine sumTo_congr n (fun k hk => ?_)
  have h1 := top_all n (by simp; omega)
  unfold topB at h1
  have h2 := List.all_eq_true.1 h1 k (by simpa using hk)
  unfold partF
  rw [if_pos h2]
theorem common_none (hn : xs.length = n) (h16 : n ≤ 16) : measK 3 xs 0 = sumL xs := by
  show partOf (fun j => subB 0 j) xs = _
  unfold partOf sumL
  rw [hn]
  refine sumTo_congr n (fun k hk => ?_)
  have := sup_none ⟨k, by omega⟩
  simp only at this
  unfold partF
  rw [if_pos this]
theorem sumTo_zero' : ∀ n, sumTo (fun _ => (0 : Int)) n = 0
  | 0 => rfl
  | n + 1 => by simp [sumTo, sumTo_zero' n]
theorem possible_none (hn : xs.length = n) (h16 : n ≤ 16) : measK 2 xs 0 = 0 := by
  show partOf (fun j => meetB 0 j) xs = _
  unfold partOf
  rw [hn, sumTo_congr (g := fun _ => 0) n (fun k hk => by
    have := meet_none ⟨k, by omega⟩
    simp only at this
    simp only [partF, this]; simp), sumTo_zero']
/-- a table of a mass is within bounds -/
theorem meas_bound (hI : IsMass s n xs) (hn : xs.length = n) {j a : Nat} (ha : a < n) : -1000000000 ≤ measK j xs a ∧ measK j xs a ≤ 1000000000 := by
  have h16 := hI.nums
  have h0 := hI.part 0 (by omega)
  have h1 := partOf_bound (pr := fun j => subB j a) hn hI.part
  have h2 := partOf_bound (pr := fun j => meetB a j) hn hI.part
  have h3 := partOf_bound (pr := fun j => subB a j) hn hI.part
  unfold measK
  rcases h16 with rfl | rfl | rfl | rfl <;> split <;> omega
theorem table_shape (hI : IsMass s n xs) (hn : xs.length = n) (j : Nat) : shapeB s (tab n (measK j xs)) = true := by
  have h16 := hI.nums
  unfold shapeB tableB
  rw [tab_length, hI.size, hI.fit]
  have : (tab n (measK j xs)).all isPartB = true := by
    rw [all_getD]
    intro k hk
    rw [tab_length] at hk
    rw [tab_getD _ _ _ hk]
    have := meas_bound (j := j) hI hn hk
    unfold isPartB
    simp only [Bool.and_eq_true, decide_eq_true_eq]
    exact this
  rw [this]
  simp
  omega
theorem mass_most (hI : IsMass s n xs) (hn : xs.length = n) : xs.all (inMost 1000000) = true := by
  rw [all_getD]
  intro k hk
  have := hI.part k (by omega)
  unfold inMost
  simp only [Bool.and_eq_true, decide_eq_true_eq]
  exact this
/-- the parts of the table of a mass are those of the mass -/
theorem parts_table (hm : massB s xs = true) (hn : xs.length = n) {j : Nat} (hj : j < 4) (hd : (j = 0 ∨ j = 3) ∨ xs.getD 0 0 = 0) : motP j (tab n (measK j xs)) = xs := by
  have hI := massB_is hn hm
  have h := hI.nums
  have h4 : j = 0 ∨ j = 1 ∨ j = 2 ∨ j = 3 := by omega
  rcases h4 with rfl | rfl | rfl | rfl
  · show sums false true (tab n (measK 0 xs)) = xs
    rw [table_implied hn, parts_sums hn h]
  · have h0 : xs.getD 0 0 = 0 := by simpa using hd
    have e : tab n (measK 1 xs) = tab n (measK 0 xs) := by
      refine getD_ext (n := n) (tab_length _ _) (tab_length _ _) (fun k hk => ?_)
      rw [tab_getD _ _ _ hk, tab_getD _ _ _ hk]
      show partOf (fun j => subB j k) xs - xs.getD 0 0 = partOf (fun j => subB j k) xs
      omega
    show sums false true (tab n (measK 1 xs)) = xs
    rw [e, table_implied hn, parts_sums hn h]
  · have h0 : xs.getD 0 0 = 0 := by simpa using hd
    have e : impOf (tab n (measK 2 xs)) = tab n (measK 0 xs) := by
      refine getD_ext (n := n) (by rw [impOf_length, tab_length]) (tab_length _ _) (fun k hk => ?_)
      unfold impOf
      rw [tab_length, tab_getD _ _ _ hk, tab_getD _ _ _ hk, tab_getD _ _ _ (show n - 1 < n by omega), tab_getD _ _ _ (show n - 1 - k < n by omega)]
      have h1 := tables_dual hn h hk
      have h2 := tables_dual hn h (show 0 < n by omega)
      have h3 := implied_none hn (by omega) (by omega)
      rw [Nat.sub_zero] at h2
      omega
    show sums false true (impOf (tab n (measK 2 xs))) = xs
    rw [e, table_implied hn, parts_sums hn h]
  · show sums true true (tab n (measK 3 xs)) = xs
    rw [table_common hn, parts_sums hn h]
/-- a mass is found from its table -/
theorem mot_table (hm : massB s xs = true) (hn : xs.length = n) {kd : ByteArray} {j : Nat} (hk : kindN kd = j) (hj : j < 4) (hd : (j = 0 ∨ j = 3) ∨ xs.getD 0 0 = 0) : motR s (tab n (measK j xs)) kd = some (s, xs) := by
  have hI := massB_is hn hm
  have h := hI.nums
  have hp := parts_table hm hn hj hd
  rw [mot_yes (j := j) (table_shape hI hn j) hk hj ?_ (by rw [hp]; exact mass_most hI hn), hp, makeM_self hm]
  unfold zeroB
  rw [tab_getD _ _ _ (show 0 < n by omega)]
  have h4 : j = 0 ∨ j = 1 ∨ j = 2 ∨ j = 3 := by omega
  rcases h4 with rfl | rfl | rfl | rfl
  · rfl
  · have h3 := implied_none hn (by omega) (by omega)
    have h5 : measK 1 xs 0 = 0 := by
      show measK 0 xs 0 - xs.getD 0 0 = 0
      omega
    rw [h5]; rfl
  · rw [possible_none hn (by omega)]; rfl
  · rfl
theorem mass_parts (hI : IsMass s n xs) (hn : xs.length = n) : partsB xs = true := by
  unfold partsB
  rw [Bool.and_eq_true]
  constructor
  · rw [all_getD]
    intro k hk
    have := hI.part k (by omega)
    simpa [nonnegB] using this.1
  · cases ha : xs.any posB with
    | true => rfl
    | false =>
      have hz : ∀ k, k < n → xs.getD k 0 = 0 := fun k hk => by
        have h1 := hI.part k hk
        have h2 : posB (xs.getD k 0) = false := by
          have := List.any_eq_false.1 ha (xs.getD k 0) (getD_mem (by omega))
          simpa using this
        simp only [posB, decide_eq_false_iff_not] at h2
        omega
      have hs : sumL xs = 0 := by
        unfold sumL
        rw [hn, sumTo_congr (g := fun k => if k = n then (0 : Int) else 0) n (fun k hk => by rw [hz k hk]; simp), sumTo_one]
        simp
      have := hI.whole
      omega
/-- what is implied by a mass is a table of beliefs -/
theorem implied_belief (hm : massB s xs = true) (hn : xs.length = n) : (tableB (sums false false xs) && partsB (sums false true (sums false false xs))) = true := by
  have hI := massB_is hn hm
  have h := hI.nums
  have h1 := table_shape hI hn 0
  rw [table_implied hn] at h1
  rw [parts_sums hn h]
  have h2 := (shape_is rfl h1).1
  rw [h2, Bool.true_and]
  exact mass_parts hI hn
/-- what is told of a mass that is found from a table -/
structure Found (s : Int) (n j : Nat) (xs ms : List Int) : Prop where
  mass : massB s ms = true
  len : ms.length = n
  cross : ∀ a, a < n → measK j ms a * xs.getD (if j = 3 then 0 else n - 1) 0 = xs.getD a 0 * measK j ms (if j = 3 then 0 else n - 1)
  pos : 0 < xs.getD (if j = 3 then 0 else n - 1) 0
  belief : j = 0 → (tableB xs && partsB (sums false true xs)) = true
  norm : j = 1 ∨ j = 2 → ms.getD 0 0 = 0
theorem parts_scale {g : Int} {ps ms : List Int} (hn : ps.length = n) (hl : ms.length = n) (hg : ∀ k, k < n → g * ms.getD k 0 = ps.getD k 0) (p : Nat → Bool) : partOf p ps = g * partOf p ms := by
  rw [part_lin p hn, part_lin p hl, ← sumTo_mul]
  refine sumTo_congr n (fun k hk => ?_)
  rw [← hg k hk, ← Int.mul_assoc, ← Int.mul_assoc, Int.mul_comm g]
theorem mot_found {t : Int} {ms : List Int} {kd : ByteArray} (hn : xs.length = n) (h : motR s xs kd = some (t, ms)) : t = s ∧ (n = 2 ∨ n = 4 ∨ n = 8 ∨ n = 16) ∧ sizeB s = true ∧ fitB s n = true ∧ tableB xs = true ∧ ∃ j, j < 4 ∧ kindN kd = j ∧ Found s n j xs ms := by
  unfold motR at h
  split at h
  · rename_i hb
    simp only [motB, Bool.and_eq_true, decide_eq_true_eq] at hb
    obtain ⟨hsh, hj, hz, ha⟩ := hb
    obtain ⟨ht, hs, hf⟩ := shape_is hn hsh
    have h4 := fit_le hs hf
    obtain ⟨j, hjk⟩ : ∃ j, j = kindN kd := ⟨_, rfl⟩
    rw [← hjk] at h hj hz ha
    obtain ⟨rfl, hlow, hg, hm⟩ := makeM_some h
    have hlp : (motP j xs).length = n := by rw [motP_length, hn]
    have hl : ms.length = n := by rw [hlow, low_length, hlp]
    have hI := massB_is hl hm
    obtain ⟨g, hgd⟩ : ∃ g : Int, g = (gcdL (motP j xs) : Int) := ⟨_, rfl⟩
    have hg1 : 1 ≤ g := by omega
    have hmul : ∀ k, k < n → g * ms.getD k 0 = (motP j xs).getD k 0 := fun k hk => by rw [hgd, hlow]; exact low_mul hlp k hk
    have hsc := parts_scale hlp hl hmul
    have hmb : ∀ k, k < n → 0 ≤ (motP j xs).getD k 0 ∧ (motP j xs).getD k 0 ≤ 1000000 := fun k hk => by
      have := all_getD.1 ha k (by omega)
      simpa [inMost] using this
    have hw := hI.whole
    have hcase : j = 0 ∨ j = 1 ∨ j = 2 ∨ j = 3 := by omega
    -- the table is g times the table of the mass
    have key : (∀ a, a < n → xs.getD a 0 = g * measK j ms a) ∧ (j = 1 ∨ j = 2 → ms.getD 0 0 = 0) := by
      rcases hcase with rfl | rfl | rfl | rfl
      · refine ⟨fun a ha => ?_, by omega⟩
        have e := sums_parts hn h4 false
        have h1 : xs.getD a 0 = (sums false false (motP 0 xs)).getD a 0 := by show _ = (sums false false (sums false true xs)).getD a 0; rw [e]
        rw [h1, sums_below_is hlp ha, hsc]; rfl
      · have hx0 : xs.getD 0 0 = 0 := by simpa [zeroB] using hz
        have hp0 : (motP 1 xs).getD 0 0 = 0 := by
          show (sums false true xs).getD 0 0 = 0
          rw [parts_first hn h4, hx0]
        have hm0 : ms.getD 0 0 = 0 := by
          have := hmul 0 (by omega)
          rw [hp0] at this
          rcases Int.mul_eq_zero.1 this with h | h <;> omega
        refine ⟨fun a ha => ?_, fun _ => hm0⟩
        have e := sums_parts hn h4 false
        have h1 : xs.getD a 0 = (sums false false (motP 1 xs)).getD a 0 := by show _ = (sums false false (sums false true xs)).getD a 0; rw [e]
        rw [h1, sums_below_is hlp ha, hsc]
        show _ = g * (partOf (fun j => subB j a) ms - ms.getD 0 0)
        rw [hm0, Int.sub_zero]
      · have hx0 : xs.getD 0 0 = 0 := by simpa [zeroB] using hz
        have hli : (impOf xs).length = n := by rw [impOf_length, hn]
        have himp : ∀ a, a < n → (impOf xs).getD a 0 = xs.getD (n - 1) 0 - xs.getD (n - 1 - a) 0 := fun a ha => by
          unfold impOf
          rw [hn, tab_getD _ _ _ ha]
        have hp0 : (motP 2 xs).getD 0 0 = 0 := by
          show (sums false true (impOf xs)).getD 0 0 = 0
          rw [parts_first hli h4, himp 0 (by omega), Nat.sub_zero]; omega
        have hm0 : ms.getD 0 0 = 0 := by
          have := hmul 0 (by omega)
          rw [hp0] at this
          rcases Int.mul_eq_zero.1 this with h | h <;> omega
        have hI0 : ∀ a, a < n → (impOf xs).getD a 0 = g * measK 0 ms a := fun a ha => by
          have e := sums_parts hli h4 false
          have h1 : (impOf xs).getD a 0 = (sums false false (motP 2 xs)).getD a 0 := by show _ = (sums false false (sums false true (impOf xs))).getD a 0; rw [e]
          rw [h1, sums_below_is hlp ha, hsc]; rfl
        refine ⟨fun a ha => ?_, fun _ => hm0⟩
        have d1 := tables_dual hl h4 (show n - 1 - a < n by omega)
        rw [show n - 1 - (n - 1 - a) = a by omega] at d1
        have d2 := implied_all hl h4
        have q1 := hI0 (n - 1 - a) (by omega)
        have q2 := hI0 (n - 1) (by omega)
        rw [himp _ (by omega), show n - 1 - (n - 1 - a) = a by omega] at q1
        rw [himp _ (by omega), show n - 1 - (n - 1) = 0 by omega, hx0] at q2
        have e1 : measK 2 ms a = measK 0 ms (n - 1) - measK 0 ms (n - 1 - a) := by omega
        rw [e1, Int.mul_sub, ← q1, ← q2]
        omega
      · refine ⟨fun a ha => ?_, by omega⟩
        have e := sums_parts hn h4 true
        have h1 : xs.getD a 0 = (sums true false (motP 3 xs)).getD a 0 := by show _ = (sums true false (sums true true xs)).getD a 0; rw [e]
        rw [h1, sums_above_is hlp ha, hsc]; rfl
    have htop : (if j = 3 then 0 else n - 1) < n := by split <;> omega
    have hpos : 1 ≤ measK j ms (if j = 3 then 0 else n - 1) := by
      rcases hcase with rfl | rfl | rfl | rfl
      · rw [if_neg (by decide), implied_all hl h4]; omega
      · rw [if_neg (by decide)]
        show 1 ≤ measK 0 ms (n - 1) - ms.getD 0 0
        rw [implied_all hl h4, key.2 (.inl rfl)]; omega
      · rw [if_neg (by decide)]
        have d1 := tables_dual hl h4 (show 0 < n by omega)
        rw [implied_none hl (by omega) (by omega), key.2 (.inr rfl), Nat.sub_zero] at d1
        omega
      · rw [if_pos rfl, common_none hl (by omega)]; omega
    refine ⟨rfl, h4, hs, hf, ht, j, hj, hjk.symm, hm, hl, fun a ha => ?_, ?_, fun h0 => ?_, key.2⟩
    · rw [key.1 a ha, key.1 _ htop, ← Int.mul_assoc, Int.mul_comm _ g]
    · rw [key.1 _ htop]
      exact Int.mul_pos (by omega) (by omega)
    · subst h0
      rw [ht, Bool.true_and]
      show partsB (motP 0 xs) = true
      unfold partsB
      rw [Bool.and_eq_true]
      constructor
      · rw [all_getD]
        intro k hk
        have := hmb k (by omega)
        simpa [nonnegB] using this.1
      · have hmp := mass_parts hI hl
        unfold partsB at hmp
        rw [Bool.and_eq_true] at hmp
        have h2 := hmp.2
        rw [List.any_eq_true] at h2 ⊢
        obtain ⟨v, hv, hv2⟩ := h2
        obtain ⟨i, hi, rfl⟩ := List.getElem_of_mem hv
        refine ⟨(motP 0 xs).getD i 0, getD_mem (by omega), ?_⟩
        rw [← hmul i (by omega)]
        have e : ms.getD i 0 = ms[i] := by simp [List.getD, hi]
        rw [e]
        simp only [posB, decide_eq_true_eq] at hv2 ⊢
        exact Int.mul_pos (by omega) hv2
  · cases h
end Go.Proofs.Ytlfajalhoifliaa
