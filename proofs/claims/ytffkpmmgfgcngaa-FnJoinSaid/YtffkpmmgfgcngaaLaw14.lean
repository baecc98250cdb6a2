/- Plain laws: contradictions that tell nothing, joined masses. No condition. -/
import Derived.Test.YtffkpmmgfgcngaaLaw13
namespace Go.Proofs.Ytffkpmmgfgcngaa

variable {xs ys : List Int} {n : Nat} {s : Int}
abbrev andP (xs ys : List Int) : List Int := prods (fun a b => a &&& b) xs ys
theorem andP_nonneg (hn : xs.length = n) (h16 : n ≤ 16) (hx : ∀ k, k < n → 0 ≤ xs.getD k 0 ∧ xs.getD k 0 ≤ 1000000) (hy : ∀ k, k < n → 0 ≤ ys.getD k 0 ∧ ys.getD k 0 ≤ 1000000) (k : Nat) (hk : k < n) : 0 ≤ (andP xs ys).getD k 0 :=
  (prods_bound (op := fun a b => a &&& b) hn h16 hx hy k hk).1
structure Yag (s : Int) (n : Nat) (xs ys zs : List Int) : Prop where
  mx : massB s xs = true
  my : massB s ys = true
  lx : xs.length = n
  ly : ys.length = n
  nums : n = 2 ∨ n = 4 ∨ n = 8 ∨ n = 16
  low : zs = low (toAll (andP xs ys))
  gcd : gcdL (toAll (andP xs ys)) ≠ 0
  mass : massB s zs = true
  lz : zs.length = n
  norm : normB s zs = true
  turn : yagerR s ys s xs = some (s, zs)
theorem yager_some {sM sN t : Int} {zs : List Int} (h : yagerR sM xs sN ys = some (t, zs)) : sN = sM ∧ t = sM ∧ ys.length = xs.length ∧ Yag sM xs.length xs ys zs := by
  have h0 := h
  unfold yagerR at h
  split at h
  · next hb =>
    obtain ⟨iM, iN, hss, hnn⟩ := both_is (nM := xs.length) (nN := ys.length) rfl rfl hb
    unfold bothB at hb
    simp only [Bool.and_eq_true, beq_iff_eq] at hb
    obtain ⟨rfl, hz, hg, hm⟩ := makeM_some h
    subst hss
    have hl : (andP xs ys).length = xs.length := prods_length _ _ _
    have h2 : 2 ≤ xs.length := by have := iM.nums; omega
    have hlz : zs.length = xs.length := by rw [hz, low_length, toAll_length, hl]
    refine ⟨rfl, rfl, hnn, ⟨hb.1.1, hb.1.2, rfl, hnn, iM.nums, hz, hg, hm, hlz, ?_, ?_⟩⟩
    · unfold normB
      rw [hm, hz, low_getD (n := xs.length) (by rw [toAll_length, hl]) 0 (by omega), toAll_getD hl h2 0 (by omega)]
      simp
    · unfold yagerR
      rw [if_pos (by simp [bothB, hb.1.1, hb.1.2]), prods_comm (n := xs.length) hnn rfl (fun i j => Nat.and_comm i j)]
      exact h
  · cases h
structure YagJoin (s : Int) (n : Nat) (xs ys zs us : List Int) : Prop where
  lu : us.length = n
  mu : massB s us = true
  bel : ∀ a, a < n → (partOf (fun j => subB j a) zs - zs.getD 0 0) * sumL us ≤ (partOf (fun j => subB j a) us - us.getD 0 0) * sumL zs
  pos : ∀ a, 0 < a → a < n → partOf (fun j => meetB a j) us * sumL zs ≤ partOf (fun j => meetB a j) zs * sumL us
  same : (andP xs ys).getD 0 0 = 0 → zs = us
theorem sub_only_top (h : n = 2 ∨ n = 4 ∨ n = 8 ∨ n = 16) {a : Nat} (ha : a < n) (hs : subB (n - 1) a = true) : a = n - 1 := by
  have h1 : ∀ a : Fin 2, subB 1 a.val = true → a.val = 1 := by decide +kernel
  have h2 : ∀ a : Fin 4, subB 3 a.val = true → a.val = 3 := by decide +kernel
  have h3 : ∀ a : Fin 8, subB 7 a.val = true → a.val = 7 := by decide +kernel
  have h4 : ∀ a : Fin 16, subB 15 a.val = true → a.val = 15 := by decide +kernel
  rcases h with rfl | rfl | rfl | rfl
  · exact h1 ⟨a, ha⟩ hs
  · exact h2 ⟨a, ha⟩ hs
  · exact h3 ⟨a, ha⟩ hs
  · exact h4 ⟨a, ha⟩ hs
def topsB (n : Nat) : Bool := (List.range n).all fun k => subB k (n - 1) && (k == 0 || meetB k (n - 1))
theorem tops_all : ∀ n ∈ [2, 4, 8, 16], topsB n = true := by decide +kernel
theorem tops_at (h : n = 2 ∨ n = 4 ∨ n = 8 ∨ n = 16) {k : Nat} (hk : k < n) : subB k (n - 1) = true ∧ (k = 0 ∨ meetB k (n - 1) = true) := by
  have h1 := tops_all n (by simp; omega)
  unfold topsB at h1
  have h2 := List.all_eq_true.1 h1 k (by simpa using hk)
  simpa using h2
theorem yager_join {zs : List Int} {t : Int} {us : List Int} (hY : Yag s n xs ys zs) (h : joinR s xs s ys = some (t, us)) : t = s ∧ YagJoin s n xs ys zs us := by
  unfold joinR at h
  rw [if_pos (by simp [bothB, hY.mx, hY.my])] at h
  obtain ⟨rfl, hu, hg, hmu⟩ := makeM_some h
  have hI := massB_is hY.lx hY.mx
  have hJ := massB_is hY.ly hY.my
  have hl : (andP xs ys).length = n := by rw [andP, prods_length, hY.lx]
  have hln : (noNone (andP xs ys)).length = n := by rw [noNone_length, hl]
  have hlt : (toAll (andP xs ys)).length = n := by rw [toAll_length, hl]
  have h2 : 2 ≤ n := by have := hY.nums; omega
  have h16 : n ≤ 16 := by have := hY.nums; omega
  have hP := andP_nonneg hY.lx h16 hI.part hJ.part
  have hP0 := hP 0 (by omega)
  have hNn : ∀ k, k < n → 0 ≤ (noNone (andP xs ys)).getD k 0 := fun k hk => by
    rw [noNone_getD hl k hk]
    split
    · omega
    · exact hP k hk
  have hlu : us.length = n := by rw [hu, low_length, hln]
  obtain ⟨T, hT⟩ : ∃ T, T = toAll (andP xs ys) := ⟨_, rfl⟩
  obtain ⟨N, hN⟩ : ∃ N, N = noNone (andP xs ys) := ⟨_, rfl⟩
  obtain ⟨p0, hp0⟩ : ∃ p, p = (andP xs ys).getD 0 0 := ⟨_, rfl⟩
  have hTp : ∀ pr : Nat → Bool, partOf pr T = partOf pr N + (if pr (n - 1) = true then p0 else 0) := fun pr => by rw [hT, hN, hp0]; exact toAll_part hl h2
  have hT0 : T.getD 0 0 = 0 := by rw [hT, toAll_getD hl h2 0 (by omega)]; simp
  have hN0 : N.getD 0 0 = 0 := by rw [hN, noNone_getD hl 0 (by omega)]; simp
  have hsT : sumL T = sumL N + p0 := by
    have := hTp (fun _ => true)
    rw [part_true, part_true] at this
    simpa using this
  have hzl := hY.low
  have hgT := hY.gcd
  rw [← hT] at hzl hgT hlt
  rw [← hN] at hu hg hNn hln
  have hgT1 : (1 : Int) ≤ (gcdL T : Int) := by omega
  have hgN1 : (1 : Int) ≤ (gcdL N : Int) := by omega
  have hgg : (0 : Int) < (gcdL T : Int) * (gcdL N : Int) := Int.mul_pos (by omega) (by omega)
  have z0 : zs.getD 0 0 = 0 := by
    have h1 := low_mul hlt 0 (by omega)
    rw [← hzl, hT0] at h1
    rcases Int.mul_eq_zero.1 h1 with e | e
    · omega
    · exact e
  have u0 : us.getD 0 0 = 0 := by
    have h1 := low_mul hln 0 (by omega)
    rw [← hu, hN0] at h1
    rcases Int.mul_eq_zero.1 h1 with e | e
    · omega
    · exact e
  have sz : (gcdL T : Int) * sumL zs = sumL T := by rw [hzl]; exact sumL_mul_low
  have su : (gcdL N : Int) * sumL us = sumL N := by rw [hu]; exact sumL_mul_low
  have pz : ∀ pr : Nat → Bool, (gcdL T : Int) * partOf pr zs = partOf pr T := fun pr => by rw [hzl]; exact low_part
  have pu : ∀ pr : Nat → Bool, (gcdL N : Int) * partOf pr us = partOf pr N := fun pr => by rw [hu]; exact low_part
  have hpw : ∀ pr : Nat → Bool, 0 ≤ partOf pr N ∧ partOf pr N ≤ sumL N := fun pr => part_whole hln hNn
  have key : ∀ (pr : Nat → Bool) (c d : Int), (gcdL T : Int) * (gcdL N : Int) * (partOf pr zs * sumL us) = partOf pr T * sumL N ∧ (gcdL T : Int) * (gcdL N : Int) * (partOf pr us * sumL zs) = partOf pr N * sumL T := fun pr _ _ => by
    refine ⟨?_, ?_⟩
    · rw [← pz pr, ← su]; simp only [Int.mul_left_comm, Int.mul_assoc]
    · rw [← pu pr, ← sz]; simp only [Int.mul_left_comm, Int.mul_assoc]
  refine ⟨rfl, ⟨hlu, hmu, fun a ha => ?_, fun a ha0 ha => ?_, fun hz => ?_⟩⟩
  · rw [z0, u0, Int.sub_zero, Int.sub_zero]
    obtain ⟨k1, k2⟩ := key (fun j => subB j a) 0 0
    refine Int.le_of_mul_le_mul_left ?_ hgg
    rw [k1, k2, hTp, hsT]
    obtain ⟨b1, b2⟩ := hpw (fun j => subB j a)
    have b3 : 0 ≤ sumL N := by omega
    rw [← hp0] at hP0
    by_cases hs : subB (n - 1) a = true
    · have hat := sub_only_top hY.nums ha hs
      have hall : partOf (fun j => subB j a) N = sumL N := part_all hln (fun k hk => by rw [hat]; exact (tops_at hY.nums hk).1)
      rw [if_pos hs, hall, Int.mul_comm]
      exact Int.le_refl _
    · rw [if_neg hs, Int.add_zero]
      exact Int.mul_le_mul_of_nonneg_left (by omega) b1
  · obtain ⟨k1, k2⟩ := key (fun j => meetB a j) 0 0
    refine Int.le_of_mul_le_mul_left ?_ hgg
    rw [k1, k2, hTp, hsT]
    obtain ⟨b1, b2⟩ := hpw (fun j => meetB a j)
    rw [← hp0] at hP0
    have hmt : meetB a (n - 1) = true := by
      rcases (tops_at hY.nums ha).2 with e | e
      · omega
      · exact e
    rw [if_pos hmt, Int.mul_add, Int.add_mul]
    have := Int.mul_le_mul_of_nonneg_right b2 hP0
    rw [Int.mul_comm p0]
    omega
  · rw [hzl, hu]
    have e : T = N := by
      refine getD_ext hlt hln (fun k hk => ?_)
      rw [hT, hN, toAll_getD hl h2 k hk, noNone_getD hl k hk, hz]
      split <;> simp
    rw [e]
theorem confl_zero {p q : Int} {zs : List Int} (hY : Yag s n xs ys zs) (h : conflR s xs s ys = some (p, q)) (hp : p ≤ 0) : (andP xs ys).getD 0 0 = 0 := by
  unfold conflR fracM at h
  rw [if_pos (by simp [bothB, hY.mx, hY.my])] at h
  have hI := massB_is hY.lx hY.mx
  have hJ := massB_is hY.ly hY.my
  have h16 : n ≤ 16 := by have := hY.nums; omega
  have hw1 := hI.whole
  have hw2 := hJ.whole
  have hd : 1 ≤ sumL xs * sumL ys := by
    have := Int.mul_le_mul hw1.1 hw2.1 (by omega) (by omega)
    omega
  obtain ⟨g, hg1, hg2, _⟩ := fracOf_is hd h
  have hP := andP_nonneg hY.lx h16 hI.part hJ.part 0 (by have := hY.nums; omega)
  have h3 : p * (g : Int) ≤ 0 := Int.mul_nonpos_of_nonpos_of_nonneg hp (by omega)
  show (prods (fun a b => a &&& b) xs ys).getD 0 0 = 0
  have hP' : 0 ≤ (prods (fun a b => a &&& b) xs ys).getD 0 0 := hP
  omega
/-- joined is conjoined, normal -/
theorem makeM_scale {c : Nat} {ps : List Int} (hc : c ≠ 0) : makeM s (scale c ps) = makeM s ps := by
  unfold makeM
  rw [gcdL_scale, low_scale hc]
  by_cases h : gcdL ps = 0
  · simp [h]
  · rw [if_neg h, if_neg (by rw [Nat.mul_eq_zero]; omega)]
theorem noNone_scale (c : Int) (ps : List Int) : noNone (scale c ps) = scale c (noNone ps) := by
  unfold noNone scale
  rw [List.map_set]
  simp
structure Joined (s : Int) (n : Nat) (xs ys as : List Int) (p q : Int) : Prop where
  join : joinR s xs s ys = normalR s as
  turn : joinR s ys s xs = normalR s as
  confl : conflR s xs s ys = some (p, q)
  share : fracOf (as.getD 0 0) (sumL as) = some (p, q)
  none_ : normalR s as = none → ¬ p < q
  some_ : ∀ t us, normalR s as = some (t, us) → t = s ∧ us.length = n ∧ p < q ∧ normB s us = true
theorem joined_some {as : List Int} (hT : Told (fun a b => a &&& b) s n xs ys as) : ∃ p q, Joined s n xs ys as p q := by
  have hI := massB_is hT.lz hT.mass
  have hw := hI.whole
  have hl : (andP xs ys).length = n := by rw [andP, prods_length, hT.lx]
  have hn1 : 1 ≤ n := by have := hT.nums; omega
  have hsc : scale (gcdL (andP xs ys)) as = andP xs ys := by rw [hT.low]; exact scale_low
  have hg0 : gcdL (andP xs ys) ≠ 0 := hT.gcd
  have hg1 : (1 : Int) ≤ (gcdL (andP xs ys) : Int) := by omega
  have hjoin : joinR s xs s ys = normalR s as := by
    unfold joinR normalR
    rw [if_pos (by simp [bothB, hT.mx, hT.my]), if_pos hT.mass]
    show makeM s (noNone (andP xs ys)) = _
    rw [← hsc, noNone_scale]
    exact makeM_scale hT.gcd
  have hcomm : prods (fun a b => a &&& b) ys xs = prods (fun a b => a &&& b) xs ys := prods_comm hT.ly hT.lx (fun i j => Nat.and_comm i j)
  have h0 := hI.part 0 (by omega)
  have hle := sum_first hT.lz (by omega) (fun k hk => (hI.part k hk).1)
  obtain ⟨p, q, hf⟩ := frac_ok (num := as.getD 0 0) (den := sumL as) (by omega) (by omega)
  obtain ⟨g, hgg1, hgn, hgd, _, hq1, _⟩ := fracOf_is hw.1 hf
  refine ⟨p, q, hjoin, ?_, ?_, hf, fun hno => ?_, fun t us hs => ?_⟩
  · rw [← hjoin]
    unfold joinR
    rw [if_pos (by simp [bothB, hT.mx, hT.my]), if_pos (by simp [bothB, hT.mx, hT.my]), hcomm]
  · unfold conflR fracM
    rw [if_pos (by simp [bothB, hT.mx, hT.my])]
    rw [← prods_sum (op := fun a b => a &&& b) hT.lx hT.ly (fun i j hi _ => and_lt hi)]
    have e1 : (andP xs ys).getD 0 0 = (gcdL (andP xs ys) : Int) * as.getD 0 0 := by rw [hT.low]; exact (low_mul hl 0 (by omega)).symm
    have e2 : sumL (andP xs ys) = (gcdL (andP xs ys) : Int) * sumL as := by rw [hT.low]; exact sumL_mul_low.symm
    show fracOf ((andP xs ys).getD 0 0) (sumL (andP xs ys)) = _
    rw [e1, e2, fracOf_scale hg1 hw.1]
    exact hf
  · have he := normal_none hT.mass hno
    rw [hgd] at he
    rw [hgn] at he
    have := Int.eq_of_mul_eq_mul_right (show (g : Int) ≠ 0 by omega) he
    omega
  · obtain ⟨rfl, hN⟩ := normal_some hT.lz hT.mass hs
    refine ⟨rfl, hN.len, ?_, ?_⟩
    · rcases Int.lt_or_le p q with h | h
      · exact h
      · exfalso
        have h1 : q * (g : Int) ≤ p * (g : Int) := Int.mul_le_mul_of_nonneg_right h (by omega)
        have h2 : as.getD 0 0 = sumL as := by omega
        have h3 := noNone_sum hT.lz hn1
        have h4 : normalR t as = makeM t (noNone as) := if_pos hT.mass
        rw [h4] at hs
        obtain ⟨_, hus, _, _⟩ := makeM_some hs
        have h5 := sumL_mul_low (ps := noNone as)
        rw [← hus] at h5
        have h6 := (massB_is hN.len hN.mass).whole
        have hgz : gcdL (noNone as) ≠ 0 := by
          obtain ⟨_, _, hz, _⟩ := makeM_some hs
          exact hz
        have h7 : (1 : Int) ≤ (gcdL (noNone as) : Int) := by omega
        have h8 := Int.mul_le_mul h7 h6.1 (by omega) (by omega)
        omega
    · unfold normB
      rw [hN.mass, hN.zero]
      rfl
end Go.Proofs.Ytffkpmmgfgcngaa
