/- Plain laws: contradictions that tell nothing, joined masses, belief and chance. No condition. -/
import Derived.Test.YtffkpmmgfgcngaaLaw
namespace Go.Proofs.Ytffkpmmgfgcngaa

variable {xs ys : List Int} {n : Nat} {s : Int}
theorem toAll_getD {ps : List Int} (hn : ps.length = n) (_h2 : 2 ≤ n) (k : Nat) (hk : k < n) : (toAll ps).getD k 0 = if k = 0 then 0 else ps.getD k 0 + (if k = n - 1 then ps.getD 0 0 else 0) := by
  unfold toAll
  rw [hn]
  simp only [List.getD, List.getElem?_set, List.length_set, hn]
  by_cases h : k = 0
  · subst h
    simp [show 0 < n by omega]
  · by_cases e : k = n - 1
    · subst e
      simp [h, Ne.symm h, show n - 1 < n by omega]
    · simp [h, Ne.symm h, e, Ne.symm e]
theorem toAll_length (ps : List Int) : (toAll ps).length = ps.length := by simp [toAll]
theorem sum_last (f : Nat → Int) (v : Int) (h1 : 1 ≤ n) : sumTo (fun k => f k + (if k = n - 1 then v else 0)) n = sumTo f n + v := by
  rw [sumTo_add, sumTo_one, if_pos (by omega)]
/-- the sum over the sets of a kind with answers, behind both ways -/
theorem toAll_part {ps : List Int} {pr : Nat → Bool} (hn : ps.length = n) (h2 : 2 ≤ n) :
    partOf pr (toAll ps) = partOf pr (noNone ps) + (if pr (n - 1) = true then ps.getD 0 0 else 0) := by
  unfold partOf
  rw [toAll_length, noNone_length, hn]
  rw [← sum_last _ _ (show 1 ≤ n by omega)]
  refine sumTo_congr n (fun k hk => ?_)
  unfold partF
  rw [toAll_getD hn h2 k hk, noNone_getD hn k hk]
  by_cases h : k = 0
  · subst h
    simp [show ¬ 0 = n - 1 by omega]
  · by_cases e : k = n - 1
    · subst e
      by_cases hp : pr (n - 1) = true <;> simp [hp, h]
    · by_cases hp : pr k = true <;> simp [hp, h, e]
/-- fractions of a factor more are the same -/
theorem fracOf_scale {g a b : Int} (hg : 1 ≤ g) (hb : 1 ≤ b) : fracOf (g * a) (g * b) = fracOf a b := by
  have hgb : ¬ g * b < 0 := by have := Int.mul_nonneg (show 0 ≤ g by omega) (show 0 ≤ b by omega); omega
  have hb0 : ¬ b < 0 := by omega
  obtain ⟨c, hc⟩ : ∃ c : Nat, g = c := ⟨g.toNat, by omega⟩
  subst hc
  have hgc : Nat.gcd ((c : Int) * a).natAbs ((c : Int) * b).natAbs = c * Nat.gcd a.natAbs b.natAbs := by
    rw [Int.natAbs_mul, Int.natAbs_mul, Int.natAbs_natCast, Nat.gcd_mul_left]
  unfold fracOf
  simp only [hgb, hb0, if_false, hgc]
  have e1 : ((c : Int) * a).tdiv ((c * Nat.gcd a.natAbs b.natAbs : Nat) : Int) = a.tdiv (Nat.gcd a.natAbs b.natAbs : Nat) := by
    rw [Int.natCast_mul, Int.mul_tdiv_mul_of_pos _ _ (by omega)]
  have e2 : ((c : Int) * b).tdiv ((c * Nat.gcd a.natAbs b.natAbs : Nat) : Int) = b.tdiv (Nat.gcd a.natAbs b.natAbs : Nat) := by
    rw [Int.natCast_mul, Int.mul_tdiv_mul_of_pos _ _ (by omega)]
  rw [e1, e2]
/-- comparing fractions of two quotients -/
theorem cross_gen {e1 d1 e2 d2 p1 q1 p2 q2 : Int} (hd1 : 1 ≤ d1) (hd2 : 1 ≤ d2) (h1 : fracOf e1 d1 = some (p1, q1)) (h2 : fracOf e2 d2 = some (p2, q2)) : p1 * q2 < p2 * q1 ↔ e1 * d2 < e2 * d1 := by
  obtain ⟨g1, hg1, hn1, hd1', _, hq1, _⟩ := fracOf_is hd1 h1
  obtain ⟨g2, hg2, hn2, hd2', _, hq2, _⟩ := fracOf_is hd2 h2
  have k1 : e1 * d2 = p1 * q2 * ((g1 : Int) * g2) := by rw [hn1, hd2']; simp only [Int.mul_left_comm, Int.mul_assoc]
  have k2 : e2 * d1 = p2 * q1 * ((g1 : Int) * g2) := by rw [hn2, hd1']; simp only [Int.mul_comm, Int.mul_left_comm, Int.mul_assoc]
  have hgg : (0 : Int) < (g1 : Int) * g2 := Int.mul_pos (by omega) (by omega)
  rw [k1, k2]
  constructor
  · intro h; exact Int.mul_lt_mul_of_pos_right h hgg
  · intro h; exact Int.lt_of_mul_lt_mul_right h (by omega)
theorem split_cnt16 : ∀ a b : Fin 16, cnt (b.val &&& a.val) + cnt (b.val &&& (15 - a.val)) = cnt b.val := by decide +kernel
theorem and_top_cnt {a b : Nat} (h : n = 2 ∨ n = 4 ∨ n = 8 ∨ n = 16) (ha : a < n) (hb : b < n) : cnt (b &&& a) + cnt (b &&& (n - 1 - a)) = cnt b := by
  have h1 : ∀ a b : Fin 2, cnt (b.val &&& a.val) + cnt (b.val &&& (1 - a.val)) = cnt b.val := by decide +kernel
  have h2 : ∀ a b : Fin 4, cnt (b.val &&& a.val) + cnt (b.val &&& (3 - a.val)) = cnt b.val := by decide +kernel
  have h3 : ∀ a b : Fin 8, cnt (b.val &&& a.val) + cnt (b.val &&& (7 - a.val)) = cnt b.val := by decide +kernel
  rcases h with rfl | rfl | rfl | rfl
  · exact h1 ⟨a, ha⟩ ⟨b, hb⟩
  · exact h2 ⟨a, ha⟩ ⟨b, hb⟩
  · exact h3 ⟨a, ha⟩ ⟨b, hb⟩
  · exact split_cnt16 ⟨a, ha⟩ ⟨b, hb⟩
theorem twelve_div {x : Int} {c d : Nat} (hd : d = 1 ∨ d = 2 ∨ d = 3 ∨ d = 4) : x * c * 12 / (d : Int) = x * c * (12 / (d : Int)) := by
  rcases hd with rfl | rfl | rfl | rfl <;> (generalize x * (c : Int) = y; simp; try omega)
/-- what a set and the other one get is all -/
theorem even_both (hn : xs.length = n) (h : n = 2 ∨ n = 4 ∨ n = 8 ∨ n = 16) {a : Nat} (ha : a < n) :
    evenOf a xs + evenOf (n - 1 - a) xs = 12 * (sumL xs - xs.getD 0 0) := by
  unfold evenOf
  rw [hn, ← sumTo_add]
  have h1 : sumTo (fun k => evenF a xs k + evenF (n - 1 - a) xs k) n = sumTo (fun k => 12 * (if k = 0 then 0 else xs.getD k 0)) n := sumTo_congr n (fun k hk => by
    unfold evenF
    by_cases h0 : k = 0
    · subst h0; simp [cnt]
    · have hc := and_top_cnt h ha hk
      have hp := cnt_pos k h0 (by omega)
      have hl := cnt_le k
      rw [twelve_div (by omega), twelve_div (by omega), if_neg h0, ← Int.add_mul, ← Int.mul_add]
      rw [show ((cnt (k &&& a) : Int) + (cnt (k &&& (n - 1 - a)) : Int)) = ((cnt k : Nat) : Int) by rw [← hc]; simp]
      have h4 : cnt k = 1 ∨ cnt k = 2 ∨ cnt k = 3 ∨ cnt k = 4 := by omega
      rcases h4 with e | e | e | e <;> (rw [e]; simp; try omega))
  rw [h1, sumTo_mul]
  have h2 := sum_split (fun k => xs.getD k 0) n (by omega)
  unfold sumL
  rw [hn]
  omega
theorem cnt_sub16 : ∀ a b : Fin 16, subB b.val a.val = true → b.val &&& a.val = b.val := by decide +kernel
theorem cnt_meet16 : ∀ a b : Fin 16, meetB a.val b.val = false → cnt (b.val &&& a.val) = 0 := by decide +kernel
/-- a chance lies between belief and possibility -/
theorem even_between (hn : xs.length = n) (hm : massB s xs = true) {a : Nat} (ha : a < n) :
    12 * (partOf (fun j => subB j a) xs - xs.getD 0 0) ≤ evenOf a xs ∧ evenOf a xs ≤ 12 * partOf (fun j => meetB a j) xs := by
  have hI := massB_is hn hm
  have h16 : n ≤ 16 := by have := hI.nums; omega
  have hb : ∀ k, k < n → 0 ≤ evenF a xs k ∧ evenF a xs k ≤ 12 * (if k = 0 then 0 else xs.getD k 0) := fun k hk => evenF_le (hI.part k hk) (by omega) (by omega) rfl
  have hlow : sumTo (fun k => 12 * (if k = 0 then 0 else partF (fun j => subB j a) xs k)) n ≤ evenOf a xs := by
    unfold evenOf
    rw [hn]
    refine sumTo_le n (fun k hk => ?_)
    by_cases h0 : k = 0
    · rw [if_pos h0]; have := hb k hk; omega
    · rw [if_neg h0]
      by_cases hs : subB k a = true
      · rw [partF_yes (pr := fun j => subB j a) hs]
        unfold evenF
        rw [cnt_sub16 ⟨a, by omega⟩ ⟨k, by omega⟩ hs]
        have hp := cnt_pos k h0 (by omega)
        have hl := cnt_le k
        rw [twelve_div (by omega)]
        have h4 : cnt k = 1 ∨ cnt k = 2 ∨ cnt k = 3 ∨ cnt k = 4 := by omega
        rcases h4 with e | e | e | e <;> (rw [e]; simp; try omega)
      · rw [partF_no (pr := fun j => subB j a) (by simpa using hs)]; have := hb k hk; omega
  have hhigh : evenOf a xs ≤ sumTo (fun k => 12 * partF (fun j => meetB a j) xs k) n := by
    unfold evenOf
    rw [hn]
    refine sumTo_le n (fun k hk => ?_)
    have h1 := hb k hk
    by_cases hs : meetB a k = true
    · rw [partF_yes (pr := fun j => meetB a j) hs]
      split at h1
      · next h0 => subst h0; have := (hI.part 0 hk).1; omega
      · exact h1.2
    · rw [partF_no (pr := fun j => meetB a j) (by simpa using hs)]
      unfold evenF
      rw [cnt_meet16 ⟨a, by omega⟩ ⟨k, by omega⟩ (by simpa using hs)]
      simp
  rw [sumTo_mul] at hlow hhigh
  have h0 : partOf (fun j => subB j a) xs = xs.getD 0 0 + sumTo (fun k => if k = 0 then 0 else partF (fun j => subB j a) xs k) n := by
    unfold partOf
    rw [hn, sum_split _ n (by have := hI.nums; omega)]
    congr 1
    exact partF_yes (pr := fun j => subB j a) (by simp [subB])
  refine ⟨by omega, ?_⟩
  unfold partOf
  rw [hn]
  exact hhigh
/-- two chances that are all together -/
theorem add_one {e1 e2 d p1 q1 p2 q2 : Int} (hd : 1 ≤ d) (he : e1 + e2 = d) (h1 : fracOf e1 d = some (p1, q1)) (h2 : fracOf e2 d = some (p2, q2)) : p1 * q2 + p2 * q1 = q1 * q2 ∧ 1 ≤ q1 * q2 := by
  obtain ⟨g1, hg1, hn1, hd1, _, hq1, _⟩ := fracOf_is hd h1
  obtain ⟨g2, hg2, hn2, hd2, _, hq2, _⟩ := fracOf_is hd h2
  have hgg : (0 : Int) < (g1 : Int) * g2 := Int.mul_pos (by omega) (by omega)
  have hqq : 1 * 1 ≤ q1 * q2 := Int.mul_le_mul hq1 hq2 (by omega) (by omega)
  refine ⟨?_, by omega⟩
  have k1 : (p1 * q2 + p2 * q1) * ((g1 : Int) * g2) = (e1 + e2) * d := by
    rw [Int.add_mul, Int.add_mul]
    have a1 : p1 * q2 * ((g1 : Int) * g2) = e1 * d := by rw [hn1, hd2]; simp only [Int.mul_left_comm, Int.mul_assoc]
    have a2 : p2 * q1 * ((g1 : Int) * g2) = e2 * d := by rw [hn2, hd1]; simp only [Int.mul_comm, Int.mul_left_comm, Int.mul_assoc]
    rw [a1, a2]
  have k2 : q1 * q2 * ((g1 : Int) * g2) = d * d := by
    conv => rhs; rw [hd1]
    rw [show q1 * (g1 : Int) * (q1 * g1) = q1 * g1 * d by rw [← hd1]]
    rw [hd2]
    simp only [Int.mul_left_comm, Int.mul_assoc]
  rw [he, ← k2] at k1
  exact Int.eq_of_mul_eq_mul_right (by omega) k1
end Go.Proofs.Ytffkpmmgfgcngaa
