/- Plain laws; no program in sight. No condition. -/
import Derived.Test.YtlfajalhoifliaaGreatDoorMath
namespace Go.Proofs.YtlfajalhoifliaaGreatDoor

/-! Plain laws on sums of parts over sets; no program in sight. No condition. -/
section
theorem sumTo_le {f g : Nat → Int} (n : Nat) (h : ∀ k, k < n → f k ≤ g k) : sumTo f n ≤ sumTo g n := by
  induction n with
  | zero => simp [sumTo]
  | succ n ih =>
    have := ih (fun k hk => h k (by omega))
    have := h n (by omega)
    simp only [sumTo]
    omega
theorem sumTo_add (f g : Nat → Int) (n : Nat) : sumTo (fun k => f k + g k) n = sumTo f n + sumTo g n := by
  induction n with
  | zero => simp [sumTo]
  | succ n ih => simp only [sumTo]; omega
theorem sumTo_mul (c : Int) (f : Nat → Int) (n : Nat) : sumTo (fun k => c * f k) n = c * sumTo f n := by
  induction n with
  | zero => simp [sumTo]
  | succ n ih => simp only [sumTo]; rw [ih, Int.mul_add]
theorem sumTo_zero (n : Nat) : sumTo (fun _ => 0) n = 0 := by
  induction n with
  | zero => rfl
  | succ n ih => simp only [sumTo]; omega
theorem sumTo_swap (f : Nat → Nat → Int) (n m : Nat) : sumTo (fun a => sumTo (fun b => f a b) m) n = sumTo (fun b => sumTo (fun a => f a b) n) m := by
  induction n with
  | zero => simp only [sumTo]; rw [sumTo_zero]
  | succ n ih => simp only [sumTo]; rw [ih, ← sumTo_add]
/-- one index alone counts -/
theorem sumTo_one (v : Int) (c : Nat) : ∀ n : Nat, sumTo (fun k => if k = c then v else 0) n = if c < n then v else 0
  | 0 => by simp [sumTo]
  | n + 1 => by
    simp only [sumTo]
    rw [sumTo_one v c n]
    by_cases h : c < n
    · simp [h, show ¬ n = c by omega, show c < n + 1 by omega]
    · by_cases e : n = c
      · subst e; simp
      · simp [h, e, show ¬ c < n + 1 by omega]
theorem sub_or16 : ∀ a b k : Fin 16, (subB k.val a.val || subB k.val b.val) = true → subB k.val (a.val ||| b.val) = true := by decide +kernel
theorem sub_and16 : ∀ a b k : Fin 16, subB k.val (a.val &&& b.val) = (subB k.val a.val && subB k.val b.val) := by decide +kernel
theorem sub_or {a b k : Nat} (ha : a < 16) (hb : b < 16) (hk : k < 16) (h : subB k a = true ∨ subB k b = true) : subB k (a ||| b) = true := sub_or16 ⟨a, ha⟩ ⟨b, hb⟩ ⟨k, hk⟩ (by simpa using h)
theorem sub_and {a b k : Nat} (ha : a < 16) (hb : b < 16) (hk : k < 16) : subB k (a &&& b) = (subB k a && subB k b) := sub_and16 ⟨a, ha⟩ ⟨b, hb⟩ ⟨k, hk⟩
theorem super16 : ∀ a b k : Fin 16, subB (a.val ||| b.val) k.val = (subB a.val k.val && subB b.val k.val) := by decide +kernel
theorem meet_or16 : ∀ a b k : Fin 16, meetB (a.val ||| b.val) k.val = (meetB a.val k.val || meetB b.val k.val) := by decide +kernel
theorem meet_and16 : ∀ a b k : Fin 16, meetB (a.val &&& b.val) k.val = true → (meetB a.val k.val && meetB b.val k.val) = true := by decide +kernel
theorem sub_trans16 : ∀ a b k : Fin 16, subB a.val b.val = true → subB k.val a.val = true → subB k.val b.val = true := by decide +kernel
variable {xs : List Int} {n a b : Nat}
theorem implied_super (hn : xs.length = n) (h16 : n ≤ 16) (h : ∀ k, k < n → 0 ≤ xs.getD k 0) (ha : a < 16) (hb : b < 16) :
    partOf (fun j => subB j a) xs + partOf (fun j => subB j b) xs ≤ partOf (fun j => subB j (a ||| b)) xs + partOf (fun j => subB j (a &&& b)) xs := by
  simp only [partOf, hn, ← sumTo_add]
  refine sumTo_le n (fun k hk => ?_)
  have h0 := h k hk
  have h1 := sub_or (a := a) (b := b) (k := k) ha hb (by omega)
  have h2 := sub_and (a := a) (b := b) (k := k) ha hb (by omega)
  simp only [partF, h2]
  generalize xs.getD k 0 = v at h0 ⊢
  by_cases p : subB k a = true <;> by_cases q : subB k b = true
  · have h3 := h1 (.inl p); simp [p, q, h3]
  · have h3 := h1 (.inl p); simp [p, q, h3]
  · have h3 := h1 (.inr q); simp [p, q, h3]
  · simp [p, q]; split <;> omega
theorem possible_sub (hn : xs.length = n) (h16 : n ≤ 16) (h : ∀ k, k < n → 0 ≤ xs.getD k 0) (ha : a < 16) (hb : b < 16) :
    partOf (fun j => meetB (a ||| b) j) xs + partOf (fun j => meetB (a &&& b) j) xs ≤ partOf (fun j => meetB a j) xs + partOf (fun j => meetB b j) xs := by
  simp only [partOf, hn, ← sumTo_add]
  refine sumTo_le n (fun k hk => ?_)
  have h0 := h k hk
  have h1 := meet_or16 ⟨a, ha⟩ ⟨b, hb⟩ ⟨k, by omega⟩
  have h2 := meet_and16 ⟨a, ha⟩ ⟨b, hb⟩ ⟨k, by omega⟩
  simp only at h1 h2
  simp only [partF, h1]
  generalize xs.getD k 0 = v at h0 ⊢
  by_cases r : meetB (a &&& b) k = true
  · have h3 := h2 r
    simp only [Bool.and_eq_true] at h3
    simp [h3.1, h3.2, r]
  · by_cases p : meetB a k = true <;> by_cases q : meetB b k = true <;> simp [p, q, r] <;> omega
theorem part_le {p q : Nat → Bool} (hn : xs.length = n) (h : ∀ k, k < n → 0 ≤ xs.getD k 0) (hpq : ∀ k, k < n → p k = true → q k = true) : partOf p xs ≤ partOf q xs := by
  simp only [partOf, hn]
  refine sumTo_le n (fun k hk => ?_)
  have h0 := h k hk
  have h1 := hpq k hk
  simp only [partF]
  generalize xs.getD k 0 = v at h0 ⊢
  by_cases hp : p k = true
  · simp [hp, h1 hp]
  · by_cases hq : q k = true <;> simp [hp, hq, h0]
theorem part_all {p : Nat → Bool} (hn : xs.length = n) (hp : ∀ k, k < n → p k = true) : partOf p xs = sumL xs := by
  simp only [partOf, sumL, hn]
  exact sumTo_congr n (fun k hk => by simp [partF, hp k hk])
end
/-! Plain laws on masses in lowest terms; no program in sight. No condition. -/
section
theorem gcdL_dvd_take (xs : List Int) : ∀ k, k ≤ xs.length → ∀ j, j < k → gcdL (xs.take k) ∣ (xs.getD j 0).natAbs
  | 0, _, j, hj => by omega
  | k + 1, hk, j, hj => by
    rw [gcdL_take xs k (by omega)]
    by_cases h : j = k
    · subst h; exact Nat.gcd_dvd_right _ _
    · exact Nat.dvd_trans (Nat.gcd_dvd_left _ _) (gcdL_dvd_take xs k (by omega) j (by omega))
theorem gcdL_dvd {xs : List Int} {n : Nat} (hn : xs.length = n) (j : Nat) (hj : j < n) : gcdL xs ∣ (xs.getD j 0).natAbs := by
  have := gcdL_dvd_take xs n (by omega) j hj
  rwa [List.take_of_length_le (by omega)] at this
theorem dvd_gcdL_take (d : Nat) (xs : List Int) : ∀ k, k ≤ xs.length → (∀ j, j < k → d ∣ (xs.getD j 0).natAbs) → d ∣ gcdL (xs.take k)
  | 0, _, _ => by simp [gcdL]
  | k + 1, hk, h => by
    rw [gcdL_take xs k (by omega)]
    exact Nat.dvd_gcd (dvd_gcdL_take d xs k (by omega) (fun j hj => h j (by omega))) (h k (by omega))
theorem dvd_gcdL {xs : List Int} {n : Nat} (hn : xs.length = n) (d : Nat) (h : ∀ j, j < n → d ∣ (xs.getD j 0).natAbs) : d ∣ gcdL xs := by
  have := dvd_gcdL_take d xs n (by omega) h
  rwa [List.take_of_length_le (by omega)] at this
theorem low_getD {ps : List Int} {n : Nat} (hn : ps.length = n) (k : Nat) (hk : k < n) : (low ps).getD k 0 = ps.getD k 0 / (gcdL ps : Int) := by
  rw [low_tab hn, tab_getD _ _ _ hk]
/-- what is divided gives what was, times the divisor -/
theorem low_mul {ps : List Int} {n : Nat} (hn : ps.length = n) (k : Nat) (hk : k < n) : (gcdL ps : Int) * (low ps).getD k 0 = ps.getD k 0 := by
  rw [low_getD hn k hk]
  have h := gcdL_dvd hn k hk
  have h2 : (gcdL ps : Int) ∣ ps.getD k 0 := Int.ofNat_dvd_left.2 h
  exact Int.mul_ediv_cancel' h2
theorem low_gcd {ps : List Int} (h : gcdL ps ≠ 0) : gcdL (low ps) = 1 := by
  have hl : (low ps).length = ps.length := low_length ps
  have h1 : gcdL ps * gcdL (low ps) ∣ gcdL ps := by
    refine dvd_gcdL rfl _ (fun j hj => ?_)
    have h2 := gcdL_dvd hl j hj
    have h3 := low_mul rfl j hj
    have h4 : (ps.getD j 0).natAbs = gcdL ps * ((low ps).getD j 0).natAbs := by
      rw [← h3, Int.natAbs_mul]; simp
    rw [h4]
    exact Nat.mul_dvd_mul_left _ h2
  have h5 : 0 < gcdL ps := Nat.pos_of_ne_zero h
  have h6 := Nat.le_of_dvd h5 h1
  have h7 : gcdL (low ps) ≤ 1 := by
    rcases Nat.lt_or_ge 1 (gcdL (low ps)) with h8 | h8
    · have : gcdL ps * 2 ≤ gcdL ps * gcdL (low ps) := Nat.mul_le_mul_left _ h8
      omega
    · exact h8
  have h9 : gcdL (low ps) ≠ 0 := by
    intro h0
    apply h
    have : 0 ∣ gcdL ps := by
      refine dvd_gcdL rfl _ (fun j hj => ?_)
      have h2 := gcdL_dvd hl j hj
      rw [h0] at h2
      have h3 := low_mul rfl j hj
      have h4 : ((low ps).getD j 0).natAbs = 0 := Nat.eq_zero_of_zero_dvd h2
      have h5 : (low ps).getD j 0 = 0 := by omega
      rw [h5] at h3
      rw [← h3]; simp
    exact Nat.eq_zero_of_zero_dvd this
  omega
theorem sumL_mul_low {ps : List Int} : (gcdL ps : Int) * sumL (low ps) = sumL ps := by
  unfold sumL
  rw [low_length, ← sumTo_mul]
  exact sumTo_congr _ (fun k hk => low_mul rfl k hk)
theorem gcdL_zero_all {ps : List Int} {n : Nat} (hn : ps.length = n) (h : gcdL ps = 0) (k : Nat) (hk : k < n) : ps.getD k 0 = 0 := by
  have h1 := gcdL_dvd hn k hk
  rw [h] at h1
  have := Nat.eq_zero_of_zero_dvd h1
  omega
theorem sum_of_zero {ps : List Int} {n : Nat} (hn : ps.length = n) (h : gcdL ps = 0) : sumL ps = 0 := by
  unfold sumL
  rw [hn, sumTo_congr (g := fun _ => 0) n (fun k hk => gcdL_zero_all hn h k hk), sumTo_zero]
/-- parts that are no mass yet but for their divisor: what is divided is one -/
theorem low_mass {s : Int} {ps : List Int} {n : Nat} (hs : sizeB s = true) (hf : fitB s n = true) (hn : ps.length = n) (hp : ∀ k, k < n → 0 ≤ ps.getD k 0 ∧ ps.getD k 0 ≤ 1000000) (hw : 1 ≤ sumL ps ∧ sumL ps ≤ 1000000) :
    gcdL ps ≠ 0 ∧ massB s (low ps) = true := by
  have hg : gcdL ps ≠ 0 := fun h => by have := sum_of_zero hn h; omega
  refine ⟨hg, ?_⟩
  have hgp : (1 : Int) ≤ (gcdL ps : Int) := by have := Nat.pos_of_ne_zero hg; omega
  have hll : (low ps).length = n := by rw [low_length]; exact hn
  have hsum := sumL_mul_low (ps := ps)
  have hq : ∀ k, k < n → 0 ≤ (low ps).getD k 0 ∧ (low ps).getD k 0 ≤ 1000000 := fun k hk => by
    rw [low_getD hn k hk]
    have := hp k hk
    have h1 := Int.ediv_nonneg this.1 (show (0 : Int) ≤ (gcdL ps : Int) by omega)
    have h2 := Int.ediv_le_self (gcdL ps : Int) this.1
    omega
  have hs0 : 0 ≤ sumL (low ps) := by
    unfold sumL
    rw [hll]
    exact sumTo_nonneg _ (fun k hk => (hq k hk).1)
  have hw2 : 1 ≤ sumL (low ps) ∧ sumL (low ps) ≤ 1000000 := by
    have h0 : sumL (low ps) ≠ 0 := fun h => by rw [h] at hsum; simp at hsum; omega
    refine ⟨by omega, ?_⟩
    have := Int.mul_le_mul_of_nonneg_right hgp hs0
    omega
  rw [massB_of hll hs hf (by
    rw [all_getD]
    intro k hk
    have := hq k (by omega)
    simpa [inMost] using this), low_gcd hg]
  simp [wholeB, hw2]
theorem low_one {ps : List Int} (h : gcdL ps = 1) : low ps = ps := by
  rw [low, h]; simp
theorem noNone_getD {xs : List Int} {n : Nat} (hn : xs.length = n) (k : Nat) (hk : k < n) : (noNone xs).getD k 0 = if k = 0 then 0 else xs.getD k 0 := by
  unfold noNone
  simp only [List.getD, List.getElem?_set]
  by_cases h : k = 0
  · subst h
    have : 0 < xs.length := by omega
    simp [this]
  · simp [h, Ne.symm h]
theorem noNone_self {xs : List Int} (h : xs.getD 0 0 = 0) : noNone xs = xs := by
  unfold noNone
  cases xs with
  | nil => rfl
  | cons x t => simp at h; simp [h]
theorem sum_split (f : Nat → Int) : ∀ n, 1 ≤ n → sumTo f n = f 0 + sumTo (fun k => if k = 0 then 0 else f k) n
  | 0, h => by omega
  | 1, _ => by simp [sumTo]
  | n + 2, _ => by
    have := sum_split f (n + 1) (by omega)
    simp only [sumTo] at *
    simp
    omega
theorem noNone_sum {xs : List Int} {n : Nat} (hn : xs.length = n) (h1 : 1 ≤ n) : sumL (noNone xs) = sumL xs - xs.getD 0 0 := by
  have h2 := sum_split (fun k => xs.getD k 0) n h1
  have h3 : sumL (noNone xs) = sumTo (fun k => if k = 0 then 0 else xs.getD k 0) n := by
    unfold sumL
    rw [show (noNone xs).length = n by simp [noNone, hn]]
    exact sumTo_congr n (fun k hk => noNone_getD hn k hk)
  rw [h3]
  unfold sumL
  rw [hn]
  omega
end
/-! Plain laws on the products of two masses; no program in sight. No condition. -/
section
theorem sumTo_mul_right (c : Int) (f : Nat → Int) (n : Nat) : sumTo (fun k => f k * c) n = sumTo f n * c := by
  rw [show (fun k => f k * c) = (fun k => c * f k) from funext fun k => Int.mul_comm _ _, sumTo_mul, Int.mul_comm]
variable {xs ys : List Int} {n : Nat}
/-- the sum of the products for the sets of a kind -/
theorem part_prods {op : Nat → Nat → Nat} {pr : Nat → Bool} (hn : xs.length = n) (hop : ∀ i j, i < n → j < n → op i j < n) :
    partOf pr (prods op xs ys) = sumTo (fun a => sumTo (fun b => if pr (op a b) = true then xs.getD a 0 * ys.getD b 0 else 0) n) n := by
  have h1 : partOf pr (prods op xs ys) = sumTo (fun c => sumTo (fun a => sumTo (fun b => if pr c = true then prodF op xs ys a c b else 0) n) n) n := by
    unfold partOf
    rw [prods_length, hn]
    refine sumTo_congr n (fun c hc => ?_)
    unfold partF
    rw [prods, hn, tab_getD _ _ _ hc]
    by_cases h : pr c = true
    · simp only [h, if_true]
    · have hf : pr c = false := by simpa using h
      simp [hf, sumTo_zero]
  rw [h1, sumTo_swap]
  refine sumTo_congr n (fun a ha => ?_)
  rw [sumTo_swap]
  refine sumTo_congr n (fun b hb => ?_)
  have h2 := sumTo_one (if pr (op a b) = true then xs.getD a 0 * ys.getD b 0 else 0) (op a b) n
  rw [if_pos (hop a b ha hb)] at h2
  rw [← h2]
  refine sumTo_congr n (fun c _ => ?_)
  unfold prodF
  by_cases h : c = op a b
  · subst h; simp
  · simp [h, show ¬ op a b = c from fun e => h e.symm]
theorem mul_part {p q : Nat → Bool} (hn : xs.length = n) (hm : ys.length = n) :
    sumTo (fun a => sumTo (fun b => if (p a && q b) = true then xs.getD a 0 * ys.getD b 0 else 0) n) n = partOf p xs * partOf q ys := by
  unfold partOf
  rw [hn, hm, ← sumTo_mul_right]
  refine sumTo_congr n (fun a _ => ?_)
  rw [← sumTo_mul]
  refine sumTo_congr n (fun b _ => ?_)
  unfold partF
  by_cases h1 : p a = true <;> by_cases h2 : q b = true <;> simp [h1, h2]
/-- the share of a kind of sets in the products, where it is that of both -/
theorem prods_part {op : Nat → Nat → Nat} {pr p q : Nat → Bool} (hn : xs.length = n) (hm : ys.length = n) (hop : ∀ i j, i < n → j < n → op i j < n) (h : ∀ i j, i < n → j < n → pr (op i j) = (p i && q j)) :
    partOf pr (prods op xs ys) = partOf p xs * partOf q ys := by
  rw [part_prods hn hop, ← mul_part hn hm]
  refine sumTo_congr n (fun a ha => sumTo_congr n (fun b hb => ?_))
  rw [h a b ha hb]
theorem part_true : partOf (fun _ => true) xs = sumL xs := by
  unfold partOf sumL
  exact sumTo_congr _ (fun k _ => by simp [partF])
theorem prods_sum {op : Nat → Nat → Nat} (hn : xs.length = n) (hm : ys.length = n) (hop : ∀ i j, i < n → j < n → op i j < n) : sumL (prods op xs ys) = sumL xs * sumL ys := by
  rw [← part_true, ← part_true, ← part_true]
  exact prods_part hn hm hop (fun _ _ _ _ => rfl)
theorem low_part {pr : Nat → Bool} {ps : List Int} : (gcdL ps : Int) * partOf pr (low ps) = partOf pr ps := by
  unfold partOf
  rw [low_length, ← sumTo_mul]
  refine sumTo_congr _ (fun k hk => ?_)
  unfold partF
  split
  · exact low_mul rfl k hk
  · simp
/-- the shares of the mass of products -/
theorem told_part {op : Nat → Nat → Nat} {pr p q : Nat → Bool} (hn : xs.length = n) (hm : ys.length = n) (hop : ∀ i j, i < n → j < n → op i j < n) (h : ∀ i j, i < n → j < n → pr (op i j) = (p i && q j)) :
    partOf pr (low (prods op xs ys)) * sumL xs * sumL ys = partOf p xs * partOf q ys * sumL (low (prods op xs ys)) := by
  have h1 := low_part (pr := pr) (ps := prods op xs ys)
  have h2 := sumL_mul_low (ps := prods op xs ys)
  rw [prods_part hn hm hop h] at h1
  rw [prods_sum hn hm hop] at h2
  rw [Int.mul_assoc, ← h2, ← h1]
  rw [← Int.mul_assoc, Int.mul_comm (partOf pr _) _]
theorem getD_ext {n : Nat} (h1 : xs.length = n) (h2 : ys.length = n) (h : ∀ k, k < n → xs.getD k 0 = ys.getD k 0) : xs = ys := by
  rw [← tab_self xs n h1, ← tab_self ys n h2]
  exact tab_congr h
theorem prods_comm {op : Nat → Nat → Nat} (hn : xs.length = n) (hm : ys.length = n) (hop : ∀ i j, op i j = op j i) : prods op xs ys = prods op ys xs := by
  unfold prods
  rw [hn, hm]
  refine tab_congr (fun c _ => ?_)
  rw [sumTo_swap]
  refine sumTo_congr n (fun a _ => sumTo_congr n (fun b _ => ?_))
  unfold prodF
  rw [hop a b, Int.mul_comm]
/-- numbers each times a factor -/
def scale (c : Int) (ps : List Int) : List Int := ps.map (fun x => c * x)
theorem scale_length (c : Int) (ps : List Int) : (scale c ps).length = ps.length := by simp [scale]
theorem scale_getD {c : Int} {ps : List Int} (k : Nat) : (scale c ps).getD k 0 = c * ps.getD k 0 := by
  unfold scale
  by_cases h : k < ps.length
  · simp [List.getD, h]
  · simp [List.getD, h]
theorem prods_scale_left {op : Nat → Nat → Nat} (c : Int) : prods op (scale c xs) ys = scale c (prods op xs ys) := by
  refine getD_ext (n := xs.length) (by rw [prods_length, scale_length]) (by rw [scale_length, prods_length]) (fun k hk => ?_)
  rw [scale_getD]
  unfold prods
  rw [scale_length, tab_getD _ _ _ hk, tab_getD _ _ _ hk, ← sumTo_mul]
  refine sumTo_congr _ (fun a _ => ?_)
  rw [← sumTo_mul]
  refine sumTo_congr _ (fun b _ => ?_)
  unfold prodF
  rw [scale_getD]
  split
  · rw [Int.mul_assoc]
  · simp
theorem gcdL_scale {c : Nat} {ps : List Int} : gcdL (scale c ps) = c * gcdL ps := by
  apply Nat.dvd_antisymm
  · by_cases h0 : c = 0
    · subst h0
      have : gcdL (scale ((0 : Nat) : Int) ps) = 0 := by
        apply Nat.eq_zero_of_zero_dvd
        refine dvd_gcdL rfl _ (fun j hj => ?_)
        rw [scale_getD]; simp
      rw [this]; simp
    · -- c divides the divisor of the scaled numbers
      have hc : c ∣ gcdL (scale c ps) := dvd_gcdL rfl _ (fun j hj => by rw [scale_getD, Int.natAbs_mul, Int.natAbs_natCast]; exact Nat.dvd_mul_right _ _)
      obtain ⟨e, he⟩ := hc
      rw [he]
      refine Nat.mul_dvd_mul_left c (dvd_gcdL rfl _ (fun j hj => ?_))
      have h1 := gcdL_dvd (xs := scale c ps) (scale_length c ps) j hj
      rw [scale_getD, Int.natAbs_mul, he] at h1
      exact Nat.dvd_of_mul_dvd_mul_left (Nat.pos_of_ne_zero h0) (by simpa using h1)
  · refine dvd_gcdL rfl _ (fun j hj => ?_)
    rw [scale_length] at hj
    rw [scale_getD, Int.natAbs_mul]
    exact Nat.mul_dvd_mul (by simp) (gcdL_dvd rfl j hj)
theorem low_scale {c : Nat} {ps : List Int} (hc : c ≠ 0) : low (scale c ps) = low ps := by
  refine getD_ext (n := ps.length) (by rw [low_length, scale_length]) (low_length ps) (fun k hk => ?_)
  rw [low_getD (by rw [scale_length]) k hk, low_getD rfl k hk, gcdL_scale, scale_getD]
  rw [Int.natCast_mul]
  exact Int.mul_ediv_mul_of_pos _ _ (by omega)
theorem scale_low {ps : List Int} : scale (gcdL ps) (low ps) = ps := by
  refine getD_ext (n := ps.length) (by rw [scale_length, low_length]) rfl (fun k hk => ?_)
  rw [scale_getD]
  exact low_mul rfl k hk
/-- a factor in the first mass does not matter -/
theorem low_prods_left {op : Nat → Nat → Nat} {ps : List Int} (h : gcdL ps ≠ 0) : low (prods op (low ps) ys) = low (prods op ps ys) := by
  conv => rhs; rw [← scale_low (ps := ps), prods_scale_left, low_scale h]
theorem prods_getD {op : Nat → Nat → Nat} (hn : xs.length = n) (c : Nat) (hc : c < n) : (prods op xs ys).getD c 0 = sumTo (fun a => sumTo (prodF op xs ys a c) n) n := by
  rw [prods, hn, tab_getD _ _ _ hc]
theorem w_prods {op : Nat → Nat → Nat} {f : Nat → Int} (hn : xs.length = n) (hop : ∀ i j, i < n → j < n → op i j < n) :
    sumTo (fun c => f c * (prods op xs ys).getD c 0) n = sumTo (fun a => sumTo (fun b => f (op a b) * (xs.getD a 0 * ys.getD b 0)) n) n := by
  have h1 : sumTo (fun c => f c * (prods op xs ys).getD c 0) n = sumTo (fun c => sumTo (fun a => sumTo (fun b => f c * prodF op xs ys a c b) n) n) n := by
    refine sumTo_congr n (fun c hc => ?_)
    rw [prods_getD hn c hc, ← sumTo_mul]
    exact sumTo_congr n (fun a _ => (sumTo_mul _ _ _).symm)
  rw [h1, sumTo_swap]
  refine sumTo_congr n (fun a ha => ?_)
  rw [sumTo_swap]
  refine sumTo_congr n (fun b hb => ?_)
  have h2 := sumTo_one (f (op a b) * (xs.getD a 0 * ys.getD b 0)) (op a b) n
  rw [if_pos (hop a b ha hb)] at h2
  rw [← h2]
  refine sumTo_congr n (fun c _ => ?_)
  unfold prodF
  by_cases h : c = op a b
  · subst h; simp
  · simp [h, show ¬ op a b = c from fun e => h e.symm]
/-- the products of three -/
theorem prods_assoc {op : Nat → Nat → Nat} {zs : List Int} (hn : xs.length = n) (hm : ys.length = n) (hop : ∀ i j, i < n → j < n → op i j < n) (ha : ∀ i j k, op (op i j) k = op i (op j k)) :
    prods op (prods op xs ys) zs = prods op xs (prods op ys zs) := by
  have hP : (prods op xs ys).length = n := by rw [prods_length]; exact hn
  refine getD_ext (n := n) (by rw [prods_length]; exact hP) (by rw [prods_length]; exact hn) (fun c hc => ?_)
  rw [prods_getD hP c hc, prods_getD hn c hc]
  have h1 : sumTo (fun e => sumTo (prodF op (prods op xs ys) zs e c) n) n = sumTo (fun e => sumTo (fun d => if op e d = c then zs.getD d 0 else 0) n * (prods op xs ys).getD e 0) n := by
    refine sumTo_congr n (fun e _ => ?_)
    rw [← sumTo_mul_right]
    refine sumTo_congr n (fun d _ => ?_)
    unfold prodF
    split
    · exact Int.mul_comm _ _
    · simp
  have h2 : ∀ a, a < n → sumTo (prodF op xs (prods op ys zs) a c) n = xs.getD a 0 * sumTo (fun b => sumTo (fun d => (if op a (op b d) = c then 1 else 0) * (ys.getD b 0 * zs.getD d 0)) n) n := by
    intro a _
    rw [← w_prods (f := fun g => if op a g = c then 1 else 0) hm hop, ← sumTo_mul]
    refine sumTo_congr n (fun g _ => ?_)
    unfold prodF
    split <;> simp
  rw [h1, w_prods (f := fun e => sumTo (fun d => if op e d = c then zs.getD d 0 else 0) n) hn hop]
  refine sumTo_congr n (fun a han => ?_)
  rw [h2 a han, ← sumTo_mul]
  refine sumTo_congr n (fun b _ => ?_)
  rw [← sumTo_mul_right, ← sumTo_mul]
  refine sumTo_congr n (fun d _ => ?_)
  rw [ha]
  split
  · simp only [Int.one_mul]
    rw [Int.mul_comm, Int.mul_assoc]
  · simp
/-- the numbers of the other sets -/
theorem turned_getD (hn : xs.length = n) (k : Nat) (hk : k < n) : (turned xs).getD k 0 = xs.getD (n - 1 - k) 0 := by
  rw [turned, hn, tab_getD _ _ _ hk]
theorem turned_turned : turned (turned xs) = xs := by
  refine getD_ext (n := xs.length) (by rw [turned_length, turned_length]) rfl (fun k hk => ?_)
  rw [turned_getD (turned_length xs) k hk, turned_getD rfl _ (by omega)]
  congr 1
  omega
theorem gcdL_turned : gcdL (turned xs) = gcdL xs := by
  apply Nat.dvd_antisymm
  · refine dvd_gcdL rfl _ (fun j hj => ?_)
    have h1 := gcdL_dvd (turned_length xs) (xs.length - 1 - j) (by omega)
    rw [turned_getD rfl _ (by omega)] at h1
    rwa [show xs.length - 1 - (xs.length - 1 - j) = j by omega] at h1
  · refine dvd_gcdL (turned_length xs) _ (fun j hj => ?_)
    rw [turned_getD rfl j hj]
    exact gcdL_dvd rfl _ (by omega)
theorem low_turned : low (turned xs) = turned (low xs) := by
  refine getD_ext (n := xs.length) (by rw [low_length, turned_length]) (by rw [turned_length, low_length]) (fun k hk => ?_)
  rw [low_getD (turned_length xs) k hk, gcdL_turned, turned_getD rfl k hk, turned_getD (low_length xs) k hk, low_getD rfl _ (by omega)]
/-- a sum is the same turned -/
theorem sumTo_turn (f : Nat → Int) (n : Nat) : sumTo (fun k => f (n - 1 - k)) n = sumTo f n := by
  have h1 : ∀ k, k < n → f (n - 1 - k) = sumTo (fun j => if j = n - 1 - k then f j else 0) n := fun k hk => by
    have h2 := sumTo_one (f (n - 1 - k)) (n - 1 - k) n
    rw [if_pos (by omega)] at h2
    rw [← h2]
    refine sumTo_congr n (fun j _ => ?_)
    by_cases h : j = n - 1 - k
    · rw [if_pos h, if_pos h, h]
    · rw [if_neg h, if_neg h]
  rw [sumTo_congr n h1, sumTo_swap]
  refine sumTo_congr n (fun j hj => ?_)
  have h2 := sumTo_one (f j) (n - 1 - j) n
  rw [if_pos (by omega)] at h2
  refine Eq.trans ?_ h2
  refine sumTo_congr n (fun k hk => ?_)
  by_cases h : k = n - 1 - j
  · have h' : j = n - 1 - k := by omega
    rw [if_pos h, if_pos h']
  · have h' : ¬ j = n - 1 - k := by omega
    rw [if_neg h, if_neg h']
theorem sumL_turned : sumL (turned xs) = sumL xs := by
  unfold sumL
  rw [turned_length, ← sumTo_turn]
  exact (sumTo_congr _ (fun k hk => by rw [turned_getD rfl _ (by omega)]; congr 1; omega))
end
/-! Plain laws on fractions of masses: mean sizes, chances of single answers; no program in sight. No condition. -/
section
/-- a quotient that is valid, in lowest terms: what it is of -/
theorem fracOf_is {num den p q : Int} (hd : 1 ≤ den) (h : fracOf num den = some (p, q)) : ∃ g : Nat, 1 ≤ g ∧ num = p * g ∧ den = q * g ∧ Nat.gcd p.natAbs q.natAbs = 1 ∧ 1 ≤ q ∧ fracB p q = true := by
  have hd0 : ¬ den < 0 := by omega
  simp only [fracOf, hd0, if_false] at h
  obtain ⟨g, hg⟩ : ∃ g, g = Nat.gcd num.natAbs den.natAbs := ⟨_, rfl⟩
  rw [← hg] at h
  split at h
  · next hb =>
    simp only [Option.some.injEq, Prod.mk.injEq] at h
    obtain ⟨rfl, rfl⟩ := h
    have hg1 : 1 ≤ g := by rw [hg]; exact Nat.gcd_pos_of_pos_right _ (by omega)
    have d1 : (g : Int) ∣ num := by rw [hg]; exact Int.ofNat_dvd_left.2 (Nat.gcd_dvd_left _ _)
    have d2 : (g : Int) ∣ den := by rw [hg]; exact Int.ofNat_dvd_left.2 (Nat.gcd_dvd_right _ _)
    have hb' := hb
    simp only [fracB, Bool.and_eq_true, decide_eq_true_eq, beq_iff_eq] at hb
    exact ⟨g, hg1, (Int.tdiv_mul_cancel d1).symm, (Int.tdiv_mul_cancel d2).symm, hb.2, hb.1.2.1, hb'⟩
  · cases h
theorem frac_le {num den p q s : Int} (hd : 1 ≤ den) (h : fracOf num den = some (p, q)) (hs : num ≤ s * den) : p ≤ s * q := by
  obtain ⟨g, hg, hn, hq, _⟩ := fracOf_is hd h
  rw [hn, hq, ← Int.mul_assoc] at hs
  exact Int.le_of_mul_le_mul_right hs (by omega)
theorem fracOf_self {den : Int} (hd : 1 ≤ den) : fracOf den den = some (1, 1) := by
  have hd0 : ¬ den < 0 := by omega
  have hg : Nat.gcd den.natAbs den.natAbs = den.natAbs := Nat.gcd_self _
  have h1 : den.tdiv (den.natAbs : Int) = 1 := by
    rw [show (den.natAbs : Int) = den by omega]
    exact Int.tdiv_self (by omega)
  simp only [fracOf, hd0, if_false, hg, h1]
  rfl
theorem cross_lt {e1 e2 d p1 q1 p2 q2 : Int} (hd : 1 ≤ d) (h1 : fracOf e1 d = some (p1, q1)) (h2 : fracOf e2 d = some (p2, q2)) : p1 * q2 < p2 * q1 ↔ e1 < e2 := by
  obtain ⟨g1, hg1, hn1, hd1, _, hq1, _⟩ := fracOf_is hd h1
  obtain ⟨g2, hg2, hn2, hd2, _, hq2, _⟩ := fracOf_is hd h2
  -- e1 * (q2 * g2) = p1 * g1 * q2 * g2, e2 * (q1 * g1) = p2 * g2 * q1 * g1
  have k1 : e1 * d = p1 * q2 * ((g1 : Int) * g2) := by rw [hn1, hd2]; simp only [Int.mul_left_comm, Int.mul_assoc]
  have k2 : e2 * d = p2 * q1 * ((g1 : Int) * g2) := by rw [hn2, hd1]; simp only [Int.mul_comm, Int.mul_left_comm, Int.mul_assoc]
  have hgg : (0 : Int) < (g1 : Int) * g2 := Int.mul_pos (by omega) (by omega)
  constructor
  · intro h
    have := Int.mul_lt_mul_of_pos_right h hgg
    rw [← k1, ← k2] at this
    exact Int.lt_of_mul_lt_mul_right this (by omega)
  · intro h
    have := Int.mul_lt_mul_of_pos_right h (show 0 < d by omega)
    rw [k1, k2] at this
    exact Int.lt_of_mul_lt_mul_right this (by omega)
theorem frac_inj {e1 e2 d : Int} {r : Int × Int} (hd : 1 ≤ d) (h1 : fracOf e1 d = some r) (h2 : fracOf e2 d = some r) : e1 = e2 := by
  have a := cross_lt hd h1 h2
  have b := cross_lt hd h2 h1
  have : ¬ r.1 * r.2 < r.1 * r.2 := by omega
  rcases Int.lt_trichotomy e1 e2 with h | h | h
  · exact absurd (a.2 h) this
  · exact h
  · exact absurd (b.2 h) this
/-- the first answer of the greatest chance -/
theorem best_ge (xs : List Int) : ∀ k y, y < k → evenOf (2 ^ y) xs ≤ evenOf (2 ^ bestOf xs k) xs
  | 0, y, h => by omega
  | k + 1, y, h => by
    simp only [bestOf]
    have ih := best_ge xs k
    split
    · next hlt =>
      by_cases e : y = k
      · subst e; omega
      · have := ih y (by omega); omega
    · next hlt =>
      by_cases e : y = k
      · subst e; omega
      · exact ih y (by omega)
theorem best_gt (xs : List Int) : ∀ k y, y < bestOf xs k → evenOf (2 ^ y) xs < evenOf (2 ^ bestOf xs k) xs
  | 0, y, h => by simp [bestOf] at h
  | k + 1, y, h => by
    simp only [bestOf] at h ⊢
    split
    · next hlt =>
      rw [if_pos hlt] at h
      have := best_ge xs k y h
      omega
    · next hlt =>
      rw [if_neg hlt] at h
      exact best_gt xs k y h
/-- how many of the first m answers a set has -/
theorem meet_count1 : ∀ j : Fin 2, sumTo (fun k => if meetB (2 ^ k) j.val = true then 1 else 0) 1 = cnt j.val := by decide
theorem meet_count2 : ∀ j : Fin 4, sumTo (fun k => if meetB (2 ^ k) j.val = true then 1 else 0) 2 = cnt j.val := by decide
theorem meet_count3 : ∀ j : Fin 8, sumTo (fun k => if meetB (2 ^ k) j.val = true then 1 else 0) 3 = cnt j.val := by decide
theorem meet_count4 : ∀ j : Fin 16, sumTo (fun k => if meetB (2 ^ k) j.val = true then 1 else 0) 4 = cnt j.val := by decide
theorem meet_count {m j : Nat} (hm : m = 1 ∨ m = 2 ∨ m = 3 ∨ m = 4) (hj : j < 2 ^ m) : sumTo (fun k => if meetB (2 ^ k) j = true then 1 else 0) m = cnt j := by
  rcases hm with rfl | rfl | rfl | rfl
  · exact meet_count1 ⟨j, hj⟩
  · exact meet_count2 ⟨j, hj⟩
  · exact meet_count3 ⟨j, hj⟩
  · exact meet_count4 ⟨j, hj⟩
theorem contour_sum {xs : List Int} {m : Nat} (hm : m = 1 ∨ m = 2 ∨ m = 3 ∨ m = 4) (hn : xs.length = 2 ^ m) : sumTo (fun k => partOf (fun j => meetB (2 ^ k) j) xs) m = sumTo (sizeF xs) xs.length := by
  unfold partOf
  rw [sumTo_swap]
  refine sumTo_congr _ (fun j hj => ?_)
  have h1 := meet_count hm (j := j) (by omega)
  unfold sizeF
  rw [← h1, ← sumTo_mul]
  refine sumTo_congr m (fun k _ => ?_)
  unfold partF
  split <;> simp
theorem cnt_size {m j : Nat} (hm : m = 1 ∨ m = 2 ∨ m = 3 ∨ m = 4) (hj : j < 2 ^ m) : cnt j ≤ m := by
  unfold cnt
  rcases hm with rfl | rfl | rfl | rfl <;> omega
theorem size_le {xs : List Int} {m n : Nat} (hm : m = 1 ∨ m = 2 ∨ m = 3 ∨ m = 4) (hn : xs.length = n) (h2 : n = 2 ^ m) (h : ∀ k, k < n → 0 ≤ xs.getD k 0) : sumTo (sizeF xs) n ≤ m * sumL xs := by
  unfold sumL
  rw [hn, ← sumTo_mul]
  refine sumTo_le n (fun k hk => ?_)
  have h1 := cnt_size hm (j := k) (by omega)
  unfold sizeF
  rw [Int.mul_comm]
  exact Int.mul_le_mul_of_nonneg_right (by omega) (h k hk)
/-- single answers alone have parts -/
theorem chance_size {xs : List Int} (h : ∀ k, k < xs.length → xs.getD k 0 = 0 ∨ cnt k = 1) : sumTo (sizeF xs) xs.length = sumL xs := by
  unfold sumL
  refine sumTo_congr _ (fun k hk => ?_)
  unfold sizeF
  rcases h k hk with h0 | h1
  · rw [h0]; simp
  · rw [h1]; simp
end
/-! Plain laws on sums with signs: common and possible parts tell each other; belief and possibility are dual. No condition. -/
section
variable {xs : List Int} {n : Nat}
theorem lin_swap (c : Nat → Int) (p : Nat → Nat → Bool) (m : Nat) (hn : xs.length = n) :
    sumTo (fun b => c b * partOf (p b) xs) m = sumTo (fun k => sumTo (fun b => if p b k = true then c b else 0) m * xs.getD k 0) n := by
  simp only [partOf, hn, ← sumTo_mul]
  rw [sumTo_swap]
  refine sumTo_congr n (fun k _ => ?_)
  rw [← sumTo_mul_right]
  refine sumTo_congr m (fun b _ => ?_)
  simp only [partF]
  split <;> simp
theorem part_lin (p : Nat → Bool) (hn : xs.length = n) : partOf p xs = sumTo (fun k => (if p k = true then 1 else 0) * xs.getD k 0) n := by
  simp only [partOf, hn]
  refine sumTo_congr n (fun k _ => ?_)
  simp only [partF]
  split <;> simp
/-- the subsets of a set, ascending -/
def subsN (a : Nat) : List Nat := (List.range (a + 1)).filter (fun b => subB b a)
def subAt (a i : Nat) : Nat := (subsN a).getD i 0
def wgt (b : Nat) : Int := if b = 0 then 0 else - sgn b
theorem moeb_possible : ∀ a k : Fin 16, sumTo (fun b => if subB (subAt a.val b) k.val = true then wgt (subAt a.val b) else 0) (subsN a.val).length = if meetB a.val k.val = true then 1 else 0 := by decide +kernel
theorem moeb_common : ∀ a k : Fin 16, a.val ≠ 0 → sumTo (fun b => if meetB (subAt a.val b) k.val = true then wgt (subAt a.val b) else 0) (subsN a.val).length = if subB a.val k.val = true then 1 else 0 := by decide +kernel
/-- what is possible is the sum of what is common, with signs -/
theorem possible_common (hn : xs.length = n) (h16 : n ≤ 16) {a : Nat} (ha : a < 16) :
    sumTo (fun b => wgt (subAt a b) * partOf (fun j => subB (subAt a b) j) xs) (subsN a).length = partOf (fun j => meetB a j) xs := by
  rw [lin_swap (fun b => wgt (subAt a b)) (fun b j => subB (subAt a b) j) _ hn, part_lin _ hn]
  exact sumTo_congr n (fun k hk => by rw [moeb_possible ⟨a, ha⟩ ⟨k, by omega⟩])
/-- what is common is the sum of what is possible, with signs -/
theorem common_possible (hn : xs.length = n) (h16 : n ≤ 16) {a : Nat} (ha : a < 16) (h0 : a ≠ 0) :
    sumTo (fun b => wgt (subAt a b) * partOf (fun j => meetB (subAt a b) j) xs) (subsN a).length = partOf (fun j => subB a j) xs := by
  rw [lin_swap (fun b => wgt (subAt a b)) (fun b j => meetB (subAt a b) j) _ hn, part_lin _ hn]
  exact sumTo_congr n (fun k hk => by rw [moeb_common ⟨a, ha⟩ ⟨k, by omega⟩ h0])
theorem one_meet : ∀ x : Fin 4, ∀ k : Fin 16, meetB (2 ^ x.val) k.val = subB (2 ^ x.val) k.val := by decide +kernel
theorem part_congr {p q : Nat → Bool} (hn : xs.length = n) (h : ∀ k, k < n → p k = q k) : partOf p xs = partOf q xs := by
  simp only [partOf, hn]
  exact sumTo_congr n (fun k hk => by simp only [partF, h k hk])
theorem contour_common (hn : xs.length = n) (h16 : n ≤ 16) {x : Nat} (hx : x < 4) : partOf (fun j => meetB (2 ^ x) j) xs = partOf (fun j => subB (2 ^ x) j) xs :=
  part_congr hn (fun k hk => one_meet ⟨x, hx⟩ ⟨k, by omega⟩)
theorem dual2 : ∀ a k : Fin 2, meetB a.val k.val = !subB k.val (1 - a.val) := by decide +kernel
theorem dual4 : ∀ a k : Fin 4, meetB a.val k.val = !subB k.val (3 - a.val) := by decide +kernel
theorem dual8 : ∀ a k : Fin 8, meetB a.val k.val = !subB k.val (7 - a.val) := by decide +kernel
theorem dual16 : ∀ a k : Fin 16, meetB a.val k.val = !subB k.val (15 - a.val) := by decide +kernel
theorem dual_at (h : n = 2 ∨ n = 4 ∨ n = 8 ∨ n = 16) {a k : Nat} (ha : a < n) (hk : k < n) : meetB a k = !subB k (n - 1 - a) := by
  rcases h with rfl | rfl | rfl | rfl
  · exact dual2 ⟨a, ha⟩ ⟨k, hk⟩
  · exact dual4 ⟨a, ha⟩ ⟨k, hk⟩
  · exact dual8 ⟨a, ha⟩ ⟨k, hk⟩
  · exact dual16 ⟨a, ha⟩ ⟨k, hk⟩
/-- belief and possibility are dual -/
theorem possible_dual (hn : xs.length = n) (h : n = 2 ∨ n = 4 ∨ n = 8 ∨ n = 16) {a : Nat} (ha : a < n) :
    partOf (fun j => meetB a j) xs + partOf (fun j => subB j (n - 1 - a)) xs = sumL xs := by
  simp only [partOf, sumL, hn, ← sumTo_add]
  refine sumTo_congr n (fun k hk => ?_)
  rw [partF, partF, dual_at h ha hk]
  by_cases p : subB k (n - 1 - a) = true <;> simp [p]
theorem sub_meet16 : ∀ a k : Fin 16, k.val ≠ 0 → subB k.val a.val = true → meetB a.val k.val = true := by decide +kernel
/-- what is believed is possible -/
theorem believed_possible (hn : xs.length = n) (h1 : 1 ≤ n) (h16 : n ≤ 16) (h : ∀ k, k < n → 0 ≤ xs.getD k 0) {a : Nat} (ha : a < 16) :
    partOf (fun j => subB j a) xs - xs.getD 0 0 ≤ partOf (fun j => meetB a j) xs := by
  have h2 : partOf (fun j => subB j a) xs ≤ partOf (fun j => meetB a j) xs + sumTo (fun k => if k = 0 then xs.getD 0 0 else 0) n := by
    simp only [partOf, hn, ← sumTo_add]
    refine sumTo_le n (fun k hk => ?_)
    have h0 := h k hk
    have h3 := sub_meet16 ⟨a, ha⟩ ⟨k, by omega⟩
    simp only at h3
    by_cases e : k = 0
    · subst e
      simp only [partF, if_pos]
      generalize xs.getD 0 0 = v at h0 ⊢
      split <;> split <;> omega
    · simp only [partF, e, if_false]
      generalize xs.getD k 0 = v at h0 ⊢
      by_cases p : subB k a = true
      · simp [p, h3 e p]
      · simp [p]; split <;> omega
  rw [sumTo_one] at h2
  simp only [show 0 < n by omega, if_true] at h2
  omega
/-- single answers alone have parts -/
def singleB (xs : List Int) : Bool := decide (∀ k, k < xs.length → xs.getD k 0 = 0 ∨ cnt k = 1)
theorem single_is {xs : List Int} (hn : xs.length = n) (h : singleB xs = true) (k : Nat) (hk : k < n) : xs.getD k 0 = 0 ∨ cnt k = 1 := by
  subst hn
  exact (of_decide_eq_true h) k hk
theorem one_sub16 : ∀ a k : Fin 16, cnt k.val = 1 → subB k.val a.val = meetB a.val k.val := by decide +kernel
theorem single_even (hn : xs.length = n) (h1 : 1 ≤ n) (h16 : n ≤ 16) (h : singleB xs = true) {a : Nat} (ha : a < 16) :
    partOf (fun j => subB j a) xs - xs.getD 0 0 = partOf (fun j => meetB a j) xs := by
  have h0 : xs.getD 0 0 = 0 := by
    rcases single_is hn h 0 (by omega) with e | e
    · exact e
    · simp [cnt] at e
  rw [h0, Int.sub_zero]
  simp only [partOf, hn]
  refine sumTo_congr n (fun k hk => ?_)
  rcases single_is hn h k hk with e | e
  · simp only [partF, e]; simp
  · have := one_sub16 ⟨a, ha⟩ ⟨k, by omega⟩ e
    simp only at this
    simp only [partF, this]
end
/-! Plain laws on tables: sums and parts undo each other; tables of beliefs are pairwise. No condition. -/
section
variable {xs : List Int} {n : Nat}
theorem over_over (f g : Nat → Nat → Int) (i : Nat) :
    over g (tab n (over f xs n)) n i = sumTo (fun k => xs.getD k 0 * sumTo (fun j => f j k * g i j) n) n := by
  have h1 : over g (tab n (over f xs n)) n i = sumTo (fun j => sumTo (fun k => xs.getD k 0 * (f j k * g i j)) n) n := by
    unfold over
    refine sumTo_congr n (fun j hj => ?_)
    rw [tab_getD n _ j hj, ← sumTo_mul_right]
    exact sumTo_congr n (fun k _ => by rw [Int.mul_assoc])
  rw [h1, sumTo_swap]
  exact sumTo_congr n (fun k _ => sumTo_mul _ _ _)
theorem delta_sum (f : Nat → Int) (i : Nat) (hi : i < n) : sumTo (fun k => f k * (if k = i then 1 else 0)) n = f i := by
  have h : sumTo (fun k => f k * (if k = i then 1 else 0)) n = sumTo (fun k => if k = i then f i else 0) n := sumTo_congr n (fun k _ => by
    by_cases e : k = i
    · subst e; simp
    · simp [e])
  rw [h, sumTo_one, if_pos hi]
def deltaB (n : Nat) (ab sg : Bool) : Bool := (List.range n).all fun i => (List.range n).all fun k => sumTo (fun j => facS ab (!sg) j k * facS ab sg i j) n == if k = i then 1 else 0
theorem delta_all : ∀ n ∈ [2, 4, 8, 16], ∀ ab sg : Bool, deltaB n ab sg = true := by decide +kernel
theorem delta_at (h : n = 2 ∨ n = 4 ∨ n = 8 ∨ n = 16) (ab sg : Bool) {i k : Nat} (hi : i < n) (hk : k < n) : sumTo (fun j => facS ab (!sg) j k * facS ab sg i j) n = if k = i then 1 else 0 := by
  have h1 := delta_all n (by simp; omega) ab sg
  unfold deltaB at h1
  have h2 := List.all_eq_true.1 (List.all_eq_true.1 h1 i (by simpa using hi)) k (by simpa using hk)
  simpa using h2
/-- parts of sums and sums of parts are the table again -/
theorem sums_back (hn : xs.length = n) (h : n = 2 ∨ n = 4 ∨ n = 8 ∨ n = 16) (ab sg : Bool) : sums ab sg (sums ab (!sg) xs) = xs := by
  have hl : (sums ab (!sg) xs).length = n := by rw [sums_length, hn]
  refine getD_ext (n := n) (by rw [sums_length, hl]) hn (fun i hi => ?_)
  rw [sums_getD _ _ _ _ (by omega), hl]
  show over (facS ab sg) (tab xs.length (over (facS ab (!sg)) xs xs.length)) n i = _
  rw [hn, over_over]
  rw [← delta_sum (n := n) (fun k => xs.getD k 0) i hi]
  exact sumTo_congr n (fun k hk => by rw [delta_at h ab sg hi hk])
theorem parts_sums (hn : xs.length = n) (h : n = 2 ∨ n = 4 ∨ n = 8 ∨ n = 16) (ab : Bool) : sums ab true (sums ab false xs) = xs := sums_back hn h ab true
theorem sums_parts (hn : xs.length = n) (h : n = 2 ∨ n = 4 ∨ n = 8 ∨ n = 16) (ab : Bool) : sums ab false (sums ab true xs) = xs := sums_back hn h ab false
def firstB (n : Nat) : Bool := (List.range n).all fun k => (facS false true 0 k == if k = 0 then 1 else 0) && (facS true true (n - 1) k == if k = n - 1 then 1 else 0)
theorem first_all : ∀ n ∈ [2, 4, 8, 16], firstB n = true := by decide +kernel
theorem first_at (h : n = 2 ∨ n = 4 ∨ n = 8 ∨ n = 16) {k : Nat} (hk : k < n) : facS false true 0 k = (if k = 0 then 1 else 0) ∧ facS true true (n - 1) k = if k = n - 1 then 1 else 0 := by
  have h1 := first_all n (by simp; omega)
  unfold firstB at h1
  have h2 := List.all_eq_true.1 h1 k (by simpa using hk)
  simpa using h2
theorem parts_first (hn : xs.length = n) (h : n = 2 ∨ n = 4 ∨ n = 8 ∨ n = 16) : (sums false true xs).getD 0 0 = xs.getD 0 0 := by
  rw [sums_getD _ _ _ _ (by omega), hn]
  rw [← delta_sum (n := n) (fun k => xs.getD k 0) 0 (by omega)]
  exact sumTo_congr n (fun k hk => by rw [(first_at h hk).1])
theorem parts_last (hn : xs.length = n) (h : n = 2 ∨ n = 4 ∨ n = 8 ∨ n = 16) : (sums true true xs).getD (n - 1) 0 = xs.getD (n - 1) 0 := by
  rw [sums_getD _ _ _ _ (by omega), hn]
  rw [← delta_sum (n := n) (fun k => xs.getD k 0) (n - 1) (by omega)]
  exact sumTo_congr n (fun k hk => by rw [(first_at h hk).2])
def mirrorB (n : Nat) : Bool := (List.range n).all fun i => (List.range n).all fun k => facS true false (n - 1 - i) (n - 1 - k) == facS false false i k
theorem mirror_all : ∀ n ∈ [2, 4, 8, 16], mirrorB n = true := by decide +kernel
theorem mirror_at (h : n = 2 ∨ n = 4 ∨ n = 8 ∨ n = 16) {i k : Nat} (hi : i < n) (hk : k < n) : facS true false (n - 1 - i) (n - 1 - k) = facS false false i k := by
  have h1 := mirror_all n (by simp; omega)
  unfold mirrorB at h1
  have h2 := List.all_eq_true.1 (List.all_eq_true.1 h1 i (by simpa using hi)) k (by simpa using hk)
  simpa using h2
/-- sums above are sums below of all other sets -/
theorem sums_turned (hn : xs.length = n) (h : n = 2 ∨ n = 4 ∨ n = 8 ∨ n = 16) {i : Nat} (hi : i < n) : (sums true false (turned xs)).getD (n - 1 - i) 0 = (sums false false xs).getD i 0 := by
  have hl : (turned xs).length = n := by rw [turned_length, hn]
  rw [sums_getD _ _ _ _ (by omega), sums_getD _ _ _ _ (by omega), hl, hn]
  unfold over
  rw [← sumTo_turn]
  refine sumTo_congr n (fun k hk => ?_)
  rw [turned_getD hn _ (by omega), mirror_at h hi hk, show n - 1 - (n - 1 - k) = k by omega]
theorem table_turned (h : tableB xs = true) : tableB (turned xs) = true := by
  obtain ⟨h1, h2⟩ := table_part rfl h
  unfold tableB
  rw [turned_length]
  have h3 : (turned xs).all isPartB = true := by
    rw [all_getD]
    intro k hk
    rw [turned_length] at hk
    rw [turned_getD rfl k hk]
    have h4 := h2 (xs.length - 1 - k) (by omega)
    unfold isPartB
    simp only [Bool.and_eq_true, decide_eq_true_eq]
    exact h4
  rw [h3]
  simp
  omega
/-- a table is the sums of its parts -/
theorem table_at (hn : xs.length = n) (h : n = 2 ∨ n = 4 ∨ n = 8 ∨ n = 16) {i : Nat} (hi : i < n) : xs.getD i 0 = partOf (fun j => subB j i) (sums false true xs) := by
  have h1 := sums_parts hn h false
  have hl : (sums false true xs).length = n := by rw [sums_length, hn]
  have h2 : xs.getD i 0 = (sums false false (sums false true xs)).getD i 0 := by rw [h1]
  rw [h2, sums_getD _ _ _ _ (by omega), hl, part_lin _ hl]
  unfold over
  refine sumTo_congr n (fun k _ => ?_)
  simp only [facS, Bool.false_eq_true, if_false]
  rw [Int.mul_comm]
/-- tables of beliefs are pairwise -/
theorem belief_pairwise (hn : xs.length = n) (h : n = 2 ∨ n = 4 ∨ n = 8 ∨ n = 16) (hp : partsB (sums false true xs) = true) : pairB xs = true := by
  have hl : (sums false true xs).length = n := by rw [sums_length, hn]
  refine pairB_true hn (fun i hi j hj => ?_)
  unfold goodPair
  rw [table_at hn h hi, table_at hn h hj, table_at hn h (or_lt h hi hj), table_at hn h (and_lt hi)]
  refine implied_super hl (by omega) (fun k hk => ?_) (by omega) (by omega)
  unfold partsB at hp
  simp only [Bool.and_eq_true] at hp
  have := all_getD.1 hp.1 k (by omega)
  simpa [nonnegB] using this
theorem hasB_or16 : ∀ a b : Fin 16, ∀ x : Fin 4, hasB (a.val ||| b.val) x.val = (hasB a.val x.val || hasB b.val x.val) := by decide +kernel
theorem hasB_and16 : ∀ a b : Fin 16, ∀ x : Fin 4, hasB (a.val &&& b.val) x.val = (hasB a.val x.val && hasB b.val x.val) := by decide +kernel
/-- additive tables are pairwise -/
theorem additive_pairwise (hn : xs.length = n) (h : n = 2 ∨ n = 4 ∨ n = 8 ∨ n = 16) (hp : addB xs = true) : pairB xs = true := by
  have ha : ∀ a, a < n → addSum xs a = xs.getD a 0 := by subst hn; exact of_decide_eq_true hp
  refine pairB_true hn (fun i hi j hj => ?_)
  unfold goodPair
  rw [← ha i hi, ← ha j hj, ← ha _ (or_lt h hi hj), ← ha _ (and_lt hi)]
  unfold addSum
  rw [← sumTo_add, ← sumTo_add]
  refine sumTo_le 4 (fun x hx => ?_)
  have h1 := hasB_or16 ⟨i, by omega⟩ ⟨j, by omega⟩ ⟨x, hx⟩
  have h2 := hasB_and16 ⟨i, by omega⟩ ⟨j, by omega⟩ ⟨x, hx⟩
  simp only at h1 h2
  unfold addF
  rw [h1, h2]
  cases hasB i x <;> cases hasB j x <;> simp
def addCoefB (n : Nat) : Bool := (List.range n).all fun k => (List.range 4).all fun x => cnt k == 1 || (sumTo (fun j => (if hasB j x = true then 1 else 0) * facS false true k j) n == 0)
theorem addCoef_all : ∀ n ∈ [2, 4, 8, 16], addCoefB n = true := by decide +kernel
theorem addCoef_at (h : n = 2 ∨ n = 4 ∨ n = 8 ∨ n = 16) {k x : Nat} (hk : k < n) (hx : x < 4) (hc : ¬ cnt k = 1) : sumTo (fun j => (if hasB j x = true then 1 else 0) * facS false true k j) n = 0 := by
  have h1 := addCoef_all n (by simp; omega)
  unfold addCoefB at h1
  have h2 := List.all_eq_true.1 (List.all_eq_true.1 h1 k (by simpa using hk)) x (by simpa using hx)
  simpa [hc] using h2
/-- the parts of an additive table are those of single answers -/
theorem additive_single (hn : xs.length = n) (h : n = 2 ∨ n = 4 ∨ n = 8 ∨ n = 16) (hp : addB xs = true) : singleB (sums false true xs) = true := by
  have ha : ∀ a, a < n → addSum xs a = xs.getD a 0 := by subst hn; exact of_decide_eq_true hp
  unfold singleB
  refine decide_eq_true (fun k hk => ?_)
  rw [sums_length, hn] at hk
  by_cases hc : cnt k = 1
  · exact .inr hc
  · refine .inl ?_
    rw [sums_getD _ _ _ _ (by omega), hn]
    have h1 : over (facS false true) xs n k = sumTo (fun j => sumTo (fun x => xs.getD (2 ^ x) 0 * ((if hasB j x = true then 1 else 0) * facS false true k j)) 4) n := by
      unfold over
      refine sumTo_congr n (fun j hj => ?_)
      rw [← ha j hj]
      unfold addSum
      rw [← sumTo_mul_right]
      refine sumTo_congr 4 (fun x _ => ?_)
      unfold addF
      cases hasB j x <;> simp
    rw [h1, sumTo_swap]
    have h2 : sumTo (fun x => sumTo (fun j => xs.getD (2 ^ x) 0 * ((if hasB j x = true then 1 else 0) * facS false true k j)) n) 4 = sumTo (fun _ => 0) 4 := by
      refine sumTo_congr 4 (fun x hx => ?_)
      rw [sumTo_mul, addCoef_at h hk hx hc, Int.mul_zero]
    rw [h2, sumTo_zero]
def oneCoefB (n : Nat) : Bool := (List.range n).all fun a => (List.range n).all fun k => !(cnt k == 1) || (sumTo (fun x => if hasB a x = true then (if subB k (2 ^ x) = true then 1 else 0) else 0) 4 == if subB k a = true then 1 else 0)
theorem oneCoef_all : ∀ n ∈ [2, 4, 8, 16], oneCoefB n = true := by decide +kernel
theorem oneCoef_at (h : n = 2 ∨ n = 4 ∨ n = 8 ∨ n = 16) {a k : Nat} (ha : a < n) (hk : k < n) (hc : cnt k = 1) : sumTo (fun x => if hasB a x = true then (if subB k (2 ^ x) = true then 1 else 0) else 0) 4 = if subB k a = true then (1 : Int) else 0 := by
  have h1 := oneCoef_all n (by simp; omega)
  unfold oneCoefB at h1
  have h2 := List.all_eq_true.1 (List.all_eq_true.1 h1 a (by simpa using ha)) k (by simpa using hk)
  simpa [hc] using h2
/-- a table whose parts are those of single answers is additive -/
theorem single_additive (hn : xs.length = n) (h : n = 2 ∨ n = 4 ∨ n = 8 ∨ n = 16) (hp : singleB (sums false true xs) = true) : addB xs = true := by
  have hl : (sums false true xs).length = n := by rw [sums_length, hn]
  refine addB_true hn (fun a ha => ?_)
  rw [table_at hn h ha, part_lin _ hl]
  have h1 : addSum xs a = sumTo (fun x => sumTo (fun k => (sums false true xs).getD k 0 * (if hasB a x = true then (if subB k (2 ^ x) = true then 1 else 0) else 0)) n) 4 := by
    unfold addSum
    refine sumTo_congr 4 (fun x _ => ?_)
    unfold addF
    by_cases hb : hasB a x = true
    · have hx : 2 ^ x < n := Nat.lt_of_le_of_lt (has_le hb) ha
      rw [if_pos hb, table_at hn h hx, part_lin _ hl]
      refine sumTo_congr n (fun k _ => ?_)
      rw [if_pos hb, Int.mul_comm]
    · rw [if_neg hb]
      have h2 : sumTo (fun k => (sums false true xs).getD k 0 * (if hasB a x = true then (if subB k (2 ^ x) = true then 1 else 0) else 0)) n = sumTo (fun _ => 0) n := sumTo_congr n (fun k _ => by rw [if_neg hb, Int.mul_zero])
      rw [h2, sumTo_zero]
  rw [h1, sumTo_swap]
  refine sumTo_congr n (fun k hk => ?_)
  rw [sumTo_mul]
  rcases single_is hl hp k hk with e | e
  · rw [e]; simp
  · rw [oneCoef_at h ha hk e, Int.mul_comm]
end
/-! Plain facts: the mass that is sure of a set is one. No condition. -/
section
theorem sureL_getD {n c k : Nat} (hk : k < n) : (sureL n c).getD k 0 = if k = c then 1 else 0 := tab_getD _ _ _ hk
theorem sureL_length (n c : Nat) : (sureL n c).length = n := tab_length _ _
theorem sureL_sum {n c : Nat} (hc : c < n) : sumL (sureL n c) = 1 := by
  unfold sumL
  rw [sureL_length]
  have h : sumTo (fun k => (sureL n c).getD k 0) n = sumTo (fun k => if k = c then 1 else 0) n := sumTo_congr n (fun k hk => sureL_getD hk)
  rw [h, sumTo_one, if_pos hc]
theorem sure_mass {s : Int} {n c : Nat} (hs : sizeB s = true) (hf : fitB s n = true) (hc : c < n) : massB s (sureL n c) = true := by
  have hl := sureL_length n c
  have ha : (sureL n c).all (inMost 1000000) = true := by
    rw [all_getD]
    intro k hk
    rw [sureL_getD (by omega)]
    split <;> decide
  rw [massB_of hl hs hf ha, sureL_sum hc]
  have hg : gcdL (sureL n c) = 1 := by
    have h := gcdL_dvd hl c hc
    rw [sureL_getD hc, if_pos rfl] at h
    exact Nat.dvd_one.1 h
  rw [hg]
  decide
end
/-! Plain laws of turned masses: negation exchanges what is implied and what is common. No condition. -/
section
variable {xs : List Int} {n : Nat} {s : Int}
def mirror2B (n : Nat) : Bool := (List.range n).all fun a => (List.range n).all fun k => (subB (n - 1 - k) a == subB (n - 1 - a) k) && (eitherB (n - 1 - a) (n - 1 - k) == eitherB a k)
theorem mirror2_all : ∀ n ∈ [2, 4, 8, 16], mirror2B n = true := by decide +kernel
theorem mirror2_at (h : n = 2 ∨ n = 4 ∨ n = 8 ∨ n = 16) {a k : Nat} (ha : a < n) (hk : k < n) : subB (n - 1 - k) a = subB (n - 1 - a) k ∧ eitherB (n - 1 - a) (n - 1 - k) = eitherB a k := by
  have h1 := mirror2_all n (by simp; omega)
  unfold mirror2B at h1
  have h2 := List.all_eq_true.1 (List.all_eq_true.1 h1 a (by simpa using ha)) k (by simpa using hk)
  simpa using h2
theorem implied_turned (hn : xs.length = n) (h : n = 2 ∨ n = 4 ∨ n = 8 ∨ n = 16) {a : Nat} (ha : a < n) :
    partOf (fun j => subB j a) (turned xs) = partOf (fun j => subB (n - 1 - a) j) xs := by
  unfold partOf
  rw [turned_length, hn, ← sumTo_turn]
  refine sumTo_congr n (fun k hk => ?_)
  unfold partF
  rw [turned_getD hn _ (by omega), show n - 1 - (n - 1 - k) = k by omega]
  simp only [(mirror2_at h ha hk).1]
theorem turned_mass (hm : massB s xs = true) : massB s (turned xs) = true := by
  have hI := massB_is rfl hm
  have hl : (turned xs).length = xs.length := turned_length xs
  have ha : (turned xs).all (inMost 1000000) = true := by
    rw [all_getD]
    intro k hk
    rw [hl] at hk
    rw [turned_getD rfl k hk]
    have h1 := hI.part (xs.length - 1 - k) (by omega)
    unfold inMost
    simp only [Bool.and_eq_true, decide_eq_true_eq]
    exact h1
  have hx : xs.all (inMost 1000000) = true := by
    unfold massB at hm
    simp only [Bool.and_eq_true] at hm
    exact hm.1.1.2
  rw [massB_of (s := s) (n := xs.length) rfl hI.size hI.fit hx] at hm
  rw [massB_of (s := s) (n := xs.length) hl hI.size hI.fit ha, sumL_turned, gcdL_turned]
  exact hm
/-- the pairs of sets with parts -/
theorem nest_iff : nestB s xs = true ↔ massB s xs = true ∧ ∀ a, a < xs.length → ∀ b, b < xs.length → xs.getD a 0 ≠ 0 → xs.getD b 0 ≠ 0 → eitherB a b = true := by
  unfold nestB
  simp only [Bool.and_eq_true, List.all_eq_true, mem_focL]
  constructor
  · rintro ⟨h1, h2⟩
    exact ⟨h1, fun a ha b hb ha0 hb0 => h2 a ⟨ha, ha0⟩ b ⟨hb, hb0⟩⟩
  · rintro ⟨h1, h2⟩
    exact ⟨h1, fun a ha b hb => h2 a ha.1 b hb.1 ha.2 hb.2⟩
theorem nest_turned (hm : massB s xs = true) : nestB s (turned xs) = nestB s xs := by
  have hI := massB_is rfl hm
  have hl : (turned xs).length = xs.length := turned_length xs
  rw [Bool.eq_iff_iff, nest_iff, nest_iff, hl]
  constructor
  · rintro ⟨_, h2⟩
    refine ⟨hm, fun a ha b hb ha0 hb0 => ?_⟩
    rw [← (mirror2_at hI.nums ha hb).2]
    refine h2 _ (by omega) _ (by omega) ?_ ?_
    · rw [turned_getD rfl _ (by omega), show xs.length - 1 - (xs.length - 1 - a) = a by omega]; exact ha0
    · rw [turned_getD rfl _ (by omega), show xs.length - 1 - (xs.length - 1 - b) = b by omega]; exact hb0
  · rintro ⟨_, h2⟩
    refine ⟨turned_mass hm, fun a ha b hb ha0 hb0 => ?_⟩
    rw [turned_getD rfl a ha] at ha0
    rw [turned_getD rfl b hb] at hb0
    rw [← (mirror2_at hI.nums ha hb).2]
    exact h2 _ (by omega) _ (by omega) ha0 hb0
end
/-! Plain laws of normal masses: proportions, what is normal does not change. No condition. -/
section
variable {xs : List Int} {n : Nat} {s : Int}
theorem noNone_length (xs : List Int) : (noNone xs).length = xs.length := by simp [noNone]
theorem makeM_some {s t : Int} {ps ys : List Int} (h : makeM s ps = some (t, ys)) : t = s ∧ ys = low ps ∧ gcdL ps ≠ 0 ∧ massB s ys = true := by
  unfold makeM at h
  split at h
  · cases h
  · next hg =>
    split at h
    · next hm =>
      simp only [Option.some.injEq, Prod.mk.injEq] at h
      obtain ⟨rfl, rfl⟩ := h
      exact ⟨rfl, rfl, hg, hm⟩
    · cases h
theorem makeM_self {s : Int} {ys : List Int} (hm : massB s ys = true) : makeM s ys = some (s, ys) := by
  have hI := massB_is rfl hm
  have h1 : low ys = ys := low_one hI.gcd
  rw [makeM_yes (by rw [hI.gcd]; decide) (by rw [h1]; exact hm), h1]
/-- without the part of the set without answers there is a mass, unless that is all -/
theorem normal_none (hm : massB s xs = true) (h : normalR s xs = none) : xs.getD 0 0 = sumL xs := by
  have hI := massB_is rfl hm
  have hn1 : 1 ≤ xs.length := by have := hI.nums; omega
  have hs := noNone_sum (xs := xs) rfl hn1
  have hl : (noNone xs).length = xs.length := noNone_length xs
  have h0 := hI.part 0 (by omega)
  rcases Int.lt_or_le 0 (sumL (noNone xs)) with hp | hp
  · exfalso
    have hg : gcdL (noNone xs) ≠ 0 := fun e => by have := sum_of_zero rfl e; omega
    have hpart : ∀ k, k < xs.length → 0 ≤ (noNone xs).getD k 0 ∧ (noNone xs).getD k 0 ≤ 1000000 := fun k hk => by
      rw [noNone_getD rfl k hk]
      split
      · omega
      · exact hI.part k hk
    have hw := hI.whole
    have hmm := low_mass hI.size hI.fit hl hpart ⟨by omega, by omega⟩
    rw [show normalR s xs = makeM s (noNone xs) from if_pos hm] at h
    rw [makeM_yes hg hmm.2] at h
    cases h
  · have hnn : 0 ≤ sumL (noNone xs) := by
      unfold sumL
      refine sumTo_nonneg _ (fun k hk => ?_)
      rw [hl] at hk
      rw [noNone_getD rfl k hk]
      split
      · omega
      · exact (hI.part k hk).1
    omega
structure Normal (s : Int) (n : Nat) (xs ys : List Int) : Prop where
  len : ys.length = n
  mass : massB s ys = true
  zero : ys.getD 0 0 = 0
  prop : ∀ a f, 1 ≤ a → a < n → f < n → ys.getD f 0 ≠ 0 → xs.getD a 0 * ys.getD f 0 = ys.getD a 0 * xs.getD f 0
  again : normalR s ys = some (s, ys)
  same : ((s == s) && eqB ys xs) = normB s xs
theorem normal_some {t : Int} {ys : List Int} (hn : xs.length = n) (hm : massB s xs = true) (h : normalR s xs = some (t, ys)) : t = s ∧ Normal s n xs ys := by
  have hI := massB_is hn hm
  have hn1 : 1 ≤ n := by have := hI.nums; omega
  rw [show normalR s xs = makeM s (noNone xs) from if_pos hm] at h
  obtain ⟨rfl, rfl, hg, hmk⟩ := makeM_some h
  have hl : (noNone xs).length = n := by rw [noNone_length, hn]
  have hz : (low (noNone xs)).getD 0 0 = 0 := by
    rw [low_getD hl 0 (by omega), noNone_getD hn 0 (by omega)]
    simp
  have hmul : ∀ k, k < n → k ≠ 0 → (gcdL (noNone xs) : Int) * (low (noNone xs)).getD k 0 = xs.getD k 0 := fun k hk h0 => by
    rw [low_mul hl k hk, noNone_getD hn k hk, if_neg h0]
  refine ⟨rfl, ⟨by rw [low_length, hl], hmk, hz, fun a f ha han hf hnz => ?_, ?_, ?_⟩⟩
  · have hf0 : f ≠ 0 := fun e => by subst e; exact hnz hz
    rw [← hmul a han (by omega), ← hmul f hf hf0]
    rw [Int.mul_assoc, Int.mul_left_comm]
  · rw [show normalR t (low (noNone xs)) = makeM t (noNone (low (noNone xs))) from if_pos hmk, noNone_self hz]
    exact makeM_self hmk
  · unfold normB
    rw [hm]
    by_cases h0 : xs.getD 0 0 = 0
    · have e1 : noNone xs = xs := noNone_self h0
      rw [e1, low_one hI.gcd, h0]
      simp [eqB_self]
    · have hne : eqB (low (noNone xs)) xs = false := by
        simp only [eqB, decide_eq_false_iff_not]
        intro e
        rw [e] at hz
        exact h0 hz
      rw [hne]
      simp only [Bool.and_false, Bool.true_and]
      symm
      simpa using h0
theorem focal_first (hn : xs.length = n) (hm : massB s xs = true) : 0 < (focL xs n).length := by
  have hI := massB_is hn hm
  rcases Nat.eq_zero_or_pos (focL xs n).length with h | h
  · exfalso
    have hnil : focL xs n = [] := List.length_eq_zero_iff.1 h
    have hz : ∀ k, k < n → xs.getD k 0 = 0 := fun k hk => by
      by_cases e : xs.getD k 0 = 0
      · exact e
      · have := (mem_focL n).2 ⟨hk, e⟩
        rw [hnil] at this
        cases this
    have hs : sumL xs = 0 := by
      unfold sumL
      rw [hn, sumTo_congr (g := fun _ => 0) n hz, sumTo_zero]
    have := hI.whole
    omega
  · exact h
end
/-! Plain laws of the mean size. No condition. -/
section
variable {xs : List Int} {n : Nat} {s : Int}
theorem size_pow (hn : xs.length = n) (hm : massB s xs = true) : ∃ m : Nat, s = m ∧ (m = 1 ∨ m = 2 ∨ m = 3 ∨ m = 4) ∧ n = 2 ^ m := by
  have hI := massB_is hn hm
  obtain ⟨m, rfl, h1, h2⟩ := size_is hI.size
  have hnn : (n : Int) = 2 ^ (m : Int).toNat := by simpa [fitB] using hI.fit
  rw [Int.toNat_natCast] at hnn
  exact ⟨m, rfl, by omega, by exact_mod_cast hnn⟩
theorem one_cnt16 : ∀ a : Fin 16, oneB a.val = true → cnt a.val = 1 := by decide +kernel
theorem chan_cnt (hn : xs.length = n) (hc : chanB s xs = true) (k : Nat) (hk : k < n) : xs.getD k 0 = 0 ∨ cnt k = 1 := by
  unfold chanB at hc
  simp only [Bool.and_eq_true, List.all_eq_true] at hc
  have hI := massB_is hn hc.1
  by_cases h : xs.getD k 0 = 0
  · exact .inl h
  · refine .inr (one_cnt16 ⟨k, by have := hI.nums; omega⟩ (hc.2 k ?_))
    exact (mem_focL _).2 ⟨by omega, h⟩
structure Mean (s : Int) (n m : Nat) (xs : List Int) (z d p q : Int) : Prop where
  size : s = m
  m4 : 1 ≤ m ∧ m ≤ 4
  sum : sumTo (fun k => partOf (fun j => meetB (2 ^ k) j) xs) m = z
  zb : 0 ≤ z ∧ z ≤ 64000000
  db : 1 ≤ d ∧ d ≤ 1000000
  part : ∀ k, 0 ≤ partOf (fun j => meetB (2 ^ k) j) xs ∧ partOf (fun j => meetB (2 ^ k) j) xs ≤ 16000000
  frac : fracOf z d = some (p, q)
  valid : fracB p q = true
  le : p ≤ s * q
  one : chanB s xs = true → p = 1 ∧ q = 1
theorem mean_some {p q : Int} (hn : xs.length = n) (hm : massB s xs = true) (h : meanR s xs = some (p, q)) : ∃ m z, Mean s n m xs z (sumL xs) p q := by
  have hI := massB_is hn hm
  obtain ⟨m, rfl, hm4, hp⟩ := size_pow hn hm
  have hw := hI.whole
  have h16 : n ≤ 16 := by have := hI.nums; omega
  have hfr : fracOf (sumTo (sizeF xs) xs.length) (sumL xs) = some (p, q) := by
    rw [← h]; unfold meanR fracM; rw [if_pos hm]
  have hpart : ∀ k, 0 ≤ partOf (fun j => meetB (2 ^ k) j) xs ∧ partOf (fun j => meetB (2 ^ k) j) xs ≤ 16000000 := fun k => by
    have := partOf_bound (pr := fun j => meetB (2 ^ k) j) hn hI.part
    omega
  have hcs := contour_sum hm4 (xs := xs) (by omega)
  obtain ⟨g, hg1, hg2, hg3, hg4, hg5, hv⟩ := fracOf_is hw.1 hfr
  refine ⟨m, sumTo (sizeF xs) xs.length, rfl, by omega, hcs, ?_, hw, hpart, hfr, hv, ?_, fun hc => ?_⟩
  · rw [← hcs]
    have := sumTo_between (f := fun k => partOf (fun j => meetB (2 ^ k) j) xs) m 16000000 (fun k _ => hpart k)
    have h4 : (m : Int) ≤ 4 := by omega
    omega
  · refine frac_le hw.1 hfr ?_
    rw [hn]
    exact size_le hm4 hn hp (fun k hk => (hI.part k hk).1)
  · have h1 := chance_size (xs := xs) (fun k hk => chan_cnt hn hc k (by omega))
    rw [h1, fracOf_self hw.1] at hfr
    simp only [Option.some.injEq, Prod.mk.injEq] at hfr
    omega
end
/-! Plain laws of chances: the chance of each set is a fraction; the most believed answer has the greatest one. No condition. -/
section
variable {xs : List Int} {n : Nat} {s : Int}
theorem frac_ok {num den : Int} (hn : 0 ≤ num ∧ num ≤ 1000000000) (hd : 1 ≤ den ∧ den ≤ 1000000000) : ∃ p q, fracOf num den = some (p, q) := by
  have hd0 : ¬ den < 0 := by omega
  unfold fracOf
  simp only [hd0, if_false]
  obtain ⟨g, hg⟩ : ∃ g, g = Nat.gcd num.natAbs den.natAbs := ⟨_, rfl⟩
  rw [← hg]
  have hg1 : 1 ≤ g := by rw [hg]; exact Nat.gcd_pos_of_pos_right _ (by omega)
  have d1 : (g : Int) ∣ num := by rw [hg]; exact Int.ofNat_dvd_left.2 (Nat.gcd_dvd_left _ _)
  have d2 : (g : Int) ∣ den := by rw [hg]; exact Int.ofNat_dvd_left.2 (Nat.gcd_dvd_right _ _)
  obtain ⟨p, hp⟩ : ∃ p, p = num.tdiv (g : Int) := ⟨_, rfl⟩
  obtain ⟨q, hq⟩ : ∃ q, q = den.tdiv (g : Int) := ⟨_, rfl⟩
  have hp1 : p * g = num := by rw [hp]; exact Int.tdiv_mul_cancel d1
  have hq1 : q * g = den := by rw [hq]; exact Int.tdiv_mul_cancel d2
  have hp0 : 0 ≤ p := by rw [hp]; exact Int.tdiv_nonneg hn.1 (by omega)
  have hq0 : 0 ≤ q := by rw [hq]; exact Int.tdiv_nonneg (by omega) (by omega)
  have hqp : q ≠ 0 := by intro e; rw [e] at hq1; simp at hq1; omega
  have hple : p ≤ num := by
    have := Int.mul_le_mul_of_nonneg_left (show (1 : Int) ≤ (g : Int) by omega) hp0
    omega
  have hqle : q ≤ den := by
    have := Int.mul_le_mul_of_nonneg_left (show (1 : Int) ≤ (g : Int) by omega) hq0
    omega
  have hgc : Nat.gcd p.natAbs q.natAbs = 1 := by
    have h1 : num.natAbs = p.natAbs * g := by rw [← hp1, Int.natAbs_mul]; simp
    have h2 : den.natAbs = q.natAbs * g := by rw [← hq1, Int.natAbs_mul]; simp
    have h3 : Nat.gcd p.natAbs q.natAbs * g = g := by rw [← Nat.gcd_mul_right, ← h1, ← h2, ← hg]
    exact Nat.eq_of_mul_eq_mul_right (show 0 < g by omega) (by rw [h3, Nat.one_mul])
  rw [← hp, ← hq]
  have hb : fracB p q = true := by
    unfold fracB isPartB
    simp only [Bool.and_eq_true, decide_eq_true_eq, beq_iff_eq]
    exact ⟨⟨⟨by omega, by omega⟩, by omega, by omega⟩, hgc⟩
  rw [if_pos hb]
  exact ⟨p, q, rfl⟩
theorem cnt_and16 : ∀ a b : Fin 16, cnt (b.val &&& a.val) ≤ cnt b.val := by decide +kernel
theorem evenF_le {x : Int} (hx : 0 ≤ x ∧ x ≤ 1000000) {a b : Nat} (ha : a < 16) (hb : b < 16) {xs : List Int} (hxe : xs.getD b 0 = x) : 0 ≤ evenF a xs b ∧ evenF a xs b ≤ 12 * (if b = 0 then 0 else x) := by
  unfold evenF
  rw [hxe]
  by_cases h0 : b = 0
  · subst h0; simp [cnt]
  · have hc := cnt_and16 ⟨a, ha⟩ ⟨b, hb⟩
    simp only at hc
    have hp := cnt_pos b h0 hb
    obtain ⟨c, hce⟩ : ∃ c, c = cnt b := ⟨_, rfl⟩
    obtain ⟨d, hde⟩ : ∃ d, d = cnt (b &&& a) := ⟨_, rfl⟩
    rw [← hce, ← hde] at hc
    rw [← hce] at hp
    rw [← hce, ← hde, if_neg h0]
    have h1 : 0 ≤ x * (d : Int) := Int.mul_nonneg hx.1 (by omega)
    have h2 : x * (d : Int) ≤ x * (c : Int) := Int.mul_le_mul_of_nonneg_left (by omega) hx.1
    refine ⟨Int.ediv_nonneg (by omega) (by omega), ?_⟩
    refine Int.ediv_le_of_le_mul (by omega) ?_
    have h3 : 12 * x * (c : Int) = x * (c : Int) * 12 := by rw [Int.mul_assoc, Int.mul_comm]
    omega
/-- what a set gets is between 0 and what all sets with answers have -/
theorem even_le (hn : xs.length = n) (hm : massB s xs = true) {a : Nat} (ha : a < 16) : 0 ≤ evenOf a xs ∧ evenOf a xs ≤ 12 * (sumL xs - xs.getD 0 0) := by
  have hI := massB_is hn hm
  have h16 : n ≤ 16 := by have := hI.nums; omega
  have hb : ∀ k, k < n → 0 ≤ evenF a xs k ∧ evenF a xs k ≤ 12 * (if k = 0 then 0 else xs.getD k 0) := fun k hk => evenF_le (hI.part k hk) ha (by omega) rfl
  unfold evenOf
  rw [hn]
  refine ⟨sumTo_nonneg n (fun k hk => (hb k hk).1), ?_⟩
  have h1 := sumTo_le n (fun k hk => (hb k hk).2)
  rw [sumTo_mul] at h1
  have h2 := sum_split (fun k => xs.getD k 0) n (by have := hI.nums; omega)
  unfold sumL
  rw [hn]
  omega
/-- a chance is told of each set, unless the set without answers has all -/
theorem chance_some (hn : xs.length = n) (hm : massB s xs = true) (hz : ¬ sumL xs = xs.getD 0 0) {a : Nat} (ha : a < n) (hs : setB s (a : Int) = true) :
    ∃ p q, chanceR s xs (a : Int) = some (p, q) ∧ fracOf (evenOf a xs) (12 * (sumL xs - xs.getD 0 0)) = some (p, q) := by
  have hI := massB_is hn hm
  have h16 : n ≤ 16 := by have := hI.nums; omega
  have he := even_le hn hm (a := a) (by omega)
  have hw := hI.whole
  have h0 := hI.part 0 (by have := hI.nums; omega)
  have hle := sum_first hn (by have := hI.nums; omega) (fun k hk => (hI.part k hk).1)
  obtain ⟨p, q, hf⟩ := frac_ok (num := evenOf a xs) (den := 12 * (sumL xs - xs.getD 0 0)) (by omega) (by omega)
  refine ⟨p, q, ?_, hf⟩
  unfold chanceR fracM
  have hc : chanceB s xs (a : Int) = true := by unfold chanceB; rw [hm, hs]; simpa using hz
  rw [if_pos hc, Int.toNat_natCast, hf]
structure Best (s : Int) (n m : Nat) (xs : List Int) (b : Nat) : Prop where
  size : s = m
  pow : n = 2 ^ m
  m4 : 1 ≤ m ∧ m ≤ 4
  bm : b < m
  most : mostOf s xs = (b : Nat)
  lt : ∀ y, y < m → 2 ^ y < n
  cmp : ∀ y p q p2 q2, y < m → chanceR s xs ((2 ^ b : Nat) : Int) = some (p, q) → chanceR s xs ((2 ^ y : Nat) : Int) = some (p2, q2) → fracB p q = true ∧ fracB p2 q2 = true ∧ ¬ p * q2 < p2 * q ∧ (y < b → ¬ (p2 = p ∧ q2 = q))
  some : ∀ y, y < m → ∃ p q, chanceR s xs ((2 ^ y : Nat) : Int) = Option.some (p, q)
theorem best_some (hn : xs.length = n) (hm : massB s xs = true) (hz : ¬ sumL xs = xs.getD 0 0) : ∃ m b, Best s n m xs b := by
  have hI := massB_is hn hm
  obtain ⟨m, rfl, hm4, hp⟩ := size_pow hn hm
  have h16 : n ≤ 16 := by have := hI.nums; omega
  have hm1 : 1 ≤ m ∧ m ≤ 4 := by omega
  have hbm : bestOf xs m < m := bestOf_lt xs m (by omega)
  have hlt : ∀ y, y < m → 2 ^ y < n := fun y hy => by rw [hp]; exact Nat.pow_lt_pow_right (by decide) hy
  have hset : ∀ y, y < m → setB (m : Int) ((2 ^ y : Nat) : Int) = true := fun y hy => by
    have h1 := hlt y hy
    have h2 := hI.fit
    have hnn : (n : Int) = 2 ^ (m : Int).toNat := by simpa [fitB] using h2
    unfold setB
    rw [← hnn]
    obtain ⟨z, hz⟩ : ∃ z, z = 2 ^ y := ⟨_, rfl⟩
    rw [← hz] at h1 ⊢
    simp only [Bool.and_eq_true, decide_eq_true_eq]
    omega
  have hle := sum_first hn (by have := hI.nums; omega) (fun k hk => (hI.part k hk).1)
  refine ⟨m, bestOf xs m, rfl, hp, hm1, hbm, ?_, hlt, fun y p q p2 q2 hy h1 h2 => ?_, fun y hy => ?_⟩
  · rw [mostOf_yes hm hz, Int.toNat_natCast]
  · obtain ⟨a1, a2, a3, a4⟩ := chance_some hn hm hz (hlt _ hbm) (hset _ hbm)
    obtain ⟨c1, c2, c3, c4⟩ := chance_some hn hm hz (hlt _ hy) (hset _ hy)
    rw [h1] at a3
    rw [h2] at c3
    simp only [Option.some.injEq, Prod.mk.injEq] at a3 c3
    obtain ⟨rfl, rfl⟩ := a3
    obtain ⟨rfl, rfl⟩ := c3
    have hd : 1 ≤ 12 * (sumL xs - xs.getD 0 0) := by omega
    obtain ⟨_, _, _, _, _, _, v1⟩ := fracOf_is hd a4
    obtain ⟨_, _, _, _, _, _, v2⟩ := fracOf_is hd c4
    have hc := cross_lt hd a4 c4
    have hge := best_ge xs m y hy
    refine ⟨v1, v2, fun h => by have := hc.1 h; omega, fun hlt2 hpq => ?_⟩
    obtain ⟨rfl, rfl⟩ := hpq
    have := frac_inj hd a4 c4
    have h5 := best_gt xs m y hlt2
    omega
  · obtain ⟨c1, c2, c3, _⟩ := chance_some hn hm hz (hlt _ hy) (hset _ hy)
    exact ⟨c1, c2, c3⟩
end
/-! Plain laws of two masses put together: with no evidence, with being sure of nothing, negated, in another order, grouped. No condition. -/
section
variable {xs ys : List Int} {n : Nat}
theorem prods_sure {op : Nat → Nat → Nat} {c : Nat} (f : Nat → Nat) (hn : xs.length = n) (hc : c < n) (hf : ∀ a k, a < n → k < n → (op a c = k ↔ a = f k)) (hfk : ∀ k, k < n → f k < n) :
    prods op xs (sureL n c) = tab n (fun k => xs.getD (f k) 0) := by
  refine getD_ext (n := n) (by rw [prods_length, hn]) (tab_length _ _) (fun k hk => ?_)
  rw [prods_getD hn k hk, tab_getD _ _ _ hk]
  have h1 : ∀ a, a < n → sumTo (prodF op xs (sureL n c) a k) n = if a = f k then xs.getD (f k) 0 else 0 := fun a ha => by
    have h2 : sumTo (prodF op xs (sureL n c) a k) n = sumTo (fun b => if b = c then (if op a c = k then xs.getD a 0 else 0) else 0) n := sumTo_congr n (fun b hb => by
      unfold prodF
      rw [sureL_getD hb]
      by_cases e : b = c
      · subst e; simp
      · simp [e])
    rw [h2, sumTo_one, if_pos hc]
    by_cases e : a = f k
    · rw [if_pos e, if_pos ((hf a k ha hk).2 e), e]
    · rw [if_neg e, if_neg (fun h => e ((hf a k ha hk).1 h))]
  rw [sumTo_congr n h1, sumTo_one, if_pos (hfk k hk)]
def fullB (n : Nat) : Bool := (List.range n).all fun a => (a &&& (n - 1) == a) && (a ||| 0 == a) && (a ^^^ 0 == a) && (a ^^^ (n - 1) == n - 1 - a)
theorem full_all : ∀ n ∈ [2, 4, 8, 16], fullB n = true := by decide +kernel
theorem full_at (h : n = 2 ∨ n = 4 ∨ n = 8 ∨ n = 16) {a : Nat} (ha : a < n) : a &&& (n - 1) = a ∧ a ||| 0 = a ∧ a ^^^ 0 = a ∧ a ^^^ (n - 1) = n - 1 - a := by
  have h1 := full_all n (by simp; omega)
  unfold fullB at h1
  have h2 := List.all_eq_true.1 h1 a (by simpa using ha)
  simp only [Bool.and_eq_true, beq_iff_eq] at h2
  exact ⟨h2.1.1.1, h2.1.1.2, h2.1.2, h2.2⟩
theorem tab_id (hn : xs.length = n) : tab n (fun k => xs.getD k 0) = xs := tab_self xs n hn
theorem and_full (hn : xs.length = n) (h : n = 2 ∨ n = 4 ∨ n = 8 ∨ n = 16) : prods (fun a b => a &&& b) xs (sureL n (n - 1)) = xs := by
  rw [prods_sure id hn (by omega) (fun a k ha _ => by simp only [(full_at h ha).1, id]) (fun k hk => hk)]
  exact tab_id hn
theorem or_none (hn : xs.length = n) (h : n = 2 ∨ n = 4 ∨ n = 8 ∨ n = 16) : prods (fun a b => a ||| b) xs (sureL n 0) = xs := by
  rw [prods_sure id hn (by omega) (fun a k ha _ => by simp only [(full_at h ha).2.1, id]) (fun k hk => hk)]
  exact tab_id hn
theorem xor_none (hn : xs.length = n) (h : n = 2 ∨ n = 4 ∨ n = 8 ∨ n = 16) : prods (fun a b => a ^^^ b) xs (sureL n 0) = xs := by
  rw [prods_sure id hn (by omega) (fun a k ha _ => by simp only [(full_at h ha).2.2.1, id]) (fun k hk => hk)]
  exact tab_id hn
theorem xor_all (hn : xs.length = n) (h : n = 2 ∨ n = 4 ∨ n = 8 ∨ n = 16) : prods (fun a b => a ^^^ b) xs (sureL n (n - 1)) = turned xs := by
  rw [prods_sure (fun k => n - 1 - k) hn (by omega) (fun a k ha hk => by simp only [(full_at h ha).2.2.2]; omega) (fun k hk => by omega)]
  unfold turned
  rw [hn]
theorem if_iff {p q : Prop} [Decidable p] [Decidable q] {a b : Int} (h : p ↔ q) : (if p then a else b) = if q then a else b := by
  by_cases hp : p
  · rw [if_pos hp, if_pos (h.1 hp)]
  · rw [if_neg hp, if_neg (fun hq => hp (h.2 hq))]
def opsB (n : Nat) : Bool := (List.range n).all fun a => (List.range n).all fun b => ((n - 1 - a) &&& (n - 1 - b) == n - 1 - (a ||| b)) && ((n - 1 - a) ^^^ b == n - 1 - (a ^^^ b)) && decide (a ||| b < n) && decide (a ^^^ b < n)
theorem ops_all : ∀ n ∈ [2, 4, 8, 16], opsB n = true := by decide +kernel
theorem ops_at (h : n = 2 ∨ n = 4 ∨ n = 8 ∨ n = 16) {a b : Nat} (ha : a < n) (hb : b < n) : (n - 1 - a) &&& (n - 1 - b) = n - 1 - (a ||| b) ∧ (n - 1 - a) ^^^ b = n - 1 - (a ^^^ b) ∧ a ||| b < n ∧ a ^^^ b < n := by
  have h1 := ops_all n (by simp; omega)
  unfold opsB at h1
  have h2 := List.all_eq_true.1 (List.all_eq_true.1 h1 a (by simpa using ha)) b (by simpa using hb)
  simp only [Bool.and_eq_true, beq_iff_eq, decide_eq_true_eq] at h2
  exact ⟨h2.1.1.1, h2.1.1.2, h2.1.2, h2.2⟩
/-- both negated and conjoined: disjoined and negated -/
theorem turned_or (hn : xs.length = n) (hm : ys.length = n) (h : n = 2 ∨ n = 4 ∨ n = 8 ∨ n = 16) : prods (fun a b => a &&& b) (turned xs) (turned ys) = turned (prods (fun a b => a ||| b) xs ys) := by
  have hl : (prods (fun a b => a ||| b) xs ys).length = n := by rw [prods_length, hn]
  refine getD_ext (n := n) (by rw [prods_length, turned_length, hn]) (by rw [turned_length, hl]) (fun k hk => ?_)
  rw [prods_getD (by rw [turned_length, hn]) k hk, turned_getD hl k hk, prods_getD hn _ (by omega), ← sumTo_turn]
  refine sumTo_congr n (fun a ha => ?_)
  rw [← sumTo_turn]
  refine sumTo_congr n (fun b hb => ?_)
  unfold prodF
  obtain ⟨h1, _, h3, _⟩ := ops_at h ha hb
  rw [turned_getD hn _ (by omega), turned_getD hm _ (by omega), show n - 1 - (n - 1 - a) = a by omega, show n - 1 - (n - 1 - b) = b by omega]
  refine if_iff ?_
  show (n - 1 - a) &&& (n - 1 - b) = k ↔ a ||| b = n - 1 - k
  rw [h1]
  omega
/-- one negated: the difference negated -/
theorem turned_xor (hn : xs.length = n) (h : n = 2 ∨ n = 4 ∨ n = 8 ∨ n = 16) : prods (fun a b => a ^^^ b) (turned xs) ys = turned (prods (fun a b => a ^^^ b) xs ys) := by
  have hl : (prods (fun a b => a ^^^ b) xs ys).length = n := by rw [prods_length, hn]
  refine getD_ext (n := n) (by rw [prods_length, turned_length, hn]) (by rw [turned_length, hl]) (fun k hk => ?_)
  rw [prods_getD (by rw [turned_length, hn]) k hk, turned_getD hl k hk, prods_getD hn _ (by omega), ← sumTo_turn]
  refine sumTo_congr n (fun a ha => ?_)
  refine sumTo_congr n (fun b hb => ?_)
  unfold prodF
  obtain ⟨_, h2, _, h4⟩ := ops_at h ha hb
  rw [turned_getD hn _ (by omega), show n - 1 - (n - 1 - a) = a by omega]
  refine if_iff ?_
  show (n - 1 - a) ^^^ b = k ↔ a ^^^ b = n - 1 - k
  rw [h2]
  omega
theorem makeM_turned {s : Int} {ps zs : List Int} (h : makeM s ps = some (s, zs)) : makeM s (turned ps) = some (s, turned zs) := by
  obtain ⟨_, rfl, hg, hm⟩ := makeM_some h
  rw [makeM_yes (by rw [gcdL_turned]; exact hg) (by rw [low_turned]; exact turned_mass hm), low_turned]
/-- what is told of two masses, where something is told -/
structure Told (op : Nat → Nat → Nat) (s : Int) (n : Nat) (xs ys zs : List Int) : Prop where
  mx : massB s xs = true
  my : massB s ys = true
  lx : xs.length = n
  ly : ys.length = n
  nums : n = 2 ∨ n = 4 ∨ n = 8 ∨ n = 16
  make : makeM s (prods op xs ys) = some (s, zs)
  low : zs = low (prods op xs ys)
  gcd : gcdL (prods op xs ys) ≠ 0
  mass : massB s zs = true
  lz : zs.length = n
theorem told_some {op : Nat → Nat → Nat} {sM sN t : Int} {xs ys zs : List Int} (h : toldR op sM xs sN ys = some (t, zs)) : sN = sM ∧ t = sM ∧ ys.length = xs.length ∧ Told op sM xs.length xs ys zs := by
  unfold toldR at h
  split at h
  · next hb =>
    obtain ⟨iM, iN, hss, hnn⟩ := both_is (nM := xs.length) (nN := ys.length) rfl rfl hb
    unfold bothB at hb
    simp only [Bool.and_eq_true, beq_iff_eq] at hb
    obtain ⟨rfl, hz, hg, hm⟩ := makeM_some h
    subst hss
    exact ⟨rfl, rfl, hnn, ⟨hb.1.1, hb.1.2, rfl, hnn, iM.nums, h, hz, hg, hm, by rw [hz, low_length, prods_length]⟩⟩
  · cases h
theorem told_mk {op : Nat → Nat → Nat} {s : Int} {xs ys : List Int} (hx : massB s xs = true) (hy : massB s ys = true) : toldR op s xs s ys = makeM s (prods op xs ys) := by
  unfold toldR
  rw [if_pos (by simp [bothB, hx, hy])]
/-- in another order -/
theorem Told.turn {op : Nat → Nat → Nat} {s : Int} {zs : List Int} (h : Told op s n xs ys zs) (hop : ∀ i j, op i j = op j i) : toldR op s ys s xs = some (s, zs) := by
  rw [told_mk h.my h.mx, prods_comm h.ly h.lx hop]
  exact h.make
/-- with a source that changes nothing -/
theorem Told.same {op : Nat → Nat → Nat} {s : Int} {zs : List Int} {c : Nat} (h : Told op s n xs ys zs) (hc : c < n) (he : prods op xs (sureL n c) = xs) : toldR op s xs s (sureL n c) = some (s, xs) := by
  have hI := massB_is h.lx h.mx
  rw [told_mk h.mx (sure_mass hI.size hI.fit hc), he]
  exact makeM_self h.mx
theorem low_prods_right {op : Nat → Nat → Nat} {ps : List Int} (hn : xs.length = n) (hp : ps.length = n) (hop : ∀ i j, op i j = op j i) (h : gcdL ps ≠ 0) : low (prods op xs (low ps)) = low (prods op xs ps) := by
  rw [prods_comm hn (by rw [low_length, hp]) hop, low_prods_left h, prods_comm hn hp hop]
/-- grouped in another way -/
theorem Told.group {op : Nat → Nat → Nat} {s : Int} {ws zs us vs as : List Int} (hop : ∀ i j, op i j = op j i) (hlt : ∀ i j, i < n → j < n → op i j < n) (ha : ∀ i j k, op (op i j) k = op i (op j k))
    (h1 : Told op s n xs ys zs) (h2 : Told op s n zs ws us) (h3 : Told op s n ys ws vs) (h4 : Told op s n xs vs as) : us = as := by
  rw [h2.low, h1.low, low_prods_left h1.gcd, h4.low, h3.low, low_prods_right h1.lx (by rw [prods_length, h3.lx]) hop h3.gcd, prods_assoc h1.lx h1.ly hlt ha]
theorem part_whole {pr : Nat → Bool} (hn : xs.length = n) (h : ∀ k, k < n → 0 ≤ xs.getD k 0) : 0 ≤ partOf pr xs ∧ partOf pr xs ≤ sumL xs := by
  refine ⟨?_, ?_⟩
  · unfold partOf
    refine sumTo_nonneg _ (fun k hk => ?_)
    unfold partF
    split
    · exact h k (by omega)
    · exact Int.le_refl _
  · rw [← part_all (p := fun _ => true) hn (fun _ _ => rfl)]
    exact part_le hn h (fun _ _ _ => rfl)
theorem part_mass {pr : Nat → Bool} {s : Int} (hm : massB s xs = true) : 0 ≤ partOf pr xs ∧ partOf pr xs ≤ 1000000 := by
  have hI := massB_is rfl hm
  have h1 := part_whole (pr := pr) (xs := xs) rfl (fun k hk => (hI.part k hk).1)
  have := hI.whole
  omega
theorem sub_meet_and16 : ∀ a i j : Fin 16, subB a.val (i.val &&& j.val) = (subB a.val i.val && subB a.val j.val) := by decide +kernel
theorem sub_or_all16 : ∀ a i j : Fin 16, subB (i.val ||| j.val) a.val = (subB i.val a.val && subB j.val a.val) := by decide +kernel
/-- the common shares are the products -/
theorem Told.common {s : Int} {zs : List Int} (h : Told (fun a b => a &&& b) s n xs ys zs) {a : Nat} (ha : a < n) :
    partOf (fun j => subB a j) zs * sumL xs * sumL ys = partOf (fun j => subB a j) xs * partOf (fun j => subB a j) ys * sumL zs := by
  rw [h.low]
  have h16 := h.nums
  exact told_part h.lx h.ly (fun i j hi _ => and_lt hi) (fun i j hi hj => sub_meet_and16 ⟨a, by omega⟩ ⟨i, by omega⟩ ⟨j, by omega⟩)
/-- the implied shares are the products -/
theorem Told.implied {s : Int} {zs : List Int} (h : Told (fun a b => a ||| b) s n xs ys zs) {a : Nat} (ha : a < n) :
    partOf (fun j => subB j a) zs * sumL xs * sumL ys = partOf (fun j => subB j a) xs * partOf (fun j => subB j a) ys * sumL zs := by
  rw [h.low]
  have h16 := h.nums
  exact told_part h.lx h.ly (fun i j hi hj => or_lt h16 hi hj) (fun i j hi hj => sub_or_all16 ⟨a, by omega⟩ ⟨i, by omega⟩ ⟨j, by omega⟩)
end
end Go.Proofs.YtlfajalhoifliaaGreatDoor
