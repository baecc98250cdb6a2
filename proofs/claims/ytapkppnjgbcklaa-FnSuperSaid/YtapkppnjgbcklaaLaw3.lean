/- Plain laws on the products of two masses; no program in sight. No condition. -/
import Derived.Test.YtapkppnjgbcklaaLaw2
namespace Go.Proofs.Ytapkppnjgbcklaa

theorem sumTo_mul_right (c : Int) (f : Nat → Int) (n : Nat) : sumTo (fun k => f k * c) n = sumTo f n * c := by
  rw [show (fun k => f k * c) = (fun k => c * f k) from funext fun k => Int.mul_comm _ _, sumTo_mul, Int.mul_comm]
variable {xs ys : List Int} {n : Nat}
/-- the sum of the products for the sets of a kind -/
theorem part_prods {op : Nat → Nat → Nat} {pr : Nat → Bool} (hn : xs.length = n) (hop : ∀ i j, i < n → j < n → op i j < n) :
    partOf pr (prods op xs ys) = sumTo (fun a => sumTo (fun b => if pr (op a b) = true then xs.getD a 0 * ys.getD b 0 else 0) n) n := by
  have h1 : partOf pr (prods op xs ys) = sumTo (fun c => sumTo (fun a => sumTo (fun b => if pr c = true then prodF op xs ys a c b else 0) n) n) n := by
    unfold partOf
    rw [prods_length, hn]
    refine sumTo_congr n (fun c hc => ?_)
    unfold partF
    rw [prods, hn, tab_getD _ _ _ hc]
    by_cases h : pr c = true
    · simp only [h, if_true]
    · have hf : pr c = false := by simpa using h
      simp [hf, sumTo_zero]
  rw [h1, sumTo_swap]
  refine sumTo_congr n (fun a ha => ?_)
  rw [sumTo_swap]
  refine sumTo_congr n (fun b hb => ?_)
  have h2 := sumTo_one (if pr (op a b) = true then xs.getD a 0 * ys.getD b 0 else 0) (op a b) n
  rw [if_pos (hop a b ha hb)] at h2
  rw [← h2]
  refine sumTo_congr n (fun c _ => ?_)
  unfold prodF
  by_cases h : c = op a b
  · subst h; simp
  · simp [h, show ¬ op a b = c from fun e => h e.symm]
theorem mul_part {p q : Nat → Bool} (hn : xs.length = n) (hm : ys.length = n) :
    sumTo (fun a => sumTo (fun b => if (p a && q b) = true then xs.getD a 0 * ys.getD b 0 else 0) n) n = partOf p xs * partOf q ys := by
  unfold partOf
  rw [hn, hm, ← sumTo_mul_right]
  refine sumTo_congr n (fun a _ => ?_)
  rw [← sumTo_mul]
  refine sumTo_congr n (fun b _ => ?_)
  unfold partF
  by_cases h1 : p a = true <;> by_cases h2 : q b = true <;> simp [h1, h2]
/-- the share of a kind of sets in the products, where it is that of both -/
theorem prods_part {op : Nat → Nat → Nat} {pr p q : Nat → Bool} (hn : xs.length = n) (hm : ys.length = n) (hop : ∀ i j, i < n → j < n → op i j < n) (h : ∀ i j, i < n → j < n → pr (op i j) = (p i && q j)) :
    partOf pr (prods op xs ys) = partOf p xs * partOf q ys := by
  rw [part_prods hn hop, ← mul_part hn hm]
  refine sumTo_congr n (fun a ha => sumTo_congr n (fun b hb => ?_))
  rw [h a b ha hb]
theorem part_true : partOf (fun _ => true) xs = sumL xs := by
  unfold partOf sumL
  exact sumTo_congr _ (fun k _ => by simp [partF])
theorem prods_sum {op : Nat → Nat → Nat} (hn : xs.length = n) (hm : ys.length = n) (hop : ∀ i j, i < n → j < n → op i j < n) : sumL (prods op xs ys) = sumL xs * sumL ys := by
  rw [← part_true, ← part_true, ← part_true]
  exact prods_part hn hm hop (fun _ _ _ _ => rfl)
theorem low_part {pr : Nat → Bool} {ps : List Int} : (gcdL ps : Int) * partOf pr (low ps) = partOf pr ps := by
  unfold partOf
  rw [low_length, ← sumTo_mul]
  refine sumTo_congr _ (fun k hk => ?_)
  unfold partF
  split
  · exact low_mul rfl k hk
  · simp
/-- the shares of the mass of products -/
theorem told_part {op : Nat → Nat → Nat} {pr p q : Nat → Bool} (hn : xs.length = n) (hm : ys.length = n) (hop : ∀ i j, i < n → j < n → op i j < n) (h : ∀ i j, i < n → j < n → pr (op i j) = (p i && q j)) :
    partOf pr (low (prods op xs ys)) * sumL xs * sumL ys = partOf p xs * partOf q ys * sumL (low (prods op xs ys)) := by
  have h1 := low_part (pr := pr) (ps := prods op xs ys)
  have h2 := sumL_mul_low (ps := prods op xs ys)
  rw [prods_part hn hm hop h] at h1
  rw [prods_sum hn hm hop] at h2
  rw [Int.mul_assoc, ← h2, ← h1]
  rw [← Int.mul_assoc, Int.mul_comm (partOf pr _) _]
theorem getD_ext {n : Nat} (h1 : xs.length = n) (h2 : ys.length = n) (h : ∀ k, k < n → xs.getD k 0 = ys.getD k 0) : xs = ys := by
  rw [← tab_self xs n h1, ← tab_self ys n h2]
  exact tab_congr h
theorem prods_comm {op : Nat → Nat → Nat} (hn : xs.length = n) (hm : ys.length = n) (hop : ∀ i j, op i j = op j i) : prods op xs ys = prods op ys xs := by
  unfold prods
  rw [hn, hm]
  refine tab_congr (fun c _ => ?_)
  rw [sumTo_swap]
  refine sumTo_congr n (fun a _ => sumTo_congr n (fun b _ => ?_))
  unfold prodF
  rw [hop a b, Int.mul_comm]
/-- numbers each times a factor -/
def scale (c : Int) (ps : List Int) : List Int := ps.map (fun x => c * x)
theorem scale_length (c : Int) (ps : List Int) : (scale c ps).length = ps.length := by simp [scale]
theorem scale_getD {c : Int} {ps : List Int} (k : Nat) : (scale c ps).getD k 0 = c * ps.getD k 0 := by
  unfold scale
  by_cases h : k < ps.length
  · simp [List.getD, h]
  · simp [List.getD, h]
theorem prods_scale_left {op : Nat → Nat → Nat} (c : Int) : prods op (scale c xs) ys = scale c (prods op xs ys) := by
  refine getD_ext (n := xs.length) (by rw [prods_length, scale_length]) (by rw [scale_length, prods_length]) (fun k hk => ?_)
  rw [scale_getD]
  unfold prods
  rw [scale_length, tab_getD _ _ _ hk, tab_getD _ _ _ hk, ← sumTo_mul]
  refine sumTo_congr _ (fun a _ => ?_)
  rw [← sumTo_mul]
  refine sumTo_congr _ (fun b _ => ?_)
  unfold prodF
  rw [scale_getD]
  split
  · rw [Int.mul_assoc]
  · simp
theorem gcdL_scale {c : Nat} {ps : List Int} : gcdL (scale c ps) = c * gcdL ps := by
  apply Nat.dvd_antisymm
  · by_cases h0 : c = 0
    · subst h0
      have : gcdL (scale ((0 : Nat) : Int) ps) = 0 := by
        apply Nat.eq_zero_of_zero_dvd
        refine dvd_gcdL rfl _ (fun j hj => ?_)
        rw [scale_getD]; simp
      rw [this]; simp
    · -- c divides the divisor of the scaled numbers
      have hc : c ∣ gcdL (scale c ps) := dvd_gcdL rfl _ (fun j hj => by rw [scale_getD, Int.natAbs_mul, Int.natAbs_natCast]; exact Nat.dvd_mul_right _ _)
      obtain ⟨e, he⟩ := hc
      rw [he]
      refine Nat.mul_dvd_mul_left c (dvd_gcdL rfl _ (fun j hj => ?_))
      have h1 := gcdL_dvd (xs := scale c ps) (scale_length c ps) j hj
      rw [scale_getD, Int.natAbs_mul, he] at h1
      exact Nat.dvd_of_mul_dvd_mul_left (Nat.pos_of_ne_zero h0) (by simpa using h1)
  · refine dvd_gcdL rfl _ (fun j hj => ?_)
    rw [scale_length] at hj
    rw [scale_getD, Int.natAbs_mul]
    exact Nat.mul_dvd_mul (by simp) (gcdL_dvd rfl j hj)
theorem low_scale {c : Nat} {ps : List Int} (hc : c ≠ 0) : low (scale c ps) = low ps := by
  refine getD_ext (n := ps.length) (by rw [low_length, scale_length]) (low_length ps) (fun k hk => ?_)
  rw [low_getD (by rw [scale_length]) k hk, low_getD rfl k hk, gcdL_scale, scale_getD]
  rw [Int.natCast_mul]
  exact Int.mul_ediv_mul_of_pos _ _ (by omega)
theorem scale_low {ps : List Int} : scale (gcdL ps) (low ps) = ps := by
  refine getD_ext (n := ps.length) (by rw [scale_length, low_length]) rfl (fun k hk => ?_)
  rw [scale_getD]
  exact low_mul rfl k hk
/-- a factor in the first mass does not matter -/
theorem low_prods_left {op : Nat → Nat → Nat} {ps : List Int} (h : gcdL ps ≠ 0) : low (prods op (low ps) ys) = low (prods op ps ys) := by
  conv => rhs; rw [← scale_low (ps := ps), prods_scale_left, low_scale h]
theorem prods_getD {op : Nat → Nat → Nat} (hn : xs.length = n) (c : Nat) (hc : c < n) : (prods op xs ys).getD c 0 = sumTo (fun a => sumTo (prodF op xs ys a c) n) n := by
  rw [prods, hn, tab_getD _ _ _ hc]
theorem w_prods {op : Nat → Nat → Nat} {f : Nat → Int} (hn : xs.length = n) (hop : ∀ i j, i < n → j < n → op i j < n) :
    sumTo (fun c => f c * (prods op xs ys).getD c 0) n = sumTo (fun a => sumTo (fun b => f (op a b) * (xs.getD a 0 * ys.getD b 0)) n) n := by
  have h1 : sumTo (fun c => f c * (prods op xs ys).getD c 0) n = sumTo (fun c => sumTo (fun a => sumTo (fun b => f c * prodF op xs ys a c b) n) n) n := by
    refine sumTo_congr n (fun c hc => ?_)
    rw [prods_getD hn c hc, ← sumTo_mul]
    exact sumTo_congr n (fun a _ => (sumTo_mul _ _ _).symm)
  rw [h1, sumTo_swap]
  refine sumTo_congr n (fun a ha => ?_)
  rw [sumTo_swap]
  refine sumTo_congr n (fun b hb => ?_)
  have h2 := sumTo_one (f (op a b) * (xs.getD a 0 * ys.getD b 0)) (op a b) n
  rw [if_pos (hop a b ha hb)] at h2
  rw [← h2]
  refine sumTo_congr n (fun c _ => ?_)
  unfold prodF
  by_cases h : c = op a b
  · subst h; simp
  · simp [h, show ¬ op a b = c from fun e => h e.symm]
/-- the products of three -/
theorem prods_assoc {op : Nat → Nat → Nat} {zs : List Int} (hn : xs.length = n) (hm : ys.length = n) (hop : ∀ i j, i < n → j < n → op i j < n) (ha : ∀ i j k, op (op i j) k = op i (op j k)) :
    prods op (prods op xs ys) zs = prods op xs (prods op ys zs) := by
  have hP : (prods op xs ys).length = n := by rw [prods_length]; exact hn
  refine getD_ext (n := n) (by rw [prods_length]; exact hP) (by rw [prods_length]; exact hn) (fun c hc => ?_)
  rw [prods_getD hP c hc, prods_getD hn c hc]
  have h1 : sumTo (fun e => sumTo (prodF op (prods op xs ys) zs e c) n) n = sumTo (fun e => sumTo (fun d => if op e d = c then zs.getD d 0 else 0) n * (prods op xs ys).getD e 0) n := by
    refine sumTo_congr n (fun e _ => ?_)
    rw [← sumTo_mul_right]
    refine sumTo_congr n (fun d _ => ?_)
    unfold prodF
    split
    · exact Int.mul_comm _ _
    · simp
  have h2 : ∀ a, a < n → sumTo (prodF op xs (prods op ys zs) a c) n = xs.getD a 0 * sumTo (fun b => sumTo (fun d => (if op a (op b d) = c then 1 else 0) * (ys.getD b 0 * zs.getD d 0)) n) n := by
    intro a _
    rw [← w_prods (f := fun g => if op a g = c then 1 else 0) hm hop, ← sumTo_mul]
    refine sumTo_congr n (fun g _ => ?_)
    unfold prodF
    split <;> simp
  rw [h1, w_prods (f := fun e => sumTo (fun d => if op e d = c then zs.getD d 0 else 0) n) hn hop]
  refine sumTo_congr n (fun a han => ?_)
  rw [h2 a han, ← sumTo_mul]
  refine sumTo_congr n (fun b _ => ?_)
  rw [← sumTo_mul_right, ← sumTo_mul]
  refine sumTo_congr n (fun d _ => ?_)
  rw [ha]
  split
  · simp only [Int.one_mul]
    rw [Int.mul_comm, Int.mul_assoc]
  · simp
/-- the numbers of the other sets -/
theorem turned_getD (hn : xs.length = n) (k : Nat) (hk : k < n) : (turned xs).getD k 0 = xs.getD (n - 1 - k) 0 := by
  rw [turned, hn, tab_getD _ _ _ hk]
theorem turned_turned : turned (turned xs) = xs := by
  refine getD_ext (n := xs.length) (by rw [turned_length, turned_length]) rfl (fun k hk => ?_)
  rw [turned_getD (turned_length xs) k hk, turned_getD rfl _ (by omega)]
  congr 1
  omega
theorem gcdL_turned : gcdL (turned xs) = gcdL xs := by
  apply Nat.dvd_antisymm
  · refine dvd_gcdL rfl _ (fun j hj => ?_)
    have h1 := gcdL_dvd (turned_length xs) (xs.length - 1 - j) (by omega)
    rw [turned_getD rfl _ (by omega)] at h1
    rwa [show xs.length - 1 - (xs.length - 1 - j) = j by omega] at h1
  · refine dvd_gcdL (turned_length xs) _ (fun j hj => ?_)
    rw [turned_getD rfl j hj]
    exact gcdL_dvd rfl _ (by omega)
theorem low_turned : low (turned xs) = turned (low xs) := by
  refine getD_ext (n := xs.length) (by rw [low_length, turned_length]) (by rw [turned_length, low_length]) (fun k hk => ?_)
  rw [low_getD (turned_length xs) k hk, gcdL_turned, turned_getD rfl k hk, turned_getD (low_length xs) k hk, low_getD rfl _ (by omega)]
/-- a sum is the same turned -/
theorem sumTo_turn (f : Nat → Int) (n : Nat) : sumTo (fun k => f (n - 1 - k)) n = sumTo f n := by
  have h1 : ∀ k, k < n → f (n - 1 - k) = sumTo (fun j => if j = n - 1 - k then f j else 0) n := fun k hk => by
    have h2 := sumTo_one (f (n - 1 - k)) (n - 1 - k) n
    rw [if_pos (by omega)] at h2
    rw [← h2]
    refine sumTo_congr n (fun j _ => ?_)
    by_cases h : j = n - 1 - k
    · rw [if_pos h, if_pos h, h]
    · rw [if_neg h, if_neg h]
  rw [sumTo_congr n h1, sumTo_swap]
  refine sumTo_congr n (fun j hj => ?_)
  have h2 := sumTo_one (f j) (n - 1 - j) n
  rw [if_pos (by omega)] at h2
  refine Eq.trans ?_ h2
  refine sumTo_congr n (fun k hk => ?_)
  by_cases h : k = n - 1 - j
  · have h' : j = n - 1 - k := by omega
    rw [if_pos h, if_pos h']
  · have h' : ¬ j = n - 1 - k := by omega
    rw [if_neg h, if_neg h']
theorem sumL_turned : sumL (turned xs) = sumL xs := by
  unfold sumL
  rw [turned_length, ← sumTo_turn]
  exact (sumTo_congr _ (fun k hk => by rw [turned_getD rfl _ (by omega)]; congr 1; omega))
end Go.Proofs.Ytapkppnjgbcklaa
