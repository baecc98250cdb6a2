/- Plain laws of moved masses. No condition. -/
import Derived.Test.YtffkpmmgfgcngaaLaw
namespace Go.Proofs.Ytffkpmmgfgcngaa

/-- the answers that the first k numbers of a list name -/
def seenT (to : List Int) : Nat → Nat
  | 0 => 0
  | k + 1 => seenT to k ||| 2 ^ (to.getD k 0).toNat
/-- where the first k answers of a set are moved -/
def imgT (to : List Int) (a : Nat) : Nat → Nat
  | 0 => 0
  | k + 1 => if hasB a k = true then imgT to a k ||| 2 ^ (to.getD k 0).toNat else imgT to a k
def imgOf (to : List Int) (a : Nat) : Nat := imgT to a to.length
def inB (m : Nat) (x : Int) : Bool := decide (0 ≤ x) && decide (x < m)
/-- has a list each of m answers once? -/
def orderB (m : Nat) (to : List Int) : Bool := to.all (inB m) && (to.length == m && seenT to to.length == 2 ^ m - 1)
def freshT (to : List Int) : Nat → Bool
  | 0 => true
  | k + 1 => freshT to k && !(hasB (seenT to k) (to.getD k 0).toNat)
def movesB (m : Nat) (to : List Int) : Bool := to.all (inB m) && (to.length == m && freshT to to.length)
/-- the way back, of the first k answers -/
def backT (m : Nat) (to : List Int) : Nat → List Int
  | 0 => List.replicate m 0
  | k + 1 => (backT m to k).set (to.getD k 0).toNat k
def backL (to : List Int) : List Int := backT to.length to to.length
def lists (m : Nat) : Nat → List (List Nat)
  | 0 => [[]]
  | k + 1 => (lists m k).flatMap (fun l => (List.range m).map (fun x => l ++ [x]))
theorem mem_lists {m : Nat} : ∀ (k : Nat) (to : List Int), to.length = k → to.all (inB m) = true → ∃ ts ∈ lists m k, to = ints ts
  | 0, to, h, _ => ⟨[], by simp [lists], by rw [List.length_eq_zero_iff.1 h]; rfl⟩
  | k + 1, to, h, ha => by
    have hne : to ≠ [] := by intro e; rw [e] at h; cases h
    have e1 : to = to.take k ++ [to.getD k 0] := by
      rw [← take_snoc to k (by omega), List.take_of_length_le (by omega)]
    have ha' := ha
    rw [e1, List.all_append] at ha
    simp only [Bool.and_eq_true] at ha
    obtain ⟨ts, hts, he⟩ := mem_lists k (to.take k) (by simp; omega) ha.1
    have hx : 0 ≤ to.getD k 0 ∧ to.getD k 0 < m := by
      have := ha.2
      simp only [List.all_cons, List.all_nil, Bool.and_true, inB, Bool.and_eq_true, decide_eq_true_eq] at this
      exact this
    refine ⟨ts ++ [(to.getD k 0).toNat], ?_, ?_⟩
    · unfold lists
      rw [List.mem_flatMap]
      refine ⟨ts, hts, List.mem_map.2 ⟨(to.getD k 0).toNat, ?_, rfl⟩⟩
      rw [List.mem_range]
      omega
    · rw [ints_snoc, ← he]
      conv => lhs; rw [e1]
      congr 2
      omega
/-- what is told of a list of each answer once -/
def goodB (m : Nat) (to : List Int) : Bool :=
  (List.range (2 ^ m)).all (fun a => decide (imgOf to a < 2 ^ m) && (imgOf (backL to) (imgOf to a) == a) && (imgOf to (imgOf (backL to) a) == a) && decide (imgOf (backL to) a < 2 ^ m) && (oneB (imgOf to a) == oneB a)
    && (List.range (2 ^ m)).all (fun b => eitherB (imgOf to a) (imgOf to b) == eitherB a b))
  && (imgOf (backL to) 0 == 0) && (backL (backL to) == to) && orderB m (backL to) && ((backL to).length == m)
theorem good_all : ∀ m ∈ [1, 2, 3, 4], ∀ ts ∈ lists m m, ((movesB m (ints ts) == orderB m (ints ts)) && (!(orderB m (ints ts)) || goodB m (ints ts))) = true := by decide +kernel
theorem order_good {m : Nat} {to : List Int} (hm : 1 ≤ m ∧ m ≤ 4) (h : orderB m to = true) : goodB m to = true := by
  have h0 := h
  unfold orderB at h0
  simp only [Bool.and_eq_true, beq_iff_eq] at h0
  obtain ⟨ts, hts, rfl⟩ := mem_lists m to h0.2.1 h0.1
  have h1 := good_all m (by simp; omega) ts hts
  rw [h] at h1
  simp only [Bool.and_eq_true, Bool.not_true, Bool.false_or] at h1
  exact h1.2
theorem moves_order {m : Nat} {to : List Int} (hm : 1 ≤ m ∧ m ≤ 4) : movesB m to = orderB m to := by
  by_cases hl : to.length = m
  · by_cases ha : to.all (inB m) = true
    · obtain ⟨ts, hts, rfl⟩ := mem_lists m to hl ha
      have h1 := good_all m (by simp; omega) ts hts
      simp only [Bool.and_eq_true, beq_iff_eq] at h1
      exact h1.1
    · have hf : to.all (inB m) = false := by
        cases h : to.all (inB m) with
        | false => rfl
        | true => exact absurd h ha
      unfold movesB orderB
      rw [hf]
      rfl
  · have hf : (to.length == m) = false := by simpa using hl
    unfold movesB orderB
    rw [hf]
    simp
/-- sets are moved and moved back -/
structure Perm (n : Nat) (f g : Nat → Nat) : Prop where
  lt : ∀ a, a < n → f a < n
  glt : ∀ a, a < n → g a < n
  gf : ∀ a, a < n → g (f a) = a
  fg : ∀ a, a < n → f (g a) = a
variable {xs : List Int} {n : Nat} {s : Int} {f g : Nat → Nat}
theorem Perm.iff (h : Perm n f g) {a c : Nat} (ha : a < n) (hc : c < n) : f a = c ↔ a = g c := by
  constructor
  · rintro rfl; exact (h.gf a ha).symm
  · rintro rfl; exact h.fg c hc
def movedP (g : Nat → Nat) (xs : List Int) : List Int := tab xs.length (fun c => xs.getD (g c) 0)
theorem movedP_length (g : Nat → Nat) (xs : List Int) : (movedP g xs).length = xs.length := tab_length _ _
theorem movedP_getD (hn : xs.length = n) {c : Nat} (hc : c < n) : (movedP g xs).getD c 0 = xs.getD (g c) 0 := by unfold movedP; rw [hn]; exact tab_getD _ _ _ hc
/-- the parts of the sets that are moved to a set -/
theorem moved_sum (h : Perm n f g) (w : Nat → Int) {c : Nat} (hc : c < n) : sumTo (fun a => if f a = c then w a else 0) n = w (g c) := by
  have h1 : sumTo (fun a => if f a = c then w a else 0) n = sumTo (fun a => if a = g c then w (g c) else 0) n := sumTo_congr n (fun a ha => by
    by_cases e : a = g c
    · rw [if_pos ((h.iff ha hc).2 e), if_pos e, e]
    · rw [if_neg (fun h2 => e ((h.iff ha hc).1 h2)), if_neg e])
  rw [h1, sumTo_one, if_pos (h.glt c hc)]
theorem moved_whole (hn : xs.length = n) (h : Perm n f g) : sumL (movedP g xs) = sumL xs := by
  unfold sumL
  rw [movedP_length, hn]
  have h1 : sumTo (fun c => (movedP g xs).getD c 0) n = sumTo (fun c => sumTo (fun a => if f a = c then xs.getD a 0 else 0) n) n := sumTo_congr n (fun c hc => by
    rw [movedP_getD hn hc, moved_sum h (fun a => xs.getD a 0) hc])
  rw [h1, sumTo_swap]
  refine sumTo_congr n (fun a ha => ?_)
  have h2 : sumTo (fun c => if f a = c then xs.getD a 0 else 0) n = sumTo (fun c => if c = f a then xs.getD a 0 else 0) n := sumTo_congr n (fun c _ => by simp only [eq_comm])
  rw [h2, sumTo_one, if_pos (h.lt a ha)]
theorem moved_mass (hm : massB s xs = true) (hn : xs.length = n) (h : Perm n f g) : massB s (movedP g xs) = true := by
  have hI := massB_is hn hm
  have hl : (movedP g xs).length = n := by rw [movedP_length, hn]
  have ha : (movedP g xs).all (inMost 1000000) = true := by
    rw [all_getD]
    intro k hk
    rw [hl] at hk
    rw [movedP_getD hn hk]
    have := hI.part (g k) (h.glt k hk)
    unfold inMost
    simp only [Bool.and_eq_true, decide_eq_true_eq]
    exact this
  rw [massB_of hl hI.size hI.fit ha, moved_whole hn h]
  have hw := hI.whole
  have hg : gcdL (movedP g xs) = 1 := by
    have h1 : gcdL (movedP g xs) ∣ gcdL xs := dvd_gcdL hn _ (fun j hj => by
      have h2 := gcdL_dvd hl (f j) (h.lt j hj)
      rw [movedP_getD hn (h.lt j hj), h.gf j hj] at h2
      exact h2)
    rw [hI.gcd] at h1
    exact Nat.dvd_one.1 h1
  rw [hg]
  simp [wholeB, hw]
theorem moved_back (hn : xs.length = n) (h : Perm n f g) : movedP f (movedP g xs) = xs := by
  have hl : (movedP g xs).length = n := by rw [movedP_length, hn]
  refine getD_ext (n := n) (by rw [movedP_length, hl]) hn (fun k hk => ?_)
  rw [movedP_getD hl hk, movedP_getD hn (h.lt k hk), h.gf k hk]
theorem moved_norm (hm : massB s xs = true) (hn : xs.length = n) (h : Perm n f g) (h0 : g 0 = 0) : normB s (movedP g xs) = normB s xs := by
  have hI := massB_is hn hm
  unfold normB
  rw [moved_mass hm hn h, hm, movedP_getD hn (by have := hI.nums; omega), h0]
theorem moved_chan (hm : massB s xs = true) (hn : xs.length = n) (h : Perm n f g) (h1 : ∀ a, a < n → oneB (f a) = oneB a) : chanB s (movedP g xs) = chanB s xs := by
  have hl : (movedP g xs).length = n := by rw [movedP_length, hn]
  unfold chanB
  rw [moved_mass hm hn h, hm, hl, hn]
  congr 1
  rw [Bool.eq_iff_iff, List.all_eq_true, List.all_eq_true]
  constructor
  · intro h2 a ha
    obtain ⟨ha1, ha2⟩ := (mem_focL n).1 ha
    rw [← h1 a ha1]
    refine h2 _ ((mem_focL n).2 ⟨h.lt a ha1, ?_⟩)
    rw [movedP_getD hn (h.lt a ha1), h.gf a ha1]
    exact ha2
  · intro h2 a ha
    obtain ⟨ha1, ha2⟩ := (mem_focL n).1 ha
    rw [movedP_getD hn ha1] at ha2
    rw [← h.fg a ha1, h1 _ (h.glt a ha1)]
    exact h2 _ ((mem_focL n).2 ⟨h.glt a ha1, ha2⟩)
theorem moved_nest (hm : massB s xs = true) (hn : xs.length = n) (h : Perm n f g) (h1 : ∀ a, a < n → ∀ b, b < n → eitherB (f a) (f b) = eitherB a b) : nestB s (movedP g xs) = nestB s xs := by
  have hl : (movedP g xs).length = n := by rw [movedP_length, hn]
  rw [Bool.eq_iff_iff, nest_iff, nest_iff, hl, hn]
  constructor
  · rintro ⟨_, h2⟩
    refine ⟨hm, fun a ha b hb ha0 hb0 => ?_⟩
    rw [← h1 a ha b hb]
    refine h2 _ (h.lt a ha) _ (h.lt b hb) ?_ ?_
    · rw [movedP_getD hn (h.lt a ha), h.gf a ha]; exact ha0
    · rw [movedP_getD hn (h.lt b hb), h.gf b hb]; exact hb0
  · rintro ⟨_, h2⟩
    refine ⟨moved_mass hm hn h, fun a ha b hb ha0 hb0 => ?_⟩
    rw [movedP_getD hn ha] at ha0
    rw [movedP_getD hn hb] at hb0
    have h3 := h2 _ (h.glt a ha) _ (h.glt b hb) ha0 hb0
    rw [← h.fg a ha, ← h.fg b hb, h1 _ (h.glt a ha) _ (h.glt b hb)]
    exact h3
theorem good_perm {m : Nat} {to : List Int} (hg : goodB m to = true) (hn : n = 2 ^ m) : Perm n (imgOf to) (imgOf (backL to)) := by
  unfold goodB at hg
  simp only [Bool.and_eq_true, List.all_eq_true, List.mem_range, beq_iff_eq, decide_eq_true_eq] at hg
  have h1 := hg.1.1.1.1
  subst hn
  exact ⟨fun a ha => (h1 a ha).1.1.1.1.1, fun a ha => (h1 a ha).1.1.2, fun a ha => (h1 a ha).1.1.1.1.2, fun a ha => (h1 a ha).1.1.1.2⟩
theorem good_facts {m : Nat} {to : List Int} (hg : goodB m to = true) (hn : n = 2 ^ m) :
    (∀ a, a < n → oneB (imgOf to a) = oneB a) ∧ (∀ a, a < n → ∀ b, b < n → eitherB (imgOf to a) (imgOf to b) = eitherB a b) ∧ imgOf (backL to) 0 = 0 ∧ backL (backL to) = to ∧ orderB m (backL to) = true ∧ (backL to).length = m := by
  unfold goodB at hg
  simp only [Bool.and_eq_true, List.all_eq_true, List.mem_range, beq_iff_eq, decide_eq_true_eq] at hg
  have h1 := hg.1.1.1.1
  subst hn
  exact ⟨fun a ha => (h1 a ha).1.2, fun a ha b hb => (h1 a ha).2 b hb, hg.1.1.1.2, hg.1.1.2, hg.1.2, hg.2⟩
def moveR (s : Int) (xs to : List Int) : MassR := if (massB s xs && orderB s.toNat to) = true then some (s, movedP (imgOf (backL to)) xs) else none
end Go.Proofs.Ytffkpmmgfgcngaa
