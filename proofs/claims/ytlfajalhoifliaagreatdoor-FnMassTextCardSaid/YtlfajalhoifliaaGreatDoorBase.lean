/- What the walks know of memory: a slice that reads as a list of numbers. No condition. -/
import Derived.Test.YtlfajalhoifliaaGreatDoorRows
import Derived.Test.YtlfajalhoifliaaGreatDoorMath
import Derived.WalkKit
import Derived.ProofKit
import Derived.Lib.Hide
import Derived.WalkSmall
namespace Go.Proofs.YtlfajalhoifliaaGreatDoor
open Go.RowKit

/-- The slice value '.slice a n c' reads as the numbers xs. -/
def Row (w : World) (a : Option Addr) (n : Nat) (xs : List Int) : Prop :=
  xs.length = n ∧ (0 < n → ∃ b off, a = some ⟨b, off, none⟩ ∧ b < w.heap.size ∧ ∀ k, k < n → w.cell? ⟨b, off + k, none⟩ = some (.int .i64 (xs.getD k 0)))

theorem Row.below {w w' : World} {a : Option Addr} {n : Nat} {xs : List Int} (h : Row w a n xs) (hb : Below w.heap.size w w') : Row w' a n xs :=
  ⟨h.1, fun hn => by
    obtain ⟨b, off, rfl, hlt, hc⟩ := h.2 hn
    exact ⟨b, off, rfl, Nat.lt_of_lt_of_le hlt hb.size, fun k hk => (hb.cell (p := ⟨b, off + k, none⟩) hlt).trans (hc k hk)⟩⟩
theorem Row.nil (w : World) (a : Option Addr) : Row w a 0 [] := ⟨rfl, fun h => absurd h (by omega)⟩
theorem Row.at_ {w : World} {a : Option Addr} {n : Nat} {xs : List Int} (h : Row w a n xs) {k : Nat} (hk : k < n) :
    ∃ b off x, a = some ⟨b, off, none⟩ ∧ x = xs.getD k 0 ∧ w.cell? ⟨b, off + k, none⟩ = some (.int .i64 x) := by
  obtain ⟨b, off, rfl, _, hc⟩ := h.2 (by omega)
  exact ⟨b, off, _, rfl, rfl, hc k hk⟩
theorem ret_bool {a b : Bool} (h : a = b) : Ending.returned (.bool a) = .returned (.bool b) := by rw [h]
theorem ret_int {k : IntKind} {a b : Int} (h : a = b) : Ending.returned (.int k a) = .returned (.int k b) := by rw [h]

/-- The slice value '.slice a n c' is nil or leads to a row of the call's own (blocks from B on), and reads as the numbers xs. -/
def Own (B : Nat) (w : World) (a : Option Addr) (n c : Nat) (xs : List Int) : Prop := w.ownsRow B 3 1 (.slice a n c) n (xs.map (Value.int .i64))

theorem Own.len {B : Nat} {w : World} {a : Option Addr} {n c : Nat} {xs : List Int} (h : Own B w a n c xs) : xs.length = n := by
  have := h.1
  simpa using this
theorem Own.form {B : Nat} {w : World} {a : Option Addr} {n c : Nat} {xs : List Int} (h : Own B w a n c xs) : (a = none ∧ n = 0 ∧ c = 0) ∨ ∃ g, a = some ⟨g, 0, none⟩ ∧ B ≤ g ∧ g < w.heap.size ∧ n ≤ c := by
  rcases h.2 with ⟨h1, h2⟩ | ⟨g, cap, cur, h1, h2, h3, h4, _⟩
  · simp at h1
    exact .inl h1
  · simp at h1
    obtain ⟨rfl, rfl⟩ := h1
    have : g < w.heap.size := by
      rcases Nat.lt_or_ge g w.heap.size with hlt | hge
      · exact hlt
      · rw [Array.getElem?_eq_none hge] at h3; cases h3
    exact .inr ⟨g, rfl, h2, this, h4⟩
theorem Own.row {B : Nat} {w : World} {a : Option Addr} {n c : Nat} {xs : List Int} (h : Own B w a n c xs) : Row w a n xs := by
  refine ⟨h.len, fun hn => ?_⟩
  have hl := h.len
  rcases h.form with ⟨_, h0, _⟩ | ⟨g, rfl, _, hg, _⟩
  · omega
  · refine ⟨g, 0, rfl, hg, fun k hk => ?_⟩
    rw [Nat.zero_add, World.ownsRow.cellAt h k (by omega)]
    simp [show k < xs.length by omega]
theorem Own.frozen {B : Nat} {w : World} {g : Nat} {n c : Nat} {xs : List Int} (h : Own B w (some ⟨g, 0, none⟩) n c xs) (k : Nat) : w.frozen? ⟨g, k, none⟩ = false := World.ownsRow.frozenAt h k
theorem Own.cell {B : Nat} {w : World} {g : Nat} {n c : Nat} {xs : List Int} (h : Own B w (some ⟨g, 0, none⟩) n c xs) {k : Nat} (hk : k < n) : w.cell? ⟨g, k, none⟩ = some (.int .i64 (xs.getD k 0)) := by
  have hl := h.len
  rw [World.ownsRow.cellAt h k (by omega)]
  simp [show k < xs.length by omega]
theorem Own.set {B : Nat} {w : World} {g : Nat} {n c : Nat} {xs : List Int} (h : Own B w (some ⟨g, 0, none⟩) n c xs) (k : Nat) (z : Int) :
    Own B (w.setCell ⟨g, k, none⟩ (.int .i64 z)) (some ⟨g, 0, none⟩) n c (xs.set k z) := by
  have := (World.ownsRow.stored h k (.int .i64 z)).1
  rw [← List.map_set] at this
  exact this
theorem Own.kept {B : Nat} {w w' : World} {a : Option Addr} {n c : Nat} {xs : List Int} {row : Option Nat} (h : Own B w a n c xs) (hg : w.grownBy w' row) (hne : ∀ g, a = some ⟨g, 0, none⟩ → row ≠ some g) : Own B w' a n c xs := by
  refine World.ownsRow.kept h hg ?_
  rcases h.form with ⟨rfl, _, _⟩ | ⟨g, rfl, _⟩
  · exact .inl rfl
  · refine .inr ?_
    have := hne g rfl
    simp only [Value.ownBlock]
    exact fun e => this e.symm
theorem grown_of_below {w w' : World} (hb : Below w.heap.size w w') (row : Option Nat) : w.grownBy w' row := ⟨hb.os, hb.tape, hb.output, hb.size, fun k hk _ => hb.block k hk⟩
theorem Own.below {B : Nat} {w w' : World} {a : Option Addr} {n c : Nat} {xs : List Int} (h : Own B w a n c xs) (hb : Below w.heap.size w w') : Own B w' a n c xs :=
  h.kept (grown_of_below hb none) (fun _ _ => by simp)
theorem grown_trans {a b c : World} {row : Option Nat} (h : a.grownBy b row) (k : b.grownBy c row) : a.grownBy c row :=
  ⟨k.os.trans h.os, k.tape.trans h.tape, k.output.trans h.output, Nat.le_trans h.size k.size, fun i hi hne => (k.block i (Nat.lt_of_lt_of_le hi h.size) hne).trans (h.block i hi hne)⟩
theorem Own.nil (B : Nat) (w : World) : Own B w none 0 0 [] := World.ownsRow_nil _ _ _ _
theorem Own.mono {B B' : Nat} {w : World} {a : Option Addr} {n c : Nat} {xs : List Int} (h : Own B w a n c xs) (hB : B' ≤ B) : Own B' w a n c xs := by
  refine ⟨h.1, ?_⟩
  rcases h.2 with h2 | ⟨g, cap, cur, h1, h2, h3⟩
  · exact .inl h2
  · exact .inr ⟨g, cap, cur, h1, by omega, h3⟩
theorem bits_or16 : ∀ a b : Fin 16, bits .or .i64 (a.val : Int) (b.val : Int) = ((a.val ||| b.val : Nat) : Int) := by decide +kernel
theorem bits_and16 : ∀ a b : Fin 16, bits .and .i64 (a.val : Int) (b.val : Int) = ((a.val &&& b.val : Nat) : Int) := by decide +kernel
theorem bits_xor16 : ∀ a b : Fin 16, bits .xor .i64 (a.val : Int) (b.val : Int) = ((a.val ^^^ b.val : Nat) : Int) := by decide +kernel
theorem bits_andNot16 : ∀ a b : Fin 16, bits .andNot .i64 (a.val : Int) (b.val : Int) = ((a.val &&& (15 - b.val) : Nat) : Int) := by decide +kernel
theorem bits_or (a b : Nat) (ha : a < 16) (hb : b < 16) : bits .or .i64 (a : Int) (b : Int) = ((a ||| b : Nat) : Int) := bits_or16 ⟨a, ha⟩ ⟨b, hb⟩
theorem bits_and (a b : Nat) (ha : a < 16) (hb : b < 16) : bits .and .i64 (a : Int) (b : Int) = ((a &&& b : Nat) : Int) := bits_and16 ⟨a, ha⟩ ⟨b, hb⟩
theorem bits_xor (a b : Nat) (ha : a < 16) (hb : b < 16) : bits .xor .i64 (a : Int) (b : Int) = ((a ^^^ b : Nat) : Int) := bits_xor16 ⟨a, ha⟩ ⟨b, hb⟩
theorem bits_andNot (a b : Nat) (ha : a < 16) (hb : b < 16) : bits .andNot .i64 (a : Int) (b : Int) = ((a &&& (15 - b) : Nat) : Int) := bits_andNot16 ⟨a, ha⟩ ⟨b, hb⟩
theorem bits_one (a : Nat) (ha : a < 16) : bits .and .i64 (a : Int) 1 = ((a % 2 : Nat) : Int) := by
  have := bits_and a 1 ha (by omega)
  rw [Nat.and_one_is_mod] at this
  exact this
theorem row_of_read {w : World} {x : Addr} {l c : Nat} {zs : List Int} (hl : l ≤ c) (hz : zs.length = c) (hcell : ∀ i, i < zs.length → w.cell? (x.add i) = some (.int .i64 (zs.getD i 0))) : Row w (some x) l (zs.take l) := by
  refine ⟨by simp; omega, fun hn => ?_⟩
  obtain ⟨b, off, spot⟩ := x
  have hc := hcell 0 (by omega)
  have hspot : spot = none := by simpa [Addr.add] using World.cell?_spot hc
  subst hspot
  refine ⟨b, off, rfl, ?_, fun k hk => ?_⟩
  · have := World.block_lt_of_cell? w _ hc
    simpa [Addr.add] using this
  · have := hcell k (by omega)
    rw [Addr.add_lit] at this
    rw [this]
    simp [List.getD, hk]
theorem Own.pushed {B : Nat} {w0 wr w1 : World} {o : Obj} {A : Option Addr} {k C : Nat} {xs : List Int} {z : Int} {v' : Value} (ho : Own B wr A k C xs) (hbr : Below B w0 wr) (hB : B ≤ wr.heap.size)
    (hown' : w1.ownsRow B 3 1 v' (k + 1) (xs.map (Value.int .i64) ++ [.int .i64 z])) (hg : (wr.alloc o).grownBy w1 (Value.slice A k C).ownBlock) :
    ∃ A' C', v' = .slice A' (k + 1) C' ∧ Own B w1 A' (k + 1) C' (xs ++ [z]) ∧ Below B w0 w1 := by
  have hs : xs.map (Value.int .i64) ++ [.int .i64 z] = (xs ++ [z]).map (Value.int .i64) := by simp
  rw [hs] at hown'
  have hb : Below B w0 w1 := by
    refine (hbr.alloc hB o).grown hg (by simp; omega) (fun g hgk => ?_)
    rcases ho.form with ⟨rfl, _, _⟩ | ⟨g', rfl, h1, _, _⟩
    · simp [Value.ownBlock] at hgk
    · simp [Value.ownBlock] at hgk
      omega
  rcases hown'.2 with ⟨_, h0⟩ | ⟨g, cap, cur, h1, _⟩
  · omega
  · exact ⟨some ⟨g, 0, none⟩, cap, h1, by rw [h1] at hown'; exact hown', hb⟩
theorem info_int : (Tryz.prog.info? 3).map (fun i => (i.zero, i.size, i.bytes)) = some (some (.int .i64 0), 1, 8) := by kernel_rfl
/-- 'append(out, z)': one number onto a slice of the call's own. -/
theorem wpList_push (wr : World) {ops : Array Oper} {rest : List Oper} {o : Oper} {a : Act} {Q : Exit → Act → World → Prop} (hgd : o.guard = none) (s x : Operand)
    (hop : o.op = .call { callee := .builtin .append, args := #[s, x], argTypes := #[23, 23] })
    (A : Option Addr) (k C : Nat) (xs : List Int) (z : Int) (B : Nat) (w0 : World) (hs : a.eval s = .slice A k C) (hx : a.eval x = .slice (some ⟨wr.heap.size, 0, none⟩) 1 1)
    (ho : Own B wr A k C xs) (hbr : Below B w0 wr) (hB : B ≤ wr.heap.size) (hk : k ≤ 1048576)
    (h : ∀ A' C' w1, Own B w1 A' (k + 1) C' (xs ++ [z]) → Below B w0 w1 → wpList Tryz.prog ops Q rest (a.put o.dst (.slice A' (k + 1) C')) w1) :
    wpList Tryz.prog ops Q (o :: rest) a (wr.alloc (.cells #[.int .i64 z] 3)) := by
  obtain ⟨i0, gi, gz0, gz1, gz2⟩ := info_parts info_int
  refine wpList_append_own _ hgd s x 23 hop B 3 i0 (.int .i64 0) 1 8 Tryz.underlying23 gi gz0 gz1 gz2 rfl (by decide) _ k _ hs (World.ownsRow.alloc ho _) ⟨wr.heap.size, 0, none⟩ 1 1 [.int .i64 z] hx rfl ?_ ?_ ?_ ?_ ?_ ?_
  · intro j u hj
    match j, hj with
    | 0, hj => simp at hj; subst hj; simp [Addr.add]
  · intro u hu; simp at hu; subst hu; rfl
  · unfold maxLen; omega
  · omega
  · simp; omega
  · intro v' w1 hown' hgrow _
    obtain ⟨A', C', rfl, ho', hb'⟩ := ho.pushed hbr hB hown' hgrow
    exact h A' C' w1 ho' hb'
end Go.Proofs.YtlfajalhoifliaaGreatDoor
