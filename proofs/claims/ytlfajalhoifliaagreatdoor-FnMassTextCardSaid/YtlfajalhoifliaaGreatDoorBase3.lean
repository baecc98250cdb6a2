/- More on memory: a variable that is a struct of two fields; results that are masses or fractions with a truth. No condition. -/
import Derived.Test.YtlfajalhoifliaaGreatDoorBase2
import Derived.Test.YtlfajalhoifliaaGreatDoorW11
import Derived.Test.YtlfajalhoifliaaGreatDoorMath
namespace Go.Proofs.YtlfajalhoifliaaGreatDoor
open Go.RowKit

/-- block k is a variable of two cells -/
def Box (w : World) (k : Nat) (T : TypeId) (v0 v1 : Value) : Prop := w.heap[k]? = some (.cells #[v0, v1] T (0, 0))
theorem Box.lt {w : World} {k : Nat} {T : TypeId} {v0 v1 : Value} (h : Box w k T v0 v1) : k < w.heap.size := by
  rcases Nat.lt_or_ge k w.heap.size with h1 | h1
  · exact h1
  · unfold Box at h; rw [Array.getElem?_eq_none h1] at h; cases h
theorem Box.cells {w : World} {k : Nat} {T : TypeId} {v0 v1 : Value} (h : Box w k T v0 v1) :
    w.cell? ⟨k, 0, none⟩ = some v0 ∧ w.cell? ⟨k, 1, none⟩ = some v1 ∧ w.frozen? ⟨k, 0, none⟩ = false ∧ w.frozen? ⟨k, 1, none⟩ = false := by
  refine ⟨?_, ?_, frozen_of_row _ _ _ _ _ h, frozen_of_row _ _ _ _ _ h⟩
  · rw [cell_of_row w k 0 _ T (0, 0) h]; rfl
  · rw [cell_of_row w k 1 _ T (0, 0) h]; rfl
theorem Box.below {w w' : World} {B k : Nat} {T : TypeId} {v0 v1 : Value} (h : Box w k T v0 v1) (hb : Below B w w') (hk : k < B) : Box w' k T v0 v1 := (hb.block k hk).trans h
theorem Box.grown {w w' : World} {row : Option Nat} {k : Nat} {T : TypeId} {v0 v1 : Value} (h : Box w k T v0 v1) (hg : w.grownBy w' row) (hne : row ≠ some k) : Box w' k T v0 v1 := (hg.block k h.lt (fun e => hne e.symm)).trans h
theorem Box.new (w : World) (T : TypeId) (v0 v1 : Value) : Box (w.alloc (.cells #[v0, v1] T)) w.heap.size T v0 v1 := heap_alloc_new w _
theorem Box.alloc {w : World} {k : Nat} {T : TypeId} {v0 v1 : Value} (h : Box w k T v0 v1) (o : Obj) : Box (w.alloc o) k T v0 v1 := (Below.heap_alloc w o k h.lt).trans h
theorem Box.set0 {w : World} {k : Nat} {T : TypeId} {v0 v1 : Value} (h : Box w k T v0 v1) (u : Value) : Box (w.setCell ⟨k, 0, none⟩ u) k T u v1 := by
  unfold Box at h ⊢
  simp [World.setCell, Array.getElem?_modify, h]
theorem Box.set1 {w : World} {k : Nat} {T : TypeId} {v0 v1 : Value} (h : Box w k T v0 v1) (u : Value) : Box (w.setCell ⟨k, 1, none⟩ u) k T v0 u := by
  unfold Box at h ⊢
  simp [World.setCell, Array.getElem?_modify, h]
theorem Box.far {w : World} {k : Nat} {T : TypeId} {v0 v1 : Value} (h : Box w k T v0 v1) {p : Addr} (hp : k ≠ p.block) (u : Value) : Box (w.setCell p u) k T v0 v1 := (Below.heap_setCell w p u k hp).trans h
theorem Box.drewN {w : World} {k : Nat} {T : TypeId} {v0 v1 : Value} (h : Box w k T v0 v1) (n : Nat) : Box (w.drewN n) k T v0 v1 := h
theorem Box.drew {w : World} {k : Nat} {T : TypeId} {v0 v1 : Value} (h : Box w k T v0 v1) : Box w.drew k T v0 v1 := h

/-- 'append(out, z)' inside a region that draws its order -/
theorem step_push (wr : World) {ops : Array Oper} {o : Oper} {a : Act} {K : Act → World → Prop} {Q : Exit → Act → World → Prop} {E : Prop} (hgd : o.guard = none) (s x : Operand)
    (hop : o.op = .call { callee := .builtin .append, args := #[s, x], argTypes := #[23, 23] })
    (A : Option Addr) (k C : Nat) (xs : List Int) (z : Int) (B : Nat) (w0 : World) (hs : a.eval s = .slice A k C) (hx : a.eval x = .slice (some ⟨wr.heap.size, 0, none⟩) 1 1)
    (ho : Own B wr A k C xs) (hbr : Below B w0 wr) (hB : B ≤ wr.heap.size) (hk : k ≤ 1048576)
    (h : ∀ A' C' w1, Own B w1 A' (k + 1) C' (xs ++ [z]) → Below B w0 w1 → K (a.put o.dst (.slice A' (k + 1) C')) w1) :
    if Region.wanted o (yielded ops a.tmps) = true then Oper.wp Tryz.prog o a (wr.alloc (.cells #[.int .i64 z] 3)) K Q else E := by
  have hw : Region.wanted o (yielded ops a.tmps) = true := by simp [Region.wanted, hgd]
  rw [if_pos hw]
  obtain ⟨i0, gi, gz0, gz1, gz2⟩ := info_parts info_int
  refine wp_append_own _ s x 23 hop B 3 i0 (.int .i64 0) 1 8 Tryz.underlying23 gi gz0 gz1 gz2 rfl (by decide) _ k _ hs (World.ownsRow.alloc ho _) ⟨wr.heap.size, 0, none⟩ 1 1 [.int .i64 z] hx rfl ?_ ?_ ?_ ?_ ?_ ?_
  · intro j u hj
    match j, hj with
    | 0, hj => simp at hj; subst hj; simp [Addr.add]
  · intro u hu; simp at hu; subst hu; rfl
  · unfold maxLen; omega
  · omega
  · simp; omega
  · intro v' w1 hown' hgrow _
    obtain ⟨A', C', rfl, ho', hb'⟩ := ho.pushed hbr hB hown' hgrow
    exact h A' C' w1 ho' hb'

/-- a call of a function of one argument that only computes, inside a region that draws its order -/
theorem step_call1 {w : World} {ops : Array Oper} {o : Oper} {a : Act} {K : Act → World → Prop} {Q : Exit → Act → World → Prop} {E : Prop} (hgd : o.guard = none) (f : FuncId) (x : Operand) (t : TypeId)
    (hop : o.op = .call { callee := .value (.func f), args := #[x], argTypes := #[t] }) (v r : Value) (hx : a.eval x = v)
    (hcf : ∀ (args : Array Value) (w : World), (callFunc f args).run Tryz.prog w = .ok (.enter f args) w)
    (hC : Calls Tryz.prog f #[v] w fun e w' => e = .returned r ∧ w = w') (hK : K (a.put o.dst r) w) :
    if Region.wanted o (yielded ops a.tmps) = true then Oper.wp Tryz.prog o a w K Q else E := by
  have hw : Region.wanted o (yielded ops a.tmps) = true := by simp [Region.wanted, hgd]
  rw [if_pos hw]
  unfold Oper.wp execOp
  have hf : a.eval (.func f) = .func (.func f) #[] #[] := rfl
  simp [hop, resolve, hx, hf, Deferred.ofValue, invoke, hcf]
  refine hC.mono ?_
  rintro e w' ⟨rfl, rfl⟩
  exact hK
/-- a fraction as a value -/
abbrev fracV (a b : Int) : Value := .agg #[.int .i64 a, .int .i64 b]
/-- the call has returned the mass r and its truth; the parts lie in blocks from B on -/
def RetM (B : Nat) (r : MassR) (e : Ending) (w : World) : Prop :=
  ∃ A C, e = .returned (.tuple #[massV (rS r) A (rN r) C, .bool (rB r)]) ∧ Own B w A (rN r) C (rL r)
/-- the call has returned the fraction r and its truth -/
def RetF (r : FracR) (e : Ending) : Prop := e = .returned (.tuple #[fracV (fN r) (fD r), .bool (fB r)])
theorem RetM.none_ (B : Nat) (w : World) : RetM B none (.returned (.tuple #[massV 0 none 0 0, .bool false])) w := ⟨none, 0, rfl, Own.nil _ _⟩
theorem RetM.some_ {B : Nat} {w : World} {s : Int} {A : Option Addr} {n C : Nat} {ys : List Int} (h : Own B w A n C ys) : RetM B (some (s, ys)) (.returned (.tuple #[massV s A n C, .bool true])) w := by
  have hl : rN (some (s, ys)) = n := h.len
  refine ⟨A, C, ?_, ?_⟩
  · rw [hl]; rfl
  · rw [hl]; exact h
theorem RetM.below {B : Nat} {r : MassR} {e : Ending} {w w' : World} (h : RetM B r e w) (hb : Below w.heap.size w w') : RetM B r e w' := by
  obtain ⟨A, C, he, ho⟩ := h
  exact ⟨A, C, he, ho.below hb⟩
theorem Own.setBox {B : Nat} {w : World} {a : Option Addr} {n c : Nat} {xs : List Int} (h : Own B w a n c xs) {p : Nat} (hp : p < B) (u v : Value) : Own B ((w.setCell ⟨p, 0, none⟩ u).setCell ⟨p, 1, none⟩ v) a n c xs := by
  refine (h.setFar (fun g hg => ?_) u).setFar (fun g hg => ?_) v
  · rcases h.form with ⟨h1, _⟩ | ⟨g', h1, h2, _⟩ <;> (rw [h1] at hg; cases hg)
    simp
    omega
  · rcases h.form with ⟨h1, _⟩ | ⟨g', h1, h2, _⟩ <;> (rw [h1] at hg; cases hg)
    simp
    omega
/-- 'append(out, src...)': a row with elements onto a slice of the call's own. -/
theorem wpList_appendAll (wr : World) {ops : Array Oper} {rest : List Oper} {o : Oper} {a : Act} {Q : Exit → Act → World → Prop} (hgd : o.guard = none) (s x : Operand)
    (hop : o.op = .call { callee := .builtin .append, args := #[s, x], argTypes := #[23, 23] })
    (A : Option Addr) (k C : Nat) (xs : List Int) (a' : Option Addr) (m c : Nat) (ys : List Int) (B : Nat) (w0 : World) (hs : a.eval s = .slice A k C) (hx : a.eval x = .slice a' m c)
    (ho : Own B wr A k C xs) (hr : Row wr a' m ys) (hm : 0 < m) (hbr : Below B w0 wr) (hB : B ≤ wr.heap.size) (hk : k + m ≤ 1048576)
    (h : ∀ A' C' w1, Own B w1 A' (k + m) C' (xs ++ ys) → Below B w0 w1 → wpList Tryz.prog ops Q rest (a.put o.dst (.slice A' (k + m) C')) w1) :
    wpList Tryz.prog ops Q (o :: rest) a wr := by
  obtain ⟨i0, gi, gz0, gz1, gz2⟩ := info_parts info_int
  obtain ⟨b, off, rfl, _, hc⟩ := hr.2 hm
  refine wpList_append_own _ hgd s x 23 hop B 3 i0 (.int .i64 0) 1 8 Tryz.underlying23 gi gz0 gz1 gz2 rfl (by decide) _ k _ hs ho ⟨b, off, none⟩ m c (ys.map (Value.int .i64)) hx (by simp [hr.1]) ?_ (ints_oneCell _ _) ?_ ?_ hB ?_
  · intro j u hj
    have hl := hr.1
    have hjm : j < m := by
      have := (List.getElem?_eq_some_iff.1 hj).1
      simpa [hl] using this
    rw [Addr.add_lit, hc j hjm]
    rw [← hj]
    simp [List.getD, show j < ys.length by omega]
  · unfold maxLen; omega
  · omega
  · intro v' w1 hown' hgrow _
    have hs2 : xs.map (Value.int .i64) ++ ys.map (Value.int .i64) = (xs ++ ys).map (Value.int .i64) := by simp
    rw [hs2] at hown'
    have hb : Below B w0 w1 := by
      refine hbr.grown hgrow hB (fun g hgk => ?_)
      rcases ho.form with ⟨rfl, _, _⟩ | ⟨g', rfl, h1, _, _⟩
      · simp [Value.ownBlock] at hgk
      · simp [Value.ownBlock] at hgk
        omega
    rcases hown'.2 with ⟨_, h0⟩ | ⟨g, cap, cur, h1, _⟩
    · omega
    · rw [h1]
      exact h (some ⟨g, 0, none⟩) cap w1 (by rw [h1] at hown'; exact hown') hb
end Go.Proofs.YtlfajalhoifliaaGreatDoor
