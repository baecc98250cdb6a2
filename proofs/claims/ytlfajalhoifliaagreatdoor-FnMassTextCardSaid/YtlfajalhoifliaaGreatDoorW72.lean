/- Contract of FormatMass, of the program. -/
import Derived.Test.YtlfajalhoifliaaGreatDoorW71
import Derived.Test.YtlfajalhoifliaaGreatDoorShelf
import Derived.Lib.AppendIntMem
namespace Go.Proofs.YtlfajalhoifliaaGreatDoor
open Go.RowKit

theorem tab_below {P : Program} {n : String} {k : IntKind} {zs : List Int} {w w' : World} (h : Go.Lib.TabIs P w n k zs) (hb : Below w.heap.size w w') : Go.Lib.TabIs P w' n k zs := by
  unfold Go.Lib.TabIs World.var? at h ⊢
  cases hg : P.globalNamed n with
  | none => rw [hg] at h; cases h
  | some g =>
    rw [hg] at h
    simp only [Option.bind_some] at h ⊢
    have hlt : g < w.heap.size := by
      rcases Nat.lt_or_ge g w.heap.size with h' | h'
      · exact h'
      · rw [Array.getElem?_eq_none h'] at h; cases h
    rw [hb.block g hlt]
    exact h
/-- a list of strings of the call's own -/
def OwnS (B : Nat) (w : World) (a : Option Addr) (n c : Nat) (xs : List ByteArray) : Prop := w.ownsRow B 9 1 (.slice a n c) n (xs.map Value.string)
theorem info_str : (Tryz.prog.info? 9).map (fun i => (i.zero, i.size, i.bytes)) = some (some (.string ByteArray.empty), 1, 16) := by kernel_rfl
/-- append of one string to a list of the call's own, inside a region that draws its order -/
theorem step_pushS (wr : World) {ops : Array Oper} {o : Oper} {a : Act} {K : Act → World → Prop} {Q : Exit → Act → World → Prop} {E : Prop} (hgd : o.guard = none) (s x : Operand)
    (hop : o.op = .call { callee := .builtin .append, args := #[s, x], argTypes := #[37, 37] })
    (G k C : Nat) (xs : List ByteArray) (X : ByteArray) (B : Nat) (hs : a.eval s = .slice (some ⟨G, 0, none⟩) k C) (hx : a.eval x = .slice (some ⟨wr.heap.size, 0, none⟩) 1 1)
    (ho : OwnS B wr (some ⟨G, 0, none⟩) k C xs) (hB : B ≤ wr.heap.size) (hk : k ≤ 1048576)
    (h : ∀ G' C' w1, OwnS B w1 (some ⟨G', 0, none⟩) (k + 1) C' (xs ++ [X]) → (G' = G ∨ wr.heap.size ≤ G') → wr.grownBy w1 (some G) → K (a.put o.dst (.slice (some ⟨G', 0, none⟩) (k + 1) C')) w1) :
    if Region.wanted o (yielded ops a.tmps) = true then Oper.wp Tryz.prog o a (wr.alloc (.cells #[.string X] 9)) K Q else E := by
  have hw : Region.wanted o (yielded ops a.tmps) = true := by simp [Region.wanted, hgd]
  rw [if_pos hw]
  obtain ⟨i0, gi, gz0, gz1, gz2⟩ := info_parts info_str
  obtain ⟨W, hW⟩ : ∃ W, W = wr.alloc (.cells #[.string X] 9) := ⟨_, rfl⟩
  rw [← hW]
  have hsz : W.heap.size = wr.heap.size + 1 := by rw [hW]; simp
  have hnew : ∀ j u, ([Value.string X])[j]? = some u → W.cell? ((⟨wr.heap.size, 0, none⟩ : Addr).add j) = some u := fun j u hj => by
    match j, hj with
    | 0, hj =>
      simp at hj
      subst hj
      rw [Addr.add_lit, Nat.add_zero, hW]
      rw [cell_of_row _ _ _ _ _ _ (heap_alloc_new wr _)]; rfl
  have ho1 : W.ownsRow B 9 1 (.slice (some ⟨G, 0, none⟩) k C) k (xs.map Value.string) := by rw [hW]; exact World.ownsRow.alloc ho _
  have hone : ∀ u ∈ ([Value.string X] : List Value), u.oneCell' = true := fun u hu => by simp at hu; subst hu; rfl
  obtain ⟨v', w1, hr, hown', hgrow, hnil⟩ := run_append_own (P := Tryz.prog) W B 37 o.type 9 i0 (.string ByteArray.empty) 1 16 Tryz.underlying37 gi gz0 gz1 gz2 rfl (by decide) _ k _ ho1 ⟨wr.heap.size, 0, none⟩ 1 1 [.string X] rfl hnew hone (by unfold maxLen; omega) (by omega) (by omega)
  have hg1 : wr.grownBy w1 (some G) := by
    have h1 : W.grownBy w1 (some G) := by simpa [Value.ownBlock] using hgrow
    have h0 : wr.grownBy W (some G) := by rw [hW]; exact World.grownBy_alloc wr _ _
    exact ⟨h1.os.trans h0.os, h1.tape.trans h0.tape, h1.output.trans h0.output, Nat.le_trans h0.size h1.size, fun i hi hne => (h1.block i (Nat.lt_of_lt_of_le hi h0.size) hne).trans (h0.block i hi hne)⟩
  have hform : ∃ G' C', v' = .slice (some ⟨G', 0, none⟩) (k + 1) C' ∧ (G' = G ∨ wr.heap.size ≤ G') := by
    rcases ho1.2 with ⟨h1, _⟩ | ⟨g, cap, cur, h1, h2, h3, h4, h5, h6, h7⟩
    · cases h1
    · simp only [Value.slice.injEq, Option.some.injEq, Addr.mk.injEq, and_true, true_and] at h1
      obtain ⟨rfl, rfl⟩ := h1
      by_cases hroom : k + 1 ≤ C
      · have hr2 := run_append_room (P := Tryz.prog) W 37 o.type 9 i0 Tryz.underlying37 gi G k C cur h3 ⟨wr.heap.size, 0, none⟩ 1 1 [.string X] (by rw [gz1]; rfl) hnew hone hroom (by rw [gz1]; simp; omega)
        rw [hr] at hr2
        simp only [Result.ok.injEq] at hr2
        exact ⟨G, C, hr2.1, .inl rfl⟩
      · have hr2 := run_append_grow (P := Tryz.prog) W 37 o.type 9 i0 (.string ByteArray.empty) Tryz.underlying37 gi gz0 ⟨G, 0, none⟩ k C (xs.map Value.string) (by rw [gz1]; exact ho1.1) (ho1.cells (g := G) rfl) ⟨wr.heap.size, 0, none⟩ 1 1 [.string X] (by rw [gz1]; rfl) hnew (by omega) (by omega) (growslice_fits (by omega) (by rw [gz2]; omega))
        rw [hr] at hr2
        simp only [Result.ok.injEq] at hr2
        exact ⟨W.heap.size, _, hr2.1, .inr (by omega)⟩
  obtain ⟨G', C', rfl, hG⟩ := hform
  have h2 := h G' C' w1 (by show w1.ownsRow _ _ _ _ _ _; rw [List.map_append]; exact hown') hG hg1
  unfold Oper.wp execOp
  simp only [hop, resolve, invoke, builtin, Sem.run_bind, Sem.run_pure, Result.andThen_ok, List.map_toArray, List.map_cons, List.map_nil, hs, hx, hr]
  exact h2
end Go.Proofs.YtlfajalhoifliaaGreatDoor
