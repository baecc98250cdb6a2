/- What stands while parts are drawn. -/
import Derived.Test.YtlfajalhoifliaaGreatDoorW46
import Derived.Test.YtlfajalhoifliaaGreatDoorW36
import Derived.Test.YtlfajalhoifliaaGreatDoorLaw
namespace Go.Proofs.YtlfajalhoifliaaGreatDoor
open Go.RowKit

/-- parts are drawn into the row at P; block k is the source, block X a variable that waits for the result; w: where the function began -/
def Dr (w0 w : World) (k : Nat) (q : Int) (n P : Nat) (d B : Int) (wr : World) : Prop :=
  ∃ ps q', Own P wr (some ⟨P, 0, none⟩) n n ps ∧ (∀ j, j < n → 0 ≤ ps.getD j 0 ∧ ps.getD j 0 ≤ B) ∧ Src w0 k q' wr ∧ (q ≤ q' ∧ q' ≤ q + d) ∧ w.grownBy wr (some k) ∧ Box wr w.heap.size 25 (.int .i64 0) (.slice none 0 0) ∧ Below w0.heap.size w0 wr
theorem Dr.pick {w0 w wr : World} {k n P : Nat} {q d B m : Int} (h : Dr w0 w k q n P d B wr) (hk : w0.heap.size ≤ k) (hkP : k < w.heap.size ∧ w.heap.size < P) (hq : 0 ≤ q ∧ q + d ≤ 1000000) (hm : m ≤ 1000000) :
    Calls Tryz.prog 34 #[.pointer (some ⟨k, 0, none⟩), .int .i64 m] wr fun e w' => ∃ z, e = .returned (.int .i64 z) ∧ (0 ≤ z ∧ (1 ≤ m → z < m) ∧ (m < 1 → z = 0)) ∧ Dr w0 w k q n P (d + 1) B w' := by
  obtain ⟨ps, q', ho, hb, hs, hqq, hg, hx, hB⟩ := h
  refine (pickS_any k q' m wr hB hk hs (by omega) hm).mono ?_
  rintro e w' ⟨z, rfl, hz, hs', hg'⟩
  refine ⟨z, rfl, hz, ps, q' + 1, ho.kept hg' (fun g hgk => by cases hgk; intro e; cases e; omega), hb, hs', by omega, grown_trans hg hg', hx.grown hg' (fun e => by cases e; omega), hB.grown hg' hB.size (fun g hgk => by cases hgk; exact hk)⟩
/-- the same, and the parts stay -/
theorem Dr.pickc {w0 w wr : World} {k n P : Nat} {q d B m : Int} (h : Dr w0 w k q n P d B wr) (hk : w0.heap.size ≤ k) (hkP : k < w.heap.size ∧ w.heap.size < P) (hq : 0 ≤ q ∧ q + d ≤ 1000000) (hm : m ≤ 1000000) :
    Calls Tryz.prog 34 #[.pointer (some ⟨k, 0, none⟩), .int .i64 m] wr fun e w' => ∃ z, e = .returned (.int .i64 z) ∧ (0 ≤ z ∧ (1 ≤ m → z < m) ∧ (m < 1 → z = 0)) ∧ Dr w0 w k q n P (d + 1) B w' ∧ ∀ j, w'.cell? ⟨P, j, none⟩ = wr.cell? ⟨P, j, none⟩ := by
  obtain ⟨ps, q', ho, hb, hs, hqq, hg, hx, hB⟩ := h
  refine (pickS_any k q' m wr hB hk hs (by omega) hm).mono ?_
  rintro e w' ⟨z, rfl, hz, hs', hg'⟩
  refine ⟨z, rfl, hz, ⟨ps, q' + 1, ho.kept hg' (fun g hgk => by cases hgk; intro e; cases e; omega), hb, hs', by omega, grown_trans hg hg', hx.grown hg' (fun e => by cases e; omega), hB.grown hg' hB.size (fun g hgk => by cases hgk; exact hk)⟩, fun j => ?_⟩
  have hP : P < wr.heap.size := by
    rcases ho.form with ⟨h, _⟩ | ⟨g, h, _, h2, _⟩ <;> (cases h)
    exact h2
  have h2 := hg'.block P hP (fun e => by cases e; omega)
  unfold World.cell?
  simp [h2]
theorem Dr.cell {w0 w wr : World} {k n P : Nat} {q d B : Int} (h : Dr w0 w k q n P d B wr) {j : Nat} (hj : j < n) :
    ∃ t, wr.cell? ⟨P, j, none⟩ = some (.int .i64 t) ∧ (0 ≤ t ∧ t ≤ B) ∧ wr.frozen? ⟨P, j, none⟩ = false := by
  obtain ⟨ps, q', ho, hb, _⟩ := h
  exact ⟨_, ho.cell hj, hb j hj, ho.frozen j⟩
theorem Dr.set {w0 w wr : World} {k n P : Nat} {q d B B' v : Int} {j : Nat} (h : Dr w0 w k q n P d B wr) (hkP : k < w.heap.size ∧ w.heap.size < P) (h0 : w0.heap.size ≤ P) (hv : 0 ≤ v ∧ v ≤ B') (hB' : B ≤ B') :
    Dr w0 w k q n P d B' (wr.setCell ⟨P, j, none⟩ (.int .i64 v)) := by
  obtain ⟨ps, q', ho, hb, hs, hqq, hg, hx, hB⟩ := h
  have hgs := grown_setCell wr ⟨P, j, none⟩ (.int .i64 v)
  refine ⟨ps.set j v, q', ho.set j v, fun i hi => ?_, hs.grown hgs (fun e => by simp at e; omega), hqq, ?_, hx.far (by show w.heap.size ≠ P; omega) _, hB.setCell h0 _⟩
  · have h1 := hb i hi
    have hl := ho.len
    simp only [List.getD, List.getElem?_set] at *
    by_cases e : j = i
    · subst e; simp [show j < ps.length by omega]; omega
    · simp [e]; omega
  · refine ⟨(hgs.os).trans hg.os, (hgs.tape).trans hg.tape, (hgs.output).trans hg.output, Nat.le_trans hg.size hgs.size, fun i hi hne => ?_⟩
    rw [← hg.block i hi hne]
    exact hgs.block i (Nat.lt_of_lt_of_le hi hg.size) (fun e => by simp at e; omega)
theorem Dr.mono {w0 w wr : World} {k n P : Nat} {q d d' B : Int} (h : Dr w0 w k q n P d B wr) (hd : d ≤ d') : Dr w0 w k q n P d' B wr := by
  obtain ⟨ps, q', ho, hb, hs, hqq, hg, hx, hB⟩ := h
  exact ⟨ps, q', ho, hb, hs, by omega, hg, hx, hB⟩
theorem Dr.wide {w0 w wr : World} {k n P : Nat} {q d B B' : Int} (h : Dr w0 w k q n P d B wr) (hd : B ≤ B') : Dr w0 w k q n P d B' wr := by
  obtain ⟨ps, q', ho, hb, hs, hqq, hg, hx, hB⟩ := h
  exact ⟨ps, q', ho, fun j hj => by have := hb j hj; omega, hs, hqq, hg, hx, hB⟩
theorem Dr.drewN {w0 w wr : World} {k n P : Nat} {q d B : Int} (h : Dr w0 w k q n P d B wr) (j : Nat) : Dr w0 w k q n P d B (wr.drewN j) := by
  obtain ⟨ps, q', ho, hb, hs, hqq, hg, hx, hB⟩ := h
  exact ⟨ps, q', ho.below (below_drewN (Below.refl _ _) j), hb, hs.below (below_drewN (Below.refl _ _) j), hqq, grown_trans hg (grown_drewN _ _ _), hx.drewN j, below_drewN hB j⟩
theorem Dr.drew {w0 w wr : World} {k n P : Nat} {q d B : Int} (h : Dr w0 w k q n P d B wr) : Dr w0 w k q n P d B wr.drew := by
  obtain ⟨ps, q', ho, hb, hs, hqq, hg, hx, hB⟩ := h
  exact ⟨ps, q', ho.below (Below.refl _ _).drew, hb, hs.below (Below.refl _ _).drew, hqq, grown_trans hg (grown_of_below (Below.refl _ _).drew _), hx.drew, hB.drew⟩
/-- a drawn mass: some row of at most 17 numbers -/
def DrawnM (w0 : World) (k : Nat) (q d : Int) (w : World) (e : Ending) (w' : World) : Prop :=
  ∃ s A n C xs q', e = .returned (massV s A n C) ∧ (1 ≤ n ∧ n ≤ 17) ∧ Own w.heap.size w' A n C xs ∧ Src w0 k q' w' ∧ (q ≤ q' ∧ q' ≤ q + d) ∧ w.grownBy w' (some k)
/-- a drawn mass that is valid -/
def DrawnV (w0 : World) (k : Nat) (q d : Int) (w : World) (e : Ending) (w' : World) : Prop :=
  ∃ s A n C xs q', e = .returned (massV s A n C) ∧ massB s xs = true ∧ Own w.heap.size w' A n C xs ∧ Src w0 k q' w' ∧ (q ≤ q' ∧ q' ≤ q + d) ∧ w.grownBy w' (some k)
theorem makeM_facts {s : Int} {ps : List Int} {n : Nat} {p : Int × List Int} (hl : ps.length = n) (h : makeM s ps = some p) : p.2.length = n ∧ massB p.1 p.2 = true := by
  unfold makeM at h
  split at h
  · cases h
  · split at h
    · next hm => simp only [Option.some.injEq] at h; rw [← h]; exact ⟨by simp [low_length, hl], hm⟩
    · cases h
theorem shl_small {x : Nat} (h : x < 4) : wrap64 (2 ^ min (IntKind.u64.wrap (x : Int)).toNat 64) = ((2 ^ x : Nat) : Int) := by
  have h : x = 0 ∨ x = 1 ∨ x = 2 ∨ x = 3 := by omega
  rcases h with rfl | rfl | rfl | rfl <;> decide +kernel
end Go.Proofs.YtlfajalhoifliaaGreatDoor
