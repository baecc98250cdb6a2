/- Contracts: a string out of a list; what stands while a table is drawn. -/
import Derived.Test.YtffkpmmgfgcngaaW49
import Derived.Test.YtffkpmmgfgcngaaW42
namespace Go.Proofs.Ytffkpmmgfgcngaa
open Go.RowKit

set_option maxHeartbeats 1600000 in
set_option maxRecDepth 100000 in
theorem ofS_any {w0 : World} (k : Nat) (q : Int) (g m c : Nat) (ls : List ByteArray) (w : World) (hB : Below w0.heap.size w0 w) (hk : w0.heap.size ≤ k) (hx : Src w0 k q w) (hq : 0 ≤ q ∧ q ≤ 1000000)
    (hL : ∀ j, j < m → w.cell? ⟨g, j, none⟩ = some (.string (ls.getD j .empty))) (hm : 1 ≤ m ∧ m ≤ 1000000) (hg : g < w.heap.size) (hne : g ≠ k) :
    Calls Try.prog 173 #[.pointer (some ⟨k, 0, none⟩), .slice (some ⟨g, 0, none⟩) m c] w fun e w' => ∃ z : Nat, z < m ∧ e = .returned (.string (ls.getD z .empty)) ∧ Src w0 k (q + 1) w' ∧ w.grownBy w' (some k) := by
  have HP := Lib.hid (pickS_any k q (m : Int) w hB hk hx hq (by omega))
  have HL := Lib.hid hL; clear hL
  go_enter Try.func173, Try.ntmps173
  go_wp2_with fail
  refine HP.out.mono ?_
  rintro e w1 ⟨z, rfl, hz, hx1, hgr⟩
  obtain ⟨y, rfl⟩ : ∃ y : Nat, z = y := ⟨z.toNat, by omega⟩
  have hym : y < m := by omega
  have hym2 : (y : Int) < (m : Int) := by omega
  obtain ⟨v, hv⟩ : ∃ v, v = ls.getD y .empty := ⟨_, rfl⟩
  have hc : w1.cell? ⟨g, y, none⟩ = some (.string v) := by
    have h1 := HL.out y hym
    have h2 := hgr.block g hg (fun e => by cases e; exact hne rfl)
    rw [hv, ← h1]
    unfold World.cell?
    simp [h2]
  have HX := Lib.hid hx1
  have HG := Lib.hid hgr
  have HV := Lib.hid hv
  clear hx1 hgr hv hx hB HL
  go_wp2_with fail
  go_ret
  exact ⟨y, hym, by rw [← HV.out]; rfl, HX.out, HG.out⟩
/-- the list at A is drawn; block k is the source, b the world in which the drawing of the list began -/
def Li (w0 b : World) (k : Nat) (q d : Int) (A : Option Addr) (l C : Nat) (wr : World) : Prop :=
  ∃ ys q', Own b.heap.size wr A l C ys ∧ Src w0 k q' wr ∧ (q ≤ q' ∧ q' ≤ q + d) ∧ b.grownBy wr (some k)
theorem Src.at_ {w0 w w' : World} {k B : Nat} {q : Int} (h : Src w0 k q w) (hb : Below B w w') (hk : k < B) : Src w0 k q w' := by
  obtain ⟨a, n, c, bs, hn, hr, hx⟩ := h
  exact ⟨a, n, c, bs, hn, hr, hx.below hb hk⟩
theorem grown_at {b w w' : World} {row : Option Nat} (h : b.grownBy w row) (hb : Below b.heap.size w w') : b.grownBy w' row :=
  ⟨hb.os.trans h.os, hb.tape.trans h.tape, hb.output.trans h.output, Nat.le_trans h.size hb.size, fun i hi hne => (hb.block i hi).trans (h.block i hi hne)⟩
theorem Own.notk {B : Nat} {w : World} {a : Option Addr} {n c k : Nat} {xs : List Int} (h : Own B w a n c xs) (hk : k < B) : ∀ g, a = some ⟨g, 0, none⟩ → some k ≠ some g := fun g hg => by
  rcases h.form with ⟨h1, _⟩ | ⟨g1, h1, h2, _⟩
  · rw [h1] at hg; cases hg
  · rw [h1] at hg; cases hg; intro e; cases e; omega
theorem Li.new {w0 b : World} {k : Nat} {q : Int} (hs : Src w0 k q b) : Li w0 b k q 0 (some ⟨b.heap.size, 0, none⟩) 0 0 (b.alloc (.cells #[] 3)) := by
  have hb : Below b.heap.size b (b.alloc (.cells #[] 3)) := (Below.refl _ _).alloc (Nat.le_refl _) _
  exact ⟨[], q, World.ownsRow_lit b #[] 0 (Nat.le_refl _) (by unfold maxLen; omega) rfl, hs.below hb, by omega, grown_of_below hb _⟩
theorem Li.pick {w0 b wr : World} {k l C : Nat} {q d m : Int} {A : Option Addr} (h : Li w0 b k q d A l C wr) (hB : Below w0.heap.size w0 b) (hk : w0.heap.size ≤ k) (hkb : k < b.heap.size) (hq : 0 ≤ q ∧ q + d ≤ 1000000) (hm : m ≤ 1000000) :
    Calls Try.prog 154 #[.pointer (some ⟨k, 0, none⟩), .int .i64 m] wr fun e w' => ∃ z, e = .returned (.int .i64 z) ∧ (0 ≤ z ∧ (1 ≤ m → z < m) ∧ (m < 1 → z = 0)) ∧ Li w0 b k q (d + 1) A l C w' ∧ wr.grownBy w' (some k) := by
  obtain ⟨ys, q', ho, hs, hqq, hg⟩ := h
  refine (pickS_any k q' m wr (hB.grown hg hB.size (fun g e => by cases e; exact hk)) hk hs (by omega) hm).mono ?_
  rintro e w' ⟨z, rfl, hz, hs', hg'⟩
  exact ⟨z, rfl, hz, ⟨ys, q' + 1, ho.kept hg' (ho.notk hkb), hs', by omega, grown_trans hg hg'⟩, hg'⟩
theorem Li.num {w0 b wr : World} {k l C : Nat} {q d : Int} {A : Option Addr} (h : Li w0 b k q d A l C wr) (hB : Below w0.heap.size w0 b) (hk : w0.heap.size ≤ k) (hkb : k < b.heap.size) (hq : 0 ≤ q ∧ q + d ≤ 1000000)
    {aL : Option Addr} {m cL : Nat} {ls : List Int} (hL : Row wr aL m ls) (hm : 1 ≤ m ∧ m ≤ 1000000) (hne : ∀ b off, aL = some ⟨b, off, none⟩ → b ≠ k) :
    Calls Try.prog 165 #[.pointer (some ⟨k, 0, none⟩), .slice aL m cL] wr fun e w' => ∃ z : Nat, z < m ∧ e = .returned (.int .i64 (ls.getD z 0)) ∧ Li w0 b k q (d + 1) A l C w' ∧ wr.grownBy w' (some k) := by
  obtain ⟨ys, q', ho, hs, hqq, hg⟩ := h
  refine (numS_any k q' aL m cL ls wr (hB.grown hg hB.size (fun g e => by cases e; exact hk)) hk hs (by omega) hL hm hne).mono ?_
  rintro e w' ⟨z, hz, rfl, hs', hg'⟩
  exact ⟨z, hz, rfl, ⟨ys, q' + 1, ho.kept hg' (ho.notk hkb), hs', by omega, grown_trans hg hg'⟩, hg'⟩
theorem Li.of {w0 b wr : World} {k l C : Nat} {q d : Int} {A : Option Addr} (h : Li w0 b k q d A l C wr) (hB : Below w0.heap.size w0 b) (hk : w0.heap.size ≤ k) (hkb : k < b.heap.size) (hq : 0 ≤ q ∧ q + d ≤ 1000000)
    {g m c : Nat} {ls : List ByteArray} (hL : ∀ j, j < m → wr.cell? ⟨g, j, none⟩ = some (.string (ls.getD j .empty))) (hm : 1 ≤ m ∧ m ≤ 1000000) (hg : g < wr.heap.size) (hne : g ≠ k) :
    Calls Try.prog 173 #[.pointer (some ⟨k, 0, none⟩), .slice (some ⟨g, 0, none⟩) m c] wr fun e w' => ∃ z : Nat, z < m ∧ e = .returned (.string (ls.getD z .empty)) ∧ Li w0 b k q (d + 1) A l C w' ∧ wr.grownBy w' (some k) := by
  obtain ⟨ys, q', ho, hs, hqq, hgr⟩ := h
  refine (ofS_any k q' g m c ls wr (hB.grown hgr hB.size (fun g e => by cases e; exact hk)) hk hs (by omega) hL hm hg hne).mono ?_
  rintro e w' ⟨z, hz, rfl, hs', hg'⟩
  exact ⟨z, hz, rfl, ⟨ys, q' + 1, ho.kept hg' (ho.notk hkb), hs', by omega, grown_trans hgr hg'⟩, hg'⟩
theorem Li.below {w0 b wr w' : World} {k l C : Nat} {q d : Int} {A : Option Addr} (h : Li w0 b k q d A l C wr) (hb : Below wr.heap.size wr w') : Li w0 b k q d A l C w' := by
  obtain ⟨ys, q', ho, hs, hqq, hg⟩ := h
  exact ⟨ys, q', ho.below hb, hs.below hb, hqq, grown_trans hg (grown_of_below hb _)⟩
theorem Li.drew {w0 b wr : World} {k l C : Nat} {q d : Int} {A : Option Addr} (h : Li w0 b k q d A l C wr) : Li w0 b k q d A l C wr.drew := h.below (Below.refl _ _).drew
theorem Li.mono {w0 b wr : World} {k l C : Nat} {q d d' : Int} {A : Option Addr} (h : Li w0 b k q d A l C wr) (hd : d ≤ d') : Li w0 b k q d' A l C wr := by
  obtain ⟨ys, q', ho, hs, hqq, hg⟩ := h
  exact ⟨ys, q', ho, hs, by omega, hg⟩
/-- the list is a new one -/
theorem Li.to {w0 b wr w' : World} {k l C l' C' : Nat} {q d : Int} {A A' : Option Addr} {zs : List Int} (h : Li w0 b k q d A l C wr) (hkb : k < b.heap.size) (ho : Own b.heap.size w' A' l' C' zs) (hb : Below b.heap.size wr w') : Li w0 b k q d A' l' C' w' := by
  obtain ⟨ys, q', _, hs, hqq, hg⟩ := h
  exact ⟨zs, q', ho, hs.at_ hb hkb, hqq, grown_at hg hb⟩
theorem Li.set {w0 b wr : World} {k l C g : Nat} {q d : Int} (h : Li w0 b k q d (some ⟨g, 0, none⟩) l C wr) (hkb : k < b.heap.size) (j : Nat) (v : Int) : Li w0 b k q d (some ⟨g, 0, none⟩) l C (wr.setCell ⟨g, j, none⟩ (.int .i64 v)) := by
  obtain ⟨ys, q', ho, hs, hqq, hg⟩ := h
  have hbg : b.heap.size ≤ g := by
    rcases ho.form with ⟨h1, _⟩ | ⟨g1, h1, h2, _⟩
    · cases h1
    · cases h1; exact h2
  exact ⟨ys.set j v, q', ho.set j v, hs.grown (grown_setCell _ _ _) (by simp; omega), hqq, set_grown hg (by simp; omega)⟩
theorem Li.size {w0 b wr : World} {k l C : Nat} {q d : Int} {A : Option Addr} (h : Li w0 b k q d A l C wr) : b.heap.size ≤ wr.heap.size := by
  obtain ⟨ys, q', ho, hs, hqq, hg⟩ := h
  exact hg.size
theorem Li.at0 {w0 b wr : World} {k l C : Nat} {q d : Int} {A : Option Addr} (h : Li w0 b k q d A l C wr) (hl : 0 < l) : ∃ g, A = some ⟨g, 0, none⟩ := by
  obtain ⟨ys, q', ho, hs, hqq, hg⟩ := h
  rcases ho.form with ⟨_, h1, _⟩ | ⟨g1, h1, h2, _⟩
  · omega
  · exact ⟨g1, h1⟩
theorem Li.cell {w0 b wr : World} {k l C g : Nat} {q d : Int} (h : Li w0 b k q d (some ⟨g, 0, none⟩) l C wr) {j : Nat} (hj : j < l) : ∃ v, wr.cell? ⟨g, j, none⟩ = some (.int .i64 v) := by
  obtain ⟨ys, q', ho, hs, hqq, hg⟩ := h
  exact ⟨_, ho.cell hj⟩
theorem Li.fr {w0 b wr : World} {k l C g : Nat} {q d : Int} (h : Li w0 b k q d (some ⟨g, 0, none⟩) l C wr) (j : Nat) : wr.frozen? ⟨g, j, none⟩ = false := by
  obtain ⟨ys, q', ho, hs, hqq, hg⟩ := h
  exact ho.frozen j
theorem Li.far {w0 b wr : World} {k l C g : Nat} {q d : Int} (h : Li w0 b k q d (some ⟨g, 0, none⟩) l C wr) : b.heap.size ≤ g ∧ g < wr.heap.size := by
  obtain ⟨ys, q', ho, hs, hqq, hg⟩ := h
  rcases ho.form with ⟨h1, _⟩ | ⟨g1, h1, h2, h3, _⟩
  · cases h1
  · cases h1; exact ⟨h2, h3⟩
theorem Li.celk {w0 b wr w' : World} {k l C g : Nat} {q d : Int} (h : Li w0 b k q d (some ⟨g, 0, none⟩) l C wr) (hkb : k < b.heap.size) (hg : wr.grownBy w' (some k)) (j : Nat) : w'.cell? ⟨g, j, none⟩ = wr.cell? ⟨g, j, none⟩ := by
  have hf := h.far
  have h2 := hg.block g hf.2 (fun e => by cases e; omega)
  unfold World.cell?
  simp [h2]
/-- a drawn list -/
def DrawnL (w0 : World) (k : Nat) (q d : Int) (w : World) (e : Ending) (w' : World) : Prop :=
  ∃ A l C xs q', e = .returned (.slice A l C) ∧ l ≤ 17 ∧ Own w.heap.size w' A l C xs ∧ Src w0 k q' w' ∧ (q ≤ q' ∧ q' ≤ q + d) ∧ w.grownBy w' (some k)
theorem Li.done {w0 w b wr : World} {k l C : Nat} {q0 D q d : Int} {A : Option Addr} (h : Li w0 b k q d A l C wr) (hg : w.grownBy b (some k)) (hl : l ≤ 17) (hq : q0 ≤ q ∧ q + d ≤ q0 + D) : DrawnL w0 k q0 D w (.returned (.slice A l C)) wr := by
  obtain ⟨ys, q', ho, hs, hqq, hgr⟩ := h
  exact ⟨A, l, C, ys, q', rfl, hl, ho.mono hg.size, hs, by omega, grown_trans hg hgr⟩
/-- block X is a variable that holds a mass; the source at k is another block -/
def Ms (k X : Nat) (s : Int) (A : Option Addr) (n C : Nat) (xs : List Int) (wr : World) : Prop := Box wr X 25 (.int .i64 s) (.slice A n C) ∧ Row wr A n xs ∧ X ≠ k ∧ ∀ b off, A = some ⟨b, off, none⟩ → b ≠ k
theorem Ms.grown {k X n C : Nat} {s : Int} {A : Option Addr} {xs : List Int} {wr w' : World} (h : Ms k X s A n C xs wr) (hg : wr.grownBy w' (some k)) : Ms k X s A n C xs w' :=
  ⟨h.1.grown hg (fun e => by cases e; exact h.2.2.1 rfl), h.2.1.grown hg h.2.2.2, h.2.2.1, h.2.2.2⟩
theorem Ms.li {w0 b wr : World} {k l' C' X n C : Nat} {q d s : Int} {A A' : Option Addr} {xs : List Int} (h : Ms k X s A n C xs b) (hl : Li w0 b k q d A' l' C' wr) : Ms k X s A n C xs wr := by
  obtain ⟨ys, q', ho, hs, hqq, hg⟩ := hl
  exact h.grown hg
theorem tabN_four {s : Int} {xs : List Int} {n z : Nat} (hn : xs.length = n) (hm : massB s xs = true) (hz : z < 4) : tabN s xs (([{ data := #[105, 109, 112, 108, 105, 101, 100] }, { data := #[98, 101, 108, 105, 101, 118, 101, 100] }, { data := #[112, 111, 115, 115, 105, 98, 108, 101] }, { data := #[99, 111, 109, 109, 111, 110] }] : List ByteArray).getD z .empty) = n := by
  have h : z = 0 ∨ z = 1 ∨ z = 2 ∨ z = 3 := by omega
  rcases h with rfl | rfl | rfl | rfl
  · exact (tab_yes (j := 0) hn hm (kind0 (by decide +kernel)) (by omega)).1
  · exact (tab_yes (j := 1) hn hm (kind1 (by decide +kernel)) (by omega)).1
  · exact (tab_yes (j := 2) hn hm (kind2 (by decide +kernel)) (by omega)).1
  · exact (tab_yes (j := 3) hn hm (kind3 (by decide +kernel)) (by omega)).1
end Go.Proofs.Ytffkpmmgfgcngaa
