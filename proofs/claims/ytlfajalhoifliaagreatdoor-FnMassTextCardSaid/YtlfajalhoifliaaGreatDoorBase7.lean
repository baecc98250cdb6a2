/- More on memory: a variable that holds a mass. No condition. -/
import Derived.Test.YtlfajalhoifliaaGreatDoorW52
import Derived.Test.YtlfajalhoifliaaGreatDoorW54
import Derived.OpenShut
namespace Go.Proofs.YtlfajalhoifliaaGreatDoor
open Go.RowKit

theorem BRow.nil (w : World) (bs : List Int) : BRow w none 0 bs := ⟨fun _ h => absurd h (by omega), fun h => absurd h (by omega)⟩
theorem brow_of_read {w : World} {x : Addr} {l c : Nat} {zs : List Int} (hl : l ≤ c) (hz : zs.length = c) (hcell : ∀ i, i < zs.length → w.cell? (x.add i) = some (.int .u8 (zs.getD i 0))) (hw : ∀ n ∈ zs, (Lit.int .u8 n).wf = true) : BRow w (some x) l zs := by
  refine ⟨fun k hk => ?_, fun hn => ?_⟩
  · have h := Go.range_u8 hw k
    rw [List.getD_eq_getElem?_getD]
    omega
  · obtain ⟨b, off, spot⟩ := x
    have hc := hcell 0 (by omega)
    have hspot : spot = none := by simpa [Addr.add] using World.cell?_spot hc
    subst hspot
    refine ⟨b, off, rfl, ?_, fun k hk => ?_⟩
    · have := World.block_lt_of_cell? w _ hc
      simpa [Addr.add] using this
    · have := hcell k (by omega)
      rw [Addr.add_lit] at this
      exact this
/-- block k is a variable that holds the mass of size s with the parts xs -/
def Mv (w : World) (k : Nat) (s : Int) (a : Option Addr) (n c : Nat) (xs : List Int) : Prop := Box w k 25 (.int .i64 s) (.slice a n c) ∧ Row w a n xs
theorem Mv.below {w w' : World} {k : Nat} {s : Int} {a : Option Addr} {n c : Nat} {xs : List Int} (h : Mv w k s a n c xs) (hb : Below w.heap.size w w') : Mv w' k s a n c xs := ⟨h.1.below hb h.1.lt, h.2.below hb⟩
theorem Mv.at_ {w w' : World} {k : Nat} {s : Int} {a : Option Addr} {n c : Nat} {xs : List Int} (h : Mv w k s a n c xs) (hb : Below w.heap.size w w') :
    w'.cell? ⟨k, 0, none⟩ = some (.int .i64 s) ∧ w'.cell? ⟨k, 1, none⟩ = some (.slice a n c) := ⟨(h.below hb).1.cells.1, (h.below hb).1.cells.2.1⟩
theorem Mv.new {w w' : World} {s : Int} {a : Option Addr} {n c : Nat} {xs : List Int} (h : Row w a n xs) (hw : w' = w.alloc (.cells #[.int .i64 s, .slice a n c] 25)) : Mv w' w.heap.size s a n c xs ∧ Below w.heap.size w w' := by
  subst hw
  have hb : Below w.heap.size w (w.alloc (.cells #[.int .i64 s, .slice a n c] 25)) := (Below.refl _ _).alloc (Nat.le_refl _) _
  exact ⟨⟨Box.new _ _ _ _, h.below hb⟩, hb⟩
theorem Mv.new2 {w w' : World} {s t : Int} {a b : Option Addr} {n c m d : Nat} {xs ys : List Int} (h : Row w a n xs) (h2 : Row w b m ys) (hw : w' = (w.alloc (.cells #[.int .i64 s, .slice a n c] 25)).alloc (.cells #[.int .i64 t, .slice b m d] 25)) :
    Mv w' w.heap.size s a n c xs ∧ Mv w' (w.heap.size + 1) t b m d ys ∧ Below w.heap.size w w' := by
  subst hw
  have hb : Below w.heap.size w ((w.alloc (.cells #[.int .i64 s, .slice a n c] 25)).alloc (.cells #[.int .i64 t, .slice b m d] 25)) := ((Below.refl _ _).alloc (Nat.le_refl _) _).alloc (by simp) _
  exact ⟨⟨(Box.new _ _ _ _).alloc _, h.below hb⟩, ⟨alloc_at (by simp), h2.below hb⟩, hb⟩
theorem RetM.yes {B n : Nat} {t : Int} {ys : List Int} {r : MassR} {e : Ending} {w : World} (hr : r = some (t, ys)) (hn : ys.length = n) (h : RetM B r e w) : ∃ A C, e = .returned (.tuple #[massV t A n C, .bool true]) ∧ Row w A n ys := by
  subst hr
  obtain ⟨A, C, he, ho⟩ := h
  simp only [rS, rN, rL, rB, hn] at he ho
  exact ⟨A, C, he, ho.row⟩
theorem RetM.no {B : Nat} {r : MassR} {e : Ending} {w : World} (hr : r = none) (h : RetM B r e w) : ∃ A C, e = .returned (.tuple #[massV 0 A 0 C, .bool false]) ∧ Row w A 0 [] := by
  subst hr
  obtain ⟨A, C, he, ho⟩ := h
  exact ⟨A, C, he, ho.row⟩
theorem Row.form {w : World} {a : Option Addr} {n : Nat} {xs : List Int} (h : Row w a n xs) (hn : 0 < n) : ∃ b off, a = some ⟨b, off, none⟩ := by
  obtain ⟨b, off, h1, _⟩ := h.2 hn
  exact ⟨b, off, h1⟩
theorem Row.cellAt {w w' : World} {b off n : Nat} {xs : List Int} (h : Row w (some ⟨b, off, none⟩) n xs) (hb : Below w.heap.size w w') {k : Nat} (hk : k < n) : w'.cell? ⟨b, off + k, none⟩ = some (.int .i64 (xs.getD k 0)) := by
  obtain ⟨b', off', h1, hlt, hc⟩ := h.2 (by omega)
  cases h1
  exact (hb.cell (p := ⟨b, off + k, none⟩) hlt).trans (hc k hk)
theorem eq_self2 (s : Int) (xs : List Int) : ((s == s) && eqB xs xs) = true := by simp [eqB_self]
theorem set_mk {s : Int} {n x : Nat} (hf : fitB s n = true) (hx : x < n) : setB s (x : Int) = true := by
  have hnn : (n : Int) = 2 ^ s.toNat := by simpa [fitB] using hf
  unfold setB
  rw [← hnn]
  simp
  omega
theorem RetF.yes {p q : Int} {r : FracR} {e : Ending} (hr : r = some (p, q)) (h : RetF r e) : e = .returned (.tuple #[fracV p q, .bool true]) := by subst hr; exact h
theorem RetF.no {r : FracR} {e : Ending} (hr : r = none) (h : RetF r e) : e = .returned (.tuple #[fracV 0 0, .bool false]) := by subst hr; exact h
end Go.Proofs.YtlfajalhoifliaaGreatDoor
