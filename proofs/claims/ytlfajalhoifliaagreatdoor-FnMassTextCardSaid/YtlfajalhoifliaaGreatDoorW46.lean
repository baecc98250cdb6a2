/- Contracts: the source of numbers is opened; a number out of a list. -/
import Derived.Test.YtlfajalhoifliaaGreatDoorW45
namespace Go.Proofs.YtlfajalhoifliaaGreatDoor
open Go.RowKit

theorem Row.grown {w w' : World} {a : Option Addr} {n k : Nat} {xs : List Int} (h : Row w a n xs) (hg : w.grownBy w' (some k)) (hne : ∀ b off, a = some ⟨b, off, none⟩ → b ≠ k) : Row w' a n xs := by
  refine ⟨h.1, fun hn => ?_⟩
  obtain ⟨b, off, rfl, hlt, hc⟩ := h.2 hn
  refine ⟨b, off, rfl, Nat.lt_of_lt_of_le hlt hg.size, fun j hj => ?_⟩
  have h1 := hc j hj
  have h2 := hg.block b hlt (fun e => hne b off rfl (by cases e; rfl))
  rw [← h1]
  unfold World.cell?
  simp [h2]
/-- block k is an open source of numbers over bytes of w0 -/
def Src (w0 : World) (k : Nat) (q : Int) (w : World) : Prop := ∃ a n c bs, n ≤ 2000 ∧ BRow w0 a n bs ∧ Box w k 64 (.slice a n c) (.int .i64 q)
set_option maxHeartbeats 800000 in
theorem l14Open_any (a : Option Addr) (n c : Nat) (bs : List Int) (w : World) (hr : BRow w a n bs) (hnc : n ≤ c ∨ n ≤ 2000) :
    Calls Tryz.prog 14 #[.slice a n c] w fun e w' => e = .returned (.pointer (some ⟨w.heap.size, 0, none⟩)) ∧ Src w w.heap.size 0 w' ∧ Below w.heap.size w w' := by
  by_cases h : 2000 < (n : Int)
  · have hc : 2000 ≤ c := by omega
    have hci : ¬ ((c : Int) < 2000) := by omega
    have hcl : (2000 : Int) ≤ (c : Int) := by omega
    obtain ⟨b, off, rfl, hlt, hcell⟩ := hr.2 (by omega)
    have hr' : BRow w (some ⟨b, off, none⟩) 2000 bs := ⟨fun k hk => hr.1 k (by omega), fun _ => ⟨b, off, rfl, hlt, fun k hk => hcell k (by omega)⟩⟩
    have HR := Lib.hid hr'; clear hr' hr hcell
    go_enter Tryz.func14, Tryz.ntmps14
    go_wp2_with fail
    go_ret
    exact ⟨rfl, ⟨_, 2000, c, bs, by omega, HR.out, Box.new _ _ _ _⟩, (Below.refl _ _).alloc (Nat.le_refl _) _⟩
  · have HR := Lib.hid hr; clear hr
    go_enter Tryz.func14, Tryz.ntmps14
    go_wp2_with fail
    go_ret
    exact ⟨rfl, ⟨_, n, c, bs, by omega, HR.out, Box.new _ _ _ _⟩, (Below.refl _ _).alloc (Nat.le_refl _) _⟩
set_option maxHeartbeats 800000 in
theorem num_any {w0 : World} (k : Nat) (a : Option Addr) (n c : Nat) (bs : List Int) (q : Int) (aL : Option Addr) (m cL : Nat) (ls : List Int) (w : World) (hB : Below w0.heap.size w0 w) (hk : w0.heap.size ≤ k) (hr : BRow w0 a n bs) (hx : Box w k 64 (.slice a n c) (.int .i64 q)) (hn : n ≤ 2000) (hq : 0 ≤ q ∧ q ≤ 1000000)
    (hL : Row w aL m ls) (hm : 1 ≤ m ∧ m ≤ 1000000) (hne : ∀ b off, aL = some ⟨b, off, none⟩ → b ≠ k) :
    Calls Tryz.prog 55 #[.pointer (some ⟨k, 0, none⟩), .slice aL m cL] w fun e w' => ∃ z : Nat, z < m ∧ e = .returned (.int .i64 (ls.getD z 0)) ∧ Box w' k 64 (.slice a n c) (.int .i64 (q + 1)) ∧ w.grownBy w' (some k) := by
  have HP := Lib.hid (pick_any k a n c bs q (m : Int) w hB hk hr hx hn hq (by omega))
  have HNE := Lib.hid hne; clear hne
  go_enter Tryz.func55, Tryz.ntmps55
  go_wp2_with fail
  refine HP.out.mono ?_
  rintro e w1 ⟨z, rfl, hz, hx1, hg⟩
  obtain ⟨y, rfl⟩ : ∃ y : Nat, z = y := ⟨z.toNat, by omega⟩
  have hym : y < m := by omega
  have hym2 : (y : Int) < (m : Int) := by omega
  obtain ⟨b, off, v, rfl, hv, hc⟩ := (hL.grown hg HNE.out).at_ hym
  have HX := Lib.hid hx1
  have HG := Lib.hid hg
  have HV := Lib.hid hv
  clear hx1 hg hv hx hL hB hr
  go_wp2_with fail
  go_ret
  exact ⟨y, hym, ret_int HV.out, HX.out, HG.out⟩
theorem pickS_any {w0 : World} (k : Nat) (q m : Int) (w : World) (hB : Below w0.heap.size w0 w) (hk : w0.heap.size ≤ k) (hx : Src w0 k q w) (hq : 0 ≤ q ∧ q ≤ 1000000) (hm : m ≤ 1000000) :
    Calls Tryz.prog 34 #[.pointer (some ⟨k, 0, none⟩), .int .i64 m] w fun e w' => ∃ z, e = .returned (.int .i64 z) ∧ (0 ≤ z ∧ (1 ≤ m → z < m) ∧ (m < 1 → z = 0)) ∧ Src w0 k (q + 1) w' ∧ w.grownBy w' (some k) := by
  obtain ⟨a, n, c, bs, hn, hr, hbx⟩ := hx
  refine (pick_any k a n c bs q m w hB hk hr hbx hn hq hm).mono ?_
  rintro e w' ⟨z, rfl, hz, hx', hg⟩
  exact ⟨z, rfl, hz, ⟨a, n, c, bs, hn, hr, hx'⟩, hg⟩
theorem numS_any {w0 : World} (k : Nat) (q : Int) (aL : Option Addr) (m cL : Nat) (ls : List Int) (w : World) (hB : Below w0.heap.size w0 w) (hk : w0.heap.size ≤ k) (hx : Src w0 k q w) (hq : 0 ≤ q ∧ q ≤ 1000000)
    (hL : Row w aL m ls) (hm : 1 ≤ m ∧ m ≤ 1000000) (hne : ∀ b off, aL = some ⟨b, off, none⟩ → b ≠ k) :
    Calls Tryz.prog 55 #[.pointer (some ⟨k, 0, none⟩), .slice aL m cL] w fun e w' => ∃ z : Nat, z < m ∧ e = .returned (.int .i64 (ls.getD z 0)) ∧ Src w0 k (q + 1) w' ∧ w.grownBy w' (some k) := by
  obtain ⟨a, n, c, bs, hn, hr, hbx⟩ := hx
  refine (num_any k a n c bs q aL m cL ls w hB hk hr hbx hn hq hL hm hne).mono ?_
  rintro e w' ⟨z, hz, rfl, hx', hg⟩
  exact ⟨z, hz, rfl, ⟨a, n, c, bs, hn, hr, hx'⟩, hg⟩
theorem Src.grown {w0 w w' : World} {k : Nat} {q : Int} {row : Option Nat} (h : Src w0 k q w) (hg : w.grownBy w' row) (hne : row ≠ some k) : Src w0 k q w' := by
  obtain ⟨a, n, c, bs, hn, hr, hx⟩ := h
  exact ⟨a, n, c, bs, hn, hr, hx.grown hg hne⟩
theorem Src.below {w0 w w' : World} {k : Nat} {q : Int} (h : Src w0 k q w) (hb : Below w.heap.size w w') : Src w0 k q w' := by
  obtain ⟨a, n, c, bs, hn, hr, hx⟩ := h
  exact ⟨a, n, c, bs, hn, hr, hx.below hb hx.lt⟩
theorem Src.lt {w0 w : World} {k : Nat} {q : Int} (h : Src w0 k q w) : k < w.heap.size := by
  obtain ⟨a, n, c, bs, hn, hr, hx⟩ := h
  exact hx.lt
end Go.Proofs.YtlfajalhoifliaaGreatDoor
