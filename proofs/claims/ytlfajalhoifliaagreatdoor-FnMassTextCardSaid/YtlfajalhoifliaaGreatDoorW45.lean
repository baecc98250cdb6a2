/- Contract of the source of numbers that the drawn arguments come from. -/
import Derived.Test.YtlfajalhoifliaaGreatDoorBase4
import Derived.Deep.QuietTactic
import Derived.BigQuiet
namespace Go.Proofs.YtlfajalhoifliaaGreatDoor
open Go.RowKit

theorem bits_xor_i64 (a b : Nat) (ha : a < 4611686018427387904) (hb : b < 4611686018427387904) : bits .xor .i64 (a : Int) (b : Int) = ((a ^^^ b : Nat) : Int) := by
  have hx : a ^^^ b < 2 ^ 62 := Nat.xor_lt_two_pow (by omega) (by omega)
  have h1 : (BitVec.ofInt 64 (a : Int)).toNat = a := by
    rw [BitVec.ofInt_natCast, BitVec.toNat_ofNat]; exact Nat.mod_eq_of_lt (by omega)
  have h2 : (BitVec.ofInt 64 (b : Int)).toNat = b := by
    rw [BitVec.ofInt_natCast, BitVec.toNat_ofNat]; exact Nat.mod_eq_of_lt (by omega)
  show IntKind.i64.wrap ((BitVec.ofInt 64 (a : Int) ^^^ BitVec.ofInt 64 (b : Int)).toNat : Int) = _
  rw [BitVec.toNat_xor, h1, h2]
  exact IntWalk.i64_in _ (by omega)
/-- the slice value '.slice a n c' reads as the bytes bs -/
def BRow (w : World) (a : Option Addr) (n : Nat) (bs : List Int) : Prop :=
  (∀ k, k < n → 0 ≤ bs.getD k 0 ∧ bs.getD k 0 < 256) ∧ (0 < n → ∃ b off, a = some ⟨b, off, none⟩ ∧ b < w.heap.size ∧ ∀ k, k < n → w.cell? ⟨b, off + k, none⟩ = some (.int .u8 (bs.getD k 0)))
theorem BRow.at_ {w0 w : World} {a : Option Addr} {n : Nat} {bs : List Int} (h : BRow w0 a n bs) (hb : Below w0.heap.size w0 w) {k : Nat} (hk : k < n) :
    ∃ b off x, a = some ⟨b, off, none⟩ ∧ (0 ≤ x ∧ x < 256) ∧ w.cell? ⟨b, off + k, none⟩ = some (.int .u8 x) := by
  obtain ⟨b, off, rfl, hlt, hc⟩ := h.2 (by omega)
  exact ⟨b, off, _, rfl, h.1 k hk, (hb.cell (p := ⟨b, off + k, none⟩) hlt).trans (hc k hk)⟩
theorem grown_drewN (w : World) (n : Nat) (row : Option Nat) : w.grownBy (w.drewN n) row := grown_of_below (below_drewN (Below.refl _ _) n) row
theorem tmod_facts {x m : Int} (hx : 0 ≤ x) (hm : 1 ≤ m) : 0 ≤ x.tmod m ∧ x.tmod m < m := by
  rw [Int.tmod_eq_emod_of_nonneg hx]
  exact ⟨Int.emod_nonneg _ (by omega), Int.emod_lt_of_pos _ (by omega)⟩
set_option maxHeartbeats 3200000 in
set_option maxRecDepth 100000 in
theorem pick_any {w0 : World} (k : Nat) (a : Option Addr) (n c : Nat) (bs : List Int) (q m : Int) (w : World) (hB : Below w0.heap.size w0 w) (hk : w0.heap.size ≤ k) (hr : BRow w0 a n bs) (hx : Box w k 64 (.slice a n c) (.int .i64 q)) (hn : n ≤ 2000) (hq : 0 ≤ q ∧ q ≤ 1000000) (hm : m ≤ 1000000) :
    Calls Tryz.prog 34 #[.pointer (some ⟨k, 0, none⟩), .int .i64 m] w fun e w' => ∃ z, e = .returned (.int .i64 z) ∧ (0 ≤ z ∧ (1 ≤ m → z < m) ∧ (m < 1 → z = 0)) ∧ Box w' k 64 (.slice a n c) (.int .i64 (q + 1)) ∧ w.grownBy w' (some k) := by
  obtain ⟨c1, c2, f1, f2⟩ := hx.cells
  have HX := Lib.hid (hx.set1 (.int .i64 (q + 1)))
  have HG : Hid (w.grownBy (w.setCell ⟨k, 1, none⟩ (.int .i64 (q + 1))) (some k)) := grown_setCell w ⟨k, 1, none⟩ _
  by_cases h1 : m < 1
  · go_enter Tryz.func34, Tryz.ntmps34
    go_wp2_with fail
    go_ret
    exact ⟨0, rfl, by omega, HX.out, HG.out⟩
  · by_cases h2 : n = 0
    · subst h2
      go_enter Tryz.func34, Tryz.ntmps34
      go_wp2_with fail
      go_ret
      exact ⟨0, rfl, by omega, HX.out, HG.out⟩
    · obtain ⟨p, rfl⟩ : ∃ p : Nat, q = p := ⟨q.toNat, by omega⟩
      have hm0 : ¬ m = 0 := by omega
      have hn0 : ¬ (n : Int) = 0 := by omega
      by_cases h3 : p < n
      · obtain ⟨b, off, x, rfl, hxb, hc⟩ := hr.at_ (hB.setCell (p := ⟨k, 1, none⟩) hk (.int .i64 ((p : Int) + 1))) h3
        have hzb : 0 ≤ x % m ∧ x % m < m := ⟨Int.emod_nonneg _ (by omega), Int.emod_lt_of_pos _ (by omega)⟩
        have HZ := Lib.hid hzb; clear hzb
        go_enter Tryz.func34, Tryz.ntmps34
        go_wp2_with fail
        go_ret
        exact ⟨_, rfl, by have := HZ.out; omega, HX.out, HG.out⟩
      · obtain ⟨i, hi⟩ : ∃ i : Nat, i = p % n := ⟨_, rfl⟩
        obtain ⟨j, hj⟩ : ∃ j : Nat, j = (p * 7 + 3) % n := ⟨_, rfl⟩
        have hin : i < n := by rw [hi]; exact Nat.mod_lt _ (by omega)
        have hjn : j < n := by rw [hj]; exact Nat.mod_lt _ (by omega)
        have hb' := hB.setCell (p := ⟨k, 1, none⟩) hk (.int .i64 ((p : Int) + 1))
        obtain ⟨b, off, x, rfl, hxb, hcx⟩ := hr.at_ hb' hin
        obtain ⟨b', off', y, he, hyb, hcy⟩ := hr.at_ hb' hjn
        cases he
        obtain ⟨d, hd⟩ : ∃ d : Nat, d = p / n := ⟨_, rfl⟩
        have hdb : d ≤ 1000000 := by rw [hd]; have := Nat.div_le_self p n; omega
        have e1 : IntKind.i64.wrap ((p : Int).tmod (n : Int)) = (i : Int) := by
          rw [Int.tmod_eq_emod_of_nonneg (by omega), ← Int.natCast_emod, ← hi]; exact IntWalk.i64_in _ (by omega)
        have e2 : IntKind.i64.wrap (((p : Int) * 7 + 3).tmod (n : Int)) = (j : Int) := by
          rw [Int.tmod_eq_emod_of_nonneg (by omega), show ((p : Int) * 7 + 3) = ((p * 7 + 3 : Nat) : Int) by omega, ← Int.natCast_emod, ← hj]; exact IntWalk.i64_in _ (by omega)
        have e3 : IntKind.i64.wrap ((p : Int).tdiv (n : Int)) = (d : Int) := by
          rw [Int.tdiv_eq_ediv_of_nonneg (by omega), ← Int.natCast_ediv, ← hd]; exact IntWalk.i64_in _ (by omega)
        have f1 : (p : Int) % (n : Int) = (i : Int) := by rw [← Int.natCast_emod, ← hi]
        have f2 : ((p : Int) * 7 + 3) % (n : Int) = (j : Int) := by rw [show ((p : Int) * 7 + 3) = ((p * 7 + 3 : Nat) : Int) by omega, ← Int.natCast_emod, ← hj]
        have f3 : (p : Int) / (n : Int) = (d : Int) := by rw [← Int.natCast_ediv, ← hd]
        have f1' : IntKind.i64.wrap (i : Int) = (i : Int) := IntWalk.i64_in _ (by omega)
        have f2' : IntKind.i64.wrap (j : Int) = (j : Int) := IntWalk.i64_in _ (by omega)
        have f3' : IntKind.i64.wrap (d : Int) = (d : Int) := IntWalk.i64_in _ (by omega)
        have g1 : IntKind.i64.wrap ((p : Int) * 7) = (p : Int) * 7 := IntWalk.i64_in _ (by omega)
        have g2 : IntKind.i64.wrap ((p : Int) * 7 + 3) = (p : Int) * 7 + 3 := IntWalk.i64_in _ (by omega)
        have g3 : IntKind.i64.wrap (x * 131) = x * 131 := IntWalk.i64_in _ (by omega)
        have g4 : IntKind.i64.wrap (y * 1117) = y * 1117 := IntWalk.i64_in _ (by omega)
        have g5 : IntKind.i64.wrap (x * 131 + y * 1117) = x * 131 + y * 1117 := IntWalk.i64_in _ (by omega)
        have g6 : IntKind.i64.wrap ((p : Int) * 29) = (p : Int) * 29 := IntWalk.i64_in _ (by omega)
        have g7 : IntKind.i64.wrap (x * 131 + y * 1117 + (p : Int) * 29) = x * 131 + y * 1117 + (p : Int) * 29 := IntWalk.i64_in _ (by omega)
        have g8 : IntKind.i64.wrap ((d : Int) * 53) = (d : Int) * 53 := IntWalk.i64_in _ (by omega)
        have g9 : IntKind.i64.wrap (x * 131 + y * 1117 + (p : Int) * 29 + (d : Int) * 53) = x * 131 + y * 1117 + (p : Int) * 29 + (d : Int) * 53 := IntWalk.i64_in _ (by omega)
        obtain ⟨v, hv⟩ : ∃ v : Nat, (v : Int) = x * 131 + y * 1117 + (p : Int) * 29 + (d : Int) * 53 := ⟨(x * 131 + y * 1117 + (p : Int) * 29 + (d : Int) * 53).toNat, by omega⟩
        rw [← hv] at g9
        have hvb : v ≤ 100000000 := by omega
        have hii : (i : Int) < (n : Int) := by omega
        have hji : (j : Int) < (n : Int) := by omega
        have k1 : IntKind.i64.wrap x = x := IntWalk.i64_in _ (by omega)
        have k2 : IntKind.i64.wrap y = y := IntWalk.i64_in _ (by omega)
        have HV := Lib.hid hv
        clear hi hj hd hv hb' hr hB
        go_enter Tryz.func34, Tryz.ntmps34
        go_wp2_with fail
        go_quiet (fail)
        go_wp2_with fail
        go_ret
        refine ⟨_, rfl, ?_, HX.out.drewN _, grown_trans HG.out (grown_drewN _ _ _)⟩
        have hvv := HV.out
        rw [← hvv, show (v : Int) / 64 = ((v / 64 : Nat) : Int) by omega, bits_xor_i64 v (v / 64) (by omega) (by omega)]
        have := tmod_facts (x := ((v ^^^ v / 64 : Nat) : Int)) (m := m) (by omega) (by omega)
        omega
end Go.Proofs.YtlfajalhoifliaaGreatDoor
