/- Contract of l3Entry: a set and its part read from a text. -/
import Derived.Test.YtlfajalhoifliaaGreatDoorW76
import Derived.Deep.CutRange
namespace Go.Proofs.YtlfajalhoifliaaGreatDoor
open Go.RowKit

/-- make([]int, n) at a world: what comes back, and the world behind it -/
theorem run_mk (wr : World) (n B g : Nat) (hn : n ≤ 1048576) (hB : B ≤ wr.heap.size) (hg : wr.heap.size = g) :
    ∃ w', Sem.run Tryz.prog (Instr.makeSlice 23 (.int .i64 n) (.int .i64 n)) wr = Result.ok (.slice (some ⟨g, 0, none⟩) n n) w' ∧ Own B w' (some ⟨g, 0, none⟩) n n (List.replicate n 0) ∧ wr.grownBy w' none := by
  subst hg
  obtain ⟨i0, gi, gz0, gz1, gz2⟩ := info_parts info_int
  obtain ⟨w', hrun, r1, r2⟩ := run_make_full (P := Tryz.prog) wr B 23 3 i0 (.int .i64 0) 1 Tryz.underlying23 gi gz0 gz1 .i64 .i64 n (by rw [gz2]; omega) (by unfold maxLen; omega) hB
  rw [Nat.mul_one, show (Value.int .i64 0).cells = #[.int .i64 0] from rfl, toList_madeCells_one, ← List.map_replicate (f := Value.int .i64) (a := 0)] at r1
  exact ⟨w', hrun, r1, r2⟩
theorem cell_far2 {w : World} {b o k i : Nat} {u x : Value} (h1 : b ≠ k) (h : w.cell? ⟨b, o, none⟩ = some x) : (w.setCell ⟨k, i, none⟩ u).cell? ⟨b, o, none⟩ = some x := by
  have e : (w.setCell ⟨k, i, none⟩ u).heap[b]? = w.heap[b]? := Below.heap_setCell w ⟨k, i, none⟩ u b h1
  rw [← h]
  unfold World.cell?
  simp [e]
/-- what the reading of an entry returns -/
def RetE (l : List UInt8) (e : Ending) : Prop := ∃ (v : Nat) (x : Int) (ok : Bool), v < 16 ∧ e = .returned (.tuple #[.int .i64 v, .int .i64 x, .bool ok]) ∧ ∀ (xs : List Int) (k : Nat), k < 16 → 0 ≤ xs.getD k 0 ∧ xs.getD k 0 ≤ 1000000 → l = entL xs k → v = k ∧ x = xs.getD k 0 ∧ ok = true
theorem OwnS.cell {B : Nat} {w : World} {G n c : Nat} {xs : List (List UInt8)} (h : OwnS B w (some ⟨G, 0, none⟩) n c (xs.map bs)) {k : Nat} (hk : k < xs.length) : w.cell? ⟨G, k, none⟩ = some (.string (bs (xs.getD k []))) := by
  have h1 := World.ownsRow.cells h (g := G) rfl k (.string (bs xs[k])) (by simp [hk])
  rw [Addr.add_lit, Nat.zero_add] at h1
  rw [h1]
  simp [List.getD, hk]
theorem OwnS.len {B : Nat} {w : World} {a : Option Addr} {n c : Nat} {xs : List ByteArray} (h : OwnS B w a n c xs) : xs.length = n := by
  have := h.1
  simpa using this
theorem getS_mem {xs : List (List UInt8)} {k : Nat} (h : k < xs.length) : xs.getD k [] ∈ xs := by
  simp [List.getD, h]
set_option maxHeartbeats 3200000 in
set_option maxRecDepth 100000 in
theorem l3Entry_any (l : List UInt8) (w : World) (hl : l.length ≤ 1048576) : Calls Tryz.prog 38 #[.string (bs l)] w fun e w' => RetE l e ∧ Below w.heap.size w w' := by
  have HCU := Lib.hid (l14Cut_any l 32 32 rfl w hl)
  obtain ⟨S, hS⟩ : ∃ S, S = bs l := ⟨_, rfl⟩
  obtain ⟨L, hL⟩ : ∃ L, L = cutL 32 l := ⟨_, rfl⟩
  have HEL : Hid (∀ (xs : List Int) (k : Nat), l = entL xs k → L = [setL k, Go.Lib.decDigits (xs.getD k 0).toNat]) := fun xs k h => by rw [hL, h, entL_cut]
  have HM : Hid (∀ x ∈ L, x.length ≤ 1048576) := fun x hx => by
    rw [hL] at hx
    exact Nat.le_trans (cutL_mem hx) hl
  rw [← hS, ← hL] at HCU
  rw [← hS]
  obtain ⟨n, hn⟩ : ∃ n, n = L.length := ⟨_, rfl⟩
  have HN := Lib.hid hn
  rw [← hn] at HCU
  clear hS hL hn hl
  by_cases h2 : n = 2
  · subst h2
    obtain ⟨p, hp⟩ : ∃ p, p = L.getD 0 [] := ⟨_, rfl⟩
    obtain ⟨q, hq⟩ : ∃ q, q = L.getD 1 [] := ⟨_, rfl⟩
    have hnl := HN.out
    have HPS := Lib.hid (fun W => sParseSet_any (bs p) W)
    have HNU := Lib.hid (fun W => l14Num_any q W (HM.out _ (by rw [hq]; exact getS_mem (by omega))))
    obtain ⟨P, hP⟩ : ∃ P, P = bs p := ⟨_, rfl⟩
    obtain ⟨Q, hQ⟩ : ∃ Q, Q = bs q := ⟨_, rfl⟩
    have HC0 : Hid (∀ W G C, OwnS w.heap.size W (some ⟨G, 0, none⟩) 2 C (L.map bs) → W.cell? ⟨G, 0, none⟩ = some (.string P) ∧ W.cell? ⟨G, 1, none⟩ = some (.string Q)) := fun W G C h => ⟨by rw [hP, hp]; exact h.cell (by omega), by rw [hQ, hq]; exact h.cell (by omega)⟩
    have HEQ : Hid (∀ (xs : List Int) (k : Nat), l = entL xs k → P = bs (setL k) ∧ q = Go.Lib.decDigits (xs.getD k 0).toNat) := fun xs k h => by
      have := HEL.out xs k h
      rw [hP, hp, hq, this]
      exact ⟨rfl, rfl⟩
    rw [← hP] at HPS
    rw [← hQ] at HNU
    clear hp hq hP hQ hnl HN
    go_enter Tryz.func38, Tryz.ntmps38
    go_wp2_with fail
    refine HCU.out.mono ?_
    rintro e w1 ⟨G, C, rfl, ho, hb⟩
    obtain ⟨c0, c1⟩ := HC0.out _ _ _ ho
    have HB := Lib.hid hb
    clear ho hb
    go_wp2_with fail
    refine (HPS.out _).mono ?_
    rintro e w' ⟨⟨v, ok, hv, rfl, hvv⟩, rfl⟩
    have HV := Lib.hid hvv
    clear hvv
    go_wp2_with fail
    refine (HNU.out _).mono ?_
    rintro e w' ⟨⟨x, ok2, rfl, hxx⟩, rfl⟩
    have HX := Lib.hid hxx
    clear hxx
    rcases ok with _ | _ <;> rcases ok2 with _ | _
    · go_wp2_with fail
      refine bodyPost_ret (v := .tuple #[.int .i64 v, .int .i64 x, .bool false]) (by simp [results, Tryz.results38, go_sem]) rfl ?_
      refine ⟨⟨v, x, false, hv, rfl, fun xs k hk hb he => ?_⟩, HB.out⟩
      have h1 := HEQ.out xs k he
      have h3 := HV.out k hk h1.1
      have h4 := HX.out _ (by omega) h1.2
      exact absurd h3.2 Bool.false_ne_true
    · go_wp2_with fail
      refine bodyPost_ret (v := .tuple #[.int .i64 v, .int .i64 x, .bool false]) (by simp [results, Tryz.results38, go_sem]) rfl ?_
      refine ⟨⟨v, x, false, hv, rfl, fun xs k hk hb he => ?_⟩, HB.out⟩
      have h1 := HEQ.out xs k he
      have h3 := HV.out k hk h1.1
      have h4 := HX.out _ (by omega) h1.2
      exact absurd h3.2 Bool.false_ne_true
    · go_wp2_with fail
      refine bodyPost_ret (v := .tuple #[.int .i64 v, .int .i64 x, .bool false]) (by simp [results, Tryz.results38, go_sem]) rfl ?_
      refine ⟨⟨v, x, false, hv, rfl, fun xs k hk hb he => ?_⟩, HB.out⟩
      have h1 := HEQ.out xs k he
      have h3 := HV.out k hk h1.1
      have h4 := HX.out _ (by omega) h1.2
      exact absurd h4.2 Bool.false_ne_true
    · go_wp2_with fail
      refine bodyPost_ret (v := .tuple #[.int .i64 v, .int .i64 x, .bool true]) (by simp [results, Tryz.results38, go_sem]) rfl ?_
      refine ⟨⟨v, x, true, hv, rfl, fun xs k hk hb he => ?_⟩, HB.out⟩
      have h1 := HEQ.out xs k he
      have h3 := HV.out k hk h1.1
      have h4 := HX.out _ (by omega) h1.2
      exact ⟨h3.1, by rw [h4.1]; omega, rfl⟩
  · have hne : ((n : Int) != 2) = true := by simp; omega
    have HNE : Hid (¬ n = 2) := h2
    clear h2
    go_enter Tryz.func38, Tryz.ntmps38
    go_wp2_with fail
    refine HCU.out.mono ?_
    rintro e w1 ⟨G, C, rfl, ho, hb⟩
    have HB := Lib.hid hb
    clear ho hb
    go_wp2_with fail
    refine bodyPost_ret (v := .tuple #[.int .i64 0, .int .i64 0, .bool false]) (by simp [results, Tryz.results38, go_sem]) rfl ?_
    refine ⟨⟨0, 0, false, by omega, rfl, fun xs k hk hb he => ?_⟩, HB.out⟩
    have h1 := HEL.out xs k he
    exact absurd (by rw [HN.out, h1]; rfl) HNE.out
end Go.Proofs.YtlfajalhoifliaaGreatDoor
