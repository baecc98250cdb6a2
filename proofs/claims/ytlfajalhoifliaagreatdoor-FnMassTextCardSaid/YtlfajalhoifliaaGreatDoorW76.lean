/- Contract of l14Cut: a text cut at every byte c. -/
import Derived.Test.YtlfajalhoifliaaGreatDoorW75
import Derived.Deep.RegionLaw
import Derived.Deep.RegionHeld3
namespace Go.Proofs.YtlfajalhoifliaaGreatDoor
open Go.RowKit

theorem run_part (S X : ByteArray) (i j : Nat) (h1 : i ≤ j) (h2 : j ≤ S.size) (hX : X = S.extract i j) (W : World) : Sem.run Tryz.prog (Instr.slice 9 (.string S) (some (.int .i64 (i : Int))) (some (.int .i64 (j : Int))) none) W = .ok (.string X) W := by
  have := run_slice_string (P := Tryz.prog) W 9 S .i64 .i64 (i : Int) (j : Int) Tryz.underlying9 (by omega) (by omega) (by omega)
  rw [hX]
  simpa using this
theorem bs_part (l : List UInt8) (i j : Nat) : (bs l).extract i j = bs ((l.drop i).take (j - i)) := by
  apply ByteArray.ext
  simp [bs]
/-- append of one string to a list of the call's own -/
theorem wpList_pushS (wr : World) {ops : Array Oper} {rest : List Oper} {o : Oper} {a : Act} {Q : Exit → Act → World → Prop} (hgd : o.guard = none) (s x : Operand)
    (hop : o.op = .call { callee := .builtin .append, args := #[s, x], argTypes := #[37, 37] })
    (G k C : Nat) (xs : List ByteArray) (X : ByteArray) (B : Nat) (hs : a.eval s = .slice (some ⟨G, 0, none⟩) k C) (hx : a.eval x = .slice (some ⟨wr.heap.size, 0, none⟩) 1 1)
    (ho : OwnS B wr (some ⟨G, 0, none⟩) k C xs) (hB : B ≤ wr.heap.size) (hk : k ≤ 1048576)
    (h : ∀ G' C' w1, OwnS B w1 (some ⟨G', 0, none⟩) (k + 1) C' (xs ++ [X]) → (G' = G ∨ wr.heap.size ≤ G') → wr.grownBy w1 (some G) → wpList Tryz.prog ops Q rest (a.put o.dst (.slice (some ⟨G', 0, none⟩) (k + 1) C')) w1) :
    wpList Tryz.prog ops Q (o :: rest) a (wr.alloc (.cells #[.string X] 9)) := by
  refine wpList_plain hgd fun K hK => ?_
  have := step_pushS wr (ops := ops) (K := K) (Q := Q) (E := True) hgd s x hop G k C xs X B hs hx ho hB hk (fun G' C' w1 h1 h2 h3 => hK _ _ (h G' C' w1 h1 h2 h3))
  rwa [if_pos (by simp [Region.wanted, hgd])] at this
/-- how far a text has been cut -/
def CutInv (c : UInt8) (l : List UInt8) (k fr : Nat) (done : List (List UInt8)) : Prop :=
  (k ≤ l.length ∧ fr ≤ k ∧ cutL c l = done ++ cutL c (l.drop fr) ∧ c ∉ (l.drop fr).take (k - fr)) ∨ (k = l.length + 1 ∧ fr ≤ k ∧ cutL c l = done)
theorem CutInv.start (c : UInt8) (l : List UInt8) : CutInv c l 0 0 [] := .inl ⟨Nat.zero_le _, Nat.le_refl _, rfl, by simp⟩
theorem CutInv.last {c : UInt8} {l : List UInt8} {fr : Nat} {done : List (List UInt8)} (h : CutInv c l l.length fr done) : CutInv c l (l.length + 1) (l.length + 1) (done ++ [(l.drop fr).take (l.length - fr)]) := by
  rcases h with ⟨_, h1, h2, h3⟩ | ⟨h1, _⟩
  · have e : (l.drop fr).take (l.length - fr) = l.drop fr := List.take_of_length_le (by simp)
    rw [e] at h3 ⊢
    exact .inr ⟨rfl, Nat.le_refl _, by rw [h2, cutL_no h3]⟩
  · omega
theorem CutInv.hit {c : UInt8} {l : List UInt8} {k fr : Nat} {done : List (List UInt8)} (h : CutInv c l k fr done) (hk : k < l.length) (hc : l[k] = c) : CutInv c l (k + 1) (k + 1) (done ++ [(l.drop fr).take (k - fr)]) := by
  rcases h with ⟨_, h1, h2, h3⟩ | ⟨h1, _⟩
  · refine .inl ⟨by omega, Nat.le_refl _, ?_, by simp⟩
    have e : l.drop fr = (l.drop fr).take (k - fr) ++ c :: l.drop (k + 1) := by
      have e1 : l.drop fr = (l.drop fr).take (k - fr) ++ (l.drop fr).drop (k - fr) := (List.take_append_drop _ _).symm
      have e2 : (l.drop fr).drop (k - fr) = l.drop k := by rw [List.drop_drop]; congr 1; omega
      rw [e2, List.drop_eq_getElem_cons hk, hc] at e1
      exact e1
    rw [h2]
    conv => lhs; rw [e]
    rw [cutL_at _ h3]
    simp
  · omega
theorem CutInv.miss {c : UInt8} {l : List UInt8} {k fr : Nat} {done : List (List UInt8)} (h : CutInv c l k fr done) (hk : k < l.length) (hc : l[k] ≠ c) : CutInv c l (k + 1) fr done := by
  rcases h with ⟨_, h1, h2, h3⟩ | ⟨h1, _⟩
  · refine .inl ⟨by omega, by omega, h2, ?_⟩
    have hk2 : k - fr < (l.drop fr).length := by simp; omega
    rw [show k + 1 - fr = (k - fr) + 1 by omega, List.take_succ_eq_append_getElem hk2]
    intro hm
    rcases List.mem_append.1 hm with h4 | h4
    · exact h3 h4
    · simp at h4
      apply hc
      rw [h4]
      congr 1
      omega
  · omega
set_option maxHeartbeats 3200000 in
set_option maxRecDepth 100000 in
theorem l14Cut_any (l : List UInt8) (z : Int) (c : UInt8) (hz : z = (c.toNat : Int)) (w : World) (hl : l.length ≤ 1048576) : Calls Tryz.prog 36 #[.string (bs l), .int .u8 z] w fun e w' =>
    ∃ G C, e = .returned (.slice (some ⟨G, 0, none⟩) (cutL c l).length C) ∧ OwnS w.heap.size w' (some ⟨G, 0, none⟩) (cutL c l).length C ((cutL c l).map bs) ∧ Below w.heap.size w w' := by
  obtain ⟨S, hS⟩ : ∃ S, S = bs l := ⟨_, rfl⟩
  have hSz : S.size = l.length := by rw [hS, bs_size]
  rw [← hS]
  have HS := Lib.hid hS
  have HSZ := Lib.hid hSz
  have hS2 : S.size ≤ 1048576 := by omega
  have HZ := Lib.hid hz
  have HE0 : Hid (OwnS w.heap.size (w.alloc (.cells #[] 9)) (some ⟨w.heap.size, 0, none⟩) 0 0 []) := World.ownsRow_lit w #[] 0 (Nat.le_refl _) (by unfold maxLen; omega) rfl
  have HBA : Hid (Below w.heap.size w (w.alloc (.cells #[] 9))) := (Below.refl _ _).alloc (Nat.le_refl _) _
  clear hS hz hl hSz
  go_enter Tryz.func36, Tryz.ntmps36
  go_wp2_with fail
  go_loopw [5, 6, 7] (fun v f i wr => ∃ (k fr G C : Nat) (done : List (List UInt8)), k ≤ S.size + 1 ∧ fr ≤ k ∧ done.length ≤ k ∧ i = .int .i64 k ∧ f = .int .i64 fr ∧ v = .slice (some ⟨G, 0, none⟩) done.length C ∧ Hid (CutInv c l k fr done) ∧ Hid (OwnS w.heap.size wr (some ⟨G, 0, none⟩) done.length C (done.map bs)) ∧ Hid (w.heap.size ≤ G) ∧ Hid (Below w.heap.size w wr)) (fun _ _ i _ => S.size + 1 - (intOf i).toNat)
  case atStart => exact ⟨0, 0, _, 0, [], by omega, by omega, by simp, rfl, rfl, rfl, CutInv.start c l, HE0.out, Nat.le_refl _, HBA.out⟩
  case round =>
    obtain ⟨k, fr, G, C, done, hk, hfr, hdn, rfl, rfl, rfl, HI, HO, HG, HB⟩ := hrel
    by_cases hle : k ≤ S.size
    · have hkd : decide ((k : Int) ≤ (S.size : Int)) = true := by simp; exact hle
      by_cases hend : k = S.size
      · have hke : ((k : Int) == (S.size : Int)) = true := by rw [hend]; simp
        have HEND : Hid (CutInv c l (k + 1) (k + 1) (done ++ [(l.drop fr).take (k - fr)])) := by
          have h1 := HI.out
          have h2 : k = l.length := hend.trans HSZ.out
          rw [h2] at h1 ⊢
          exact h1.last
        clear hend
        obtain ⟨X, hX⟩ : ∃ X, X = bs ((l.drop fr).take (k - fr)) := ⟨_, rfl⟩
        have hsl := run_part S X fr k hfr (by omega) (by rw [hX, HS.out, bs_part])
        have HX := Lib.hid hX
        clear hX
        have hEc := HO.out
        have hszr : w.heap.size ≤ wr.heap.size := HB.out.size
        have hdk : done.length ≤ 1048576 := by omega
        go_wp2_with (at_builtin; refine wpList_pushS wr rfl _ _ rfl G done.length C _ X w.heap.size rfl rfl hEc hszr hdk ?_)
        intro G3 C3 w3 o3 hG3 g3
        · have HO3 := Lib.hid o3
          have HG3 : Hid (w.heap.size ≤ G3) := by
            rcases hG3 with h | h
            · rw [h]; exact HG.out
            · exact Nat.le_trans hszr h
          have HB3 : Hid (Below w.heap.size w w3) := HB.out.grown g3 hszr (fun g hg => by cases hg; exact HG.out)
          clear o3 hG3 g3 hEc
          go_wp2_with fail
          go_roundw
          case rel => exact ⟨k + 1, k + 1, G3, C3, done ++ [(l.drop fr).take (k - fr)], by omega, by omega, by simp; omega, by go_num, by go_num, by simp, HEND.out, by rw [List.map_append, List.length_append, List.map_cons, List.map_nil, ← HX.out]; exact HO3.out, HG3.out, HB3.out⟩
          case measure => simp [intOf]; omega
      · have hke : ((k : Int) == (S.size : Int)) = false := by rw [beq_eq_false_iff_ne]; omega
        have hlt : k < S.size := by omega
        have hlt2 : k < l.length := by rw [← HSZ.out]; exact hlt
        have hat : S[k] = l[k] := by have h := HS.out; subst h; rw [bs_at]
        by_cases hc : l[k] = c
        · have hcc : ((S[k].toNat : Int) == z) = true := by rw [hat, hc, HZ.out]; simp
          have HEND : Hid (CutInv c l (k + 1) (k + 1) (done ++ [(l.drop fr).take (k - fr)])) := HI.out.hit hlt2 hc
          clear hc hat hend hlt2
          obtain ⟨X, hX⟩ : ∃ X, X = bs ((l.drop fr).take (k - fr)) := ⟨_, rfl⟩
          have hsl := run_part S X fr k hfr (by omega) (by rw [hX, HS.out, bs_part])
          have HX := Lib.hid hX
          clear hX
          have hEc := HO.out
          have hszr : w.heap.size ≤ wr.heap.size := HB.out.size
          have hdk : done.length ≤ 1048576 := by omega
          go_wp2_with (at_builtin; refine wpList_pushS wr rfl _ _ rfl G done.length C _ X w.heap.size rfl rfl hEc hszr hdk ?_)
          intro G3 C3 w3 o3 hG3 g3
          · have HO3 := Lib.hid o3
            have HG3 : Hid (w.heap.size ≤ G3) := by
              rcases hG3 with h | h
              · rw [h]; exact HG.out
              · exact Nat.le_trans hszr h
            have HB3 : Hid (Below w.heap.size w w3) := HB.out.grown g3 hszr (fun g hg => by cases hg; exact HG.out)
            clear o3 hG3 g3 hEc
            go_wp2_with fail
            go_roundw
            case rel => exact ⟨k + 1, k + 1, G3, C3, done ++ [(l.drop fr).take (k - fr)], by omega, by omega, by simp; omega, by go_num, by go_num, by simp, HEND.out, by rw [List.map_append, List.length_append, List.map_cons, List.map_nil, ← HX.out]; exact HO3.out, HG3.out, HB3.out⟩
            case measure => simp [intOf]; omega
        · have hcc : ((S[k].toNat : Int) == z) = false := by
            rw [hat, HZ.out, beq_eq_false_iff_ne]
            intro e
            exact hc (UInt8.toNat_inj.1 (by omega))
          have HEND : Hid (CutInv c l (k + 1) fr done) := HI.out.miss hlt2 hc
          clear hc hat hend hlt2
          go_wp2_with fail
          go_roundw
          case rel => exact ⟨k + 1, fr, G, C, done, by omega, by omega, by omega, by go_num, rfl, rfl, HEND.out, HO.out, HG.out, HB.out⟩
          case measure => simp [intOf]; omega
    · have hkd : decide ((k : Int) ≤ (S.size : Int)) = false := by simp; omega
      have HEND : Hid (cutL c l = done) := by
        rcases HI.out with ⟨h, _⟩ | ⟨_, _, h⟩
        · have := HSZ.out; omega
        · exact h
      go_wp2_with fail
      go_ret
      rw [HEND.out]
      exact ⟨G, C, rfl, HO.out, HB.out⟩
end Go.Proofs.YtlfajalhoifliaaGreatDoor
