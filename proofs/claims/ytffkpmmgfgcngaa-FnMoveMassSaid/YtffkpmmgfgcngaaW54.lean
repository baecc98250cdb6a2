/- Contracts: focal sets, chances, nested masses. -/
import Derived.Test.YtffkpmmgfgcngaaW53
namespace Go.Proofs.Ytffkpmmgfgcngaa
open Go.RowKit

theorem and_pred16 : ∀ a : Fin 16, a.val ≠ 0 → bits .and .i64 (a.val : Int) ((a.val : Int) - 1) = ((a.val &&& (a.val - 1) : Nat) : Int) := by decide +kernel
theorem sub_bits16 : ∀ a b : Fin 16, (a.val &&& (15 - b.val) == 0) = subB a.val b.val := by decide +kernel
theorem all_bad {p : Nat → Bool} {l : List Nat} {i : Nat} (hi : i < l.length) (h : p (l.getD i 0) = false) : l.all p = false := by
  have hm : l.getD i 0 ∈ l := by simp [List.getD, hi]
  cases hc : l.all p with
  | false => rfl
  | true => rw [List.all_eq_true] at hc; rw [hc _ hm] at h; cases h
theorem take_all_snoc {p : Nat → Bool} {l : List Nat} {i : Nat} (hi : i < l.length) (h : (l.take i).all p = true) (hp : p (l.getD i 0) = true) : (l.take (i + 1)).all p = true := by
  have e : l.take (i + 1) = l.take i ++ [l.getD i 0] := by
    rw [List.take_succ_eq_append_getElem hi]; simp [List.getD, hi]
  rw [e, List.all_append, h]
  simpa using hp
set_option maxHeartbeats 1600000 in
theorem focalSets_any (s : Int) (a : Option Addr) (n c : Nat) (xs : List Int) (w : World) (hr : Row w a n xs) (hn : n ≤ 16) :
    Calls Try.prog 128 #[massV s a n c] w fun e w' => ∃ A l C, e = .returned (.slice A l C) ∧ l = (focL xs n).length ∧ Own w.heap.size w' A l C (ints (focL xs n)) ∧ Below w.heap.size w w' := by
  obtain ⟨w0, hw0⟩ : ∃ w0, w0 = w.alloc (.cells #[.int .i64 s, .slice a n c] 25) := ⟨_, rfl⟩
  have hbx : Box w0 w.heap.size 25 (.int .i64 s) (.slice a n c) := by rw [hw0]; exact Box.new _ _ _ _
  have hb1 : Below w.heap.size w w0 := by rw [hw0]; exact (Below.refl w.heap.size w).alloc (Nat.le_refl _) _
  have hs0 : w0.heap.size = w.heap.size + 1 := by rw [hw0]; simp
  have hr1 := hr.below hb1
  obtain ⟨c1, c2, _, _⟩ := (hbx.alloc (.cells #[] 3)).cells
  have hown0 : Own w0.heap.size (w0.alloc (.cells #[] 3)) (some ⟨w0.heap.size, 0, none⟩) 0 0 [] := World.ownsRow_lit w0 #[] 0 (Nat.le_refl _) (by unfold maxLen; omega) rfl
  have hb0 : Below w0.heap.size w0 (w0.alloc (.cells #[] 3)) := (Below.refl _ _).alloc (Nat.le_refl _) _
  have HW := Lib.hid hw0
  have HB1 := Lib.hid hb1
  have HS0 := Lib.hid hs0
  clear hw0 hb1 hr hbx hs0
  go_enter Try.func128, Try.ntmps128
  go_wp2_with fail
  rw [← HW.out]
  go_wp2_with fail
  clear c1 c2
  go_loopw [3, 10] (fun v i wr => ∃ (k : Nat) (A : Option Addr) (l C : Nat), k ≤ n ∧ i = .int .i64 k ∧ v = .slice A l C ∧ Hid (l = (focL xs k).length) ∧ Own w0.heap.size wr A l C (ints (focL xs k)) ∧ Below w0.heap.size w0 wr) (fun _ i _ => n - (intOf i).toNat)
  case atStart => exact ⟨0, _, 0, 0, Nat.zero_le _, rfl, by rw [HS0.out], rfl, hown0, hb0⟩
  case round =>
    obtain ⟨k, A, l, C, hk, rfl, rfl, HL, ho, hbr⟩ := hrel
    clear hown0 hb0
    have HO := Lib.hid ho; clear ho
    by_cases hlt : k < n
    · obtain ⟨b, off, x, rfl, hx, hc⟩ := (hr1.below hbr).at_ hlt
      have hle := focL_le xs k
      have hl16 : l ≤ 16 := by rw [HL.out]; omega
      by_cases h0 : x = 0
      · have hf := focL_no (xs := xs) (k := k) (by rw [← hx]; exact h0)
        have HF := Lib.hid hf
        subst h0
        clear hx hf hle
        go_wp2_with fail
        go_roundw
        case rel => exact ⟨k + 1, A, l, C, by omega, by go_num, rfl, by rw [HF.out]; exact HL.out, by rw [HF.out]; exact HO.out, hbr⟩
        case measure => simp [intOf]; omega
      · have hf := focL_yes (xs := xs) (k := k) (by rw [← hx]; exact h0)
        have HF := Lib.hid hf
        have h0' : (x != 0) = true := by simpa using h0
        clear hx hf hle h0
        have hbs := hbr.size
        go_wp2_with (at_builtin; refine wpList_push _ rfl _ _ rfl A l C _ (k : Int) _ w0 rfl rfl HO.out hbr hbs (by omega) ?_)
        intro A' C' w3 ho' hb'
        rw [← ints_snoc, ← HF.out] at ho'
        have HO' := Lib.hid ho'; clear ho'
        go_wp2_with fail
        go_roundw
        case rel => exact ⟨k + 1, A', l + 1, C', by omega, by go_num, rfl, by show _ = _; rw [HF.out, List.length_append, ← HL.out]; rfl, HO'.out, hb'⟩
        case measure => simp [intOf]; omega
    · have hk' : k = n := by omega
      subst hk'
      have HBR := Lib.hid hbr; clear hbr
      go_wp2_with fail
      go_ret
      exact ⟨A, l, C, rfl, HL.out, HO.out.mono (by rw [HS0.out]; omega), HB1.out.trans (HBR.out.mono (by rw [HS0.out]; omega))⟩
set_option maxHeartbeats 1600000 in
theorem isChance_any (s : Int) (a : Option Addr) (n c : Nat) (xs : List Int) (w : World) (hr : Row w a n xs) (hn : n ≤ 1048576) :
    Calls Try.prog 127 #[massV s a n c] w fun e w' => e = .returned (.bool (chanB s xs)) ∧ Below w.heap.size w w' := by
  have hb1 : Below w.heap.size w (w.alloc (.cells #[.int .i64 s, .slice a n c] 25)) := (Below.refl w.heap.size w).alloc (Nat.le_refl _) _
  have HM := Lib.hid (isMass_any s a n c xs _ (hr.below hb1) hn)
  by_cases hm : massB s xs = true
  · have hI := massB_is hr.1 hm
    have hnl : n ≤ 16 := by have := hI.nums; omega
    have HP := Lib.hid (fun W h => focalSets_any s a n c xs W h hnl)
    rw [show chanB s xs = (focL xs n).all oneB by simp [chanB, hm, hr.1]]
    rw [hm] at HM
    clear hm hI
    go_enter Try.func127, Try.ntmps127
    go_wp2_with fail
    refine HM.out.mono ?_
    rintro e w1 ⟨rfl, b1⟩
    obtain ⟨c1, c2, _, _⟩ := box2 (k := w.heap.size) (alloc_at rfl) b1
    have hb := hb1.trans (b1.mono (by simp))
    clear b1
    have HR := Lib.hid (hr.below hb)
    clear hr
    go_wp2_with fail
    refine (HP.out _ HR.out).mono ?_
    rintro e w2 ⟨A, l, C, rfl, hl, ho, b2⟩
    have hb2 := hb.trans (b2.mono hb.size)
    have HL := Lib.hid hl
    have hl16 : l ≤ 16 := by have := focL_le xs n; omega
    have HO := Lib.hid ho
    have HB2 := Lib.hid hb2
    clear hl ho b2 hb2 c1 c2
    go_wp2_with fail
    go_loop [11] (fun i => ∃ k : Nat, k ≤ l ∧ i = .int .i64 k ∧ Hid (((focL xs n).take k).all oneB = true)) (fun i => l - (intOf i).toNat)
    case atStart => exact ⟨0, Nat.zero_le _, rfl, rfl⟩
    case round =>
      obtain ⟨k, hk, rfl, HA⟩ := hrel
      by_cases hlt : k < l
      · obtain ⟨b, off, x, rfl, hx, hc⟩ := HO.out.row.at_ hlt
        have hkl : k < (focL xs n).length := by rw [← HL.out]; exact hlt
        have hat := focL_at hkl
        rw [ints_getD] at hx
        obtain ⟨y, hy⟩ : ∃ y, y = (focL xs n).getD k 0 := ⟨_, rfl⟩
        rw [← hy] at hx hat
        subst hx
        have hy16 : y < 16 := by omega
        have HY := Lib.hid hy
        clear hy hat
        by_cases h1 : oneB y = true
        · have HN := Lib.hid (take_all_snoc hkl HA.out (by rw [← HY.out]; exact h1))
          have hy0 : y ≠ 0 := by intro e; subst e; cases h1
          have e1 := and_pred16 ⟨y, hy16⟩ hy0
          simp only at e1
          have e2 : y &&& (y - 1) = 0 := by simp [oneB] at h1; exact h1.2
          rw [e2] at e1
          have hyi : ((y : Int) == 0) = false := by simp; omega
          have hy1 : 1 ≤ (y : Int) := by omega
          clear h1 hy0 e2
          go_wp2_with fail
          go_round
          case rel => exact ⟨k + 1, by omega, by go_num, HN.out⟩
          case measure => simp [intOf]; omega
        · have h1' : oneB y = false := by simpa using h1
          have HN := Lib.hid (all_bad (p := oneB) hkl (by rw [← HY.out]; exact h1'))
          by_cases hy0 : y = 0
          · subst hy0
            clear h1 h1'
            go_wp2_with fail
            go_ret
            exact ⟨ret_bool HN.out.symm, HB2.out⟩
          · have e1 := and_pred16 ⟨y, hy16⟩ hy0
            simp only at e1
            have hyi : ((y : Int) == 0) = false := by simp; omega
            have e2 : ((y &&& (y - 1) : Nat) : Int) ≠ 0 := by
              intro e
              have : y &&& (y - 1) = 0 := by exact_mod_cast e
              simp [oneB, hy0, this] at h1'
            obtain ⟨v, hv⟩ : ∃ v : Int, v = ((y &&& (y - 1) : Nat) : Int) := ⟨_, rfl⟩
            rw [← hv] at e1 e2
            have e3 : (v != 0) = true := by simpa using e2
            have hy1 : 1 ≤ (y : Int) := by omega
            clear h1 h1' hv e2
            go_wp2_with fail
            go_ret
            exact ⟨ret_bool HN.out.symm, HB2.out⟩
      · have hk' : k = l := by omega
        have HN : Hid ((focL xs n).all oneB = true) := by
          have h := HA.out
          rw [List.take_of_length_le (by rw [← HL.out]; omega)] at h
          exact h
        subst hk'
        go_wp2_with fail
        go_ret
        exact ⟨ret_bool HN.out.symm, HB2.out⟩
  · have hm' : massB s xs = false := by simpa using hm
    rw [show chanB s xs = false by simp [chanB, hm']]
    rw [hm'] at HM
    clear hm hm'
    go_enter Try.func127, Try.ntmps127
    go_wp2_with fail
    refine HM.out.mono ?_
    rintro e w1 ⟨rfl, b1⟩
    have hb := hb1.trans (b1.mono (by simp))
    go_wp2_with fail
    go_ret
    exact ⟨rfl, hb⟩
set_option maxHeartbeats 400000 in
theorem IsChance_any (s : Int) (a : Option Addr) (n c : Nat) (xs : List Int) (w : World) (hr : Row w a n xs) (hn : n ≤ 1048576) :
    Calls Try.prog 47 #[massV s a n c] w fun e w' => e = .returned (.bool (chanB s xs)) ∧ Below w.heap.size w w' := by
  have hb1 : Below w.heap.size w (w.alloc (.cells #[.int .i64 s, .slice a n c] 25)) := (Below.refl w.heap.size w).alloc (Nat.le_refl _) _
  have HM := Lib.hid (isChance_any s a n c xs _ (hr.below hb1) hn)
  obtain ⟨q, hq⟩ : ∃ q, q = chanB s xs := ⟨_, rfl⟩
  rw [← hq] at HM ⊢
  clear hq
  go_enter Try.func47, Try.ntmps47
  go_wp2_with fail
  refine HM.out.mono ?_
  rintro e w1 ⟨rfl, b1⟩
  have hb := hb1.trans (b1.mono (by simp))
  go_wp2_with fail
  go_ret
  exact ⟨rfl, hb⟩
set_option maxHeartbeats 3200000 in
theorem IsNested_any (s : Int) (a : Option Addr) (n c : Nat) (xs : List Int) (w : World) (hr : Row w a n xs) (hn : n ≤ 1048576) :
    Calls Try.prog 48 #[massV s a n c] w fun e w' => e = .returned (.bool (nestB s xs)) ∧ Below w.heap.size w w' := by
  obtain ⟨w0, hw0⟩ : ∃ w0, w0 = w.alloc (.cells #[.int .i64 s, .slice a n c] 25) := ⟨_, rfl⟩
  have HBX : Hid (Box w0 w.heap.size 25 (.int .i64 s) (.slice a n c)) := by rw [hw0]; exact Lib.hid (Box.new _ _ _ _)
  have hb1 : Below w.heap.size w w0 := by rw [hw0]; exact (Below.refl w.heap.size w).alloc (Nat.le_refl _) _
  have HM := Lib.hid (isMass_any s a n c xs w0 (hr.below hb1) hn)
  have hs0 : w0.heap.size = w.heap.size + 1 := by rw [hw0]; simp
  have HW := Lib.hid hw0
  have HB1 := Lib.hid hb1
  have HR0 := Lib.hid (hr.below hb1)
  by_cases hm : massB s xs = true
  · have hI := massB_is hr.1 hm
    have hnl : n ≤ 16 := by have := hI.nums; omega
    have HP := Lib.hid (fun W h => focalSets_any s a n c xs W h hnl)
    rw [show nestB s xs = (focL xs n).all (fun a => (focL xs n).all (eitherB a)) by simp [nestB, hm, hr.1]]
    rw [hm] at HM
    clear hm hI hw0 hb1 hr
    go_enter Try.func48, Try.ntmps48
    go_wp2_with fail
    rw [← HW.out]
    refine HM.out.mono ?_
    rintro e w1 ⟨rfl, b1⟩
    obtain ⟨c1, c2, _, _⟩ := (HBX.out.below b1 HBX.out.lt).cells
    have HR := Lib.hid (HR0.out.below b1)
    have HB := Lib.hid (HB1.out.trans (b1.mono HB1.out.size))
    have HBX1 := Lib.hid (HBX.out.below b1 HBX.out.lt)
    clear b1
    go_wp2_with fail
    refine (HP.out _ HR.out).mono ?_
    rintro e w2 ⟨A, l, C, rfl, hl, ho, b2⟩
    have HB2 := Lib.hid (HB.out.trans (b2.mono HB.out.size))
    have HL := Lib.hid hl
    have hl16 : l ≤ 16 := by have := focL_le xs n; omega
    have HO := Lib.hid ho
    have HBX2 := Lib.hid (HBX1.out.below b2 HBX1.out.lt)
    have HR2 := Lib.hid (HR.out.below b2)
    clear hl ho b2 c1 c2 HBX1 HR HB
    go_wp2_with fail
    go_loopw [13] (fun i wr => ∃ k : Nat, k ≤ l ∧ i = .int .i64 k ∧ Hid (((focL xs n).take k).all (fun a => (focL xs n).all (eitherB a)) = true) ∧ Hid (Below w2.heap.size w2 wr)) (fun i _ => l - (intOf i).toNat)
    case atStart => exact ⟨0, Nat.zero_le _, rfl, rfl, Lib.hid (Below.refl _ _)⟩
    case round =>
      obtain ⟨k, hk, rfl, HA, HBR⟩ := hrel
      by_cases hlt : k < l
      · obtain ⟨b, off, x, rfl, hx, hc⟩ := (HO.out.row.below HBR.out).at_ hlt
        have hkl : k < (focL xs n).length := by rw [← HL.out]; exact hlt
        have hat := focL_at hkl
        rw [ints_getD] at hx
        obtain ⟨y, hy⟩ : ∃ y, y = (focL xs n).getD k 0 := ⟨_, rfl⟩
        rw [← hy] at hx hat
        subst hx
        have hy16 : y < 16 := by omega
        have HY := Lib.hid hy
        clear hy hat
        obtain ⟨c1, c2, _, _⟩ := (HBX2.out.below HBR.out HBX2.out.lt).cells
        go_wp2_with fail
        clear hc c1 c2
        refine (HP.out _ (HR2.out.below HBR.out)).mono ?_
        rintro e w3 ⟨A3, l3, C3, rfl, hl3, ho3, b3⟩
        have HB3 := Lib.hid (HBR.out.trans (b3.mono HBR.out.size))
        have HL3 := Lib.hid hl3
        have hl316 : l3 ≤ 16 := by have := focL_le xs n; omega
        have HO3 := Lib.hid ho3
        clear hl3 ho3 b3
        go_wp2_with fail
        go_loop [20] (fun i => ∃ j : Nat, j ≤ l3 ∧ i = .int .i64 j ∧ Hid (((focL xs n).take j).all (eitherB y) = true)) (fun i => l3 - (intOf i).toNat)
        case atStart => exact ⟨0, Nat.zero_le _, rfl, rfl⟩
        case round =>
          obtain ⟨j, hj, rfl, HAJ⟩ := hrel
          by_cases hlt3 : j < l3
          · obtain ⟨b3, off3, x3, rfl, hx3, hc3⟩ := HO3.out.row.at_ hlt3
            have hjl : j < (focL xs n).length := by rw [← HL3.out]; exact hlt3
            have hat3 := focL_at hjl
            rw [ints_getD] at hx3
            obtain ⟨z, hz⟩ : ∃ z, z = (focL xs n).getD j 0 := ⟨_, rfl⟩
            rw [← hz] at hx3 hat3
            subst hx3
            have hz16 : z < 16 := by omega
            have HZ := Lib.hid hz
            clear hz hat3
            have e1 := bits_andNot y z hy16 hz16
            have e2 := bits_andNot z y hz16 hy16
            have g1 := sub_bits16 ⟨y, hy16⟩ ⟨z, hz16⟩
            have g2 := sub_bits16 ⟨z, hz16⟩ ⟨y, hy16⟩
            simp only at g1 g2
            obtain ⟨u, hu⟩ : ∃ u : Nat, u = y &&& (15 - z) := ⟨_, rfl⟩
            obtain ⟨v, hv⟩ : ∃ v : Nat, v = z &&& (15 - y) := ⟨_, rfl⟩
            rw [← hu] at e1 g1
            rw [← hv] at e2 g2
            clear hu hv
            by_cases h1 : u = 0
            · have HN := Lib.hid (take_all_snoc hjl HAJ.out (by rw [← HZ.out]; simp [eitherB, ← g1, h1]))
              subst h1
              clear g1 g2
              go_wp2_with fail
              go_round
              case rel => exact ⟨j + 1, by omega, by go_num, HN.out⟩
              case measure => simp [intOf]; omega
            · have hu0 : ((u : Int) != 0) = true := by simp; omega
              by_cases h2 : v = 0
              · have HN := Lib.hid (take_all_snoc hjl HAJ.out (by rw [← HZ.out]; simp [eitherB, ← g2, h2]))
                subst h2
                clear g1 g2 h1
                go_wp2_with fail
                go_round
                case rel => exact ⟨j + 1, by omega, by go_num, HN.out⟩
                case measure => simp [intOf]; omega
              · have hv0 : ((v : Int) != 0) = true := by simp; omega
                have hbad : eitherB y z = false := by simp [eitherB, ← g1, ← g2, h1, h2]
                have HN := Lib.hid (all_bad (p := fun a => (focL xs n).all (eitherB a)) hkl (by rw [← HY.out]; exact all_bad hjl (by rw [← HZ.out]; exact hbad)))
                clear g1 g2 h1 h2 hbad
                go_wp2_with fail
                go_ret
                exact ⟨ret_bool HN.out.symm, HB2.out.trans (HB3.out.mono HB2.out.size)⟩
          · have hj' : j = l3 := by omega
            have HN : Hid ((focL xs n).all (eitherB y) = true) := by
              have h := HAJ.out
              rw [List.take_of_length_le (by rw [← HL3.out]; omega)] at h
              exact h
            have HK := Lib.hid (take_all_snoc (p := fun a => (focL xs n).all (eitherB a)) hkl HA.out (by rw [← HY.out]; exact HN.out))
            subst hj'
            go_wp2_with fail
            go_roundw
            case rel => exact ⟨k + 1, by omega, by go_num, HK.out, HB3⟩
            case measure => simp [intOf]; omega
      · have hk' : k = l := by omega
        have HN : Hid ((focL xs n).all (fun a => (focL xs n).all (eitherB a)) = true) := by
          have h := HA.out
          rw [List.take_of_length_le (by rw [← HL.out]; omega)] at h
          exact h
        subst hk'
        go_wp2_with fail
        go_ret
        exact ⟨ret_bool HN.out.symm, HB2.out.trans (HBR.out.mono HB2.out.size)⟩
  · have hm' : massB s xs = false := by simpa using hm
    rw [show nestB s xs = false by simp [nestB, hm']]
    rw [hm'] at HM
    clear hm hm' hw0 hb1 hr
    go_enter Try.func48, Try.ntmps48
    go_wp2_with fail
    rw [← HW.out]
    refine HM.out.mono ?_
    rintro e w1 ⟨rfl, b1⟩
    have HB := Lib.hid (HB1.out.trans (b1.mono HB1.out.size))
    go_wp2_with fail
    go_ret
    exact ⟨rfl, HB.out⟩
end Go.Proofs.Ytffkpmmgfgcngaa
