/- Contracts of IsPairwise and IsAdditive, of the program and of the reference. -/
import Derived.Test.YtffkpmmgfgcngaaW2
namespace Go.Proofs.Ytffkpmmgfgcngaa
open Go.RowKit

set_option maxHeartbeats 800000 in
theorem iIsPairwise_any (a : Option Addr) (n c : Nat) (xs : List Int) (w : World) (hr : Row w a n xs) (hn : n ≤ 1048576) :
    Calls Try.prog 83 #[.slice a n c] w fun e w' => e = .returned (.bool (tableB xs && pairB xs)) ∧ Below w.heap.size w w' := by
  have hT : Calls Try.prog 142 #[.slice a n c] w fun e w' => e = .returned (.bool (tableB xs)) ∧ w = w' := isTable_any a n c xs w hr hn
  have HT := Lib.hid hT; clear hT
  by_cases ht : tableB xs = true
  · obtain ⟨hsz, hpt⟩ := table_part hr.1 ht
    have HS := Lib.hid hsz
    have hn16 : n ≤ 16 := by omega
    clear hsz
    have HP := Lib.hid hpt; clear hpt
    go_enter Try.func83, Try.ntmps83
    go_wp2_with (go_at_call 142; refine HT.out.mono ?_; rintro e w' ⟨rfl, rfl⟩)
    go_loopw [10] (fun i wr => ∃ k : Nat, k ≤ n ∧ i = .int .i64 k ∧ Hid (∀ i, i < k → ∀ j, j < n → goodPair xs i j) ∧ Below w.heap.size w wr) (fun i _ => n - (intOf i).toNat)
    case atStart => exact ⟨0, Nat.zero_le _, rfl, fun i hi => absurd hi (by omega), Below.refl _ _⟩
    case round =>
      obtain ⟨k, hk, rfl, HK, hbr⟩ := hrel
      by_cases hlt : k < n
      · go_wp2
        obtain ⟨wo, rfl⟩ : ∃ wo : World, wo = wr := ⟨_, rfl⟩
        go_loopw [15] (fun i wr => ∃ l : Nat, l ≤ n ∧ i = .int .i64 l ∧ Hid (∀ j, j < l → goodPair xs k j) ∧ Below w.heap.size w wr) (fun i _ => n - (intOf i).toNat)
        case atStart => exact ⟨0, Nat.zero_le _, rfl, fun i hi => absurd hi (by omega), hbr⟩
        case round =>
          obtain ⟨l, hl, rfl, HJ, hbi⟩ := hrel
          clear hbr
          by_cases hlt2 : l < n
          · have hrr := hr.below hbi
            have hou := or_lt HS.out hlt hlt2
            have hau : k &&& l < n := and_lt hlt
            obtain ⟨b, off, rfl, _, hcell⟩ := hrr.2 (by omega)
            have HC := Lib.hid hcell; clear hcell
            have e1 : bits .or .i64 (k : Int) (l : Int) = ((k ||| l : Nat) : Int) := bits_or k l (by omega) (by omega)
            have e2 : bits .and .i64 (k : Int) (l : Int) = ((k &&& l : Nat) : Int) := bits_and k l (by omega) (by omega)
            obtain ⟨u, hu⟩ : ∃ u : Nat, u = k ||| l := ⟨_, rfl⟩
            obtain ⟨v, hv⟩ : ∃ u : Nat, u = k &&& l := ⟨_, rfl⟩
            rw [← hu] at e1 hou
            rw [← hv] at e2 hau
            have hc1 := HC.out k hlt
            have hc2 := HC.out l hlt2
            have hc3 := HC.out u hou
            have hc4 := HC.out v hau
            have p1 := HP.out k hlt
            have p2 := HP.out l hlt2
            have p3 := HP.out u hou
            have p4 := HP.out v hau
            obtain ⟨x1, hx1⟩ : ∃ x, x = xs.getD k 0 := ⟨_, rfl⟩
            obtain ⟨x2, hx2⟩ : ∃ x, x = xs.getD l 0 := ⟨_, rfl⟩
            obtain ⟨x3, hx3⟩ : ∃ x, x = xs.getD u 0 := ⟨_, rfl⟩
            obtain ⟨x4, hx4⟩ : ∃ x, x = xs.getD v 0 := ⟨_, rfl⟩
            rw [← hx1] at hc1 p1
            rw [← hx2] at hc2 p2
            rw [← hx3] at hc3 p3
            rw [← hx4] at hc4 p4
            have HG : Hid (goodPair xs k l ↔ x1 + x2 ≤ x3 + x4) := by
              show _ ↔ _
              rw [goodPair, hx1, hx2, hx3, hx4, hu, hv]
            clear hx1 hx2 hx3 hx4 hu hv
            by_cases hg : x1 + x2 ≤ x3 + x4
            · go_wp2
              go_quiet (fail)
              go_wp2
              go_roundw
              case rel => exact ⟨l + 1, by omega, by go_num, fun j hj => if h : j = l then by rw [h]; exact HG.out.2 hg else HJ.out j (by omega), below_drewN hbi _⟩
              case measure => simp [intOf]; omega
            · have HF : Hid (pairB xs = false) := pairB_false hr.1 hlt hlt2 (fun h => hg (HG.out.1 h))
              go_wp2
              go_quiet (fail)
              go_wp2
              go_ret
              exact ⟨ret_bool (by rw [HF.out]; simp), below_drewN hbi _⟩
          · have hk' : l = n := by omega
            subst hk'
            go_wp2
            go_roundw
            case rel => exact ⟨k + 1, by omega, by go_num, fun i hi => if h : i = k then by rw [h]; exact HJ.out else HK.out i (by omega), hbi⟩
            case measure => simp [intOf]; omega
      · have hk' : k = n := by omega
        subst hk'
        have HF : Hid (pairB xs = true) := pairB_true hr.1 HK.out
        have HT2 := Lib.hid ht; clear ht
        go_wp2
        go_ret
        exact ⟨ret_bool (by rw [HF.out, HT2.out]; rfl), hbr⟩
  · have hf : tableB xs = false := by simpa using ht
    clear ht
    go_enter Try.func83, Try.ntmps83
    go_wp2_with (go_at_call 142; refine HT.out.mono ?_; rintro e w' ⟨rfl, rfl⟩)
    go_ret
    exact ⟨ret_bool (by simp [hf]), Below.refl _ _⟩
set_option maxHeartbeats 800000 in
theorem sIsPairwise_any (a : Option Addr) (n c : Nat) (xs : List Int) (w : World) (hr : Row w a n xs) (hn : n ≤ 1048576) :
    Calls Try.prog 86 #[.slice a n c] w fun e w' => e = .returned (.bool (tableB xs && pairB xs)) ∧ Below w.heap.size w w' := by
  have hT : ∀ wr, Below w.heap.size w wr → Calls Try.prog 149 #[.slice a n c] wr fun e w' => e = .returned (.bool (tableB xs)) ∧ wr = w' := fun wr hb => l5Table_any a n c xs wr (hr.below hb) hn
  have HT := Lib.hid hT; clear hT
  by_cases ht : tableB xs = true
  · obtain ⟨hsz, hpt⟩ := table_part hr.1 ht
    have HS := Lib.hid hsz
    have hn16 : n ≤ 16 := by omega
    clear hsz
    have HP := Lib.hid hpt; clear hpt
    go_enter Try.func86, Try.ntmps86
    go_wp2_with fail
    go_loopw [3] (fun i wr => ∃ k : Nat, k ≤ n ∧ i = .int .i64 k ∧ Hid (∀ i, i < k → ∀ j, j < n → goodPair xs i j) ∧ Below w.heap.size w wr) (fun i _ => n - (intOf i).toNat)
    case atStart => exact ⟨0, Nat.zero_le _, rfl, fun i hi => absurd hi (by omega), Below.refl _ _⟩
    case round =>
      obtain ⟨k, hk, rfl, HK, hbr⟩ := hrel
      by_cases hlt : k < n
      · go_wp2_with (go_at_call 149; refine (HT.out _ hbr).mono ?_; rintro e w' ⟨rfl, rfl⟩)
        obtain ⟨wo, rfl⟩ : ∃ wo : World, wo = wr := ⟨_, rfl⟩
        go_loopw [4] (fun i wr => ∃ l : Nat, l ≤ n ∧ i = .int .i64 l ∧ Hid (∀ j, j < l → goodPair xs k j) ∧ Below w.heap.size w wr) (fun i _ => n - (intOf i).toNat)
        case atStart => exact ⟨0, Nat.zero_le _, rfl, fun i hi => absurd hi (by omega), hbr⟩
        case round =>
          obtain ⟨l, hl, rfl, HJ, hbi⟩ := hrel
          clear hbr
          by_cases hlt2 : l < n
          · have hrr := hr.below hbi
            have hou := or_lt HS.out hlt hlt2
            have hau : k &&& l < n := and_lt hlt
            obtain ⟨b, off, rfl, _, hcell⟩ := hrr.2 (by omega)
            have HC := Lib.hid hcell; clear hcell
            have e1 : bits .or .i64 (k : Int) (l : Int) = ((k ||| l : Nat) : Int) := bits_or k l (by omega) (by omega)
            have e2 : bits .and .i64 (k : Int) (l : Int) = ((k &&& l : Nat) : Int) := bits_and k l (by omega) (by omega)
            obtain ⟨u, hu⟩ : ∃ u : Nat, u = k ||| l := ⟨_, rfl⟩
            obtain ⟨v, hv⟩ : ∃ u : Nat, u = k &&& l := ⟨_, rfl⟩
            rw [← hu] at e1 hou
            rw [← hv] at e2 hau
            have hc1 := HC.out k hlt
            have hc2 := HC.out l hlt2
            have hc3 := HC.out u hou
            have hc4 := HC.out v hau
            have p1 := HP.out k hlt
            have p2 := HP.out l hlt2
            have p3 := HP.out u hou
            have p4 := HP.out v hau
            obtain ⟨x1, hx1⟩ : ∃ x, x = xs.getD k 0 := ⟨_, rfl⟩
            obtain ⟨x2, hx2⟩ : ∃ x, x = xs.getD l 0 := ⟨_, rfl⟩
            obtain ⟨x3, hx3⟩ : ∃ x, x = xs.getD u 0 := ⟨_, rfl⟩
            obtain ⟨x4, hx4⟩ : ∃ x, x = xs.getD v 0 := ⟨_, rfl⟩
            rw [← hx1] at hc1 p1
            rw [← hx2] at hc2 p2
            rw [← hx3] at hc3 p3
            rw [← hx4] at hc4 p4
            have HG : Hid (goodPair xs k l ↔ x1 + x2 ≤ x3 + x4) := by
              show _ ↔ _
              rw [goodPair, hx1, hx2, hx3, hx4, hu, hv]
            clear hx1 hx2 hx3 hx4 hu hv
            by_cases hg : x1 + x2 ≤ x3 + x4
            · go_wp2
              go_quiet (fail)
              go_wp2
              go_roundw
              case rel => exact ⟨l + 1, by omega, by go_num, fun j hj => if h : j = l then by rw [h]; exact HG.out.2 hg else HJ.out j (by omega), below_drewN hbi _⟩
              case measure => simp [intOf]; omega
            · have HF : Hid (pairB xs = false) := pairB_false hr.1 hlt hlt2 (fun h => hg (HG.out.1 h))
              go_wp2
              go_quiet (fail)
              go_wp2
              go_ret
              exact ⟨ret_bool (by rw [HF.out]; simp), below_drewN hbi _⟩
          · have hk' : l = n := by omega
            subst hk'
            go_wp2
            go_roundw
            case rel => exact ⟨k + 1, by omega, by go_num, fun i hi => if h : i = k then by rw [h]; exact HJ.out else HK.out i (by omega), hbi⟩
            case measure => simp [intOf]; omega
      · have hk' : k = n := by omega
        subst hk'
        have HF : Hid (pairB xs = true) := pairB_true hr.1 HK.out
        go_wp2_with (go_at_call 149; refine (HT.out _ hbr).mono ?_; rintro e w' ⟨rfl, rfl⟩)
        go_ret
        exact ⟨ret_bool (by rw [HF.out, ht]; rfl), hbr⟩
  · have hf : tableB xs = false := by simpa using ht
    clear ht
    go_enter Try.func86, Try.ntmps86
    go_wp2_with fail
    refine wp_loop_rounds 1 ?_
    rw [rounds_succ]
    go_wp2_with (go_at_call 149; refine (HT.out _ (Below.refl _ _)).mono ?_; rintro e w' ⟨rfl, rfl⟩)
    go_ret
    exact ⟨ret_bool (by simp [hf]), Below.refl _ _⟩
end Go.Proofs.Ytffkpmmgfgcngaa
