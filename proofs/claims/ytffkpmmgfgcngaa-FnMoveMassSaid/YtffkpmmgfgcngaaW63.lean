/- Contracts: orders of answers; sets of moved answers. -/
import Derived.Test.YtffkpmmgfgcngaaW19
import Derived.Test.YtffkpmmgfgcngaaW53
import Derived.Test.YtffkpmmgfgcngaaW6
import Derived.Test.YtffkpmmgfgcngaaLaw15
namespace Go.Proofs.Ytffkpmmgfgcngaa
open Go.RowKit

theorem inB_is {m : Nat} {x : Int} : inB m x = true ↔ 0 ≤ x ∧ x < m := by simp [inB]
theorem take_in_snoc {m : Nat} {to : List Int} {k : Nat} (hk : k < to.length) (h : (to.take k).all (inB m) = true) (hx : inB m (to.getD k 0) = true) : (to.take (k + 1)).all (inB m) = true := by
  rw [take_snoc to k hk, List.all_append, h]
  simpa using hx
theorem not_in {m : Nat} {to : List Int} {k : Nat} (hk : k < to.length) (hx : inB m (to.getD k 0) = false) : to.all (inB m) = false := by
  cases h : to.all (inB m) with
  | false => rfl
  | true => rw [all_getD] at h; rw [h k hk] at hx; cases hx
theorem seenT_lt {m : Nat} {to : List Int} (hm : m ≤ 4) : ∀ k, k ≤ to.length → (to.take k).all (inB m) = true → seenT to k < 16
  | 0, _, _ => by simp [seenT]
  | k + 1, hk, h => by
    rw [take_snoc to k (by omega), List.all_append] at h
    simp only [Bool.and_eq_true, List.all_cons, List.all_nil, Bool.and_true] at h
    have h1 := seenT_lt hm k (by omega) h.1
    have h2 := inB_is.1 h.2
    have h3 : (to.getD k 0).toNat = 0 ∨ (to.getD k 0).toNat = 1 ∨ (to.getD k 0).toNat = 2 ∨ (to.getD k 0).toNat = 3 := by omega
    show seenT to k ||| 2 ^ (to.getD k 0).toNat < 16
    rcases h3 with e | e | e | e <;> rw [e] <;> exact Nat.or_lt_two_pow (n := 4) h1 (by decide)
theorem imgT_lt {m : Nat} {to : List Int} {a : Nat} (hm : m ≤ 4) (h : to.all (inB m) = true) : ∀ k, k ≤ to.length → imgT to a k < 16
  | 0, _ => by simp [imgT]
  | k + 1, hk => by
    have h1 := imgT_lt (a := a) hm h k (by omega)
    have h2 := inB_is.1 (all_getD.1 h k (by omega))
    have h3 : (to.getD k 0).toNat = 0 ∨ (to.getD k 0).toNat = 1 ∨ (to.getD k 0).toNat = 2 ∨ (to.getD k 0).toNat = 3 := by omega
    unfold imgT
    split
    · rcases h3 with e | e | e | e <;> rw [e] <;> exact Nat.or_lt_two_pow (n := 4) h1 (by decide)
    · exact h1
theorem shl_at {x : Int} (h : 0 ≤ x ∧ x < 4) : (wrap64 (2 ^ min x.toNat 64) = ((2 ^ x.toNat : Nat) : Int) ∧ wrap64 (2 ^ x.toNat) = ((2 ^ x.toNat : Nat) : Int)) ∧ (wrap64 (2 ^ min (IntKind.u64.wrap x).toNat 64) = ((2 ^ x.toNat : Nat) : Int) ∧ wrap64 (2 ^ (IntKind.u64.wrap x).toNat) = ((2 ^ x.toNat : Nat) : Int)) ∧ 2 ^ x.toNat < 16 := by
  have h4 : x = 0 ∨ x = 1 ∨ x = 2 ∨ x = 3 := by omega
  rcases h4 with rfl | rfl | rfl | rfl <;> decide +kernel
theorem shr_at : ∀ a : Fin 16, (bits .and .i64 (a.val : Int) 1 == 1) = hasB a.val 0 ∧ (bits .and .i64 ((a.val : Int) / 2) 1 == 1) = hasB a.val 1 ∧ (bits .and .i64 ((a.val : Int) / 4) 1 == 1) = hasB a.val 2 ∧ (bits .and .i64 ((a.val : Int) / 8) 1 == 1) = hasB a.val 3 := by decide +kernel
theorem order_nil {m : Nat} {to : List Int} (h : to.all (inB m) = false) : orderB m to = false ∧ movesB m to = false := by
  unfold orderB movesB
  rw [h]
  exact ⟨rfl, rfl⟩
set_option maxHeartbeats 1600000 in
set_option maxRecDepth 100000 in
theorem isOrder_any (m : Nat) (a : Option Addr) (n c : Nat) (to : List Int) (w : World) (hr : Row w a n to) (hn : n ≤ 1048576) (hm : 1 ≤ m ∧ m ≤ 4) :
    Calls Try.prog 120 #[.int .i64 m, .slice a n c] w fun e w' => e = .returned (.bool (orderB m to)) ∧ w = w' := by
  have hsz : sizeB (m : Int) = true := by simp [sizeB]; omega
  have hft : fitB (m : Int) (2 ^ m) = true := by simp [fitB]
  have HF := Lib.hid (fun W => fullSet_any (m : Int) (2 ^ m) W hsz hft)
  obtain ⟨fu, hfu⟩ : ∃ f : Nat, f = 2 ^ m - 1 := ⟨_, rfl⟩
  have HFU := Lib.hid hfu
  rw [← hfu] at HF
  have hlx := hr.1
  have HLX := Lib.hid hlx
  clear hsz hft hfu hlx
  go_enter Try.func120, Try.ntmps120
  go_wp2_with fail
  go_loop [5, 10] (fun v i => ∃ k : Nat, k ≤ n ∧ i = .int .i64 k ∧ v = .int .i64 (seenT to k : Nat) ∧ Hid ((to.take k).all (inB m) = true)) (fun _ i => n - (intOf i).toNat)
  case atStart => exact ⟨0, Nat.zero_le _, rfl, rfl, rfl⟩
  case round =>
    obtain ⟨k, hk, rfl, rfl, HA⟩ := hrel
    obtain ⟨p, hp⟩ : ∃ p, p = seenT to k := ⟨_, rfl⟩
    have hp16 : p < 16 := by rw [hp]; exact seenT_lt hm.2 k (by rw [HLX.out]; exact hk) HA.out
    by_cases hlt : k < n
    · obtain ⟨b, off, x, rfl, hx, hc⟩ := hr.at_ hlt
      by_cases hb : inB m x = true
      · have hin := inB_is.1 hb
        obtain ⟨hsh, hshb⟩ := (shl_at (x := x) (by omega)).1
        have ht16 := (shl_at (x := x) (by omega)).2.2
        obtain ⟨t, ht⟩ : ∃ t : Nat, t = 2 ^ x.toNat := ⟨_, rfl⟩
        rw [← ht] at hsh hshb ht16
        obtain ⟨q, hq⟩ : ∃ q, q = p ||| t := ⟨_, rfl⟩
        have hor : bits .or .i64 (p : Int) (t : Int) = (q : Int) := by rw [hq]; exact bits_or p t hp16 ht16
        have HQ : Hid (seenT to (k + 1) = q) := by
          show seenT to k ||| 2 ^ (to.getD k 0).toNat = q
          rw [hq, hp, ht, hx]
        have HA2 := Lib.hid (take_in_snoc (by rw [HLX.out]; exact hlt) HA.out (by rw [← hx]; exact hb))
        have h0 : ¬ x < 0 := by omega
        have h1 : ¬ (m : Int) ≤ x := by omega
        have h1d : decide ((m : Int) ≤ x) = false := decide_eq_false h1
        have h0d : decide (x < 0) = false := decide_eq_false h0
        rw [← hp]
        clear hx hb hq ht hp hin
        go_wp2_with fail
        go_round
        case rel => exact ⟨k + 1, by omega, by go_num, by rw [HQ.out], HA2⟩
        case measure => simp [intOf]; omega
      · have hb' : inB m x = false := by simpa using hb
        have HO := Lib.hid (order_nil (not_in (by rw [HLX.out]; exact hlt) (by rw [← hx]; exact hb'))).1
        have hout : x < 0 ∨ (¬ x < 0 ∧ (m : Int) ≤ x) := by
          have h2 : ¬ (0 ≤ x ∧ x < m) := fun h => hb (inB_is.2 h)
          omega
        clear hx hb hb' hp
        rcases hout with h0 | ⟨h0, h1⟩
        · have h0d : decide (x < 0) = true := decide_eq_true h0
          go_wp2_with fail
          go_ret
          exact ⟨ret_bool HO.out.symm, rfl⟩
        · have h0d : decide (x < 0) = false := decide_eq_false h0
          have h1d : decide ((m : Int) ≤ x) = true := decide_eq_true h1
          go_wp2_with fail
          go_ret
          exact ⟨ret_bool HO.out.symm, rfl⟩
    · obtain rfl : n = k := by omega
      have HO : Hid (orderB m to = (((n : Int) == (m : Int)) && ((p : Int) == (fu : Int)))) := by
        show orderB m to = _
        have h1 : to.all (inB m) = true := by
          have := HA.out
          rw [List.take_of_length_le (by rw [HLX.out]; exact Nat.le_refl _)] at this
          exact this
        unfold orderB
        rw [h1, HLX.out, HFU.out, hp]
        rw [Bool.eq_iff_iff]
        simp
        omega
      rw [← hp]
      clear hp hlt
      by_cases hnm : (n : Int) = (m : Int)
      · have hnm' : ((n : Int) == (m : Int)) = true := by simpa using hnm
        rw [hnm', Bool.true_and] at HO
        clear hnm
        go_wp2_with fail
        refine (HF.out _).mono ?_
        rintro e w' ⟨rfl, rfl⟩
        go_wp2_with fail
        go_ret
        exact ⟨ret_bool HO.out.symm, rfl⟩
      · have hnm' : ((n : Int) == (m : Int)) = false := by simpa using hnm
        rw [hnm', Bool.false_and] at HO
        clear hnm
        go_wp2_with fail
        go_ret
        exact ⟨ret_bool HO.out.symm, rfl⟩
set_option maxHeartbeats 1600000 in
set_option maxRecDepth 100000 in
theorem l1Moves_any (m : Nat) (a : Option Addr) (n c : Nat) (to : List Int) (w : World) (hr : Row w a n to) (hn : n ≤ 1048576) (hm : 1 ≤ m ∧ m ≤ 4) :
    Calls Try.prog 125 #[.int .i64 m, .slice a n c] w fun e w' => e = .returned (.bool (movesB m to)) ∧ w = w' := by
  have hsz : sizeB (m : Int) = true := by simp [sizeB]; omega
  have HZ := Lib.hid (fun W => SizeValid_any (m : Int) W)
  rw [hsz] at HZ
  have hlx := hr.1
  have HLX := Lib.hid hlx
  have HIN : Hid (∀ x W, Calls Try.prog 167 #[.int .i64 x, .int .i64 0, .int .i64 ((m : Int) - 1)] W fun e w' => e = .returned (.bool (inB m x)) ∧ W = w') := fun x W => by
    have h1 := l1In_any x 0 ((m : Int) - 1) W
    rw [show (decide (0 ≤ x) && decide (x ≤ (m : Int) - 1)) = inB m x by
      unfold inB
      congr 1
      rw [decide_eq_decide]
      omega] at h1
    exact h1
  clear hsz hlx
  go_enter Try.func125, Try.ntmps125
  go_wp2_with fail
  go_loop [5, 6] (fun v i => ∃ k : Nat, k ≤ n ∧ i = .int .i64 k ∧ v = .int .i64 (seenT to k : Nat) ∧ Hid ((to.take k).all (inB m) = true) ∧ Hid (freshT to k = true)) (fun _ i => n - (intOf i).toNat)
  case atStart => exact ⟨0, Nat.zero_le _, rfl, rfl, rfl, rfl⟩
  case round =>
    obtain ⟨k, hk, rfl, rfl, HA, HFR⟩ := hrel
    obtain ⟨p, hp⟩ : ∃ p, p = seenT to k := ⟨_, rfl⟩
    have hp16 : p < 16 := by rw [hp]; exact seenT_lt hm.2 k (by rw [HLX.out]; exact hk) HA.out
    by_cases hlt : k < n
    · obtain ⟨b, off, x, rfl, hx, hc⟩ := hr.at_ hlt
      have HI := Lib.hid (fun W => HIN.out x W)
      by_cases hb : inB m x = true
      · rw [hb] at HI
        have hin := inB_is.1 hb
        obtain ⟨y, rfl⟩ : ∃ y : Nat, x = y := ⟨x.toNat, by omega⟩
        have HH := Lib.hid (fun W => l1Has_any p y W hp16 (by omega))
        obtain ⟨hsh, hshb⟩ := (shl_at (x := (y : Int)) (by omega)).2.1
        have ht16 := (shl_at (x := (y : Int)) (by omega)).2.2
        obtain ⟨t, ht⟩ : ∃ t : Nat, t = 2 ^ ((y : Nat) : Int).toNat := ⟨_, rfl⟩
        rw [← ht] at hsh hshb ht16
        obtain ⟨q, hq⟩ : ∃ q, q = p ||| t := ⟨_, rfl⟩
        have hor : bits .or .i64 (p : Int) (t : Int) = (q : Int) := by rw [hq]; exact bits_or p t hp16 ht16
        have HQ : Hid (seenT to (k + 1) = q) := by
          show seenT to k ||| 2 ^ (to.getD k 0).toNat = q
          rw [hq, hp, ht, hx]
        have HA2 := Lib.hid (take_in_snoc (by rw [HLX.out]; exact hlt) HA.out (by rw [← hx]; exact hb))
        have HF2 : Hid (freshT to (k + 1) = !(hasB p y)) := by
          show (freshT to k && !(hasB (seenT to k) (to.getD k 0).toNat)) = _
          rw [HFR.out, ← hx, ← hp, Int.toNat_natCast]
          rfl
        rw [← hp]
        by_cases hh : hasB p y = true
        · have HO : Hid (movesB m to = false) := by
            show _ = _
            have hfn : ∀ j, k + 1 ≤ j → freshT to j = false := fun j hj => by
              induction j with
              | zero => omega
              | succ j ih =>
                by_cases e : j = k
                · subst e; rw [HF2.out, hh]; rfl
                · show (freshT to j && _) = false
                  rw [ih (by omega)]; rfl
            unfold movesB
            rw [HLX.out, hfn n (by omega)]
            simp
          rw [hh] at HH
          clear hx hb hq ht hp hin hh hsh hshb hor
          go_wp2_with (first | (go_at_call 167; refine (HI.out _).mono ?_; rintro e w' ⟨rfl, rfl⟩) | (go_at_call 152; refine (HH.out _).mono ?_; rintro e w' ⟨rfl, rfl⟩))
          go_ret
          exact ⟨ret_bool HO.out.symm, rfl⟩
        · have hh' : hasB p y = false := by simpa using hh
          rw [hh'] at HH HF2
          clear hx hb hq ht hp hin hh hh'
          go_wp2_with (first | (go_at_call 167; refine (HI.out _).mono ?_; rintro e w' ⟨rfl, rfl⟩) | (go_at_call 152; refine (HH.out _).mono ?_; rintro e w' ⟨rfl, rfl⟩))
          go_round
          case rel => exact ⟨k + 1, by omega, by go_num, by rw [HQ.out], HA2, HF2.out⟩
          case measure => simp [intOf]; omega
      · have hb' : inB m x = false := by simpa using hb
        have HO := Lib.hid (order_nil (not_in (by rw [HLX.out]; exact hlt) (by rw [← hx]; exact hb'))).2
        rw [hb'] at HI
        clear hx hb hb' hp
        go_wp2_with (first | (go_at_call 167; refine (HI.out _).mono ?_; rintro e w' ⟨rfl, rfl⟩))
        go_ret
        exact ⟨ret_bool HO.out.symm, rfl⟩
    · obtain rfl : n = k := by omega
      have HO : Hid (movesB m to = ((n : Int) == (m : Int))) := by
        show movesB m to = _
        have h1 : to.all (inB m) = true := by
          have := HA.out
          rw [List.take_of_length_le (by rw [HLX.out]; exact Nat.le_refl _)] at this
          exact this
        unfold movesB
        rw [h1, HLX.out, HFR.out]
        rw [Bool.eq_iff_iff]
        simp
        omega
      clear hp hlt
      go_wp2_with (first | (go_at_call 166; refine (HZ.out _).mono ?_; rintro e w' ⟨rfl, rfl⟩))
      go_ret
      exact ⟨ret_bool HO.out.symm, rfl⟩
set_option maxHeartbeats 1600000 in
set_option maxRecDepth 100000 in
theorem imageOf_any (m x0 : Nat) (a : Option Addr) (n c : Nat) (to : List Int) (w : World) (hr : Row w a n to) (hm : m ≤ 4) (hnm : n ≤ 4) (hx16 : x0 < 16) (hin : to.all (inB m) = true) :
    Calls Try.prog 123 #[.int .i64 x0, .slice a n c] w fun e w' => e = .returned (.int .i64 (imgOf to x0 : Nat)) ∧ w = w' := by
  have hlx := hr.1
  have HLX := Lib.hid hlx
  have HIN := Lib.hid hin
  have hsr := shr_at ⟨x0, hx16⟩
  simp only at hsr
  have HSR := Lib.hid hsr
  clear hlx hin hsr
  go_enter Try.func123, Try.ntmps123
  go_wp2_with fail
  go_loop [5, 10] (fun v i => ∃ k : Nat, k ≤ n ∧ i = .int .i64 k ∧ v = .int .i64 (imgT to x0 k : Nat)) (fun _ i => n - (intOf i).toNat)
  case atStart => exact ⟨0, Nat.zero_le _, rfl, rfl⟩
  case round =>
    obtain ⟨k, hk, rfl, rfl⟩ := hrel
    obtain ⟨p, hp⟩ : ∃ p, p = imgT to x0 k := ⟨_, rfl⟩
    have hp16 : p < 16 := by rw [hp]; exact imgT_lt hm HIN.out k (by rw [HLX.out]; exact hk)
    by_cases hlt : k < n
    · obtain ⟨b, off, x, rfl, hx, hc⟩ := hr.at_ hlt
      have hb := inB_is.1 (all_getD.1 HIN.out k (by rw [HLX.out]; exact hlt))
      rw [← hx] at hb
      obtain ⟨hsh, hshb⟩ := (shl_at (x := x) (by omega)).1
      have ht16 := (shl_at (x := x) (by omega)).2.2
      obtain ⟨t, ht⟩ : ∃ t : Nat, t = 2 ^ x.toNat := ⟨_, rfl⟩
      rw [← ht] at hsh hshb ht16
      obtain ⟨q, hq⟩ : ∃ q, q = p ||| t := ⟨_, rfl⟩
      have hor : bits .or .i64 (p : Int) (t : Int) = (q : Int) := by rw [hq]; exact bits_or p t hp16 ht16
      have HQ : Hid (imgT to x0 (k + 1) = if hasB x0 k = true then q else p) := by
        show (if hasB x0 k = true then imgT to x0 k ||| 2 ^ (to.getD k 0).toNat else imgT to x0 k) = _
        rw [hq, ← hp, ht, hx]
      have h0 : ¬ x < 0 := by omega
      rw [← hp]
      clear hx hb hq ht hp
      have h4 : k = 0 ∨ k = 1 ∨ k = 2 ∨ k = 3 := by omega
      rcases h4 with rfl | rfl | rfl | rfl
      · have hbit := HSR.out.1
        simp only [Nat.add_zero] at hc
        by_cases hh : hasB x0 0 = true
        · rw [hh] at hbit
          rw [if_pos hh] at HQ
          clear hh
          go_wp2_with fail
          go_round
          case rel => exact ⟨1, by omega, by go_num, by first | (rw [HQ.out]; done) | (rw [HQ.out]; simp only [hsh, hor])⟩
          case measure => simp [intOf]; omega
        · have hh' : hasB x0 0 = false := by simpa using hh
          rw [hh'] at hbit
          rw [if_neg hh] at HQ
          clear hh hh'
          go_wp2_with fail
          go_round
          case rel => exact ⟨1, by omega, by go_num, by first | (rw [HQ.out]; done) | (rw [HQ.out]; simp only [hsh, hor])⟩
          case measure => simp [intOf]; omega
      · have hbit := HSR.out.2.1
        by_cases hh : hasB x0 1 = true
        · rw [hh] at hbit
          rw [if_pos hh] at HQ
          clear hh
          go_wp2_with fail
          go_round
          case rel => exact ⟨2, by omega, by go_num, by first | (rw [HQ.out]; done) | (rw [HQ.out]; simp only [hsh, hor])⟩
          case measure => simp [intOf]; omega
        · have hh' : hasB x0 1 = false := by simpa using hh
          rw [hh'] at hbit
          rw [if_neg hh] at HQ
          clear hh hh'
          go_wp2_with fail
          go_round
          case rel => exact ⟨2, by omega, by go_num, by first | (rw [HQ.out]; done) | (rw [HQ.out]; simp only [hsh, hor])⟩
          case measure => simp [intOf]; omega
      · have hbit := HSR.out.2.2.1
        by_cases hh : hasB x0 2 = true
        · rw [hh] at hbit
          rw [if_pos hh] at HQ
          clear hh
          go_wp2_with fail
          go_round
          case rel => exact ⟨3, by omega, by go_num, by first | (rw [HQ.out]; done) | (rw [HQ.out]; simp only [hsh, hor])⟩
          case measure => simp [intOf]; omega
        · have hh' : hasB x0 2 = false := by simpa using hh
          rw [hh'] at hbit
          rw [if_neg hh] at HQ
          clear hh hh'
          go_wp2_with fail
          go_round
          case rel => exact ⟨3, by omega, by go_num, by first | (rw [HQ.out]; done) | (rw [HQ.out]; simp only [hsh, hor])⟩
          case measure => simp [intOf]; omega
      · have hbit := HSR.out.2.2.2
        by_cases hh : hasB x0 3 = true
        · rw [hh] at hbit
          rw [if_pos hh] at HQ
          clear hh
          go_wp2_with fail
          go_round
          case rel => exact ⟨4, by omega, by go_num, by first | (rw [HQ.out]; done) | (rw [HQ.out]; simp only [hsh, hor])⟩
          case measure => simp [intOf]; omega
        · have hh' : hasB x0 3 = false := by simpa using hh
          rw [hh'] at hbit
          rw [if_neg hh] at HQ
          clear hh hh'
          go_wp2_with fail
          go_round
          case rel => exact ⟨4, by omega, by go_num, by first | (rw [HQ.out]; done) | (rw [HQ.out]; simp only [hsh, hor])⟩
          case measure => simp [intOf]; omega
    · obtain rfl : n = k := by omega
      have HO : Hid (imgOf to x0 = p) := by show _ = _; unfold imgOf; rw [HLX.out, hp]
      rw [← hp]
      clear hp hlt
      go_wp2_with fail
      go_ret
      exact ⟨by rw [HO.out] <;> rfl, rfl⟩
set_option maxHeartbeats 1600000 in
set_option maxRecDepth 100000 in
theorem l1Move_any (m x0 : Nat) (a : Option Addr) (n c : Nat) (to : List Int) (w : World) (hr : Row w a n to) (hm : m ≤ 4) (hnm : n ≤ 4) (hx16 : x0 < 16) (hin : to.all (inB m) = true) :
    Calls Try.prog 126 #[.int .i64 x0, .slice a n c] w fun e w' => e = .returned (.int .i64 (imgOf to x0 : Nat)) ∧ w = w' := by
  have hlx := hr.1
  have HLX := Lib.hid hlx
  have HIN := Lib.hid hin
  clear hlx hin
  go_enter Try.func126, Try.ntmps126
  go_wp2_with fail
  go_loop [5, 6] (fun v i => ∃ k : Nat, k ≤ n ∧ i = .int .i64 k ∧ v = .int .i64 (imgT to x0 k : Nat)) (fun _ i => n - (intOf i).toNat)
  case atStart => exact ⟨0, Nat.zero_le _, rfl, rfl⟩
  case round =>
    obtain ⟨k, hk, rfl, rfl⟩ := hrel
    obtain ⟨p, hp⟩ : ∃ p, p = imgT to x0 k := ⟨_, rfl⟩
    have hp16 : p < 16 := by rw [hp]; exact imgT_lt hm HIN.out k (by rw [HLX.out]; exact hk)
    by_cases hlt : k < n
    · obtain ⟨b, off, x, rfl, hx, hc⟩ := hr.at_ hlt
      have HH := Lib.hid (fun W => l1Has_any x0 k W hx16 (by omega))
      have hb := inB_is.1 (all_getD.1 HIN.out k (by rw [HLX.out]; exact hlt))
      rw [← hx] at hb
      obtain ⟨hsh, hshb⟩ := (shl_at (x := x) (by omega)).2.1
      have ht16 := (shl_at (x := x) (by omega)).2.2
      obtain ⟨t, ht⟩ : ∃ t : Nat, t = 2 ^ x.toNat := ⟨_, rfl⟩
      rw [← ht] at hsh hshb ht16
      obtain ⟨q, hq⟩ : ∃ q, q = p ||| t := ⟨_, rfl⟩
      have hor : bits .or .i64 (p : Int) (t : Int) = (q : Int) := by rw [hq]; exact bits_or p t hp16 ht16
      have HQ : Hid (imgT to x0 (k + 1) = if hasB x0 k = true then q else p) := by
        show (if hasB x0 k = true then imgT to x0 k ||| 2 ^ (to.getD k 0).toNat else imgT to x0 k) = _
        rw [hq, ← hp, ht, hx]
      rw [← hp]
      clear hx hb hq ht hp
      by_cases hh : hasB x0 k = true
      · rw [hh] at HH
        rw [if_pos hh] at HQ
        clear hh
        go_wp2_with (go_at_call 152; refine (HH.out _).mono ?_; rintro e w' ⟨rfl, rfl⟩)
        go_round
        case rel => exact ⟨k + 1, by omega, by go_num, by first | (rw [HQ.out]; done) | (rw [HQ.out]; simp only [hsh, hor])⟩
        case measure => simp [intOf]; omega
      · have hh' : hasB x0 k = false := by simpa using hh
        rw [hh'] at HH
        rw [if_neg hh] at HQ
        clear hh hh'
        go_wp2_with (go_at_call 152; refine (HH.out _).mono ?_; rintro e w' ⟨rfl, rfl⟩)
        go_round
        case rel => exact ⟨k + 1, by omega, by go_num, by first | (rw [HQ.out]; done) | (rw [HQ.out]; simp only [hsh, hor])⟩
        case measure => simp [intOf]; omega
    · obtain rfl : n = k := by omega
      have HO : Hid (imgOf to x0 = p) := by show _ = _; unfold imgOf; rw [HLX.out, hp]
      rw [← hp]
      clear hp hlt
      go_wp2_with fail
      go_ret
      exact ⟨by rw [HO.out] <;> rfl, rfl⟩
end Go.Proofs.Ytffkpmmgfgcngaa
