/- Contracts of sums of parts of a mass: implied, possible, common. -/
import Derived.Test.YtffkpmmgfgcngaaW12
namespace Go.Proofs.Ytffkpmmgfgcngaa
open Go.RowKit

set_option maxHeartbeats 400000 in
theorem l4Implied_any (s : Int) (x : Nat) (a : Option Addr) (n c : Nat) (xs : List Int) (w : World) (hr : Row w a n xs) (hn : n ≤ 16) (hx : x < 16) (hp : ∀ k, k < n → 0 ≤ xs.getD k 0 ∧ xs.getD k 0 ≤ 1000000) :
    Calls Try.prog 135 #[massV s a n c, .int .i64 x] w fun e w' => e = .returned (.int .i64 (partOf (fun j => subB j x) xs)) ∧ Below w.heap.size w w' := by
  have HP := Lib.hid hp; clear hp
  have hr2 := hr.below ((Below.refl w.heap.size w).alloc (Nat.le_refl _) (.cells #[.int .i64 s, .slice a n c] 25))
  go_enter Try.func135, Try.ntmps135
  go_wp2_with fail
  go_loop [5, 6] (fun s i => ∃ (k : Nat) (z : Int), k ≤ n ∧ i = .int .i64 k ∧ s = .int .i64 z ∧ 0 ≤ z ∧ z ≤ 1000000 * (k : Int) ∧ Hid (z = sumTo (partF (fun j => subB j x) xs) k)) (fun _ i => n - (intOf i).toNat)
  case atStart => exact ⟨0, 0, Nat.zero_le _, rfl, rfl, by omega, by omega, rfl⟩
  case round =>
    obtain ⟨k, z, hk, rfl, rfl, hz1, hz2, HZ⟩ := hrel
    by_cases hlt : k < n
    · obtain ⟨b, off, v, rfl, hv, hc⟩ := hr2.at_ hlt
      have hvb := HP.out k hlt
      rw [← hv] at hvb
      have e1 := bits_andNot k x (by omega) (by omega)
      obtain ⟨q, hq⟩ : ∃ q : Nat, q = k &&& (15 - x) := ⟨_, rfl⟩
      rw [← hq] at e1
      by_cases h0 : q = 0
      · have HN : Hid (z + v = sumTo (partF (fun j => subB j x) xs) (k + 1)) := by
          show _ = _
          simp only [sumTo]
          rw [← HZ.out, partF_yes (by simp [subB, ← hq, h0]), hv]
          try rfl
        clear hv hq
        subst h0
        go_wp2_with fail
        go_round
        case rel => exact ⟨k + 1, z + v, by omega, by go_num, rfl, by omega, by omega, HN⟩
        case measure => simp [intOf]; omega
      · have HN : Hid (z = sumTo (partF (fun j => subB j x) xs) (k + 1)) := by
          show _ = _
          simp only [sumTo]
          rw [← HZ.out, partF_no (by simp [subB, ← hq, h0])]
          omega
        have hne : ((q : Int) == 0) = false := by simp; omega
        clear hv hq
        go_wp2_with fail
        go_round
        case rel => exact ⟨k + 1, z, by omega, by go_num, rfl, by omega, by omega, HN⟩
        case measure => simp [intOf]; omega
    · have hk' : k = n := by omega
      have HN : Hid (z = partOf (fun j => subB j x) xs) := by
        show _ = _
        rw [HZ.out, partOf, hr.1, hk']
      subst hk'
      go_wp2_with fail
      go_ret
      exact ⟨ret_int HN.out, (Below.refl _ _).alloc (Nat.le_refl _) _⟩
set_option maxHeartbeats 400000 in
theorem l4Common_any (s : Int) (x : Nat) (a : Option Addr) (n c : Nat) (xs : List Int) (w : World) (hr : Row w a n xs) (hn : n ≤ 16) (hx : x < 16) (hp : ∀ k, k < n → 0 ≤ xs.getD k 0 ∧ xs.getD k 0 ≤ 1000000) :
    Calls Try.prog 131 #[massV s a n c, .int .i64 x] w fun e w' => e = .returned (.int .i64 (partOf (fun j => subB x j) xs)) ∧ Below w.heap.size w w' := by
  have HP := Lib.hid hp; clear hp
  have hr2 := hr.below ((Below.refl w.heap.size w).alloc (Nat.le_refl _) (.cells #[.int .i64 s, .slice a n c] 25))
  go_enter Try.func131, Try.ntmps131
  go_wp2_with fail
  go_loop [5, 6] (fun s i => ∃ (k : Nat) (z : Int), k ≤ n ∧ i = .int .i64 k ∧ s = .int .i64 z ∧ 0 ≤ z ∧ z ≤ 1000000 * (k : Int) ∧ Hid (z = sumTo (partF (fun j => subB x j) xs) k)) (fun _ i => n - (intOf i).toNat)
  case atStart => exact ⟨0, 0, Nat.zero_le _, rfl, rfl, by omega, by omega, rfl⟩
  case round =>
    obtain ⟨k, z, hk, rfl, rfl, hz1, hz2, HZ⟩ := hrel
    by_cases hlt : k < n
    · obtain ⟨b, off, v, rfl, hv, hc⟩ := hr2.at_ hlt
      have hvb := HP.out k hlt
      rw [← hv] at hvb
      have e1 := bits_andNot x k (by omega) (by omega)
      obtain ⟨q, hq⟩ : ∃ q : Nat, q = x &&& (15 - k) := ⟨_, rfl⟩
      rw [← hq] at e1
      by_cases h0 : q = 0
      · have HN : Hid (z + v = sumTo (partF (fun j => subB x j) xs) (k + 1)) := by
          show _ = _
          simp only [sumTo]
          rw [← HZ.out, partF_yes (by simp [subB, ← hq, h0]), hv]
          try rfl
        clear hv hq
        subst h0
        go_wp2_with fail
        go_round
        case rel => exact ⟨k + 1, z + v, by omega, by go_num, rfl, by omega, by omega, HN⟩
        case measure => simp [intOf]; omega
      · have HN : Hid (z = sumTo (partF (fun j => subB x j) xs) (k + 1)) := by
          show _ = _
          simp only [sumTo]
          rw [← HZ.out, partF_no (by simp [subB, ← hq, h0])]
          omega
        have hne : ((q : Int) == 0) = false := by simp; omega
        clear hv hq
        go_wp2_with fail
        go_round
        case rel => exact ⟨k + 1, z, by omega, by go_num, rfl, by omega, by omega, HN⟩
        case measure => simp [intOf]; omega
    · have hk' : k = n := by omega
      have HN : Hid (z = partOf (fun j => subB x j) xs) := by
        show _ = _
        rw [HZ.out, partOf, hr.1, hk']
      subst hk'
      go_wp2_with fail
      go_ret
      exact ⟨ret_int HN.out, (Below.refl _ _).alloc (Nat.le_refl _) _⟩
set_option maxHeartbeats 400000 in
theorem l4Possible_any (s : Int) (x : Nat) (a : Option Addr) (n c : Nat) (xs : List Int) (w : World) (hr : Row w a n xs) (hn : n ≤ 16) (hx : x < 16) (hp : ∀ k, k < n → 0 ≤ xs.getD k 0 ∧ xs.getD k 0 ≤ 1000000) :
    Calls Try.prog 134 #[massV s a n c, .int .i64 x] w fun e w' => e = .returned (.int .i64 (partOf (fun j => meetB x j) xs)) ∧ Below w.heap.size w w' := by
  have HP := Lib.hid hp; clear hp
  have hr2 := hr.below ((Below.refl w.heap.size w).alloc (Nat.le_refl _) (.cells #[.int .i64 s, .slice a n c] 25))
  go_enter Try.func134, Try.ntmps134
  go_wp2_with fail
  go_loop [5, 6] (fun s i => ∃ (k : Nat) (z : Int), k ≤ n ∧ i = .int .i64 k ∧ s = .int .i64 z ∧ 0 ≤ z ∧ z ≤ 1000000 * (k : Int) ∧ Hid (z = sumTo (partF (fun j => meetB x j) xs) k)) (fun _ i => n - (intOf i).toNat)
  case atStart => exact ⟨0, 0, Nat.zero_le _, rfl, rfl, by omega, by omega, rfl⟩
  case round =>
    obtain ⟨k, z, hk, rfl, rfl, hz1, hz2, HZ⟩ := hrel
    by_cases hlt : k < n
    · obtain ⟨b, off, v, rfl, hv, hc⟩ := hr2.at_ hlt
      have hvb := HP.out k hlt
      rw [← hv] at hvb
      have e1 := bits_and x k (by omega) (by omega)
      obtain ⟨q, hq⟩ : ∃ q : Nat, q = x &&& k := ⟨_, rfl⟩
      rw [← hq] at e1
      by_cases h0 : q = 0
      · have HN : Hid (z = sumTo (partF (fun j => meetB x j) xs) (k + 1)) := by
          show _ = _
          simp only [sumTo]
          rw [← HZ.out, partF_no (by simp [meetB, ← hq, h0])]
          omega
        clear hv hq
        subst h0
        go_wp2_with fail
        go_round
        case rel => exact ⟨k + 1, z, by omega, by go_num, rfl, by omega, by omega, HN⟩
        case measure => simp [intOf]; omega
      · have HN : Hid (z + v = sumTo (partF (fun j => meetB x j) xs) (k + 1)) := by
          show _ = _
          simp only [sumTo]
          rw [← HZ.out, partF_yes (by simp [meetB, ← hq, h0]), hv]
          try rfl
        have hne : ((q : Int) != 0) = true := by simp; omega
        clear hv hq
        go_wp2_with fail
        go_round
        case rel => exact ⟨k + 1, z + v, by omega, by go_num, rfl, by omega, by omega, HN⟩
        case measure => simp [intOf]; omega
    · have hk' : k = n := by omega
      have HN : Hid (z = partOf (fun j => meetB x j) xs) := by
        show _ = _
        rw [HZ.out, partOf, hr.1, hk']
      subst hk'
      go_wp2_with fail
      go_ret
      exact ⟨ret_int HN.out, (Below.refl _ _).alloc (Nat.le_refl _) _⟩
theorem cell_one_new' (w : World) (v : Value) (T : TypeId) {k : Nat} (h : k = w.heap.size) : (w.alloc (.cells #[v] T)).cell? ⟨k, 0, none⟩ = some v := by
  rw [World.cell?_alloc_at _ _ _ _ h]; rfl
set_option maxHeartbeats 800000 in
theorem sumOver_any (K : Nat) (p : Addr) (hcf : ∀ (args : Array Value) (w : World), (callFunc K args).run Try.prog w = .ok (.enter K args) w) (pr : Nat → Bool)
    (s : Int) (a : Option Addr) (n c : Nat) (xs : List Int) (w : World) (hr : Row w a n xs) (hn : n ≤ 16) (hp : ∀ k, k < n → 0 ≤ xs.getD k 0 ∧ xs.getD k 0 ≤ 1000000)
    (hf : ∀ (j : Nat) (W : World), j < 16 → Below w.heap.size w W → Calls Try.prog K #[.int .i64 j, .pointer (some p)] W fun e w' => e = .returned (.bool (pr j)) ∧ W = w') :
    Calls Try.prog 97 #[massV s a n c, .func (.func K) #[] #[.pointer (some p)]] w fun e w' => e = .returned (.int .i64 (partOf pr xs)) ∧ Below w.heap.size w w' := by
  have HP := Lib.hid hp; clear hp
  have hb1 := (Below.refl w.heap.size w).alloc (Nat.le_refl _) (.cells #[.int .i64 s, .slice a n c] 25)
  have HF := Lib.hid (fun j hj => hf j _ hj hb1); clear hf
  have hr2 := hr.below hb1
  have HB := Lib.hid hb1; clear hb1
  go_enter Try.func97, Try.ntmps97
  go_wp2_with fail
  go_loop [5, 11] (fun s i => ∃ (k : Nat) (z : Int), k ≤ n ∧ i = .int .i64 k ∧ s = .int .i64 z ∧ 0 ≤ z ∧ z ≤ 1000000 * (k : Int) ∧ Hid (z = sumTo (partF pr xs) k)) (fun _ i => n - (intOf i).toNat)
  case atStart => exact ⟨0, 0, Nat.zero_le _, rfl, rfl, by omega, by omega, rfl⟩
  case round =>
    obtain ⟨k, z, hk, rfl, rfl, hz1, hz2, HZ⟩ := hrel
    by_cases hlt : k < n
    · obtain ⟨b, off, v, rfl, hv, hc⟩ := hr2.at_ hlt
      have hvb := HP.out k hlt
      rw [← hv] at hvb
      have hC := HF.out k (by omega)
      by_cases h0 : pr k = true
      · have HN : Hid (z + v = sumTo (partF pr xs) (k + 1)) := by
          show _ = _
          simp only [sumTo]
          rw [← HZ.out, partF_yes h0, hv]
        rw [h0] at hC
        have HC := Lib.hid hC
        clear hv h0 hC
        go_wp2_with fail
        refine HC.out.mono ?_
        rintro e w' ⟨rfl, rfl⟩
        go_wp2_with fail
        go_round
        case rel => exact ⟨k + 1, z + v, by omega, by go_num, rfl, by omega, by omega, HN⟩
        case measure => simp [intOf]; omega
      · have h0' : pr k = false := by simpa using h0
        have HN : Hid (z = sumTo (partF pr xs) (k + 1)) := by
          show _ = _
          simp only [sumTo]
          rw [← HZ.out, partF_no h0']
          omega
        rw [h0'] at hC
        have HC := Lib.hid hC
        clear hv h0 h0' hC
        go_wp2_with fail
        refine HC.out.mono ?_
        rintro e w' ⟨rfl, rfl⟩
        go_wp2_with fail
        go_round
        case rel => exact ⟨k + 1, z, by omega, by go_num, rfl, by omega, by omega, HN⟩
        case measure => simp [intOf]; omega
    · have hk' : k = n := by omega
      have HN : Hid (z = partOf pr xs) := by
        show _ = _
        rw [HZ.out, partOf, hr.1, hk']
      subst hk'
      go_wp2_with fail
      go_ret
      exact ⟨ret_int HN.out, HB.out⟩
theorem cloImplied (j x : Nat) (p : Addr) (w : World) (hj : j < 16) (hx : x < 16) (hp : w.cell? p = some (.int .i64 x)) : Calls Try.prog 159 #[.int .i64 j, .pointer (some p)] w fun e w' => e = .returned (.bool (subB j x)) ∧ w = w' := by
  have e1 := bits_andNot j x (by omega) (by omega)
  obtain ⟨q, hq⟩ : ∃ q : Nat, q = j &&& (15 - x) := ⟨_, rfl⟩
  rw [← hq] at e1
  have HN : Hid (((q : Int) == 0) = subB j x) := by
    show _ = _
    rw [subB, ← hq, Bool.eq_iff_iff]; simp
    try omega
  clear hq
  go_enter Try.func159, Try.ntmps159
  go_wp2
  go_ret
  exact ⟨ret_bool HN.out, rfl⟩
theorem cloPossible (j x : Nat) (p : Addr) (w : World) (hj : j < 16) (hx : x < 16) (hp : w.cell? p = some (.int .i64 x)) : Calls Try.prog 161 #[.int .i64 j, .pointer (some p)] w fun e w' => e = .returned (.bool (meetB x j)) ∧ w = w' := by
  have e1 := bits_and j x (by omega) (by omega)
  obtain ⟨q, hq⟩ : ∃ q : Nat, q = j &&& x := ⟨_, rfl⟩
  rw [← hq] at e1
  have HN : Hid (((q : Int) != 0) = meetB x j) := by
    show _ = _
    rw [meetB, Nat.and_comm, ← hq, Bool.eq_iff_iff]; simp
    try omega
  clear hq
  go_enter Try.func161, Try.ntmps161
  go_wp2
  go_ret
  exact ⟨ret_bool HN.out, rfl⟩
theorem cloCommon (j x : Nat) (p : Addr) (w : World) (hj : j < 16) (hx : x < 16) (hp : w.cell? p = some (.int .i64 x)) : Calls Try.prog 98 #[.int .i64 j, .pointer (some p)] w fun e w' => e = .returned (.bool (subB x j)) ∧ w = w' := by
  have e1 := bits_andNot x j (by omega) (by omega)
  obtain ⟨q, hq⟩ : ∃ q : Nat, q = x &&& (15 - j) := ⟨_, rfl⟩
  rw [← hq] at e1
  have HN : Hid (((q : Int) == 0) = subB x j) := by
    show _ = _
    rw [subB, ← hq, Bool.eq_iff_iff]; simp
    try omega
  clear hq
  go_enter Try.func98, Try.ntmps98
  go_wp2
  go_ret
  exact ⟨ret_bool HN.out, rfl⟩
theorem impliedPart_any (s : Int) (x : Nat) (a : Option Addr) (n c : Nat) (xs : List Int) (w : World) (hr : Row w a n xs) (hn : n ≤ 16) (hx : x < 16) (hp : ∀ k, k < n → 0 ≤ xs.getD k 0 ∧ xs.getD k 0 ≤ 1000000) :
    Calls Try.prog 105 #[massV s a n c, .int .i64 x] w fun e w' => e = .returned (.int .i64 (partOf (fun j => subB j x) xs)) ∧ Below w.heap.size w w' := by
  have hb2 := ((Below.refl w.heap.size w).alloc (Nat.le_refl _) (.cells #[.int .i64 s, .slice a n c] 25)).alloc (by simp) (.cells #[.int .i64 x] 3)
  have HS := Lib.hid (sumOver_any 159 ⟨w.heap.size + 1, 0, none⟩ (fun _ _ => by kernel_rfl) (fun j => subB j x) s a n c xs _ (hr.below hb2) hn hp (fun j W hj hb => cloImplied j x _ W hj hx ((hb.cell (by simp)).trans (cell_one_new' _ _ _ (by simp)))))
  clear hr hp
  have HB := Lib.hid hb2; clear hb2
  go_enter Try.func105, Try.ntmps105
  go_wp2_with fail
  refine HS.out.mono ?_
  rintro e w1 ⟨rfl, b1⟩
  have hb := HB.out.trans (b1.mono HB.out.size)
  go_wp2_with fail
  go_ret
  exact ⟨rfl, hb⟩
theorem possiblePart_any (s : Int) (x : Nat) (a : Option Addr) (n c : Nat) (xs : List Int) (w : World) (hr : Row w a n xs) (hn : n ≤ 16) (hx : x < 16) (hp : ∀ k, k < n → 0 ≤ xs.getD k 0 ∧ xs.getD k 0 ≤ 1000000) :
    Calls Try.prog 113 #[massV s a n c, .int .i64 x] w fun e w' => e = .returned (.int .i64 (partOf (fun j => meetB x j) xs)) ∧ Below w.heap.size w w' := by
  have hb2 := ((Below.refl w.heap.size w).alloc (Nat.le_refl _) (.cells #[.int .i64 s, .slice a n c] 25)).alloc (by simp) (.cells #[.int .i64 x] 3)
  have HS := Lib.hid (sumOver_any 161 ⟨w.heap.size + 1, 0, none⟩ (fun _ _ => by kernel_rfl) (fun j => meetB x j) s a n c xs _ (hr.below hb2) hn hp (fun j W hj hb => cloPossible j x _ W hj hx ((hb.cell (by simp)).trans (cell_one_new' _ _ _ (by simp)))))
  clear hr hp
  have HB := Lib.hid hb2; clear hb2
  go_enter Try.func113, Try.ntmps113
  go_wp2_with fail
  refine HS.out.mono ?_
  rintro e w1 ⟨rfl, b1⟩
  have hb := HB.out.trans (b1.mono HB.out.size)
  go_wp2_with fail
  go_ret
  exact ⟨rfl, hb⟩
end Go.Proofs.Ytffkpmmgfgcngaa
