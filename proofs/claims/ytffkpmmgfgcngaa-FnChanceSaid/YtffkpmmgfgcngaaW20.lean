/- Contracts of the parts shared evenly. -/
import Derived.Test.YtffkpmmgfgcngaaW13
import Derived.Test.YtffkpmmgfgcngaaW5
import Derived.Test.YtffkpmmgfgcngaaBase3
import Derived.Test.YtffkpmmgfgcngaaMath
import Derived.Deep.QuietTactic
import Derived.BigQuiet
namespace Go.Proofs.Ytffkpmmgfgcngaa
open Go.RowKit

set_option maxHeartbeats 1600000 in
set_option maxRecDepth 100000 in
theorem sharedPart_any (s : Int) (x : Nat) (a : Option Addr) (n c : Nat) (xs : List Int) (w : World) (hr : Row w a n xs) (hn : n ≤ 16) (hx : x < 16) (hp : ∀ k, k < n → 0 ≤ xs.getD k 0 ∧ xs.getD k 0 ≤ 1000000) :
    Calls Try.prog 138 #[massV s a n c, .int .i64 x] w fun e w' => e = .returned (.int .i64 (evenOf x xs)) ∧ Below w.heap.size w w' := by
  have HP := Lib.hid hp; clear hp
  have hr2 := hr.below ((Below.refl w.heap.size w).alloc (Nat.le_refl _) (.cells #[.int .i64 s, .slice a n c] 25))
  go_enter Try.func138, Try.ntmps138
  go_wp2_with fail
  go_loop [5, 11] (fun s i => ∃ (k : Nat) (z : Int), k ≤ n ∧ i = .int .i64 k ∧ s = .int .i64 z ∧ 0 ≤ z ∧ z ≤ 48000000 * (k : Int) ∧ Hid (z = sumTo (evenF x xs) k)) (fun _ i => n - (intOf i).toNat)
  case atStart => exact ⟨0, 0, Nat.zero_le _, rfl, rfl, by omega, by omega, rfl⟩
  case round =>
    obtain ⟨k, z, hk, rfl, rfl, hz1, hz2, HZ⟩ := hrel
    by_cases hlt : k < n
    · obtain ⟨b, off, v, rfl, hv, hc⟩ := hr2.at_ hlt
      have hvb := HP.out k hlt
      rw [← hv] at hvb
      by_cases h0 : k = 0
      · subst h0
        have HN : Hid (z = sumTo (evenF x xs) (0 + 1)) := by
          show _ = _
          rw [HZ.out]; simp [sumTo, evenF_zero]
        clear hv
        simp only [Nat.add_zero] at hc
        go_wp2_with fail
        go_round
        case rel => exact ⟨1, z, by omega, rfl, rfl, by omega, by omega, HN⟩
        case measure => simp [intOf]; omega
      · have e1 := bits_and k x (by omega) (by omega)
        have hq16 : k &&& x < 16 := and_lt (by omega)
        have HC1 := Lib.hid (fun W => oc_any (k &&& x) W hq16)
        have HC2 := Lib.hid (fun W => oc_any k W (by omega))
        have hpl := cnt_le (k &&& x)
        have hql := cnt_le k
        have hq1 := cnt_pos k h0 (by omega)
        have HE : Hid (evenF x xs k = v * cnt (k &&& x) * 12 / cnt k) := by show _ = _; rw [evenF, ← hv]
        obtain ⟨r, hrr⟩ : ∃ r, r = k &&& x := ⟨_, rfl⟩
        rw [← hrr] at e1 HC1 hpl HE hq16
        clear hrr
        obtain ⟨p, hp⟩ : ∃ p, p = cnt r := ⟨_, rfl⟩
        obtain ⟨q, hq⟩ : ∃ q, q = cnt k := ⟨_, rfl⟩
        rw [← hp] at HC1 hpl HE
        rw [← hq] at HC2 hql hq1 HE
        clear hp hq hv
        have ht := part_cnt hvb p hpl
        obtain ⟨t, hte⟩ : ∃ t, t = v * (p : Int) := ⟨_, rfl⟩
        have e2 : IntKind.i64.wrap (v * (p : Int)) = t := by rw [← hte] at ht; rw [← hte]; exact IntWalk.i64_in _ (by omega)
        rw [← hte] at ht HE
        clear hte
        have hd := div_cnt ht q
        obtain ⟨d, hde⟩ : ∃ d, d = t * 12 / (q : Int) := ⟨_, rfl⟩
        rw [← hde] at hd HE
        have e3 : IntKind.i64.wrap ((t * 12).tdiv (q : Int)) = d := by rw [Int.tdiv_eq_ediv_of_nonneg (by omega), ← hde]; exact IntWalk.i64_in _ (by omega)
        clear hde
        have hq0 : ¬ q = 0 := by omega
        have hk0 : ((k : Int) != 0) = true := by simpa using h0
        have HN : Hid (z + d = sumTo (evenF x xs) (k + 1)) := by
          show _ = _
          simp only [sumTo]
          rw [HE.out, HZ.out]
        go_wp2_with (first | (go_at_call 153; refine (HC1.out _).mono ?_; rintro e w' ⟨rfl, rfl⟩) | (go_at_call 153; refine (HC2.out _).mono ?_; rintro e w' ⟨rfl, rfl⟩))
        go_round
        case rel => exact ⟨k + 1, z + d, by omega, by go_num, rfl, by omega, by omega, HN⟩
        case measure => simp [intOf]; omega
    · have hk' : k = n := by omega
      have HN : Hid (z = evenOf x xs) := by
        show _ = _
        rw [HZ.out, evenOf, hr.1, hk']
      subst hk'
      go_wp2_with fail
      go_ret
      exact ⟨ret_int HN.out, (Below.refl _ _).alloc (Nat.le_refl _) _⟩
set_option maxHeartbeats 1600000 in
set_option maxRecDepth 100000 in
theorem l4Even_any (s : Int) (x : Nat) (a : Option Addr) (n c : Nat) (xs : List Int) (w : World) (hr : Row w a n xs) (hn : n ≤ 16) (hn1 : 1 ≤ n) (hx : x < 16) (hp : ∀ k, k < n → 0 ≤ xs.getD k 0 ∧ xs.getD k 0 ≤ 1000000) :
    Calls Try.prog 139 #[massV s a n c, .int .i64 x] w fun e w' => e = .returned (.int .i64 (evenOf x xs)) ∧ Below w.heap.size w w' := by
  have HP := Lib.hid hp; clear hp
  have hr2 := hr.below ((Below.refl w.heap.size w).alloc (Nat.le_refl _) (.cells #[.int .i64 s, .slice a n c] 25))
  go_enter Try.func139, Try.ntmps139
  go_wp2_with fail
  obtain ⟨w0, hw0⟩ : ∃ w0, w0 = w.alloc (.cells #[.int .i64 s, .slice a n c] 25) := ⟨_, rfl⟩
  have hbx : Box w0 w.heap.size 25 (.int .i64 s) (.slice a n c) := by rw [hw0]; exact Box.new _ _ _ _
  have hb0 : Below w.heap.size w w0 := by rw [hw0]; exact (Below.refl w.heap.size w).alloc (Nat.le_refl _) _
  rw [← hw0] at hr2 ⊢
  clear hw0
  go_loopw [5, 6] (fun s i wr => ∃ (k : Nat) (z : Int), 1 ≤ k ∧ k ≤ n ∧ i = .int .i64 k ∧ s = .int .i64 z ∧ 0 ≤ z ∧ z ≤ 48000000 * (k : Int) ∧ Hid (z = sumTo (evenF x xs) k) ∧ Below w0.heap.size w0 wr) (fun _ i _ => n - (intOf i).toNat)
  case atStart => exact ⟨1, 0, Nat.le_refl _, hn1, rfl, rfl, by omega, by omega, by show _ = _; simp [sumTo, evenF_zero], Below.refl _ _⟩
  case round =>
    obtain ⟨k, z, hk1, hk, rfl, rfl, hz1, hz2, HZ, hbr⟩ := hrel
    obtain ⟨c1, c2, _, _⟩ := (hbx.below hbr hbx.lt).cells
    by_cases hlt : k < n
    · obtain ⟨b, off, v, rfl, hv, hc⟩ := (hr2.below hbr).at_ hlt
      have hvb := HP.out k hlt
      rw [← hv] at hvb
      have e1 := bits_and x k (by omega) (by omega)
      have hq16 : x &&& k < 16 := and_lt (by omega)
      have hpl := cnt_le (x &&& k)
      have hql := cnt_le k
      have hq1 := cnt_pos k (by omega) (by omega)
      have HE : Hid (evenF x xs k = v * cnt (x &&& k) * 12 / cnt k) := by show _ = _; rw [evenF, ← hv, Nat.and_comm x k]
      obtain ⟨r, hrr⟩ : ∃ r, r = x &&& k := ⟨_, rfl⟩
      rw [← hrr] at e1 hpl HE hq16
      clear hrr
      clear hv
      have ht := part_cnt hvb (cnt r) hpl
      obtain ⟨t, hte⟩ : ∃ t, t = v * (cnt r : Int) := ⟨_, rfl⟩
      have hte2 : 12 * v * (cnt r : Int) = t * 12 := by rw [hte, Int.mul_assoc, Int.mul_comm]
      rw [← hte] at ht HE
      have e0 : IntKind.i64.wrap (12 * v) = 12 * v := IntWalk.i64_in _ (by omega)
      have e2 : IntKind.i64.wrap (12 * v * (cnt r : Int)) = t * 12 := by rw [hte2]; exact IntWalk.i64_in _ (by omega)
      clear hte hte2
      have hd := div_cnt ht (cnt k)
      obtain ⟨d, hde⟩ : ∃ d, d = t * 12 / (cnt k : Int) := ⟨_, rfl⟩
      rw [← hde] at hd HE
      have e3 : IntKind.i64.wrap ((t * 12).tdiv (cnt k : Int)) = d := by rw [Int.tdiv_eq_ediv_of_nonneg (by omega), ← hde]; exact IntWalk.i64_in _ (by omega)
      clear hde
      have hq0 : ¬ cnt k = 0 := by omega
      have HN : Hid (z + d = sumTo (evenF x xs) (k + 1)) := by
        show _ = _
        simp only [sumTo]
        rw [HE.out, HZ.out]
      have e4 : IntKind.i64.wrap (z + d) = z + d := IntWalk.i64_in _ (by omega)
      have HQ : Hid (∀ (j : Nat) (hj : j < 16) (W : World) (m : Nat), Calls Try.prog 171 #[.int .i64 j] (W.drewN m) fun e w'' => e = .returned (.int .i64 (cnt j)) ∧ ∃ j, w'' = W.drewN j) := fun j hj W m => (l1Count_any j _ hj).mono (fun e w'' h => ⟨h.1, m, h.2.symm⟩)
      have hk16 : k < 16 := by omega
      go_wp2_with fail
      go_quiet ((go_at_call 171; exact HQ.out _ (by assumption) _ _))
      go_wp2_with fail
      go_roundw
      case rel => exact ⟨k + 1, z + d, by omega, by omega, by go_num, rfl, by omega, by omega, HN, below_drewN hbr _⟩
      case measure => simp [intOf]; omega
    · have hk' : k = n := by omega
      have HN : Hid (z = evenOf x xs) := by
        show _ = _
        rw [HZ.out, evenOf, hr.1, hk']
      subst hk'
      go_wp2_with fail
      go_ret
      exact ⟨ret_int HN.out, hb0.trans (hbr.mono hb0.size)⟩
end Go.Proofs.Ytffkpmmgfgcngaa
