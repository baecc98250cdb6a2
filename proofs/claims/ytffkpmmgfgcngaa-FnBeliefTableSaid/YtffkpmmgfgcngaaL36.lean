/- The walk of the law FnBeliefTable. -/
import Derived.Test.YtffkpmmgfgcngaaBase7
import Derived.Test.YtffkpmmgfgcngaaLaw
import Derived.Test.YtffkpmmgfgcngaaW4
import Derived.Test.YtffkpmmgfgcngaaW6
import Derived.Test.YtffkpmmgfgcngaaW8
import Derived.Test.YtffkpmmgfgcngaaW10
import Derived.Test.YtffkpmmgfgcngaaW53
import Derived.Test.YtffkpmmgfgcngaaW60
import Derived.Test.YtffkpmmgfgcngaaW61
import Derived.Deep.RegionHeld3
import Derived.Deep.QuietTactic
import Derived.BigQuiet
namespace Go.Proofs.Ytffkpmmgfgcngaa
open Go.RowKit

def goodF (ps : List Int) : Nat → Bool | 0 => true | j + 1 => goodF ps j && decide (0 ≤ ps.getD j 0)
def someF (ps : List Int) : Nat → Bool | 0 => false | j + 1 => someF ps j || decide (0 < ps.getD j 0)
def singF (ps : List Int) : Nat → Bool | 0 => true | j + 1 => singF ps j && (decide (ps.getD j 0 = 0) || decide (cnt j = 1))
theorem goodF_is (ps : List Int) : ∀ n, goodF ps n = true ↔ ∀ k, k < n → 0 ≤ ps.getD k 0
  | 0 => by simp [goodF]
  | n + 1 => by
    rw [goodF, Bool.and_eq_true, goodF_is ps n, decide_eq_true_eq]
    refine ⟨fun h k hk => ?_, fun h => ⟨fun k hk => h k (by omega), h n (by omega)⟩⟩
    by_cases e : k = n
    · subst e; exact h.2
    · exact h.1 k (by omega)
theorem someF_is (ps : List Int) : ∀ n, someF ps n = true ↔ ∃ k, k < n ∧ 0 < ps.getD k 0
  | 0 => by simp [someF]
  | n + 1 => by
    rw [someF, Bool.or_eq_true, someF_is ps n, decide_eq_true_eq]
    constructor
    · rintro (⟨k, hk, h⟩ | h)
      · exact ⟨k, by omega, h⟩
      · exact ⟨n, by omega, h⟩
    · rintro ⟨k, hk, h⟩
      by_cases e : k = n
      · subst e; exact .inr h
      · exact .inl ⟨k, by omega, h⟩
theorem singF_is (ps : List Int) : ∀ n, singF ps n = true ↔ ∀ k, k < n → ps.getD k 0 = 0 ∨ cnt k = 1
  | 0 => by simp [singF]
  | n + 1 => by
    rw [singF, Bool.and_eq_true, singF_is ps n, Bool.or_eq_true, decide_eq_true_eq, decide_eq_true_eq]
    refine ⟨fun h k hk => ?_, fun h => ⟨fun k hk => h k (by omega), h n (by omega)⟩⟩
    by_cases e : k = n
    · subst e; exact h.2
    · exact h.1 k (by omega)
theorem partsB_is {ps : List Int} {n : Nat} (hn : ps.length = n) : partsB ps = (goodF ps n && someF ps n) := by
  subst hn
  rw [Bool.eq_iff_iff, partsB, Bool.and_eq_true, Bool.and_eq_true, goodF_is, someF_is, all_getD, any_getD]
  simp only [nonnegB, posB, decide_eq_true_eq]
theorem singleB_is {ps : List Int} {n : Nat} (hn : ps.length = n) : singleB ps = singF ps n := by
  subst hn
  rw [Bool.eq_iff_iff, singF_is, singleB, decide_eq_true_eq]

set_option maxHeartbeats 6400000 in
set_option maxRecDepth 100000 in
theorem walkBeliefTable (a : Option Addr) (l c : Nat) (bs : List Int) (w : World) (hr : BRow w a l bs) (hlc : l ≤ c) :
    Calls Try.prog 14 #[.slice a l c] w fun e w' => e = .returned (.bool true) ∧ Below w.heap.size w w' := by
  by_cases hl : 1048576 < (l : Int)
  · clear hr
    go_enter Try.func14, Try.ntmps14
    go_wp2_with fail
    go_ret
    exact ⟨rfl, Below.refl _ _⟩
  have HD := Lib.hid (DrawIsBeliefTable_any a l c bs w hr (.inl hlc))
  clear hr
  go_enter Try.func14, Try.ntmps14
  go_wp2_with fail
  refine HD.out.mono ?_
  rintro e w1 ⟨A, n, C, xs, rfl, hn17, Rl, b1⟩
  have BB := b1
  have hn : n ≤ 1048576 := by omega
  have hlx := Rl.1
  obtain ⟨av, hav⟩ : ∃ v, v = (tableB xs && partsB (sums false true xs)) := ⟨_, rfl⟩
  obtain ⟨bv, hbv⟩ : ∃ v, v = (tableB xs && pairB xs) := ⟨_, rfl⟩
  obtain ⟨cv, hcv⟩ : ∃ v, v = (tableB xs && addB xs) := ⟨_, rfl⟩
  have HAV := Lib.hid hav
  have HBV := Lib.hid hbv
  have HCV := Lib.hid hcv
  have HLX := Lib.hid hlx
  clear hav hbv hcv hlx
  have ea : (av != av) = false := by simp
  have eb : (bv != bv) = false := by simp
  have ec : (cv != cv) = false := by simp
  have HX1 := Lib.hid (fun W (h : Row W A n xs) => (iIsBeliefTable_any A n C xs W h hn))
  rw [← HAV.out] at HX1
  go_wp2_with fail
  refine (HX1.out _ Rl).mono ?_
  rintro e w2 ⟨rfl, b2⟩
  replace Rl := Rl.below b2
  replace BB := BB.trans (b2.mono BB.size)
  clear HX1
  have HX2 := Lib.hid (fun W (h : Row W A n xs) => (iIsPairwise_any A n C xs W h hn))
  rw [← HBV.out] at HX2
  go_wp2_with fail
  refine (HX2.out _ Rl).mono ?_
  rintro e w3 ⟨rfl, b3⟩
  replace Rl := Rl.below b3
  replace BB := BB.trans (b3.mono BB.size)
  clear HX2
  have HX3 := Lib.hid (fun W (h : Row W A n xs) => (iIsAdditive_any A n C xs W h hn).mono (fun e w' h => And.intro h.1 (show Below W.heap.size W w' from h.2 ▸ Below.refl _ _)))
  rw [← HCV.out] at HX3
  go_wp2_with fail
  refine (HX3.out _ Rl).mono ?_
  rintro e w4 ⟨rfl, b4⟩
  replace Rl := Rl.below b4
  replace BB := BB.trans (b4.mono BB.size)
  clear HX3
  have HX4 := Lib.hid (fun W (h : Row W A n xs) => (sIsBeliefTable_any A n C xs W h hn))
  rw [← HAV.out] at HX4
  go_wp2_with fail
  refine (HX4.out _ Rl).mono ?_
  rintro e w5 ⟨rfl, b5⟩
  replace Rl := Rl.below b5
  replace BB := BB.trans (b5.mono BB.size)
  clear HX4
  have HX5 := Lib.hid (fun W (h : Row W A n xs) => (sIsPairwise_any A n C xs W h hn))
  rw [← HBV.out] at HX5
  go_wp2_with fail
  refine (HX5.out _ Rl).mono ?_
  rintro e w6 ⟨rfl, b6⟩
  replace Rl := Rl.below b6
  replace BB := BB.trans (b6.mono BB.size)
  clear HX5
  have HX6 := Lib.hid (fun W (h : Row W A n xs) => (sIsAdditive_any A n C xs W h hn).mono (fun e w' h => And.intro h.1 (show Below W.heap.size W w' from h.2 ▸ Below.refl _ _)))
  rw [← HCV.out] at HX6
  go_wp2_with fail
  refine (HX6.out _ Rl).mono ?_
  rintro e w7 ⟨rfl, b7⟩
  replace Rl := Rl.below b7
  replace BB := BB.trans (b7.mono BB.size)
  clear HX6
  clear ea eb ec
  by_cases ht : tableB xs = true
  · have HT := Lib.hid ht
    have h4 := (table_part HLX.out ht).1
    obtain ⟨ps, hps⟩ : ∃ ps, ps = sums false true xs := ⟨_, rfl⟩
    have hlp : ps.length = n := by rw [hps, sums_length, HLX.out]
    have HPS := Lib.hid hps
    have hcond : ((av == (goodF ps n && someF ps n)) && (cv == singF ps n) && (!av || bv) && (!cv || bv)) = true := by
      rw [← partsB_is hlp, ← singleB_is hlp, HAV.out, HBV.out, HCV.out, ht, hps]
      have q1 := belief_pairwise HLX.out h4
      have q2 := additive_pairwise HLX.out h4
      have q3 := additive_single HLX.out h4
      have q4 := single_additive HLX.out h4
      revert q1 q2 q3 q4
      cases partsB (sums false true xs) <;> cases pairB xs <;> cases addB xs <;> cases singleB (sums false true xs) <;> simp
    have HCOND := Lib.hid hcond
    have hn2 : 2 ≤ n := by omega
    have hn16 : n ≤ 16 := by omega
    have hn1 : 0 < n := by omega
    have hn0 : (0 : Int) < (n : Int) := by omega
    have hn00 : decide ((0 : Int) < (n : Int)) = true := decide_eq_true hn0
    clear ht hps h4 hlp hcond HAV HBV HCV
    have HXp := Lib.hid (fun W (h : Row W A n xs) => iPartsBelow_any A n C xs W h (by omega))
    rw [toldN_yes HT.out, told_yes HT.out, ← HPS.out] at HXp
    go_wp2_with fail
    refine (HXp.out _ Rl).mono ?_
    rintro e w8 ⟨Ap, Cp, rfl, Op, b8⟩
    replace Rl := Rl.below b8
    replace BB := BB.trans (b8.mono BB.size)
    have Rp := Op.row
    clear Op HXp
    obtain ⟨bp, offp, rfl⟩ := Rp.form (by omega)
    have HBB := Lib.hid BB
    clear BB 
    have HRp := Lib.hid Rp
    clear Rp Rl
    go_wp2_with fail
    go_loopw [8, 9, 10, 11] (fun u1 u2 u3 i wr => ∃ j : Nat, j ≤ n ∧ i = .int .i64 j ∧ u1 = .bool (goodF ps j) ∧ u2 = .bool (someF ps j) ∧ u3 = .bool (singF ps j) ∧ Hid (Below w8.heap.size w8 wr)) (fun _ _ _ i _ => n - (intOf i).toNat)
    case atStart => exact ⟨0, Nat.zero_le _, rfl, by first | rfl | simp [goodF, hn1], rfl, by first | rfl | simp [singF, hn1], Lib.hid (Below.refl _ _)⟩
    case round =>
      obtain ⟨j, hj, rfl, rfl, rfl, rfl, HB⟩ := hrel
      by_cases hlt : j < n
      · obtain ⟨v, hv⟩ : ∃ v, v = ps.getD j 0 := ⟨_, rfl⟩
        have hji : (j : Int) < (n : Int) := by omega
        have pc := HRp.out.cellAt HB.out hlt
        have HG : goodF ps (j + 1) = (goodF ps j && decide (0 ≤ ps.getD j 0)) := rfl
        have HS : someF ps (j + 1) = (someF ps j || decide (0 < ps.getD j 0)) := rfl
        have HI : singF ps (j + 1) = (singF ps j && (decide (ps.getD j 0 = 0) || decide (cnt j = 1))) := rfl
        obtain ⟨c, hc⟩ : ∃ c, c = cnt j := ⟨_, rfl⟩
        have HC := Lib.hid (fun W => CountSet_any j W (by omega))
        rw [← hc] at HC HI
        rw [← hv] at pc HG HS HI
        obtain ⟨u1, hu1⟩ : ∃ u, u = goodF ps j := ⟨_, rfl⟩
        obtain ⟨u2, hu2⟩ : ∃ u, u = someF ps j := ⟨_, rfl⟩
        obtain ⟨u3, hu3⟩ : ∃ u, u = singF ps j := ⟨_, rfl⟩
        rw [← hu1] at HG ⊢
        rw [← hu2] at HS ⊢
        rw [← hu3] at HI ⊢
        have HG := Lib.hid HG
        have HS := Lib.hid HS
        have HI := Lib.hid HI
        clear hu1 hu2 hu3 hc hv
        have hv3 : v < 0 ∨ v = 0 ∨ 0 < v := by omega
        have hc1 : ((c : Int) == 1) = decide (c = 1) := by rw [Bool.eq_iff_iff]; simp; omega
        rcases hv3 with hv3 | rfl | hv3
        · have k1 : decide ((0 : Int) ≤ v) = false := decide_eq_false (by omega)
          have k2 : decide ((0 : Int) < v) = false := decide_eq_false (by omega)
          have k3 : (v == 0) = false := by simp; omega
          have k4 : decide (v = 0) = false := decide_eq_false (by omega)
          rw [k1] at HG
          rw [k2] at HS
          rw [k4] at HI
          clear hv3 k4
          cases u1 <;> cases u2 <;> cases u3
          all_goals
            go_wp2_with (go_at_call 88; refine (HC.out _).mono ?_; rintro e w' ⟨rfl, rfl⟩)
            go_roundw
            case rel => exact ⟨j + 1, by omega, by go_num, by rw [HG.out] <;> first | rfl | simp, by rw [HS.out] <;> first | rfl | simp, by rw [HI.out] <;> first | rfl | simp [hc1], HB⟩
            case measure => simp [intOf]; omega
        · cases u1 <;> cases u2 <;> cases u3
          all_goals
            go_wp2_with (go_at_call 88; refine (HC.out _).mono ?_; rintro e w' ⟨rfl, rfl⟩)
            go_roundw
            case rel => exact ⟨j + 1, by omega, by go_num, by rw [HG.out] <;> first | rfl | simp, by rw [HS.out] <;> first | rfl | simp, by rw [HI.out] <;> first | rfl | simp [hc1], HB⟩
            case measure => simp [intOf]; omega
        · have k1 : decide ((0 : Int) ≤ v) = true := decide_eq_true (by omega)
          have k2 : decide ((0 : Int) < v) = true := decide_eq_true (by omega)
          have k3 : (v == 0) = false := by simp; omega
          have k4 : decide (v = 0) = false := decide_eq_false (by omega)
          rw [k1] at HG
          rw [k2] at HS
          rw [k4] at HI
          clear hv3 k4
          cases u1 <;> cases u2 <;> cases u3
          all_goals
            go_wp2_with (go_at_call 88; refine (HC.out _).mono ?_; rintro e w' ⟨rfl, rfl⟩)
            go_roundw
            case rel => exact ⟨j + 1, by omega, by go_num, by rw [HG.out] <;> first | rfl | simp, by rw [HS.out] <;> first | rfl | simp, by rw [HI.out] <;> first | rfl | simp [hc1], HB⟩
            case measure => simp [intOf]; omega
      · obtain rfl : n = j := by omega
        have BB := HBB.out.trans (HB.out.mono HBB.out.size)
        have hcond := HCOND.out
        obtain ⟨u1, hu1⟩ : ∃ u, u = goodF ps n := ⟨_, rfl⟩
        obtain ⟨u2, hu2⟩ : ∃ u, u = someF ps n := ⟨_, rfl⟩
        obtain ⟨u3, hu3⟩ : ∃ u, u = singF ps n := ⟨_, rfl⟩
        rw [← hu1, ← hu2, ← hu3] at hcond
        rw [← hu1, ← hu2, ← hu3]
        clear hu1 hu2 hu3 HCOND HBB HB
        cases av <;> cases bv <;> cases cv <;> cases u1 <;> cases u2 <;> cases u3
        all_goals first
          | exact absurd hcond (by decide)
          | (clear hcond
             go_wp2_with fail
             go_ret
             exact ⟨by simp, BB⟩)
  · have HT := Lib.hid (show tableB xs = false by simpa using ht)
    obtain rfl : av = false := by rw [HAV.out, HT.out]; rfl
    obtain rfl : bv = false := by rw [HBV.out, HT.out]; rfl
    obtain rfl : cv = false := by rw [HCV.out, HT.out]; rfl
    clear ht HAV HBV HCV
    have HXp := Lib.hid (fun W (h : Row W A n xs) => iPartsBelow_any A n C xs W h (by omega))
    rw [toldN_no HT.out, told_no HT.out] at HXp
    go_wp2_with fail
    refine (HXp.out _ Rl).mono ?_
    rintro e w8 ⟨Ap, Cp, rfl, Op, b8⟩
    replace Rl := Rl.below b8
    replace BB := BB.trans (b8.mono BB.size)
    have Rp := Op.row
    clear Op HXp
    have HBB := Lib.hid BB
    clear BB 
    clear Rp Rl
    go_wp2_with fail
    go_loopw [8, 9, 10, 11] (fun u1 u2 u3 i wr => i = .int .i64 0 ∧ u1 = .bool false ∧ u2 = .bool false ∧ u3 = .bool false ∧ Hid (Below w8.heap.size w8 wr)) (fun _ _ _ i _ => 0)
    case atStart => exact ⟨rfl, rfl, rfl, rfl, Lib.hid (Below.refl _ _)⟩
    case round =>
      obtain ⟨rfl, rfl, rfl, rfl, HB⟩ := hrel
      go_wp2_with fail
      go_ret
      exact ⟨by simp, HBB.out.trans (HB.out.mono HBB.out.size)⟩
end Go.Proofs.Ytffkpmmgfgcngaa
