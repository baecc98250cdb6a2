/- Contracts of MostBelieved, of the program and of the reference. -/
import Derived.Test.YtapkppnjgbcklaaW20
import Derived.Deep.RegionHeld3
namespace Go.Proofs.Ytapkppnjgbcklaa
open Go.RowKit

theorem whole_is {s : Int} {xs : List Int} (h : massB s xs = true) : sumMost xs 1000000 = sumL xs := by
  simp only [massB, Bool.and_eq_true] at h
  unfold sumMost
  rw [if_pos h.1.1.2]
theorem even_step {xs : List Int} {e : Int → Int} (he : ∀ z, e z = evenOf z.toNat xs) {b k : Nat} (hb : b = bestOf xs k) : bestOf xs (k + 1) = if e ((2 ^ b : Nat) : Int) < e ((2 ^ k : Nat) : Int) then k else b := by
  subst hb; simp only [bestOf, he, Int.toNat_natCast]
theorem l3Whole_any (s : Int) (a : Option Addr) (n c : Nat) (xs : List Int) (w : World) (hr : Row w a n xs) (hn : n ≤ 1048576) :
    Calls Try.prog 64 #[massV s a n c] w fun e w' => e = .returned (.int .i64 (sumMost xs 1000000)) ∧ Below w.heap.size w w' := by
  have hr2 := hr.below ((Below.refl w.heap.size w).alloc (Nat.le_refl _) (.cells #[.int .i64 s, .slice a n c] 30))
  have HS := Lib.hid (l3Sum_any a n c xs 1000000 _ hr2 hn (by omega))
  go_enter Try.func64, Try.ntmps64
  go_wp2_with fail
  refine HS.out.mono ?_
  rintro e w1 ⟨rfl, rfl⟩
  go_wp2_with fail
  go_ret
  exact ⟨rfl, (Below.refl _ _).alloc (Nat.le_refl _) _⟩
set_option maxHeartbeats 3200000 in
set_option maxRecDepth 100000 in
theorem iMostBelieved_any (s : Int) (a : Option Addr) (n c : Nat) (xs : List Int) (w : World) (hr : Row w a n xs) (hn : n ≤ 1048576) :
    Calls Try.prog 53 #[massV s a n c] w fun e w' => e = .returned (.int .i64 (mostOf s xs)) ∧ Below w.heap.size w w' := by
  obtain ⟨w0, hw0⟩ : ∃ w0, w0 = w.alloc (.cells #[.int .i64 s, .slice a n c] 30) := ⟨_, rfl⟩
  have HBX : Hid (Box w0 w.heap.size 30 (.int .i64 s) (.slice a n c)) := by rw [hw0]; exact Box.new _ _ _ _
  have HB0 : Hid (Below w.heap.size w w0) := by rw [hw0]; exact (Below.refl w.heap.size w).alloc (Nat.le_refl _) _
  have hr0 := (hr.below HB0.out).below (w' := w0.drew) (Below.refl _ _).drew
  have HW0 := Lib.hid hw0; clear hw0
  have HM := Lib.hid (isMass_any s a n c xs w0.drew hr0 hn)
  by_cases hm : massB s xs = true
  · have hI := massB_is hr.1 hm
    have hnl : n ≤ 16 := by have := hI.nums; omega
    rw [hm] at HM
    have HWH := Lib.hid (fun W (h : Row W a n xs) => wholeOf_any s a n c xs W h hnl hI.part)
    skip
    obtain ⟨b0, off0, v0, rfl, hv0, hc0⟩ := hr0.at_ (show 0 < n by have := hI.nums; omega)
    simp only [Nat.add_zero] at hc0
    have HR := Lib.hid hr0; clear hr0
    have hn0 : (0 : Int) < (n : Int) := by have := hI.nums; omega
    have hn1 : 0 < n := by omega
    obtain ⟨c1, c2, _, _⟩ := HBX.out.drew.cells
    have hz0 := HBX.out.lt
    have hz1 : b0 < w0.drew.heap.size := World.block_lt_of_cell? _ _ hc0
    obtain ⟨u, hu⟩ : ∃ u, u = sumL xs := ⟨_, rfl⟩
    rw [← hu] at HWH
    by_cases hq : u = v0
    · have HR1 : Hid (mostOf s xs = -1) := mostOf_all hm (by rw [← hu, ← hv0]; exact hq)
      rw [HR1.out]
      clear hm hI hu hv0 HR1 hr
      subst hq
      go_enter Try.func53, Try.ntmps53
      go_wp2_with fail
      rw [← HW0.out]
      first
      | (go_region_held3 (fun W => W.cell? ⟨w.heap.size, 0, none⟩ = some (.int .i64 s) ∧ W.cell? ⟨w.heap.size, 1, none⟩ = some (.slice (some ⟨b0, off0, none⟩) n c) ∧ W.cell? ⟨b0, off0, none⟩ = some (.int .i64 u))
        (first | go_keep | exact ⟨(b3.cell hz0).trans c1, (b3.cell hz0).trans c2, (b3.cell hz1).trans hc0⟩ | exact ⟨(b2.cell hz0).trans c1, (b2.cell hz0).trans c2, (b2.cell hz1).trans hc0⟩)
        (first | (have _t := tok1; go_at_call 69; refine (HWH.out _ (HR.out.below b2)).mono ?_; rintro e w3 ⟨rfl, b3'⟩; have b3 := b2.trans (b3'.mono b2.size)) | (go_at_call 67; refine HM.out.mono ?_; rintro e w2 ⟨rfl, b2⟩; have tok1 : True := trivial)))
      | fail
      all_goals
        have hb3 := HB0.out.drew.trans (b3.mono HB0.out.size)
        go_wp2_with fail
        go_ret
        exact ⟨rfl, hb3⟩
    · have HR1 : Hid (mostOf s xs = (bestOf xs s.toNat : Nat)) := mostOf_yes hm (by rw [← hu, ← hv0]; exact hq)
      obtain ⟨m, rfl, hm1, hm4⟩ := size_is hI.size
      rw [HR1.out, Int.toNat_natCast]
      have hne : (u == v0) = false := by simpa using hq
      have hne2 : (v0 == u) = false := by simpa using fun h => hq h.symm
      obtain ⟨f, hf⟩ : ∃ f : Int → Int, f = fun z => evenOf z.toNat xs := ⟨_, rfl⟩
      have HE : Hid (∀ z, f z = evenOf z.toNat xs) := fun z => by rw [hf]
      have HC : Hid (∀ (z : Int) (W : World), 0 ≤ z → z < 16 → Row W (some ⟨b0, off0, none⟩) n xs → Calls Try.prog 71 #[massV m (some ⟨b0, off0, none⟩) n c, .int .i64 z] W fun r w' => r = .returned (.int .i64 (f z)) ∧ Below W.heap.size W w') := fun z W h0 h1 h => by
        obtain ⟨y, rfl⟩ : ∃ y : Nat, z = y := ⟨z.toNat, by omega⟩
        rw [hf]
        simp only [Int.toNat_natCast]
        exact sharedPart_any m y _ n c xs W h hnl (by omega) hI.part
      clear hm hI hu hv0 HR1 hr hf
      go_enter Try.func53, Try.ntmps53
      go_wp2_with fail
      rw [← HW0.out]
      first
      | (go_region_held3 (fun W => W.cell? ⟨w.heap.size, 0, none⟩ = some (.int .i64 m) ∧ W.cell? ⟨w.heap.size, 1, none⟩ = some (.slice (some ⟨b0, off0, none⟩) n c) ∧ W.cell? ⟨b0, off0, none⟩ = some (.int .i64 v0))
        (first | go_keep | exact ⟨(b3.cell hz0).trans c1, (b3.cell hz0).trans c2, (b3.cell hz1).trans hc0⟩ | exact ⟨(b2.cell hz0).trans c1, (b2.cell hz0).trans c2, (b2.cell hz1).trans hc0⟩)
        (first | (have _t := tok1; go_at_call 69; refine (HWH.out _ (HR.out.below b2)).mono ?_; rintro e w3 ⟨rfl, b3'⟩; have b3 := b2.trans (b3'.mono b2.size)) | (go_at_call 67; refine HM.out.mono ?_; rintro e w2 ⟨rfl, b2⟩; have tok1 : True := trivial)))
      | fail
      have HB3 := Lib.hid (HB0.out.drew.trans (b3.mono HB0.out.size))
      have HR3 := Lib.hid (HR.out.below b3)
      have HBX3 := Lib.hid (HBX.out.drew.below b3 hz0)
      clear b2 b3' b3 c1 c2 hc0 hz0 hz1 tok1 HR HBX HM HWH HB0 HW0 hq hne hne2 hn0 hn1
      obtain ⟨c1, c2, _, _⟩ := HBX3.out.cells
      go_wp2_with fail
      go_loopw [3, 19] (fun t i wr => ∃ (k b : Nat), k ≤ m ∧ 0 ≤ k ∧ b ≤ 3 ∧ (b < k ∨ k = 0 ∧ b = 0) ∧ i = .int .i64 k ∧ t = .int .i64 b ∧ Hid (b = bestOf xs k) ∧ Hid (Below w3.heap.size w3 wr)) (fun _ i _ => m - (intOf i).toNat)
      case atStart => exact ⟨0, 0, by omega, by omega, by omega, by omega, rfl, rfl, by show _ = _; simp [bestOf], Below.refl _ _⟩
      case round =>
        obtain ⟨k, b, hk, hks, hb3, hbk, rfl, rfl, HZ, HBR⟩ := hrel
        clear c1 c2
        obtain ⟨c1, c2, _, _⟩ := (HBX3.out.below HBR.out HBX3.out.lt).cells
        have hz0 : w.heap.size < wr.heap.size := World.block_lt_of_cell? _ _ c1
        by_cases hlt : k < m
        · have HRk := Lib.hid ((HR3.out.below HBR.out).below (w' := wr.drew) (Below.refl _ _).drew)
          have HBD := Lib.hid HBR.out.drew
          have HST := Lib.hid (even_step HE.out HZ.out)
          have h7 : (k = 0 ∧ b = 0) ∨ (k = 1 ∧ b = 0) ∨ (k = 2 ∧ b = 0) ∨ (k = 2 ∧ b = 1) ∨ (k = 3 ∧ b = 0) ∨ (k = 3 ∧ b = 1) ∨ (k = 3 ∧ b = 2) := by omega
          by_cases hcmp : f ((2 ^ b : Nat) : Int) < f ((2 ^ k : Nat) : Int)
          · have HN : Hid (k = bestOf xs (k + 1)) := by show _ = _; rw [HST.out, if_pos hcmp]
            clear HST HZ HBR
            rcases h7 with ⟨rfl, rfl⟩ | ⟨rfl, rfl⟩ | ⟨rfl, rfl⟩ | ⟨rfl, rfl⟩ | ⟨rfl, rfl⟩ | ⟨rfl, rfl⟩ | ⟨rfl, rfl⟩
            all_goals simp at hcmp
            all_goals
              have q1 : IntKind.i64.wrap 1 = 1 := by decide
              have q2 : IntKind.i64.wrap 2 = 2 := by decide
              have q4 : IntKind.i64.wrap 4 = 4 := by decide
              have q8 : IntKind.i64.wrap 8 = 8 := by decide
              have r0 : IntKind.i64.wrap (2 ^ min (IntKind.u64.wrap 0).toNat 64) = 1 := by decide
              have r1 : IntKind.i64.wrap (2 ^ min (IntKind.u64.wrap 1).toNat 64) = 2 := by decide
              have r2 : IntKind.i64.wrap (2 ^ min (IntKind.u64.wrap 2).toNat 64) = 4 := by decide
              have r3 : IntKind.i64.wrap (2 ^ min (IntKind.u64.wrap 3).toNat 64) = 8 := by decide
              go_wp2_with fail
              go_region_held3 (fun W => W.cell? ⟨w.heap.size, 0, none⟩ = some (.int .i64 m) ∧ W.cell? ⟨w.heap.size, 1, none⟩ = some (.slice (some ⟨b0, off0, none⟩) n c))
                (first | go_keep | exact ⟨(b6.cell hz0).trans c1, (b6.cell hz0).trans c2⟩ | exact ⟨(b5.cell hz0).trans c1, (b5.cell hz0).trans c2⟩)
                (first | (have _t := tok1; go_at_call 71; refine (HC.out _ _ (by decide) (by decide) (HRk.out.below b5)).mono ?_; rintro e w6 ⟨rfl, b6'⟩; have b6 := b5.trans (b6'.mono b5.size)) | (go_at_call 71; refine (HC.out _ _ (by decide) (by decide) HRk.out).mono ?_; rintro e w5 ⟨rfl, b5⟩; have tok1 : True := trivial))
              have HB6 := Lib.hid (HBD.out.trans (b6.mono HBD.out.size))
              clear b5 b6' b6 tok1 c1 c2 q1 q2 q4 q8 r0 r1 r2 r3
              go_wp2_with fail
              go_roundw
              case rel => first | exact ⟨2, 1, by omega, by omega, by omega, by omega, rfl, rfl, HN.out, HB6.out⟩ | exact ⟨3, 2, by omega, by omega, by omega, by omega, rfl, rfl, HN.out, HB6.out⟩ | exact ⟨4, 3, by omega, by omega, by omega, by omega, rfl, rfl, HN.out, HB6.out⟩
              case measure => simp [intOf]; omega
          · have HN : Hid (b = bestOf xs (k + 1)) := by show _ = _; rw [HST.out, if_neg hcmp]
            clear HST HZ HBR
            have hcmp2 := Int.not_lt.mp hcmp
            clear hcmp
            rcases h7 with ⟨rfl, rfl⟩ | ⟨rfl, rfl⟩ | ⟨rfl, rfl⟩ | ⟨rfl, rfl⟩ | ⟨rfl, rfl⟩ | ⟨rfl, rfl⟩ | ⟨rfl, rfl⟩
            all_goals try (exfalso; omega)
            all_goals try simp at hcmp2
            all_goals
              have q1 : IntKind.i64.wrap 1 = 1 := by decide
              have q2 : IntKind.i64.wrap 2 = 2 := by decide
              have q4 : IntKind.i64.wrap 4 = 4 := by decide
              have q8 : IntKind.i64.wrap 8 = 8 := by decide
              have r0 : IntKind.i64.wrap (2 ^ min (IntKind.u64.wrap 0).toNat 64) = 1 := by decide
              have r1 : IntKind.i64.wrap (2 ^ min (IntKind.u64.wrap 1).toNat 64) = 2 := by decide
              have r2 : IntKind.i64.wrap (2 ^ min (IntKind.u64.wrap 2).toNat 64) = 4 := by decide
              have r3 : IntKind.i64.wrap (2 ^ min (IntKind.u64.wrap 3).toNat 64) = 8 := by decide
              go_wp2_with fail
              go_region_held3 (fun W => W.cell? ⟨w.heap.size, 0, none⟩ = some (.int .i64 m) ∧ W.cell? ⟨w.heap.size, 1, none⟩ = some (.slice (some ⟨b0, off0, none⟩) n c))
                (first | go_keep | exact ⟨(b6.cell hz0).trans c1, (b6.cell hz0).trans c2⟩ | exact ⟨(b5.cell hz0).trans c1, (b5.cell hz0).trans c2⟩)
                (first | (have _t := tok1; go_at_call 71; refine (HC.out _ _ (by decide) (by decide) (HRk.out.below b5)).mono ?_; rintro e w6 ⟨rfl, b6'⟩; have b6 := b5.trans (b6'.mono b5.size)) | (go_at_call 71; refine (HC.out _ _ (by decide) (by decide) HRk.out).mono ?_; rintro e w5 ⟨rfl, b5⟩; have tok1 : True := trivial))
              have HB6 := Lib.hid (HBD.out.trans (b6.mono HBD.out.size))
              clear b5 b6' b6 tok1 c1 c2 q1 q2 q4 q8 r0 r1 r2 r3
              go_wp2_with fail
              go_roundw
              case rel => first | exact ⟨1, 0, by omega, by omega, by omega, by omega, rfl, rfl, HN.out, HB6.out⟩ | exact ⟨2, 0, by omega, by omega, by omega, by omega, rfl, rfl, HN.out, HB6.out⟩ | exact ⟨3, 0, by omega, by omega, by omega, by omega, rfl, rfl, HN.out, HB6.out⟩ | exact ⟨3, 1, by omega, by omega, by omega, by omega, rfl, rfl, HN.out, HB6.out⟩ | exact ⟨4, 0, by omega, by omega, by omega, by omega, rfl, rfl, HN.out, HB6.out⟩ | exact ⟨4, 1, by omega, by omega, by omega, by omega, rfl, rfl, HN.out, HB6.out⟩ | exact ⟨4, 2, by omega, by omega, by omega, by omega, rfl, rfl, HN.out, HB6.out⟩
              case measure => simp [intOf]; omega
        · have hk' : k = m := by omega
          have HN : Hid (b = bestOf xs m) := by show _ = _; rw [HZ.out, hk']
          subst hk'
          go_wp2_with fail
          go_ret
          exact ⟨ret_int (by rw [← HN.out]), HB3.out.trans (HBR.out.mono HB3.out.size)⟩
  · have hm' : massB s xs = false := by simpa using hm
    rw [hm'] at HM
    rw [mostOf_no hm']
    obtain ⟨c1, c2, _, _⟩ := HBX.out.drew.cells
    have hz0 := HBX.out.lt
    clear hm hm' hr0 hr
    go_enter Try.func53, Try.ntmps53
    go_wp2_with fail
    rw [← HW0.out]
    first | (go_region_with (go_at_call 67; refine HM.out.mono ?_; rintro e w2 ⟨rfl, b2⟩)) | fail
    all_goals
      have hb2 := HB0.out.drew.trans (b2.mono HB0.out.size)
      go_wp2_with fail
      go_ret
      exact ⟨rfl, hb2⟩
set_option maxHeartbeats 3200000 in
set_option maxRecDepth 100000 in
theorem sMostBelieved_any (s : Int) (a : Option Addr) (n c : Nat) (xs : List Int) (w : World) (hr : Row w a n xs) (hn : n ≤ 1048576) :
    Calls Try.prog 54 #[massV s a n c] w fun e w' => e = .returned (.int .i64 (mostOf s xs)) ∧ Below w.heap.size w w' := by
  obtain ⟨w0, hw0⟩ : ∃ w0, w0 = w.alloc (.cells #[.int .i64 s, .slice a n c] 30) := ⟨_, rfl⟩
  have HBX : Hid (Box w0 w.heap.size 30 (.int .i64 s) (.slice a n c)) := by rw [hw0]; exact Box.new _ _ _ _
  have HB0 : Hid (Below w.heap.size w w0) := by rw [hw0]; exact (Below.refl w.heap.size w).alloc (Nat.le_refl _) _
  have hr0 := (hr.below HB0.out).below (w' := w0.drew) (Below.refl _ _).drew
  have HW0 := Lib.hid hw0; clear hw0
  have HM := Lib.hid (MassValid_any s a n c xs w0.drew hr0 hn)
  by_cases hm : massB s xs = true
  · have hI := massB_is hr.1 hm
    have hnl : n ≤ 16 := by have := hI.nums; omega
    rw [hm] at HM
    have HWH := Lib.hid (fun W (h : Row W a n xs) => l3Whole_any s a n c xs W h hn)
    rw [whole_is hm] at HWH
    obtain ⟨b0, off0, v0, rfl, hv0, hc0⟩ := hr0.at_ (show 0 < n by have := hI.nums; omega)
    simp only [Nat.add_zero] at hc0
    have HR := Lib.hid hr0; clear hr0
    have hn0 : (0 : Int) < (n : Int) := by have := hI.nums; omega
    have hn1 : 0 < n := by omega
    obtain ⟨c1, c2, _, _⟩ := HBX.out.drew.cells
    have hz0 := HBX.out.lt
    have hz1 : b0 < w0.drew.heap.size := World.block_lt_of_cell? _ _ hc0
    obtain ⟨u, hu⟩ : ∃ u, u = sumL xs := ⟨_, rfl⟩
    rw [← hu] at HWH
    by_cases hq : u = v0
    · have HR1 : Hid (mostOf s xs = -1) := mostOf_all hm (by rw [← hu, ← hv0]; exact hq)
      rw [HR1.out]
      clear hm hI hu hv0 HR1 hr
      subst hq
      go_enter Try.func54, Try.ntmps54
      go_wp2_with fail
      rw [← HW0.out]
      first
      | (go_region_held3 (fun W => W.cell? ⟨w.heap.size, 0, none⟩ = some (.int .i64 s) ∧ W.cell? ⟨w.heap.size, 1, none⟩ = some (.slice (some ⟨b0, off0, none⟩) n c) ∧ W.cell? ⟨b0, off0, none⟩ = some (.int .i64 u))
        (first | go_keep | exact ⟨(b3.cell hz0).trans c1, (b3.cell hz0).trans c2, (b3.cell hz1).trans hc0⟩ | exact ⟨(b2.cell hz0).trans c1, (b2.cell hz0).trans c2, (b2.cell hz1).trans hc0⟩)
        (first | (have _t := tok1; go_at_call 64; refine (HWH.out _ (HR.out.below b2)).mono ?_; rintro e w3 ⟨rfl, b3'⟩; have b3 := b2.trans (b3'.mono b2.size)) | (go_at_call 72; refine HM.out.mono ?_; rintro e w2 ⟨rfl, b2⟩; have tok1 : True := trivial)))
      | fail
      all_goals
        have hb3 := HB0.out.drew.trans (b3.mono HB0.out.size)
        go_wp2_with fail
        go_ret
        exact ⟨rfl, hb3⟩
    · have HR1 : Hid (mostOf s xs = (bestOf xs s.toNat : Nat)) := mostOf_yes hm (by rw [← hu, ← hv0]; exact hq)
      obtain ⟨m, rfl, hm1, hm4⟩ := size_is hI.size
      rw [HR1.out, Int.toNat_natCast]
      have hne : (u == v0) = false := by simpa using hq
      have hne2 : (v0 == u) = false := by simpa using fun h => hq h.symm
      obtain ⟨f, hf⟩ : ∃ f : Int → Int, f = fun z => evenOf z.toNat xs := ⟨_, rfl⟩
      have HE : Hid (∀ z, f z = evenOf z.toNat xs) := fun z => by rw [hf]
      have HC : Hid (∀ (z : Int) (W : World), 0 ≤ z → z < 16 → Row W (some ⟨b0, off0, none⟩) n xs → Calls Try.prog 66 #[massV m (some ⟨b0, off0, none⟩) n c, .int .i64 z] W fun r w' => r = .returned (.int .i64 (f z)) ∧ Below W.heap.size W w') := fun z W h0 h1 h => by
        obtain ⟨y, rfl⟩ : ∃ y : Nat, z = y := ⟨z.toNat, by omega⟩
        rw [hf]
        simp only [Int.toNat_natCast]
        exact l4Even_any m y _ n c xs W h hnl (by omega) (by omega) hI.part
      clear hm hI hu hv0 HR1 hr hf
      go_enter Try.func54, Try.ntmps54
      go_wp2_with fail
      rw [← HW0.out]
      first
      | (go_region_held3 (fun W => W.cell? ⟨w.heap.size, 0, none⟩ = some (.int .i64 m) ∧ W.cell? ⟨w.heap.size, 1, none⟩ = some (.slice (some ⟨b0, off0, none⟩) n c) ∧ W.cell? ⟨b0, off0, none⟩ = some (.int .i64 v0))
        (first | go_keep | exact ⟨(b3.cell hz0).trans c1, (b3.cell hz0).trans c2, (b3.cell hz1).trans hc0⟩ | exact ⟨(b2.cell hz0).trans c1, (b2.cell hz0).trans c2, (b2.cell hz1).trans hc0⟩)
        (first | (have _t := tok1; go_at_call 64; refine (HWH.out _ (HR.out.below b2)).mono ?_; rintro e w3 ⟨rfl, b3'⟩; have b3 := b2.trans (b3'.mono b2.size)) | (go_at_call 72; refine HM.out.mono ?_; rintro e w2 ⟨rfl, b2⟩; have tok1 : True := trivial)))
      | fail
      have HB3 := Lib.hid (HB0.out.drew.trans (b3.mono HB0.out.size))
      have HR3 := Lib.hid (HR.out.below b3)
      have HBX3 := Lib.hid (HBX.out.drew.below b3 hz0)
      clear b2 b3' b3 c1 c2 hc0 hz0 hz1 tok1 HR HBX HM HWH HB0 HW0 hq hne hne2 hn0 hn1
      obtain ⟨c1, c2, _, _⟩ := HBX3.out.cells
      go_wp2_with fail
      go_loopw [3, 4] (fun t i wr => ∃ (k b : Nat), k ≤ m ∧ 1 ≤ k ∧ b ≤ 3 ∧ (b < k ∨ k = 0 ∧ b = 0) ∧ i = .int .i64 k ∧ t = .int .i64 b ∧ Hid (b = bestOf xs k) ∧ Hid (Below w3.heap.size w3 wr)) (fun _ i _ => m - (intOf i).toNat)
      case atStart => exact ⟨1, 0, by omega, by omega, by omega, by omega, rfl, rfl, by show _ = _; simp [bestOf], Below.refl _ _⟩
      case round =>
        obtain ⟨k, b, hk, hks, hb3, hbk, rfl, rfl, HZ, HBR⟩ := hrel
        clear c1 c2
        obtain ⟨c1, c2, _, _⟩ := (HBX3.out.below HBR.out HBX3.out.lt).cells
        have hz0 : w.heap.size < wr.heap.size := World.block_lt_of_cell? _ _ c1
        by_cases hlt : k < m
        · have HRk := Lib.hid ((HR3.out.below HBR.out).below (w' := wr.drew) (Below.refl _ _).drew)
          have HBD := Lib.hid HBR.out.drew
          have HST := Lib.hid (even_step HE.out HZ.out)
          have h7 : (k = 0 ∧ b = 0) ∨ (k = 1 ∧ b = 0) ∨ (k = 2 ∧ b = 0) ∨ (k = 2 ∧ b = 1) ∨ (k = 3 ∧ b = 0) ∨ (k = 3 ∧ b = 1) ∨ (k = 3 ∧ b = 2) := by omega
          by_cases hcmp : f ((2 ^ b : Nat) : Int) < f ((2 ^ k : Nat) : Int)
          · have HN : Hid (k = bestOf xs (k + 1)) := by show _ = _; rw [HST.out, if_pos hcmp]
            clear HST HZ HBR
            rcases h7 with ⟨rfl, rfl⟩ | ⟨rfl, rfl⟩ | ⟨rfl, rfl⟩ | ⟨rfl, rfl⟩ | ⟨rfl, rfl⟩ | ⟨rfl, rfl⟩ | ⟨rfl, rfl⟩
            all_goals simp at hcmp
            all_goals
              have q1 : IntKind.i64.wrap 1 = 1 := by decide
              have q2 : IntKind.i64.wrap 2 = 2 := by decide
              have q4 : IntKind.i64.wrap 4 = 4 := by decide
              have q8 : IntKind.i64.wrap 8 = 8 := by decide
              have r0 : IntKind.i64.wrap (2 ^ min (IntKind.u64.wrap 0).toNat 64) = 1 := by decide
              have r1 : IntKind.i64.wrap (2 ^ min (IntKind.u64.wrap 1).toNat 64) = 2 := by decide
              have r2 : IntKind.i64.wrap (2 ^ min (IntKind.u64.wrap 2).toNat 64) = 4 := by decide
              have r3 : IntKind.i64.wrap (2 ^ min (IntKind.u64.wrap 3).toNat 64) = 8 := by decide
              go_wp2_with fail
              go_region_held3 (fun W => W.cell? ⟨w.heap.size, 0, none⟩ = some (.int .i64 m) ∧ W.cell? ⟨w.heap.size, 1, none⟩ = some (.slice (some ⟨b0, off0, none⟩) n c))
                (first | go_keep | exact ⟨(b6.cell hz0).trans c1, (b6.cell hz0).trans c2⟩ | exact ⟨(b5.cell hz0).trans c1, (b5.cell hz0).trans c2⟩)
                (first | (have _t := tok1; go_at_call 66; refine (HC.out _ _ (by decide) (by decide) (HRk.out.below b5)).mono ?_; rintro e w6 ⟨rfl, b6'⟩; have b6 := b5.trans (b6'.mono b5.size)) | (go_at_call 66; refine (HC.out _ _ (by decide) (by decide) HRk.out).mono ?_; rintro e w5 ⟨rfl, b5⟩; have tok1 : True := trivial))
              have HB6 := Lib.hid (HBD.out.trans (b6.mono HBD.out.size))
              clear b5 b6' b6 tok1 c1 c2 q1 q2 q4 q8 r0 r1 r2 r3
              go_wp2_with fail
              go_roundw
              case rel => first | exact ⟨2, 1, by omega, by omega, by omega, by omega, rfl, rfl, HN.out, HB6.out⟩ | exact ⟨3, 2, by omega, by omega, by omega, by omega, rfl, rfl, HN.out, HB6.out⟩ | exact ⟨4, 3, by omega, by omega, by omega, by omega, rfl, rfl, HN.out, HB6.out⟩
              case measure => simp [intOf]; omega
          · have HN : Hid (b = bestOf xs (k + 1)) := by show _ = _; rw [HST.out, if_neg hcmp]
            clear HST HZ HBR
            have hcmp2 := Int.not_lt.mp hcmp
            clear hcmp
            rcases h7 with ⟨rfl, rfl⟩ | ⟨rfl, rfl⟩ | ⟨rfl, rfl⟩ | ⟨rfl, rfl⟩ | ⟨rfl, rfl⟩ | ⟨rfl, rfl⟩ | ⟨rfl, rfl⟩
            all_goals try (exfalso; omega)
            all_goals try simp at hcmp2
            all_goals
              have q1 : IntKind.i64.wrap 1 = 1 := by decide
              have q2 : IntKind.i64.wrap 2 = 2 := by decide
              have q4 : IntKind.i64.wrap 4 = 4 := by decide
              have q8 : IntKind.i64.wrap 8 = 8 := by decide
              have r0 : IntKind.i64.wrap (2 ^ min (IntKind.u64.wrap 0).toNat 64) = 1 := by decide
              have r1 : IntKind.i64.wrap (2 ^ min (IntKind.u64.wrap 1).toNat 64) = 2 := by decide
              have r2 : IntKind.i64.wrap (2 ^ min (IntKind.u64.wrap 2).toNat 64) = 4 := by decide
              have r3 : IntKind.i64.wrap (2 ^ min (IntKind.u64.wrap 3).toNat 64) = 8 := by decide
              go_wp2_with fail
              go_region_held3 (fun W => W.cell? ⟨w.heap.size, 0, none⟩ = some (.int .i64 m) ∧ W.cell? ⟨w.heap.size, 1, none⟩ = some (.slice (some ⟨b0, off0, none⟩) n c))
                (first | go_keep | exact ⟨(b6.cell hz0).trans c1, (b6.cell hz0).trans c2⟩ | exact ⟨(b5.cell hz0).trans c1, (b5.cell hz0).trans c2⟩)
                (first | (have _t := tok1; go_at_call 66; refine (HC.out _ _ (by decide) (by decide) (HRk.out.below b5)).mono ?_; rintro e w6 ⟨rfl, b6'⟩; have b6 := b5.trans (b6'.mono b5.size)) | (go_at_call 66; refine (HC.out _ _ (by decide) (by decide) HRk.out).mono ?_; rintro e w5 ⟨rfl, b5⟩; have tok1 : True := trivial))
              have HB6 := Lib.hid (HBD.out.trans (b6.mono HBD.out.size))
              clear b5 b6' b6 tok1 c1 c2 q1 q2 q4 q8 r0 r1 r2 r3
              go_wp2_with fail
              go_roundw
              case rel => first | exact ⟨1, 0, by omega, by omega, by omega, by omega, rfl, rfl, HN.out, HB6.out⟩ | exact ⟨2, 0, by omega, by omega, by omega, by omega, rfl, rfl, HN.out, HB6.out⟩ | exact ⟨3, 0, by omega, by omega, by omega, by omega, rfl, rfl, HN.out, HB6.out⟩ | exact ⟨3, 1, by omega, by omega, by omega, by omega, rfl, rfl, HN.out, HB6.out⟩ | exact ⟨4, 0, by omega, by omega, by omega, by omega, rfl, rfl, HN.out, HB6.out⟩ | exact ⟨4, 1, by omega, by omega, by omega, by omega, rfl, rfl, HN.out, HB6.out⟩ | exact ⟨4, 2, by omega, by omega, by omega, by omega, rfl, rfl, HN.out, HB6.out⟩
              case measure => simp [intOf]; omega
        · have hk' : k = m := by omega
          have HN : Hid (b = bestOf xs m) := by show _ = _; rw [HZ.out, hk']
          subst hk'
          go_wp2_with fail
          go_ret
          exact ⟨ret_int (by rw [← HN.out]), HB3.out.trans (HBR.out.mono HB3.out.size)⟩
  · have hm' : massB s xs = false := by simpa using hm
    rw [hm'] at HM
    rw [mostOf_no hm']
    obtain ⟨c1, c2, _, _⟩ := HBX.out.drew.cells
    have hz0 := HBX.out.lt
    clear hm hm' hr0 hr
    go_enter Try.func54, Try.ntmps54
    go_wp2_with fail
    rw [← HW0.out]
    first | (go_region_with (go_at_call 72; refine HM.out.mono ?_; rintro e w2 ⟨rfl, b2⟩)) | fail
    all_goals
      have hb2 := HB0.out.drew.trans (b2.mono HB0.out.size)
      go_wp2_with fail
      go_ret
      exact ⟨rfl, hb2⟩
end Go.Proofs.Ytapkppnjgbcklaa
