/- Contract of TableOf, of the reference. -/
import Derived.Test.YtffkpmmgfgcngaaW13
import Derived.Test.YtffkpmmgfgcngaaW12
import Derived.Test.YtffkpmmgfgcngaaMath
import Derived.Test.YtffkpmmgfgcngaaBase3
import Derived.Deep.RegionHeld3
namespace Go.Proofs.Ytffkpmmgfgcngaa
open Go.RowKit

set_option maxHeartbeats 6400000 in
set_option maxRecDepth 100000 in
theorem sTableOf_any (s : Int) (kd : ByteArray) (a : Option Addr) (n c : Nat) (xs : List Int) (w : World) (hr : Row w a n xs) (hn : n ≤ 1048576) :
    Calls Try.prog 172 #[massV s a n c, .string kd] w fun e w' => ∃ A C, e = .returned (.slice A (tabN s xs kd) C) ∧ Own w.heap.size w' A (tabN s xs kd) C (tabT s xs kd) ∧ Below w.heap.size w w' := by
  obtain ⟨w0, hw0⟩ : ∃ w0, w0 = w.alloc (.cells #[.int .i64 s, .slice a n c] 25) := ⟨_, rfl⟩
  have HBM : Hid (Box w0 w.heap.size 25 (.int .i64 s) (.slice a n c)) := by rw [hw0]; exact Box.new _ _ _ _
  have HB0 : Hid (Below w.heap.size w w0) := by rw [hw0]; exact (Below.refl _ _).alloc (Nat.le_refl _) _
  have hr0 := hr.below HB0.out
  have HW0 := Lib.hid hw0; clear hw0
  have hown0 : Own w0.heap.size (w0.alloc (.cells #[] 3)) (some ⟨w0.heap.size, 0, none⟩) 0 0 [] := World.ownsRow_lit w0 #[] 0 (Nat.le_refl _) (by unfold maxLen; omega) rfl
  have hb0 : Below w0.heap.size w0 (w0.alloc (.cells #[] 3)) := (Below.refl _ _).alloc (Nat.le_refl _) _
  have HS0 : Hid (w0.heap.size = w.heap.size + 1) := by show _ = _; rw [HW0.out]; simp
  have HM := Lib.hid (fun W h => MassValid_any s a n c xs W h hn)
  by_cases hm : massB s xs = true
  · have hI := massB_is hr.1 hm
    rw [hm] at HM
    have hnl : n ≤ 16 := by have := hI.nums; omega
    have hpos : 0 < n := by have := hI.nums; omega
    rcases kind_cases kd with hkd | hkd | hkd | hkd | ⟨h0, h1, h2, h3⟩
    · obtain ⟨hN, hT⟩ := tab_yes hr.1 hm (kind0 hkd) (by omega)
      rw [hN, hT]
      have HP := Lib.hid (fun (k : Nat) (hk : k < n) W (h : Row W a n xs) => l4Implied_any s k a n c xs W h hnl (by omega) hI.part)
      have hbd : ∀ k : Nat, True := fun k => trivial
      have HBD := Lib.hid hbd; clear hbd
      have h0b := hI.part 0 hpos
      clear hN hT hm hI hr
      go_enter Try.func172, Try.ntmps172
      go_wp2_with fail
      rw [← HW0.out]
      go_loopw [5, 6] (fun z i wr => ∃ (k : Nat) (A : Option Addr) (C : Nat), k ≤ n ∧ i = .int .i64 k ∧ z = .slice A k C ∧ Hid (Own w0.heap.size wr A k C (tab k (measK 0 xs))) ∧ Hid (Below w0.heap.size w0 wr)) (fun _ i _ => n - (intOf i).toNat)
      case atStart => exact ⟨0, _, 0, Nat.zero_le _, rfl, by rw [HS0.out], hown0, hb0⟩
      case round =>
        obtain ⟨k, A, C, hk, rfl, rfl, HO, HBR⟩ := hrel
        clear hown0 hb0
        obtain ⟨c1, c2, _, _⟩ := (HBM.out.below HBR.out HBM.out.lt).cells
        have HMr := Lib.hid (HM.out wr (hr0.below HBR.out))
        by_cases hlt : k < n
        · have HPk := Lib.hid (HP.out k hlt)
          obtain ⟨z, hz⟩ : ∃ z, z = measK 0 xs k := ⟨_, rfl⟩
          have HT : Hid (tab k (measK 0 xs) ++ [z] = tab (k + 1) (measK 0 xs)) := by show _ = _; rw [tab_succ, hz]
          simp only [measK] at hz
          rw [← hz] at HPk
          clear hz
          obtain ⟨ys, hys⟩ : ∃ ys, ys = tab k (measK 0 xs) := ⟨_, rfl⟩
          rw [← hys] at HO HT
          clear hys
          go_wp2_with fail
          refine HMr.out.mono ?_
          rintro e w1 ⟨rfl, b1⟩
          have B1 := HBR.out.trans (b1.mono HBR.out.size)
          have O1 := HO.out.below b1
          clear c1 c2 b1
          obtain ⟨c1, c2, _, _⟩ := (HBM.out.below B1 HBM.out.lt).cells
          go_wp2_with fail
          refine (HPk.out _ (hr0.below B1)).mono ?_
          rintro e w2 ⟨rfl, b2⟩
          have B2 := B1.trans (b2.mono B1.size)
          have O2 := O1.below b2
          clear c1 c2 b2 B1 O1
          go_wp2_with (at_builtin; refine wpList_push _ rfl _ _ rfl A k C ys z _ w0 rfl rfl O2 B2 B2.size (by omega) ?_)
          intro A' C' w3 ho' hb'
          rw [HT.out] at ho'
          have HO' := Lib.hid ho'
          have HB' := Lib.hid hb'
          clear ho' hb' O2 B2
          go_wp2_with fail
          go_roundw
          case rel => exact ⟨k + 1, A', C', by omega, by go_num, rfl, HO'.out, HB'.out⟩
          case measure => simp [intOf]; omega
        · have hk' : k = n := by omega
          subst hk'
          go_wp2_with fail
          refine HMr.out.mono ?_
          rintro e w1 ⟨rfl, b1⟩
          have B1 := HBR.out.trans (b1.mono HBR.out.size)
          have O1 := HO.out.below b1
          clear c1 c2 b1
          obtain ⟨c1, c2, _, _⟩ := (HBM.out.below B1 HBM.out.lt).cells
          have HO' := Lib.hid O1
          have HB' := Lib.hid B1
          clear O1 B1
          go_wp2_with fail
          go_ret
          exact ⟨A, C, rfl, HO'.out.mono (by rw [HS0.out]; omega), HB0.out.trans (HB'.out.mono (by rw [HS0.out]; omega))⟩
    · obtain ⟨hN, hT⟩ := tab_yes hr.1 hm (kind1 hkd) (by omega)
      rw [hN, hT]
      have HP := Lib.hid (fun (k : Nat) (hk : k < n) W (h : Row W a n xs) => l4Implied_any s k a n c xs W h hnl (by omega) hI.part)
      have hbd : ∀ k : Nat, 0 ≤ partOf (fun j => subB j k) xs ∧ partOf (fun j => subB j k) xs ≤ 1000000 * n := fun k => partOf_bound hr.1 hI.part
      have HBD := Lib.hid hbd; clear hbd
      have h0b := hI.part 0 hpos
      clear hN hT hm hI hr
      go_enter Try.func172, Try.ntmps172
      go_wp2_with fail
      rw [← HW0.out]
      go_loopw [5, 6] (fun z i wr => ∃ (k : Nat) (A : Option Addr) (C : Nat), k ≤ n ∧ i = .int .i64 k ∧ z = .slice A k C ∧ Hid (Own w0.heap.size wr A k C (tab k (measK 1 xs))) ∧ Hid (Below w0.heap.size w0 wr)) (fun _ i _ => n - (intOf i).toNat)
      case atStart => exact ⟨0, _, 0, Nat.zero_le _, rfl, by rw [HS0.out], hown0, hb0⟩
      case round =>
        obtain ⟨k, A, C, hk, rfl, rfl, HO, HBR⟩ := hrel
        clear hown0 hb0
        obtain ⟨c1, c2, _, _⟩ := (HBM.out.below HBR.out HBM.out.lt).cells
        have HMr := Lib.hid (HM.out wr (hr0.below HBR.out))
        by_cases hlt : k < n
        · have HPk := Lib.hid (HP.out k hlt)
          have hzb := HBD.out k
          obtain ⟨z, hz⟩ : ∃ z, z = partOf (fun j => subB j k) xs := ⟨_, rfl⟩
          rw [← hz] at HPk hzb
          obtain ⟨b0, off0, v0, rfl, hv0, hc0⟩ := hr0.at_ hpos
          simp only [Nat.add_zero] at hc0
          rw [← hv0] at h0b
          have HT : Hid (tab k (measK 1 xs) ++ [z - v0] = tab (k + 1) (measK 1 xs)) := by show _ = _; rw [tab_succ, hz, hv0]; rfl
          have e1 : IntKind.i64.wrap (z - v0) = z - v0 := IntWalk.i64_in _ (by omega)
          have hn0 : (0 : Int) < (n : Int) := by omega
          have hltb := World.block_lt_of_cell? _ _ hc0
          clear hz hv0
          obtain ⟨ys, hys⟩ : ∃ ys, ys = tab k (measK 1 xs) := ⟨_, rfl⟩
          rw [← hys] at HO HT
          clear hys
          go_wp2_with fail
          refine HMr.out.mono ?_
          rintro e w1 ⟨rfl, b1⟩
          have B1 := HBR.out.trans (b1.mono HBR.out.size)
          have O1 := HO.out.below b1
          clear c1 c2 b1
          obtain ⟨c1, c2, _, _⟩ := (HBM.out.below B1 HBM.out.lt).cells
          have BB := B1.drew
          have OO := O1.below (w' := w1.drew) (Below.refl _ _).drew
          have RR := (hr0.below B1).below (w' := w1.drew) (Below.refl _ _).drew
          have HKS : Hid (∀ W : World, Below w0.heap.size w0 W → (W.cell? ⟨w.heap.size, 0, none⟩ = some (.int .i64 s) ∧ W.cell? ⟨w.heap.size, 1, none⟩ = some (.slice (some ⟨b0, off0, none⟩) n c) ∧ W.cell? ⟨b0, off0, none⟩ = some (.int .i64 v0))) := fun W hB => ⟨(HBM.out.below hB HBM.out.lt).cells.1, (HBM.out.below hB HBM.out.lt).cells.2.1, (hB.cell (p := ⟨b0, off0, none⟩) hltb).trans hc0⟩
          have c3 := (HKS.out _ B1).2.2
          clear O1
          go_wp2_with fail
          go_region_held3 (fun W => W.cell? ⟨w.heap.size, 0, none⟩ = some (.int .i64 s) ∧ W.cell? ⟨w.heap.size, 1, none⟩ = some (.slice (some ⟨b0, off0, none⟩) n c) ∧ W.cell? ⟨b0, off0, none⟩ = some (.int .i64 v0))
            (first | exact HKS.out _ hb' | exact HKS.out _ BB | exact HKS.out _ (BB.alloc BB.size _))
            (first | (go_at_call 135; refine (HPk.out _ RR).mono ?_; rintro e w2 ⟨rfl, b2⟩; replace BB := BB.trans (b2.mono BB.size); replace OO := OO.below b2; have tok1 : True := trivial) | (have _t := tok1; refine step_push w2 rfl _ _ (by rfl) A k C ys (z - v0) _ w0 (by rfl) (by rfl) OO BB BB.size (by omega) ?_; intro A' C' w3 ho' hb'))
          all_goals
            rw [HT.out] at ho'
            have HO' := Lib.hid ho'
            have HB' := Lib.hid hb'
            clear ho' hb' B1 OO BB RR c1 c2 c3
            go_wp2_with fail
            go_roundw
            case rel => exact ⟨k + 1, A', C', by omega, by go_num, rfl, HO'.out, HB'.out⟩
            case measure => simp [intOf]; omega
        · have hk' : k = n := by omega
          subst hk'
          go_wp2_with fail
          refine HMr.out.mono ?_
          rintro e w1 ⟨rfl, b1⟩
          have B1 := HBR.out.trans (b1.mono HBR.out.size)
          have O1 := HO.out.below b1
          clear c1 c2 b1
          obtain ⟨c1, c2, _, _⟩ := (HBM.out.below B1 HBM.out.lt).cells
          have HO' := Lib.hid O1
          have HB' := Lib.hid B1
          clear O1 B1
          go_wp2_with fail
          go_ret
          exact ⟨A, C, rfl, HO'.out.mono (by rw [HS0.out]; omega), HB0.out.trans (HB'.out.mono (by rw [HS0.out]; omega))⟩
    · obtain ⟨hN, hT⟩ := tab_yes hr.1 hm (kind2 hkd) (by omega)
      rw [hN, hT]
      have HP := Lib.hid (fun (k : Nat) (hk : k < n) W (h : Row W a n xs) => l4Possible_any s k a n c xs W h hnl (by omega) hI.part)
      have hbd : ∀ k : Nat, True := fun k => trivial
      have HBD := Lib.hid hbd; clear hbd
      have h0b := hI.part 0 hpos
      clear hN hT hm hI hr
      go_enter Try.func172, Try.ntmps172
      go_wp2_with fail
      rw [← HW0.out]
      go_loopw [5, 6] (fun z i wr => ∃ (k : Nat) (A : Option Addr) (C : Nat), k ≤ n ∧ i = .int .i64 k ∧ z = .slice A k C ∧ Hid (Own w0.heap.size wr A k C (tab k (measK 2 xs))) ∧ Hid (Below w0.heap.size w0 wr)) (fun _ i _ => n - (intOf i).toNat)
      case atStart => exact ⟨0, _, 0, Nat.zero_le _, rfl, by rw [HS0.out], hown0, hb0⟩
      case round =>
        obtain ⟨k, A, C, hk, rfl, rfl, HO, HBR⟩ := hrel
        clear hown0 hb0
        obtain ⟨c1, c2, _, _⟩ := (HBM.out.below HBR.out HBM.out.lt).cells
        have HMr := Lib.hid (HM.out wr (hr0.below HBR.out))
        by_cases hlt : k < n
        · have HPk := Lib.hid (HP.out k hlt)
          obtain ⟨z, hz⟩ : ∃ z, z = measK 2 xs k := ⟨_, rfl⟩
          have HT : Hid (tab k (measK 2 xs) ++ [z] = tab (k + 1) (measK 2 xs)) := by show _ = _; rw [tab_succ, hz]
          simp only [measK] at hz
          rw [← hz] at HPk
          clear hz
          obtain ⟨ys, hys⟩ : ∃ ys, ys = tab k (measK 2 xs) := ⟨_, rfl⟩
          rw [← hys] at HO HT
          clear hys
          go_wp2_with fail
          refine HMr.out.mono ?_
          rintro e w1 ⟨rfl, b1⟩
          have B1 := HBR.out.trans (b1.mono HBR.out.size)
          have O1 := HO.out.below b1
          clear c1 c2 b1
          obtain ⟨c1, c2, _, _⟩ := (HBM.out.below B1 HBM.out.lt).cells
          go_wp2_with fail
          refine (HPk.out _ (hr0.below B1)).mono ?_
          rintro e w2 ⟨rfl, b2⟩
          have B2 := B1.trans (b2.mono B1.size)
          have O2 := O1.below b2
          clear c1 c2 b2 B1 O1
          go_wp2_with (at_builtin; refine wpList_push _ rfl _ _ rfl A k C ys z _ w0 rfl rfl O2 B2 B2.size (by omega) ?_)
          intro A' C' w3 ho' hb'
          rw [HT.out] at ho'
          have HO' := Lib.hid ho'
          have HB' := Lib.hid hb'
          clear ho' hb' O2 B2
          go_wp2_with fail
          go_roundw
          case rel => exact ⟨k + 1, A', C', by omega, by go_num, rfl, HO'.out, HB'.out⟩
          case measure => simp [intOf]; omega
        · have hk' : k = n := by omega
          subst hk'
          go_wp2_with fail
          refine HMr.out.mono ?_
          rintro e w1 ⟨rfl, b1⟩
          have B1 := HBR.out.trans (b1.mono HBR.out.size)
          have O1 := HO.out.below b1
          clear c1 c2 b1
          obtain ⟨c1, c2, _, _⟩ := (HBM.out.below B1 HBM.out.lt).cells
          have HO' := Lib.hid O1
          have HB' := Lib.hid B1
          clear O1 B1
          go_wp2_with fail
          go_ret
          exact ⟨A, C, rfl, HO'.out.mono (by rw [HS0.out]; omega), HB0.out.trans (HB'.out.mono (by rw [HS0.out]; omega))⟩
    · obtain ⟨hN, hT⟩ := tab_yes hr.1 hm (kind3 hkd) (by omega)
      rw [hN, hT]
      have HP := Lib.hid (fun (k : Nat) (hk : k < n) W (h : Row W a n xs) => l4Common_any s k a n c xs W h hnl (by omega) hI.part)
      have hbd : ∀ k : Nat, True := fun k => trivial
      have HBD := Lib.hid hbd; clear hbd
      have h0b := hI.part 0 hpos
      clear hN hT hm hI hr
      go_enter Try.func172, Try.ntmps172
      go_wp2_with fail
      rw [← HW0.out]
      go_loopw [5, 6] (fun z i wr => ∃ (k : Nat) (A : Option Addr) (C : Nat), k ≤ n ∧ i = .int .i64 k ∧ z = .slice A k C ∧ Hid (Own w0.heap.size wr A k C (tab k (measK 3 xs))) ∧ Hid (Below w0.heap.size w0 wr)) (fun _ i _ => n - (intOf i).toNat)
      case atStart => exact ⟨0, _, 0, Nat.zero_le _, rfl, by rw [HS0.out], hown0, hb0⟩
      case round =>
        obtain ⟨k, A, C, hk, rfl, rfl, HO, HBR⟩ := hrel
        clear hown0 hb0
        obtain ⟨c1, c2, _, _⟩ := (HBM.out.below HBR.out HBM.out.lt).cells
        have HMr := Lib.hid (HM.out wr (hr0.below HBR.out))
        by_cases hlt : k < n
        · have HPk := Lib.hid (HP.out k hlt)
          obtain ⟨z, hz⟩ : ∃ z, z = measK 3 xs k := ⟨_, rfl⟩
          have HT : Hid (tab k (measK 3 xs) ++ [z] = tab (k + 1) (measK 3 xs)) := by show _ = _; rw [tab_succ, hz]
          simp only [measK] at hz
          rw [← hz] at HPk
          clear hz
          obtain ⟨ys, hys⟩ : ∃ ys, ys = tab k (measK 3 xs) := ⟨_, rfl⟩
          rw [← hys] at HO HT
          clear hys
          go_wp2_with fail
          refine HMr.out.mono ?_
          rintro e w1 ⟨rfl, b1⟩
          have B1 := HBR.out.trans (b1.mono HBR.out.size)
          have O1 := HO.out.below b1
          clear c1 c2 b1
          obtain ⟨c1, c2, _, _⟩ := (HBM.out.below B1 HBM.out.lt).cells
          go_wp2_with fail
          refine (HPk.out _ (hr0.below B1)).mono ?_
          rintro e w2 ⟨rfl, b2⟩
          have B2 := B1.trans (b2.mono B1.size)
          have O2 := O1.below b2
          clear c1 c2 b2 B1 O1
          go_wp2_with (at_builtin; refine wpList_push _ rfl _ _ rfl A k C ys z _ w0 rfl rfl O2 B2 B2.size (by omega) ?_)
          intro A' C' w3 ho' hb'
          rw [HT.out] at ho'
          have HO' := Lib.hid ho'
          have HB' := Lib.hid hb'
          clear ho' hb' O2 B2
          go_wp2_with fail
          go_roundw
          case rel => exact ⟨k + 1, A', C', by omega, by go_num, rfl, HO'.out, HB'.out⟩
          case measure => simp [intOf]; omega
        · have hk' : k = n := by omega
          subst hk'
          go_wp2_with fail
          refine HMr.out.mono ?_
          rintro e w1 ⟨rfl, b1⟩
          have B1 := HBR.out.trans (b1.mono HBR.out.size)
          have O1 := HO.out.below b1
          clear c1 c2 b1
          obtain ⟨c1, c2, _, _⟩ := (HBM.out.below B1 HBM.out.lt).cells
          have HO' := Lib.hid O1
          have HB' := Lib.hid B1
          clear O1 B1
          go_wp2_with fail
          go_ret
          exact ⟨A, C, rfl, HO'.out.mono (by rw [HS0.out]; omega), HB0.out.trans (HB'.out.mono (by rw [HS0.out]; omega))⟩
    · obtain ⟨hN, hT⟩ := tab_no (s := s) (xs := xs) (.inr (kind4 h0 h1 h2 h3))
      rw [hN, hT]
      have q0 : (kd.toList == [105, 109, 112, 108, 105, 101, 100]) = false := by simpa using h0
      have q1 : (kd.toList == [98, 101, 108, 105, 101, 118, 101, 100]) = false := by simpa using h1
      have q2 : (kd.toList == [112, 111, 115, 115, 105, 98, 108, 101]) = false := by simpa using h2
      have q3 : (kd.toList == [99, 111, 109, 109, 111, 110]) = false := by simpa using h3
      clear hN hT hm hI hr
      go_enter Try.func172, Try.ntmps172
      go_wp2_with fail
      rw [← HW0.out]
      go_loopw [5, 6] (fun z i wr => ∃ (k : Nat) (A : Option Addr) (C : Nat), k ≤ n ∧ i = .int .i64 k ∧ z = .slice A 0 C ∧ Hid (Own w0.heap.size wr A 0 C []) ∧ Hid (Below w0.heap.size w0 wr)) (fun _ i _ => n - (intOf i).toNat)
      case atStart => exact ⟨0, _, 0, Nat.zero_le _, rfl, by rw [HS0.out], hown0, hb0⟩
      case round =>
        obtain ⟨k, A, C, hk, rfl, rfl, HO, HBR⟩ := hrel
        clear hown0 hb0
        obtain ⟨c1, c2, _, _⟩ := (HBM.out.below HBR.out HBM.out.lt).cells
        have HMr := Lib.hid (HM.out wr (hr0.below HBR.out))
        by_cases hlt : k < n
        · go_wp2_with fail
          refine HMr.out.mono ?_
          rintro e w1 ⟨rfl, b1⟩
          have B1 := HBR.out.trans (b1.mono HBR.out.size)
          have O1 := HO.out.below b1
          clear c1 c2 b1
          obtain ⟨c1, c2, _, _⟩ := (HBM.out.below B1 HBM.out.lt).cells
          have HO' := Lib.hid O1
          have HB' := Lib.hid B1
          clear O1 B1
          go_wp2_with fail
          go_roundw
          case rel => exact ⟨k + 1, A, C, by omega, by go_num, rfl, HO'.out, HB'.out⟩
          case measure => simp [intOf]; omega
        · have hk' : k = n := by omega
          subst hk'
          go_wp2_with fail
          refine HMr.out.mono ?_
          rintro e w1 ⟨rfl, b1⟩
          have B1 := HBR.out.trans (b1.mono HBR.out.size)
          have O1 := HO.out.below b1
          clear c1 c2 b1
          obtain ⟨c1, c2, _, _⟩ := (HBM.out.below B1 HBM.out.lt).cells
          have HO' := Lib.hid O1
          have HB' := Lib.hid B1
          clear O1 B1
          go_wp2_with fail
          go_ret
          exact ⟨A, C, rfl, HO'.out.mono (by rw [HS0.out]; omega), HB0.out.trans (HB'.out.mono (by rw [HS0.out]; omega))⟩
  · have hm' : massB s xs = false := by simpa using hm
    rw [hm'] at HM
    obtain ⟨hN, hT⟩ := tab_no (kd := kd) (.inl hm')
    rw [hN, hT]
    clear hN hT hm hm' hr
    go_enter Try.func172, Try.ntmps172
    go_wp2_with fail
    rw [← HW0.out]
    obtain ⟨c1, c2, _, _⟩ := (HBM.out.below hb0 HBM.out.lt).cells
    have HMr := Lib.hid (HM.out _ (hr0.below hb0))
    refine wp_loop_rounds 1 ?_
    rw [rounds_succ]
    go_wp2_with fail
    refine HMr.out.mono ?_
    rintro e w1 ⟨rfl, b1⟩
    have B1 := hb0.trans (b1.mono hb0.size)
    have HO := Lib.hid ((hown0.below b1).mono (B' := w.heap.size) (by rw [HS0.out]; omega))
    clear hown0
    go_wp2_with fail
    go_ret
    refine ⟨_, _, rfl, ?_, HB0.out.trans (B1.mono (by rw [HS0.out]; omega))⟩
    rw [← HS0.out]
    exact HO.out
end Go.Proofs.Ytffkpmmgfgcngaa
