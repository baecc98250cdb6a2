/- Contract of MoveMass, of the reference. -/
import Derived.Test.YtffkpmmgfgcngaaW64
import Derived.Test.YtffkpmmgfgcngaaW55
import Derived.Deep.RegionHeld3
import Derived.Deep.CutRange
namespace Go.Proofs.Ytffkpmmgfgcngaa
open Go.RowKit

/-- make([]int, n) at a world: what comes back, and the world behind it -/
theorem run_make (wr : World) (n B g : Nat) (hn : n ≤ 1048576) (hB : B ≤ wr.heap.size) (hg : wr.heap.size = g) :
    ∃ w', Sem.run Try.prog (Instr.makeSlice 23 (.int .i64 n) (.int .i64 n)) wr = Result.ok (.slice (some ⟨g, 0, none⟩) n n) w' ∧ Own B w' (some ⟨g, 0, none⟩) n n (List.replicate n 0) ∧ wr.grownBy w' none := by
  subst hg
  obtain ⟨i0, gi, gz0, gz1, gz2⟩ := info_parts info_int
  obtain ⟨w', hrun, r1, r2⟩ := run_make_full (P := Try.prog) wr B 23 3 i0 (.int .i64 0) 1 Try.underlying23 gi gz0 gz1 .i64 .i64 n (by rw [gz2]; omega) (by unfold maxLen; omega) hB
  rw [Nat.mul_one, show (Value.int .i64 0).cells = #[.int .i64 0] from rfl, toList_madeCells_one, ← List.map_replicate (f := Value.int .i64) (a := 0)] at r1
  exact ⟨w', hrun, r1, r2⟩
theorem cell_far1 {w : World} {b o k i : Nat} {u x : Value} (h1 : b ≠ k) (h : w.cell? ⟨b, o, none⟩ = some x) : (w.setCell ⟨k, i, none⟩ u).cell? ⟨b, o, none⟩ = some x := by
  have e : (w.setCell ⟨k, i, none⟩ u).heap[b]? = w.heap[b]? := Below.heap_setCell w ⟨k, i, none⟩ u b h1
  rw [← h]
  unfold World.cell?
  simp [e]
/-- the parts that are set first -/
def setT (f : Nat → Nat) (n : Nat) (xs : List Int) : Nat → List Int
  | 0 => List.replicate n 0
  | k + 1 => (setT f n xs k).set (f k) (xs.getD k 0)
theorem setT_length (f : Nat → Nat) (n : Nat) (xs : List Int) : ∀ k, (setT f n xs k).length = n
  | 0 => by simp [setT]
  | k + 1 => by simp [setT, setT_length f n xs k]
theorem setT_getD {f g : Nat → Nat} {n : Nat} {xs : List Int} (h : Perm n f g) {c : Nat} (hc : c < n) : ∀ k, k ≤ n → (setT f n xs k).getD c 0 = if g c < k then xs.getD (g c) 0 else 0
  | 0, _ => by simp [setT, List.getD, hc]
  | k + 1, hk => by
    have ih := setT_getD (xs := xs) h hc k (by omega)
    have hl := setT_length f n xs k
    have hfk := h.lt k (by omega)
    simp only [setT]
    by_cases e : f k = c
    · have hg : g c = k := by rw [← e]; exact h.gf k (by omega)
      rw [hg, if_pos (by omega), e]
      simp [List.getD, hl, hc]
    · have hg : g c ≠ k := fun h2 => e (by rw [← h2]; exact h.fg c hc)
      have e1 : ((setT f n xs k).set (f k) (xs.getD k 0)).getD c 0 = (setT f n xs k).getD c 0 := by simp [List.getD, e]
      rw [e1, ih]
      by_cases h3 : g c < k
      · rw [if_pos h3, if_pos (by omega)]
      · rw [if_neg h3, if_neg (by omega)]
theorem setT_done {f g : Nat → Nat} {n : Nat} {xs : List Int} (hn : xs.length = n) (h : Perm n f g) : setT f n xs n = movedP g xs := by
  refine getD_ext (n := n) (setT_length _ _ _ _) (by rw [movedP_length, hn]) (fun c hc => ?_)
  rw [setT_getD h hc n (Nat.le_refl _), movedP_getD hn hc, if_pos (h.glt c hc)]
set_option maxHeartbeats 6400000 in
set_option maxRecDepth 100000 in
theorem sMoveMass_any (s : Int) (a : Option Addr) (n c : Nat) (xs : List Int) (a2 : Option Addr) (n2 c2 : Nat) (tl : List Int) (w : World) (hr : Row w a n xs) (hr2 : Row w a2 n2 tl) (hn : n ≤ 1048576) (hn2 : n2 ≤ 1048576) :
    Calls Try.prog 46 #[massV s a n c, .slice a2 n2 c2] w fun e w' => RetM w.heap.size (moveR s xs tl) e w' ∧ Below w.heap.size w w' := by
  obtain ⟨w0, hw0⟩ : ∃ w0, w0 = (w.alloc (.cells #[.int .i64 s, .slice a n c] 25)).alloc (.cells #[.int .i64 0, .slice none 0 0] 25) := ⟨_, rfl⟩
  have HBM : Hid (Box w0 w.heap.size 25 (.int .i64 s) (.slice a n c)) := by rw [hw0]; exact (Box.new _ _ _ _).alloc _
  have HBX : Hid (Box w0 (w.heap.size + 1) 25 (.int .i64 0) (.slice none 0 0)) := by rw [hw0]; exact alloc_at (by simp)
  have HB0 : Hid (Below w.heap.size w w0) := by rw [hw0]; exact ((Below.refl _ _).alloc (Nat.le_refl _) _).alloc (by simp) _
  have HS0 : Hid (w0.heap.size = w.heap.size + 1 + 1) := by show _ = _; rw [hw0]; simp
  have hr0 := hr.below HB0.out
  have hr20 := hr2.below HB0.out
  have HW0 := Lib.hid hw0; clear hw0 hr hr2
  have HM := Lib.hid (MassValid_any s a n c xs w0 hr0 hn)
  by_cases hm : massB s xs = true
  · rw [hm] at HM
    have hI := massB_is hr0.1 hm
    obtain ⟨m0, rfl⟩ : ∃ m : Nat, s = m := ⟨s.toNat, by have := size_cases hI.size; omega⟩
    have hm4 : 1 ≤ m0 ∧ m0 ≤ 4 := by have := size_cases hI.size; omega
    have HQ := Lib.hid (fun W (h : Row W a2 n2 tl) => l1Moves_any m0 a2 n2 c2 tl W h hn2 hm4)
    rw [moves_order hm4] at HQ
    by_cases ho : orderB m0 tl = true
    · rw [ho] at HQ
      obtain ⟨m, hmm, _, hnn, hlt, hin, hp, _, hmr⟩ := move_told hr0.1 hm (by rw [Int.toNat_natCast]; exact ho)
      obtain rfl : m0 = m := by omega
      have hn16 : 2 ≤ n ∧ n ≤ 16 := by have := hI.nums; omega
      have hn2m : n2 = m0 := by rw [← hlt]; exact hr20.1.symm
      have HK := Lib.hid (fun (j : Nat) (hj : j < n) W (h2 : Row W a2 n2 tl) => l1Move_any m0 j a2 n2 c2 tl W h2 hm4.2 (by omega) (by omega) hin)
      have hmr2 : moveR (m0 : Int) xs tl = some ((m0 : Int), setT (imgOf tl) n xs n) := by
        rw [setT_done hr0.1 hp]
        unfold moveR
        rw [Int.toNat_natCast, hm, ho]
        rfl
      obtain ⟨r, hrr⟩ : ∃ r, r = moveR (m0 : Int) xs tl := ⟨_, rfl⟩
      rw [← hrr] at hmr2 ⊢
      have HMR := Lib.hid hmr2
      have HP := Lib.hid hp
      have HR := Lib.hid hr0
      have HR2 := Lib.hid hr20
      clear hm hI ho hnn hlt hin hp hmr hrr hr0 hr20 hmm hn2m hmr2
      go_enter Try.func46, Try.ntmps46
      go_wp2_with fail
      rw [← HW0.out]
      refine HM.out.mono ?_
      rintro e w1 ⟨rfl, b1⟩
      have HM1 := Lib.hid (HBM.out.below b1 HBM.out.lt)
      obtain ⟨c1, c2', _, _⟩ := HM1.out.cells
      have hs0 := HS0.out
      have hb1s := b1.size
      have HR1 := Lib.hid (HR.out.below b1)
      have HR21 := Lib.hid (HR2.out.below b1)
      have HX1 := Lib.hid (HBX.out.below b1 HBX.out.lt)
      have HB1 := Lib.hid (HB0.out.trans (b1.mono HB0.out.size))
      clear b1 HBM HBX HM HR HR2
      go_wp2_with fail
      refine (HQ.out _ HR21.out).mono ?_
      rintro e w' ⟨rfl, rfl⟩
      clear c1 c2'
      go_upto_region 3 with fail
      have HI : Hid (∀ W, Below w1.heap.size w1 W → Below w1.heap.size w1 W ∧ W.cell? ⟨w.heap.size, 0, none⟩ = some (.int .i64 m0) ∧ W.cell? ⟨w.heap.size, 1, none⟩ = some (.slice a n c)) := fun W h => ⟨h, (HM1.out.below h HM1.out.lt).cells.1, (HM1.out.below h HM1.out.lt).cells.2.1⟩
      have HA : Hid (∀ W o, (Below w1.heap.size w1 W ∧ W.cell? ⟨w.heap.size, 0, none⟩ = some (.int .i64 m0) ∧ W.cell? ⟨w.heap.size, 1, none⟩ = some (.slice a n c)) → Below w1.heap.size w1 (W.alloc o) ∧ (W.alloc o).cell? ⟨w.heap.size, 0, none⟩ = some (.int .i64 m0) ∧ (W.alloc o).cell? ⟨w.heap.size, 1, none⟩ = some (.slice a n c)) := fun W o h => HI.out _ (h.1.alloc h.1.size _)
      have HS := Lib.hid (HI.out _ ((Below.refl _ _).drew : Below w1.heap.size w1 w1.drew))
      have HRR := Lib.hid (HI.out _ (((Below.refl _ _).alloc (Nat.le_refl _) _).drew : Below w1.heap.size w1 (World.drew (w1.alloc (.cells #[.int .i64 0, .slice none 0 0] 25)))))
      obtain ⟨wa, hra, oa, ga⟩ := run_make w1.drew n w1.heap.size w1.heap.size (by omega) (Nat.le_refl _) rfl
      obtain ⟨wb, hrb, ob, gb⟩ := run_make (World.drew (w1.alloc (.cells #[.int .i64 0, .slice none 0 0] 25))) n (w1.heap.size + 1) (w1.heap.size + 1) (by omega) (by simp) (by simp)
      have hBa : Below w1.heap.size w1 wa := (Below.refl w1.heap.size w1).drew.grown ga (Nat.le_refl _) (fun k h => by cases h)
      have hBb : Below w1.heap.size w1 wb := ((Below.refl w1.heap.size w1).alloc (Nat.le_refl _) (.cells #[.int .i64 0, .slice none 0 0] 25)).drew.grown gb (by simp) (fun k h => by cases h)
      have BXZ : Box wb w1.heap.size 25 (.int .i64 0) (.slice none 0 0) := ((Box.new _ _ _ _ : Box (w1.alloc (.cells #[.int .i64 0, .slice none 0 0] 25)) w1.heap.size 25 (.int .i64 0) (.slice none 0 0)).drew).grown gb (fun h => by cases h)
      obtain ⟨d1, d2, f1, f2⟩ := BXZ.cells
      have hwa : w1.heap.size < wa.heap.size := by
        rcases oa.form with ⟨h1, _⟩ | ⟨g1, h1, h2, h3, _⟩
        · cases h1
        · cases h1; exact h3
      have HSA := Lib.hid (HI.out _ hBa)
      have HSB := Lib.hid (HI.out _ hBb)
      go_cut [6] from 19 to 25 (fun sp wx => ∃ kx g, sp = .pointer (some ⟨kx, 0, none⟩) ∧ Box wx kx 25 (.int .i64 m0) (.slice (some ⟨g, 0, none⟩) n n) ∧ Own w1.heap.size wx (some ⟨g, 0, none⟩) n n (List.replicate n 0) ∧ (kx ≠ g ∧ w1.heap.size ≤ kx ∧ w1.heap.size ≤ g) ∧ Below w1.heap.size w1 wx)
      case first =>
        go_region_held3 (fun W => Below w1.heap.size w1 W ∧ W.cell? ⟨w.heap.size, 0, none⟩ = some (.int .i64 m0) ∧ W.cell? ⟨w.heap.size, 1, none⟩ = some (.slice a n c))
          (first | with_reducible exact HS.out | with_reducible exact HRR.out | with_reducible exact HSA.out | with_reducible exact HSB.out | with_reducible assumption | with_reducible exact HA.out _ _ (by assumption) | with_reducible exact HI.out _ (hBa.alloc hBa.size _) | with_reducible exact HI.out _ ((hBb.setCell (Nat.le_refl _) _).setCell (Nat.le_refl _) _) | go_keep)
          (fail)
        all_goals
          go_wp2_with fail
          go_meet
          first
            | exact ⟨_, _, rfl, (BXZ.set0 _).set1 _, (ob.setBox (Nat.lt_succ_self _) _ _).mono (by omega), ⟨by omega, by omega, by omega⟩, (hBb.setCell (Nat.le_refl _) _).setCell (Nat.le_refl _) _⟩
            | exact ⟨_, _, rfl, Box.new _ _ _ _, oa.below ((Below.refl _ _).alloc (Nat.le_refl _) _), ⟨by omega, by omega, by omega⟩, hBa.alloc hBa.size _⟩
      case rest =>
      obtain ⟨kx, g, rfl, hbox, hown, hkg, bx⟩ := hcut
      have HBX0 := Lib.hid hbox
      have HB10 := Lib.hid bx
      have hown0 : Own w1.heap.size wc (some ⟨g, 0, none⟩) n n (setT (imgOf tl) n xs 0) := hown
      have HO0 := Lib.hid hown0
      clear HI HA HS HRR hra hrb oa ob ga gb hBa hBb BXZ d1 d2 f1 f2 hwa HSA HSB hbox hown hown0 bx
      obtain ⟨wc, rfl⟩ : ∃ X, X = wc := ⟨_, rfl⟩
      have hc1 : wc.cell? ⟨w.heap.size, 1, none⟩ = some (.slice a n c) := (HM1.out.below HB10.out HM1.out.lt).cells.2.1
      go_wp2_with fail
      clear hc1
      go_loopw [7] (fun i wr => ∃ k : Nat, k ≤ n ∧ i = .int .i64 k ∧ Hid (Box wr kx 25 (.int .i64 m0) (.slice (some ⟨g, 0, none⟩) n n)) ∧ Hid (Own w1.heap.size wr (some ⟨g, 0, none⟩) n n (setT (imgOf tl) n xs k)) ∧ Hid (Below w1.heap.size w1 wr)) (fun i _ => n - (intOf i).toNat)
      case atStart => exact ⟨0, Nat.zero_le _, rfl, HBX0.out, HO0.out, HB10.out⟩
      case round =>
        obtain ⟨k, hk, rfl, HX, HO, HBR⟩ := hrel
        obtain ⟨c1, c2', _, _⟩ := (HM1.out.below HBR.out HM1.out.lt).cells
        obtain ⟨x1, x2, _, _⟩ := HX.out.cells
        by_cases hlt : k < n
        · obtain ⟨b, off, x, rfl, hxe, hc⟩ := HR1.out.at_ hlt
          have hb1 : b < w1.heap.size := World.block_lt_of_cell? _ _ hc
          have hcr := (HBR.out.cell hb1).trans hc
          obtain ⟨q, hq⟩ : ∃ q, q = imgOf tl k := ⟨_, rfl⟩
          have hqn : q < n := by rw [hq]; exact HP.out.lt k hlt
          have hqi : (q : Int) < (n : Int) := by omega
          have hki : (k : Int) < (n : Int) := by omega
          have HC := Lib.hid (fun W h2 => HK.out k hlt W h2)
          rw [← hq] at HC
          have HR2r := Lib.hid ((HR21.out.below HBR.out).below (w' := wr.drew) (Below.refl _ _).drew)
          have hcl := HO.out.cell hqn
          have hfr := HO.out.frozen q
          obtain ⟨t0, ht0⟩ : ∃ t, t = (setT (imgOf tl) n xs k).getD q 0 := ⟨_, rfl⟩
          rw [← ht0] at hcl
          have HST : Hid (setT (imgOf tl) n xs (k + 1) = (setT (imgOf tl) n xs k).set q x) := by show _ = _; simp only [setT]; rw [hxe, hq]
          have k1 : w.heap.size ≠ g := by omega
          have k2 : kx ≠ g := hkg.1
          have k3 : b ≠ g := by omega
          have HS0' : Hid ((World.drew wr).cell? ⟨w.heap.size, 0, none⟩ = some (.int .i64 m0) ∧ (World.drew wr).cell? ⟨w.heap.size, 1, none⟩ = some (.slice (some ⟨b, off, none⟩) n c) ∧ (World.drew wr).cell? ⟨kx, 0, none⟩ = some (.int .i64 m0) ∧ (World.drew wr).cell? ⟨kx, 1, none⟩ = some (.slice (some ⟨g, 0, none⟩) n n) ∧ (World.drew wr).cell? ⟨b, off + k, none⟩ = some (.int .i64 x)) := ⟨c1, c2', x1, x2, hcr⟩
          have HF : Hid (∀ (W : World) (u : Value), (W.cell? ⟨w.heap.size, 0, none⟩ = some (.int .i64 m0) ∧ W.cell? ⟨w.heap.size, 1, none⟩ = some (.slice (some ⟨b, off, none⟩) n c) ∧ W.cell? ⟨kx, 0, none⟩ = some (.int .i64 m0) ∧ W.cell? ⟨kx, 1, none⟩ = some (.slice (some ⟨g, 0, none⟩) n n) ∧ W.cell? ⟨b, off + k, none⟩ = some (.int .i64 x)) → ((W.setCell ⟨g, q, none⟩ u).cell? ⟨w.heap.size, 0, none⟩ = some (.int .i64 m0) ∧ (W.setCell ⟨g, q, none⟩ u).cell? ⟨w.heap.size, 1, none⟩ = some (.slice (some ⟨b, off, none⟩) n c) ∧ (W.setCell ⟨g, q, none⟩ u).cell? ⟨kx, 0, none⟩ = some (.int .i64 m0) ∧ (W.setCell ⟨g, q, none⟩ u).cell? ⟨kx, 1, none⟩ = some (.slice (some ⟨g, 0, none⟩) n n) ∧ (W.setCell ⟨g, q, none⟩ u).cell? ⟨b, off + k, none⟩ = some (.int .i64 x))) := fun W u h => ⟨cell_far1 k1 h.1, cell_far1 k1 h.2.1, cell_far1 k2 h.2.2.1, cell_far1 k2 h.2.2.2.1, cell_far1 k3 h.2.2.2.2⟩
          have HSB : Hid ((World.drew (wr.setCell ⟨g, q, none⟩ (.int .i64 x))).cell? ⟨w.heap.size, 0, none⟩ = some (.int .i64 m0) ∧ (World.drew (wr.setCell ⟨g, q, none⟩ (.int .i64 x))).cell? ⟨w.heap.size, 1, none⟩ = some (.slice (some ⟨b, off, none⟩) n c) ∧ (World.drew (wr.setCell ⟨g, q, none⟩ (.int .i64 x))).cell? ⟨kx, 0, none⟩ = some (.int .i64 m0) ∧ (World.drew (wr.setCell ⟨g, q, none⟩ (.int .i64 x))).cell? ⟨kx, 1, none⟩ = some (.slice (some ⟨g, 0, none⟩) n n) ∧ (World.drew (wr.setCell ⟨g, q, none⟩ (.int .i64 x))).cell? ⟨b, off + k, none⟩ = some (.int .i64 x)) := HF.out wr _ HS0'.out
          clear hq hxe ht0 hc
          go_wp2_with fail
          clear hcr c1 c2' x1 x2
          go_region_held3 (fun W => W.cell? ⟨w.heap.size, 0, none⟩ = some (.int .i64 m0) ∧ W.cell? ⟨w.heap.size, 1, none⟩ = some (.slice (some ⟨b, off, none⟩) n c) ∧ W.cell? ⟨kx, 0, none⟩ = some (.int .i64 m0) ∧ W.cell? ⟨kx, 1, none⟩ = some (.slice (some ⟨g, 0, none⟩) n n) ∧ W.cell? ⟨b, off + k, none⟩ = some (.int .i64 x))
            (first | with_reducible exact HS0'.out | with_reducible assumption | with_reducible exact HSB.out | go_keep)
            (first | (go_at_call 126; refine (HC.out _ HR2r.out).mono ?_; rintro e w' ⟨rfl, rfl⟩))
          all_goals
            go_wp2_with fail
            go_roundw
            case rel => exact ⟨k + 1, by omega, by go_num, (HX.out.far k2 _).drew, by rw [HST.out]; exact (HO.out.set q x).below (w' := World.drew (wr.setCell ⟨g, q, none⟩ (.int .i64 x))) (Below.refl _ _).drew, (HBR.out.setCell hkg.2.2 _).drew⟩
            case measure => simp [intOf]; omega
        · obtain rfl : n = k := by omega
          obtain ⟨d1, d2, _, _⟩ := (HX1.out.below HBR.out HX1.out.lt).cells
          have HB3 := Lib.hid (HB1.out.trans (HBR.out.mono (by omega)))
          have hz3 : w.heap.size + 1 < w1.heap.size := HX1.out.lt
          go_wp2_with fail
          refine bodyPost_ret (v := .tuple #[massV m0 (some ⟨g, 0, none⟩) n n, .bool true]) (by simp [results, Try.results46, go_sem, d1, d2]) rfl ?_
          refine ⟨?_, (HB3.out.setCell (by simp) _).setCell (by simp) _⟩
          rw [HMR.out]
          exact RetM.some_ ((HO.out.setBox hz3 _ _).mono (by omega))
    · have ho' : orderB m0 tl = false := by simpa using ho
      rw [ho'] at HQ
      rw [moveR_no (show (massB (m0 : Int) xs && orderB (m0 : Int).toNat tl) = false by rw [Int.toNat_natCast, ho']; simp)]
      have HR2 := Lib.hid hr20
      clear hm hI ho ho' hr0 hr20
      go_enter Try.func46, Try.ntmps46
      go_wp2_with fail
      rw [← HW0.out]
      refine HM.out.mono ?_
      rintro e w1 ⟨rfl, b1⟩
      obtain ⟨c1, c2', _, _⟩ := (HBM.out.below b1 HBM.out.lt).cells
      obtain ⟨d1, d2, _, _⟩ := (HBX.out.below b1 HBX.out.lt).cells
      have HR21 := Lib.hid (HR2.out.below b1)
      have HB1 := Lib.hid (HB0.out.trans (b1.mono HB0.out.size))
      clear b1
      go_wp2_with fail
      refine (HQ.out _ HR21.out).mono ?_
      rintro e w' ⟨rfl, rfl⟩
      go_wp2_with fail
      refine bodyPost_ret (v := .tuple #[massV 0 none 0 0, .bool false]) (by simp [results, Try.results46, go_sem, d1, d2]) rfl ?_
      exact ⟨RetM.none_ _ _, (HB1.out.setCell (by simp) _).setCell (by simp) _⟩
  · have hm' : massB s xs = false := by simpa using hm
    rw [hm'] at HM
    rw [moveR_no (show (massB s xs && orderB s.toNat tl) = false by rw [hm']; rfl)]
    clear hm hm'
    go_enter Try.func46, Try.ntmps46
    go_wp2_with fail
    rw [← HW0.out]
    refine HM.out.mono ?_
    rintro e w1 ⟨rfl, b1⟩
    obtain ⟨d1, d2, _, _⟩ := (HBX.out.below b1 HBX.out.lt).cells
    have HB1 := Lib.hid (HB0.out.trans (b1.mono HB0.out.size))
    clear b1
    go_wp2_with fail
    refine bodyPost_ret (v := .tuple #[massV 0 none 0 0, .bool false]) (by simp [results, Try.results46, go_sem, d1, d2]) rfl ?_
    exact ⟨RetM.none_ _ _, (HB1.out.setCell (by simp) _).setCell (by simp) _⟩
end Go.Proofs.Ytffkpmmgfgcngaa
