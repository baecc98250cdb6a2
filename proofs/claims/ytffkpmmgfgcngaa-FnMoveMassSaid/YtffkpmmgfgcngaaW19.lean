/- Contracts of NormalMass and NegateMass, of the program and of the reference. -/
import Derived.Test.YtffkpmmgfgcngaaW18
namespace Go.Proofs.Ytffkpmmgfgcngaa
open Go.RowKit

theorem cf_fullSet (args : Array Value) (w : World) : (callFunc 102 args).run Try.prog w = .ok (.enter 102 args) w := by kernel_rfl
theorem fullSet_any (s : Int) (n : Nat) (w : World) (hs : sizeB s = true) (hf : fitB s n = true) : Calls Try.prog 102 #[.int .i64 s] w fun e w' => e = .returned (.int .i64 ((n - 1 : Nat) : Int)) ∧ w = w' := by
  have h := size_cases hs
  have hnn : (n : Int) = 2 ^ s.toNat := by simpa [fitB] using hf
  clear hs hf
  rcases h with rfl | rfl | rfl | rfl
  all_goals
    simp at hnn
    obtain ⟨q, hq⟩ : ∃ q : Nat, q = n - 1 := ⟨_, rfl⟩
    have HQ := Lib.hid (show (q : Int) + 1 = n by omega)
    have HN := Lib.hid hnn
    rw [← hq]
    clear hnn hq
    go_enter Try.func102, Try.ntmps102
    go_wp2
    go_ret
    exact ⟨ret_int (by have := HQ.out; have := HN.out; omega), rfl⟩
set_option maxRecDepth 100000 in
set_option maxHeartbeats 1600000 in
theorem negated_any (s : Int) (a : Option Addr) (n c : Nat) (xs : List Int) (w : World) (hr : Row w a n xs) (hs : sizeB s = true) (hf : n = 2 ∨ n = 4 ∨ n = 8 ∨ n = 16) (hfit : fitB s n = true) :
    Calls Try.prog 106 #[massV s a n c] w fun e w' => ∃ A C, e = .returned (massV s A n C) ∧ Own w.heap.size w' A n C (turned xs) ∧ Below w.heap.size w w' := by
  obtain ⟨w0, hw0⟩ : ∃ w0, w0 = (w.alloc (.cells #[.int .i64 s, .slice a n c] 25)).alloc (.cells #[.int .i64 0, .slice none 0 0] 25) := ⟨_, rfl⟩
  have HBP : Hid (Box w0 w.heap.size 25 (.int .i64 s) (.slice a n c)) := by rw [hw0]; exact (Box.new _ _ _ _).alloc _
  have HBX : Hid (Box w0 (w.heap.size + 1) 25 (.int .i64 0) (.slice none 0 0)) := by rw [hw0]; exact alloc_at (by simp)
  have hb0 : Below w.heap.size w w0 := by rw [hw0]; exact ((Below.refl _ _).alloc (Nat.le_refl _) _).alloc (by simp) _
  have HS0 : Hid (w0.heap.size = w.heap.size + 1 + 1) := by show _ = _; rw [hw0]; simp
  have hr0 := hr.below hb0
  have HB0 := Lib.hid hb0
  have HW0 := Lib.hid hw0
  have HTU : Hid (turned xs = tab n (fun k => xs.getD (n - 1 - k) 0)) := by show _ = _; rw [turned, hr.1]
  clear hw0 hb0
  have HBM0 : Hid (Box (w0.alloc (.cells #[.int .i64 s, .slice none 0 0] 25)) (w.heap.size + 1 + 1) 25 (.int .i64 s) (.slice none 0 0)) := alloc_at HS0.out.symm
  have hbq : Below (w.heap.size + 1 + 1) w0 (w0.alloc (.cells #[.int .i64 s, .slice none 0 0] 25)) := (Below.refl _ _).alloc (Nat.le_of_eq HS0.out.symm) _
  have hn0 : Own (w.heap.size + 1 + 1 + 1) (w0.alloc (.cells #[.int .i64 s, .slice none 0 0] 25)) none 0 0 [] := Own.nil _ _
  have hn16 : n ≤ 16 := by omega
  have hn2 : 2 ≤ n := by omega
  have HF := Lib.hid hf; clear hf
  obtain ⟨f, hfe⟩ : ∃ f : Nat, f = n - 1 := ⟨_, rfl⟩
  have hFS : ∀ W, Calls Try.prog 102 #[.int .i64 s] W fun e w' => e = .returned (.int .i64 f) ∧ W = w' := fun W => by rw [hfe]; exact fullSet_any s n W hs hfit
  have HFS := Lib.hid hFS
  have HFE := Lib.hid hfe
  clear hFS hfe hfit hs
  go_enter Try.func106, Try.ntmps106
  go_wp2_with fail
  rw [← HW0.out]
  go_loopw [11] (fun i wr => ∃ (k : Nat) (A : Option Addr) (C : Nat), k ≤ n ∧ i = .int .i64 k ∧ Hid (Box wr (w.heap.size + 1 + 1) 25 (.int .i64 s) (.slice A k C)) ∧ Own (w.heap.size + 1 + 1 + 1) wr A k C (tab k (fun k => xs.getD (n - 1 - k) 0)) ∧ Below (w.heap.size + 1 + 1) w0 wr) (fun i _ => n - (intOf i).toNat)
  case atStart => exact ⟨0, _, _, Nat.zero_le _, rfl, HBM0, hn0, hbq⟩
  case round =>
    obtain ⟨k, A, C, hk, rfl, HBM, ho, hbr1⟩ := hrel
    clear hn0 hbq
    by_cases hlt : k < n
    · obtain ⟨p, hpe⟩ : ∃ p : Nat, p = n - 1 - k := ⟨_, rfl⟩
      have hpn : p < n := by omega
      obtain ⟨b, off, x, rfl, hx, hc⟩ := (hr0.below (by rw [HS0.out]; exact hbr1)).at_ hpn
      have e1 : bits .xor .i64 (f : Int) (k : Int) = (p : Int) := by
        rw [bits_xor f k (by rw [HFE.out]; omega) (by omega), HFE.out, full_xor HF.out hlt, hpe]
      have HT : Hid (tab k (fun k => xs.getD (n - 1 - k) 0) ++ [x] = tab (k + 1) (fun k => xs.getD (n - 1 - k) 0)) := by show _ = _; rw [tab_succ, hx, hpe]
      obtain ⟨ys, hys⟩ : ∃ ys, ys = tab k (fun k => xs.getD (n - 1 - k) 0) := ⟨_, rfl⟩
      rw [← hys] at HT ho
      clear hx hys hpe
      obtain ⟨c1, c2, f1, f2⟩ := HBM.out.cells
      obtain ⟨p1, p2, _, _⟩ := (HBP.out.below hbr1 (by omega)).cells
      have HO := Lib.hid ho; clear ho
      have hwl := HBM.out.lt
      have hi0 : (0 : Int) ≤ (p : Int) := by omega
      have hi1 : (p : Int) < (n : Int) := by omega
      have hp1 : b < wr.heap.size := World.block_lt_of_cell? _ _ hc
      go_wp2_with fail
      go_region_law (first | (have _t := tok1; refine step_push wr.drew rfl _ _ (by rfl) A k C ys _ (w.heap.size + 1 + 1 + 1) wr.drew (by rfl) (by rfl) HO.out (Below.refl _ _) (by simp; omega) (by omega) ?_; intro A' C' w3 ho' hb3; have hbx3 := HBM.out.drew.below hb3 (by simp); have c3 := hbx3.cells.2.1; have f3 := hbx3.cells.2.2.2) | (refine step_call1 rfl 102 (.tmp 19) 3 (by rfl) (.int .i64 s) (.int .i64 f) (by rfl) cf_fullSet (HFS.out _) ?_; have tok1 : True := trivial))
      all_goals
        have HO' := Lib.hid (ho'.setFar (p := ⟨w.heap.size + 1 + 1, 1, none⟩) (fun g hg => by rcases ho'.form with ⟨h, _⟩ | ⟨g', h, h2, _⟩ <;> (rw [h] at hg; cases hg); simp; omega) (.slice A' (k + 1) C'))
        have HBXM := Lib.hid (hbx3.set1 (.slice A' (k + 1) C'))
        have HB3 := Lib.hid ((hbr1.drew.trans (hb3.mono (by omega))).setCell (p := ⟨w.heap.size + 1 + 1, 1, none⟩) (Nat.le_refl _) (.slice A' (k + 1) C'))
        clear ho' hbx3 hb3
        go_wp2_with fail
        go_roundw
        case rel => exact ⟨k + 1, A', C', by omega, by go_num, HBXM.out, by rw [← HT.out]; exact HO'.out, HB3.out⟩
        case measure => simp [intOf]; omega
    · have hk' : k = n := by omega
      subst hk'
      obtain ⟨c1, c2, f1, f2⟩ := HBM.out.cells
      obtain ⟨d1, d2, _, _⟩ := (HBX.out.below hbr1 (by omega)).cells
      have HO := Lib.hid ho; clear ho
      have HB1 := Lib.hid (HB0.out.trans (hbr1.mono (by omega)))
      go_wp2_with fail
      refine bodyPost_ret (v := massV s A k C) (by simp [results, Try.results106, go_sem, d1, d2]) rfl ?_
      refine ⟨A, C, rfl, ?_, (HB1.out.setCell (by simp) _).setCell (by simp) _⟩
      rw [HTU.out]
      exact (HO.out.setBox (by omega) _ _).mono (by omega)
set_option maxHeartbeats 800000 in
theorem iNormalMass_any (s : Int) (a : Option Addr) (n c : Nat) (xs : List Int) (w : World) (hr : Row w a n xs) (hn : n ≤ 1048576) :
    Calls Try.prog 42 #[massV s a n c] w fun e w' => RetM w.heap.size (normalR s xs) e w' ∧ Below w.heap.size w w' := by
  obtain ⟨w0, hw0⟩ : ∃ w0, w0 = (w.alloc (.cells #[.int .i64 s, .slice a n c] 25)).alloc (.cells #[.int .i64 0, .slice none 0 0] 25) := ⟨_, rfl⟩
  have HBP : Hid (Box w0 w.heap.size 25 (.int .i64 s) (.slice a n c)) := by rw [hw0]; exact (Box.new _ _ _ _).alloc _
  have HBX : Hid (Box w0 (w.heap.size + 1) 25 (.int .i64 0) (.slice none 0 0)) := by rw [hw0]; exact alloc_at (by simp)
  have hb0 : Below w.heap.size w w0 := by rw [hw0]; exact ((Below.refl _ _).alloc (Nat.le_refl _) _).alloc (by simp) _
  have HS0 : Hid (w0.heap.size = w.heap.size + 2) := by show _ = _; rw [hw0]; simp
  have hr0 := hr.below hb0
  have HB0 := Lib.hid hb0
  have HW0 := Lib.hid hw0
  clear hw0 hb0
  have HM := Lib.hid (isMass_any s a n c xs w0 hr0 hn)
  by_cases hm : massB s xs = true
  · have hI := massB_is hr.1 hm
    rw [hm] at HM
    have HI := Lib.hid (fun (W : World) (h : Row W a n xs) => withoutNone_any s a n c xs W h (by have := hI.nums; omega) hn (fun k hk => by have := hI.part k hk; omega))
    have HR : Hid (normalR s xs = makeM s (noNone xs)) := if_pos hm
    obtain ⟨r, hr0⟩ : ∃ r, r = makeM s (noNone xs) := ⟨_, rfl⟩
    rw [HR.out, ← hr0]
    rw [← hr0] at HI
    clear hr0 HR hm hI
    go_enter Try.func42, Try.ntmps42
    go_wp2_with fail
    rw [← HW0.out]
    refine HM.out.mono ?_
    rintro e w1 ⟨rfl, b1⟩
    have hlt1 : w.heap.size + 1 < w1.heap.size := by have := b1.size; have := HS0.out; omega
    obtain ⟨c1, c2, _, _⟩ := (HBP.out.below b1 (by rw [HS0.out]; omega)).cells
    have HX1 := Lib.hid (HBX.out.below b1 (by rw [HS0.out]; omega))
    have HB1 := Lib.hid (HB0.out.trans (b1.mono (by rw [HS0.out]; omega)))
    have hr1 := hr0.below b1
    clear b1 hr0
    go_wp2_with fail
    refine (HI.out w1 hr1).mono ?_
    rintro e w3 ⟨⟨A, C, rfl, o3⟩, b3⟩
    obtain ⟨d1, d2, _, _⟩ := (HX1.out.below b3 hlt1).cells
    have hlt2 : w.heap.size + 1 < w1.heap.size := hlt1
    have hle : w.heap.size ≤ w1.heap.size := by omega
    have HO3 := Lib.hid o3
    have HB3 := Lib.hid (HB1.out.trans (b3.mono HB1.out.size))
    clear o3 b3 c1 c2
    go_wp2_with fail
    refine bodyPost_ret (v := .tuple #[massV (rS r) A (rN r) C, .bool (rB r)]) (by simp [results, Try.results42, go_sem, d1, d2]) rfl ?_
    exact ⟨⟨A, C, rfl, (HO3.out.setBox hlt2 _ _).mono hle⟩, (HB3.out.setCell (by simp) _).setCell (by simp) _⟩
  · have hm' : massB s xs = false := by simpa using hm
    rw [hm'] at HM
    rw [show normalR s xs = none from if_neg hm]
    clear hm hm'
    go_enter Try.func42, Try.ntmps42
    go_wp2_with fail
    rw [← HW0.out]
    refine HM.out.mono ?_
    rintro e w1 ⟨rfl, b1⟩
    obtain ⟨d1, d2, _, _⟩ := (HBX.out.below b1 (by rw [HS0.out]; omega)).cells
    have HB1 := Lib.hid (HB0.out.trans (b1.mono (by rw [HS0.out]; omega)))
    clear b1
    go_wp2_with fail
    refine bodyPost_ret (v := .tuple #[massV 0 none 0 0, .bool false]) (by simp [results, Try.results42, go_sem, d1, d2]) rfl ?_
    exact ⟨RetM.none_ _ _, (HB1.out.setCell (by simp) _).setCell (by simp) _⟩
set_option maxHeartbeats 800000 in
theorem iNegateMass_any (s : Int) (a : Option Addr) (n c : Nat) (xs : List Int) (w : World) (hr : Row w a n xs) (hn : n ≤ 1048576) :
    Calls Try.prog 26 #[massV s a n c] w fun e w' => RetM w.heap.size (negR s xs) e w' ∧ Below w.heap.size w w' := by
  obtain ⟨w0, hw0⟩ : ∃ w0, w0 = (w.alloc (.cells #[.int .i64 s, .slice a n c] 25)).alloc (.cells #[.int .i64 0, .slice none 0 0] 25) := ⟨_, rfl⟩
  have HBP : Hid (Box w0 w.heap.size 25 (.int .i64 s) (.slice a n c)) := by rw [hw0]; exact (Box.new _ _ _ _).alloc _
  have HBX : Hid (Box w0 (w.heap.size + 1) 25 (.int .i64 0) (.slice none 0 0)) := by rw [hw0]; exact alloc_at (by simp)
  have hb0 : Below w.heap.size w w0 := by rw [hw0]; exact ((Below.refl _ _).alloc (Nat.le_refl _) _).alloc (by simp) _
  have HS0 : Hid (w0.heap.size = w.heap.size + 2) := by show _ = _; rw [hw0]; simp
  have hr0 := hr.below hb0
  have HB0 := Lib.hid hb0
  have HW0 := Lib.hid hw0
  clear hw0 hb0
  have HM := Lib.hid (isMass_any s a n c xs w0 hr0 hn)
  by_cases hm : massB s xs = true
  · have hI := massB_is hr.1 hm
    rw [hm] at HM
    have HI := Lib.hid (fun (W : World) (h : Row W a n xs) => negated_any s a n c xs W h hI.size hI.nums hI.fit)
    rw [show negR s xs = some (s, turned xs) from if_pos hm]
    clear hm hI
    go_enter Try.func26, Try.ntmps26
    go_wp2_with fail
    rw [← HW0.out]
    refine HM.out.mono ?_
    rintro e w1 ⟨rfl, b1⟩
    have hlt1 : w.heap.size + 1 < w1.heap.size := by have := b1.size; have := HS0.out; omega
    obtain ⟨c1, c2, _, _⟩ := (HBP.out.below b1 (by rw [HS0.out]; omega)).cells
    have HX1 := Lib.hid (HBX.out.below b1 (by rw [HS0.out]; omega))
    have HB1 := Lib.hid (HB0.out.trans (b1.mono (by rw [HS0.out]; omega)))
    have hr1 := hr0.below b1
    clear b1 hr0
    go_wp2_with fail
    refine (HI.out w1 hr1).mono ?_
    rintro e w3 ⟨A, C, rfl, o3, b3⟩
    obtain ⟨d1, d2, _, _⟩ := (HX1.out.below b3 hlt1).cells
    have hlt2 : w.heap.size + 1 < w1.heap.size := hlt1
    have hle : w.heap.size ≤ w1.heap.size := by omega
    have HO3 := Lib.hid o3
    have HB3 := Lib.hid (HB1.out.trans (b3.mono HB1.out.size))
    clear o3 b3 c1 c2
    go_wp2_with fail
    refine bodyPost_ret (v := .tuple #[massV s A n C, .bool true]) (by simp [results, Try.results26, go_sem, d1, d2]) rfl ?_
    exact ⟨RetM.some_ ((HO3.out.setBox hlt2 _ _).mono hle), (HB3.out.setCell (by simp) _).setCell (by simp) _⟩
  · have hm' : massB s xs = false := by simpa using hm
    rw [hm'] at HM
    rw [show negR s xs = none from if_neg hm]
    clear hm hm'
    go_enter Try.func26, Try.ntmps26
    go_wp2_with fail
    rw [← HW0.out]
    refine HM.out.mono ?_
    rintro e w1 ⟨rfl, b1⟩
    obtain ⟨d1, d2, _, _⟩ := (HBX.out.below b1 (by rw [HS0.out]; omega)).cells
    have HB1 := Lib.hid (HB0.out.trans (b1.mono (by rw [HS0.out]; omega)))
    clear b1
    go_wp2_with fail
    refine bodyPost_ret (v := .tuple #[massV 0 none 0 0, .bool false]) (by simp [results, Try.results26, go_sem, d1, d2]) rfl ?_
    exact ⟨RetM.none_ _ _, (HB1.out.setCell (by simp) _).setCell (by simp) _⟩
