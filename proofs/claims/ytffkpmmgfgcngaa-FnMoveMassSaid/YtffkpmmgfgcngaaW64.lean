/- Contracts of MoveMass, of the program. -/
import Derived.Test.YtffkpmmgfgcngaaW63
import Derived.Test.YtffkpmmgfgcngaaW17
import Derived.Test.YtffkpmmgfgcngaaW13
namespace Go.Proofs.Ytffkpmmgfgcngaa
open Go.RowKit

/-- the parts that the first sets get -/
def accT (f : Nat → Nat) (n : Nat) (xs : List Int) : Nat → List Int
  | 0 => List.replicate n 0
  | k + 1 => (accT f n xs k).set (f k) ((accT f n xs k).getD (f k) 0 + xs.getD k 0)
theorem accT_length (f : Nat → Nat) (n : Nat) (xs : List Int) : ∀ k, (accT f n xs k).length = n
  | 0 => by simp [accT]
  | k + 1 => by simp [accT, accT_length f n xs k]
theorem accT_getD {f : Nat → Nat} {n : Nat} {xs : List Int} (hf : ∀ j, j < n → f j < n) {c : Nat} (hc : c < n) : ∀ k, k ≤ n → (accT f n xs k).getD c 0 = sumTo (fun a => if f a = c then xs.getD a 0 else 0) k
  | 0, _ => by simp [accT, sumTo, List.getD, hc]
  | k + 1, hk => by
    have ih := accT_getD (xs := xs) hf hc k (by omega)
    have hl := accT_length f n xs k
    have hfk := hf k (by omega)
    simp only [accT, sumTo]
    by_cases e : f k = c
    · subst e
      rw [if_pos rfl, ← ih]
      simp [List.getD, hl, hc]
    · rw [if_neg e, ← ih]
      simp [List.getD, e]
theorem accT_done {f g : Nat → Nat} {n : Nat} {xs : List Int} (hn : xs.length = n) (h : Perm n f g) : accT f n xs n = movedP g xs := by
  refine getD_ext (n := n) (accT_length _ _ _ _) (by rw [movedP_length, hn]) (fun c hc => ?_)
  rw [accT_getD h.lt hc n (Nat.le_refl _), movedP_getD hn hc, moved_sum h (fun a => xs.getD a 0) hc]
theorem accT_bound {f : Nat → Nat} {n : Nat} {xs : List Int} (hf : ∀ j, j < n → f j < n) (hn16 : n ≤ 16) (hx : ∀ k, k < n → 0 ≤ xs.getD k 0 ∧ xs.getD k 0 ≤ 1000000) {k c : Nat} (hk : k ≤ n) (hc : c < n) : 0 ≤ (accT f n xs k).getD c 0 ∧ (accT f n xs k).getD c 0 ≤ 16000000 := by
  rw [accT_getD hf hc k hk]
  have hb := sumTo_between (f := fun a => if f a = c then xs.getD a 0 else 0) k 1000000 (fun a ha => by
    have := hx a (by omega)
    show 0 ≤ (if f a = c then xs.getD a 0 else 0) ∧ (if f a = c then xs.getD a 0 else 0) ≤ 1000000
    split <;> omega)
  omega
set_option maxHeartbeats 3200000 in
set_option maxRecDepth 100000 in
theorem mapped_any (K : Nat) (p : Addr) (hcf : ∀ (args : Array Value) (w : World), (callFunc K args).run Try.prog w = .ok (.enter K args) w) (f : Nat → Nat) (m : Nat)
    (a : Option Addr) (n c : Nat) (xs : List Int) (w : World) (hr : Row w a n xs) (hm : 1 ≤ m ∧ m ≤ 4) (hnn : n = 2 ^ m) (hlt' : ∀ j, j < n → f j < n) (hx : ∀ k, k < n → 0 ≤ xs.getD k 0 ∧ xs.getD k 0 ≤ 1000000)
    (hf : ∀ (j : Nat) (W : World), j < n → Below w.heap.size w W → Calls Try.prog K #[.int .i64 j, .pointer (some p)] W fun e w' => e = .returned (.int .i64 (f j : Nat)) ∧ W = w') :
    Calls Try.prog 121 #[massV m a n c, .int .i64 m, .func (.func K) #[] #[.pointer (some p)]] w fun e w' => RetM w.heap.size (makeM m (accT f n xs n)) e w' ∧ Below w.heap.size w w' := by
  have hn16 : 2 ≤ n ∧ n ≤ 16 := by have h : m = 1 ∨ m = 2 ∨ m = 3 ∨ m = 4 := (by omega); rcases h with rfl | rfl | rfl | rfl <;> simp at hnn <;> omega
  have hsh : wrap64 (2 ^ m) = (n : Int) := by
    have h : m = 1 ∨ m = 2 ∨ m = 3 ∨ m = 4 := (by omega)
    rcases h with rfl | rfl | rfl | rfl <;> (rw [hnn]; decide +kernel)
  have hlb : ∀ k, k ≤ n → ∀ c, c < n → 0 ≤ (accT f n xs k).getD c 0 ∧ (accT f n xs k).getD c 0 ≤ 16000000 := fun k hk c hc => accT_bound hlt' hn16.2 hx hk hc
  obtain ⟨r, hr1⟩ : ∃ r, r = makeM (m : Int) (accT f n xs n) := ⟨_, rfl⟩
  rw [← hr1]
  have HR1 := Lib.hid hr1
  clear hr1
  have HLB := Lib.hid hlb
  have HLT := Lib.hid hlt'
  have HX := Lib.hid hx
  have HF := Lib.hid hf
  clear hlb hlt' hx hf hnn
  obtain ⟨w0, hw0⟩ : ∃ w0, w0 = (w.alloc (.cells #[.int .i64 m, .slice a n c] 25)).alloc (.cells #[.int .i64 0, .slice none 0 0] 25) := ⟨_, rfl⟩
  have HBM : Hid (Box w0 w.heap.size 25 (.int .i64 m) (.slice a n c)) := by rw [hw0]; exact (Box.new _ _ _ _).alloc _
  have HBX : Hid (Box w0 (w.heap.size + 1) 25 (.int .i64 0) (.slice none 0 0)) := by rw [hw0]; exact alloc_at (by simp)
  have HB0 : Hid (Below w.heap.size w w0) := by rw [hw0]; exact ((Below.refl _ _).alloc (Nat.le_refl _) _).alloc (by simp) _
  have HS0 : Hid (w0.heap.size = w.heap.size + 1 + 1) := by show _ = _; rw [hw0]; simp
  have hr0 := hr.below HB0.out
  have HW0 := Lib.hid hw0; clear hw0 hr
  obtain ⟨i0, hi, hz0, hz1, hz2⟩ := info_parts info_int
  go_enter Try.func121, Try.ntmps121
  go_wp2_with (at_make; go_loud (refine wpList_make_full _ rfl _ _ 23 rfl (w.heap.size + 1 + 1) 3 i0 (.int .i64 0) 1 Try.underlying23 hi hz0 hz1 _ _ _ _ n rfl rfl (by first | exact hsh | rfl | simp) (by first | exact hsh | rfl | simp) (by rw [hz2]; omega) (by unfold maxLen; omega) (by simp) ?_))
  intro w1 hown hg
  rw [toList_madeCells_one, ← List.map_replicate (f := Value.int .i64) (a := 0)] at hown
  rw [← HW0.out] at hg
  have how : Own (w.heap.size + 1 + 1) w1 (some ⟨w.heap.size + 1 + 1, 0, none⟩) n n (accT f n xs 0) := hown
  have hbw : Below (w.heap.size + 1 + 1) w0 w1 := (Below.refl _ _).grown hg (by rw [HS0.out]; exact Nat.le_refl _) (fun k h => by cases h)
  clear hown hg hi hz0 hz1 hz2
  obtain ⟨c1, c2, _, _⟩ := (HBM.out.below hbw (by omega)).cells
  go_wp2_with fail
  clear c1 c2
  go_loopw [17] (fun i wr => ∃ k : Nat, k ≤ n ∧ i = .int .i64 k ∧ Hid (Own (w.heap.size + 1 + 1) wr (some ⟨w.heap.size + 1 + 1, 0, none⟩) n n (accT f n xs k)) ∧ Hid (Below (w.heap.size + 1 + 1) w0 wr)) (fun i _ => n - (intOf i).toNat)
  case atStart => exact ⟨0, Nat.zero_le _, rfl, how, hbw⟩
  case round =>
    obtain ⟨k, hk, rfl, HO, HBR⟩ := hrel
    clear how hbw
    by_cases hlt : k < n
    · obtain ⟨b, off, x, rfl, hxe, hc⟩ := (hr0.below (by rw [HS0.out]; exact HBR.out)).at_ hlt
      have hxb := HX.out k hlt
      rw [← hxe] at hxb
      have hcn := HLT.out k hlt
      have htb := HLB.out k hk (f k) hcn
      have hcl := HO.out.cell hcn
      have hfr := HO.out.frozen (f k)
      have HC := Lib.hid (HF.out k wr hlt (HB0.out.trans (HBR.out.mono (by omega))))
      obtain ⟨t, ht⟩ : ∃ t, t = (accT f n xs k).getD (f k) 0 := ⟨_, rfl⟩
      rw [← ht] at hcl htb
      obtain ⟨q, hq⟩ : ∃ q, q = f k := ⟨_, rfl⟩
      have HST : Hid (accT f n xs (k + 1) = (accT f n xs k).set q (t + x)) := by show _ = _; simp only [accT]; rw [ht, hxe, hq]
      rw [← hq] at hcn hcl hfr HC
      clear ht hq hxe
      have hi1 : (q : Int) < (n : Int) := by omega
      go_wp2_with fail
      refine HC.out.mono ?_
      rintro e w' ⟨rfl, rfl⟩
      go_wp2_with fail
      go_roundw
      case rel => exact ⟨k + 1, by omega, by go_num, by rw [HST.out]; exact HO.out.set q (t + x), HBR.out.setCell (Nat.le_refl _) _⟩
      case measure => simp [intOf]; omega
    · obtain rfl : n = k := by omega
      have HK := Lib.hid (makeMass_any (m : Int) (some ⟨w.heap.size + 1 + 1, 0, none⟩) n n (accT f n xs n) wr HO.out.row (by omega) (fun j hj => by have := HLB.out n (Nat.le_refl _) j hj; omega))
      rw [← HR1.out] at HK
      clear hlt
      go_wp2_with fail
      refine HK.out.mono ?_
      rintro e w3 ⟨⟨A3, C3, rfl, o3⟩, b3⟩
      have hs0 := HS0.out
      have hs1 := HBR.out.size
      have hb3 := (HBR.out.trans (b3.mono (by omega)))
      obtain ⟨d1, d2, _, _⟩ := (HBX.out.below hb3 (by omega)).cells
      have HO3 := Lib.hid o3
      have HB3 := Lib.hid (HB0.out.trans (hb3.mono (by omega)))
      have hz3 : w.heap.size + 1 < wr.heap.size := by omega
      clear b3 hb3 o3 hs0 hs1
      go_wp2_with fail
      refine bodyPost_ret (v := .tuple #[massV (rS r) A3 (rN r) C3, .bool (rB r)]) (by simp [results, Try.results121, go_sem, d1, d2]) rfl ?_
      exact ⟨⟨A3, C3, rfl, (HO3.out.setBox hz3 _ _).mono (by omega)⟩, (HB3.out.setCell (by simp) _).setCell (by simp) _⟩
set_option maxHeartbeats 800000 in
theorem cloMove (m x0 : Nat) (p : Addr) (a : Option Addr) (n c : Nat) (to : List Int) (w : World) (hp : w.cell? p = some (.slice a n c)) (hr : Row w a n to) (hm : m ≤ 4) (hnm : n ≤ 4) (hx16 : x0 < 16) (hin : to.all (inB m) = true) :
    Calls Try.prog 122 #[.int .i64 x0, .pointer (some p)] w fun e w' => e = .returned (.int .i64 (imgOf to x0 : Nat)) ∧ w = w' := by
  have HI := Lib.hid (imageOf_any m x0 a n c to w hr hm hnm hx16 hin)
  clear hr hin
  go_enter Try.func122, Try.ntmps122
  go_wp2_with fail
  refine HI.out.mono ?_
  rintro e w' ⟨rfl, rfl⟩
  go_wp2_with fail
  go_ret
  exact ⟨rfl, rfl⟩
theorem moveR_no {s : Int} {xs to : List Int} (h : (massB s xs && orderB s.toNat to) = false) : moveR s xs to = none := if_neg (by simp [h])
/-- what is told of moved parts -/
theorem move_told {s : Int} {xs to : List Int} {n : Nat} (hn : xs.length = n) (hm : massB s xs = true) (ho : orderB s.toNat to = true) : ∃ m : Nat, s = m ∧ (1 ≤ m ∧ m ≤ 4) ∧ n = 2 ^ m ∧ to.length = m ∧ to.all (inB m) = true ∧ Perm n (imgOf to) (imgOf (backL to)) ∧ goodB m to = true ∧ moveR s xs to = makeM s (accT (imgOf to) n xs n) := by
  have hI := massB_is hn hm
  obtain ⟨m, rfl⟩ : ∃ m : Nat, s = m := ⟨s.toNat, by have := size_cases hI.size; omega⟩
  rw [Int.toNat_natCast] at ho
  have hm4 : 1 ≤ m ∧ m ≤ 4 := by have := size_cases hI.size; omega
  have hnn : n = 2 ^ m := by
    have h : (n : Int) = 2 ^ (m : Int).toNat := by simpa [fitB] using hI.fit
    rw [Int.toNat_natCast] at h
    exact_mod_cast h
  have hg := order_good hm4 ho
  have hp := good_perm hg hnn
  have ho2 := ho
  unfold orderB at ho2
  simp only [Bool.and_eq_true, beq_iff_eq] at ho2
  refine ⟨m, rfl, hm4, hnn, ho2.2.1, ho2.1, hp, hg, ?_⟩
  rw [accT_done hn hp, makeM_self (moved_mass hm hn hp)]
  unfold moveR
  rw [Int.toNat_natCast, hm, ho]
  rfl
set_option maxHeartbeats 3200000 in
set_option maxRecDepth 100000 in
theorem iMoveMass_any (s : Int) (a : Option Addr) (n c : Nat) (xs : List Int) (a2 : Option Addr) (n2 c2 : Nat) (to : List Int) (w : World) (hr : Row w a n xs) (hr2 : Row w a2 n2 to) (hn : n ≤ 1048576) (hn2 : n2 ≤ 1048576) :
    Calls Try.prog 45 #[massV s a n c, .slice a2 n2 c2] w fun e w' => RetM w.heap.size (moveR s xs to) e w' ∧ Below w.heap.size w w' := by
  obtain ⟨w0, hw0⟩ : ∃ w0, w0 = ((w.alloc (.cells #[.int .i64 s, .slice a n c] 25)).alloc (.cells #[.slice a2 n2 c2] 23)).alloc (.cells #[.int .i64 0, .slice none 0 0] 25) := ⟨_, rfl⟩
  have HBM : Hid (Box w0 w.heap.size 25 (.int .i64 s) (.slice a n c)) := by rw [hw0]; exact ((Box.new _ _ _ _).alloc _).alloc _
  have HBX : Hid (Box w0 (w.heap.size + 1 + 1) 25 (.int .i64 0) (.slice none 0 0)) := by rw [hw0]; exact alloc_at (by simp)
  have HBT : Hid (w0.cell? ⟨w.heap.size + 1, 0, none⟩ = some (.slice a2 n2 c2)) := by
    show _ = _
    rw [hw0]
    have hb : Below (w.heap.size + 1 + 1) ((w.alloc (.cells #[.int .i64 s, .slice a n c] 25)).alloc (.cells #[.slice a2 n2 c2] 23)) (((w.alloc (.cells #[.int .i64 s, .slice a n c] 25)).alloc (.cells #[.slice a2 n2 c2] 23)).alloc (.cells #[.int .i64 0, .slice none 0 0] 25)) := (Below.refl _ _).alloc (by simp) _
    refine (hb.cell (by simp)).trans ?_
    exact cell_one_new' _ _ _ (by simp)
  have HB0 : Hid (Below w.heap.size w w0) := by rw [hw0]; exact (((Below.refl _ _).alloc (Nat.le_refl _) _).alloc (by simp) _).alloc (by simp; omega) _
  have HS0 : Hid (w0.heap.size = w.heap.size + 1 + 1 + 1) := by show _ = _; rw [hw0]; simp
  have hr0 := hr.below HB0.out
  have hr20 := hr2.below HB0.out
  have HW0 := Lib.hid hw0; clear hw0 hr hr2
  have HM := Lib.hid (isMass_any s a n c xs w0 hr0 hn)
  by_cases hm : massB s xs = true
  · rw [hm] at HM
    have hI := massB_is hr0.1 hm
    obtain ⟨m0, rfl⟩ : ∃ m : Nat, s = m := ⟨s.toNat, by have := size_cases hI.size; omega⟩
    have hm4 : 1 ≤ m0 ∧ m0 ≤ 4 := by have := size_cases hI.size; omega
    have HQ := Lib.hid (fun W (h : Row W a2 n2 to) => isOrder_any m0 a2 n2 c2 to W h hn2 hm4)
    by_cases ho : orderB m0 to = true
    · rw [ho] at HQ
      obtain ⟨m, hmm, _, hnn, hlt, hin, hp, _, hmr⟩ := move_told hr0.1 hm (by rw [Int.toNat_natCast]; exact ho)
      obtain rfl : m0 = m := by omega
      have hn16 : n ≤ 16 := by have := hI.nums; omega
      have hn2m : n2 = m0 := by rw [← hlt]; exact hr20.1.symm
      have HK := Lib.hid (fun W (h : Row W a n xs) (h2 : Row W a2 n2 to) (hc : W.cell? ⟨w.heap.size + 1, 0, none⟩ = some (.slice a2 n2 c2)) (hlt0 : w.heap.size + 1 < W.heap.size) =>
        mapped_any 122 ⟨w.heap.size + 1, 0, none⟩ (fun _ _ => by kernel_rfl) (imgOf to) m0 a n c xs W h hm4 hnn hp.lt hI.part
          (fun j W' hj hb => cloMove m0 j ⟨w.heap.size + 1, 0, none⟩ a2 n2 c2 to W' ((hb.cell hlt0).trans hc) (h2.below hb) hm4.2 (by omega) (by omega) hin))
      rw [← hmr] at HK
      obtain ⟨r, hrr⟩ : ∃ r, r = moveR (m0 : Int) xs to := ⟨_, rfl⟩
      rw [← hrr] at HK ⊢
      have HR := Lib.hid hr0
      have HR2 := Lib.hid hr20
      clear hm hI ho hnn hlt hin hp hmr hrr hr0 hr20 hmm hn2m
      go_enter Try.func45, Try.ntmps45
      go_wp2_with fail
      rw [← HW0.out]
      refine HM.out.mono ?_
      rintro e w1 ⟨rfl, b1⟩
      obtain ⟨c1, c2', _, _⟩ := (HBM.out.below b1 HBM.out.lt).cells
      have ct : w1.cell? ⟨w.heap.size + 1, 0, none⟩ = some (.slice a2 n2 c2) := (b1.cell (by rw [HS0.out]; simp)).trans HBT.out
      have hb1s := b1.size
      have HR1 := Lib.hid (HR.out.below b1)
      have HR21 := Lib.hid (HR2.out.below b1)
      have HX1 := Lib.hid (HBX.out.below b1 HBX.out.lt)
      have HB1 := Lib.hid (HB0.out.trans (b1.mono HB0.out.size))
      have hs0 := HS0.out
      clear b1 HBM HBX HBT HM HR HR2
      go_wp2_with fail
      refine (HQ.out _ HR21.out).mono ?_
      rintro e w' ⟨rfl, rfl⟩
      go_wp2_with fail
      refine (HK.out _ HR1.out HR21.out ct (by omega)).mono ?_
      rintro e w3 ⟨⟨A3, C3, rfl, o3⟩, b3⟩
      obtain ⟨d1, d2, _, _⟩ := (HX1.out.below b3 HX1.out.lt).cells
      have hz3 : w.heap.size + 1 + 1 < w1.heap.size := by omega
      have HO3 := Lib.hid o3
      have HB3 := Lib.hid (HB1.out.trans (b3.mono HB1.out.size))
      clear b3 o3
      go_wp2_with fail
      refine bodyPost_ret (v := .tuple #[massV (rS r) A3 (rN r) C3, .bool (rB r)]) (by simp [results, Try.results45, go_sem, d1, d2]) rfl ?_
      exact ⟨⟨A3, C3, rfl, (HO3.out.setBox hz3 _ _).mono (by omega)⟩, (HB3.out.setCell (by simp; omega) _).setCell (by simp; omega) _⟩
    · have ho' : orderB m0 to = false := by simpa using ho
      rw [ho'] at HQ
      rw [moveR_no (show (massB (m0 : Int) xs && orderB (m0 : Int).toNat to) = false by rw [Int.toNat_natCast, ho']; simp)]
      have HR2 := Lib.hid hr20
      clear hm hI ho ho' hr0 hr20
      go_enter Try.func45, Try.ntmps45
      go_wp2_with fail
      rw [← HW0.out]
      refine HM.out.mono ?_
      rintro e w1 ⟨rfl, b1⟩
      obtain ⟨c1, c2', _, _⟩ := (HBM.out.below b1 HBM.out.lt).cells
      obtain ⟨d1, d2, _, _⟩ := (HBX.out.below b1 HBX.out.lt).cells
      have ct : w1.cell? ⟨w.heap.size + 1, 0, none⟩ = some (.slice a2 n2 c2) := (b1.cell (by rw [HS0.out]; simp)).trans HBT.out
      have HR21 := Lib.hid (HR2.out.below b1)
      have HB1 := Lib.hid (HB0.out.trans (b1.mono HB0.out.size))
      clear b1
      go_wp2_with fail
      refine (HQ.out _ HR21.out).mono ?_
      rintro e w' ⟨rfl, rfl⟩
      go_wp2_with fail
      refine bodyPost_ret (v := .tuple #[massV 0 none 0 0, .bool false]) (by simp [results, Try.results45, go_sem, d1, d2]) rfl ?_
      exact ⟨RetM.none_ _ _, (HB1.out.setCell (by simp; omega) _).setCell (by simp; omega) _⟩
  · have hm' : massB s xs = false := by simpa using hm
    rw [hm'] at HM
    rw [moveR_no (show (massB s xs && orderB s.toNat to) = false by rw [hm']; rfl)]
    clear hm hm'
    go_enter Try.func45, Try.ntmps45
    go_wp2_with fail
    rw [← HW0.out]
    refine HM.out.mono ?_
    rintro e w1 ⟨rfl, b1⟩
    obtain ⟨d1, d2, _, _⟩ := (HBX.out.below b1 HBX.out.lt).cells
    have HB1 := Lib.hid (HB0.out.trans (b1.mono HB0.out.size))
    clear b1
    go_wp2_with fail
    refine bodyPost_ret (v := .tuple #[massV 0 none 0 0, .bool false]) (by simp [results, Try.results45, go_sem, d1, d2]) rfl ?_
    exact ⟨RetM.none_ _ _, (HB1.out.setCell (by simp; omega) _).setCell (by simp; omega) _⟩
end Go.Proofs.Ytffkpmmgfgcngaa
