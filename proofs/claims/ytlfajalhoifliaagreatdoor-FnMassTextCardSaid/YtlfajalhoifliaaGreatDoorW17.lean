/- Contracts of the functions that make a mass in lowest terms. -/
import Derived.Test.YtlfajalhoifliaaGreatDoorW12
import Derived.Test.YtlfajalhoifliaaGreatDoorBase3
import Derived.Deep.RegionLaw
namespace Go.Proofs.YtlfajalhoifliaaGreatDoor
open Go.RowKit

set_option maxHeartbeats 1600000 in
theorem l3Made_any (s : Int) (a : Option Addr) (n c : Nat) (ps : List Int) (w : World) (hr : Row w a n ps) (hn : n ≤ 1048576) (hp : ∀ k, k < n → 0 ≤ ps.getD k 0 ∧ ps.getD k 0 ≤ 4000000000000000000) :
    Calls Tryz.prog 69 #[.int .i64 s, .slice a n c] w fun e w' => RetM w.heap.size (makeM s ps) e w' ∧ Below w.heap.size w w' := by
  have hb0 : Below w.heap.size w (w.alloc (.cells #[.int .i64 0, .slice none 0 0] 25)) := (Below.refl _ _).alloc (Nat.le_refl _) _
  have HD := Lib.hid (l3Lowest_any a n c ps _ (hr.below hb0) hn (fun k hk => by have := hp k hk; omega))
  by_cases hg : gcdL ps = 0
  · rw [makeM_zero hg]
    rw [hg] at HD
    go_enter Tryz.func69, Tryz.ntmps69
    go_wp2_with fail
    refine HD.out.mono ?_
    rintro e w1 ⟨rfl, rfl⟩
    have b1 := Below.refl (w.alloc (.cells #[.int .i64 0, .slice none 0 0] 25)).heap.size (w.alloc (.cells #[.int .i64 0, .slice none 0 0] 25))
    have hbx := (Box.new w 25 (.int .i64 0) (.slice none 0 0)).below b1 (by simp)
    obtain ⟨c1, c2, f1, f2⟩ := hbx.cells
    have hb := hb0.trans (b1.mono (by simp))
    clear b1
    go_wp2_with fail
    refine bodyPost_ret (v := .tuple #[massV 0 none 0 0, .bool false]) (by simp [results, Tryz.results69, go_sem, c1, c2]) rfl ?_
    exact ⟨RetM.none_ _ _, hb⟩
  · obtain ⟨g, hge⟩ : ∃ g : Nat, g = gcdL ps := ⟨_, rfl⟩
    have hgl : g ≤ 4000000000000000000 := by
      have := gcdL_le (xs := ps) (M := 4000000000000000000) n (by rw [hr.1]; omega) (fun j hj => by have := hp j hj; omega)
      rw [List.take_of_length_le (by rw [hr.1]; omega)] at this
      omega
    have hg1 : 1 ≤ g := by omega
    rw [← hge] at HD
    have HP := Lib.hid hp
    have HLOW : Hid (low ps = tab n (fun k => ps.getD k 0 / (g : Int))) := by rw [hge]; exact low_tab hr.1
    have HGE := Lib.hid hge
    clear hp hg hge
    go_enter Tryz.func69, Tryz.ntmps69
    go_wp2_with fail
    refine HD.out.mono ?_
    obtain ⟨w1, hw1⟩ : ∃ w1, w1 = w.alloc (.cells #[.int .i64 0, .slice none 0 0] 25) := ⟨_, rfl⟩
    rw [← hw1]
    rintro e w' ⟨rfl, rfl⟩
    have b1 : Below (w.alloc (.cells #[.int .i64 0, .slice none 0 0] 25)).heap.size (w.alloc (.cells #[.int .i64 0, .slice none 0 0] 25)) w1 := by rw [hw1]; exact Below.refl _ _
    clear hw1
    have hbr := (Box.new w 25 (.int .i64 0) (.slice none 0 0)).below b1 (by simp)
    have hb1 := hb0.trans (b1.mono (by simp))
    have hlt1 : w.heap.size < w1.heap.size := hbr.lt
    clear b1
    have hbm : Box (w1.alloc (.cells #[.int .i64 s, .slice none 0 0] 25)) w1.heap.size 25 (.int .i64 s) (.slice none 0 0) := Box.new _ _ _ _
    have hbq : Below w1.heap.size w1 (w1.alloc (.cells #[.int .i64 s, .slice none 0 0] 25)) := (Below.refl _ _).alloc (Nat.le_refl _) _
    have hn0 : Own (w1.heap.size + 1) (w1.alloc (.cells #[.int .i64 s, .slice none 0 0] 25)) none 0 0 [] := Own.nil _ _
    have hne : ((g : Int) == 0) = false := by simp; omega
    have hr1 := hr.below hb1
    have HBM := Lib.hid hbm
    clear hbm
    go_wp2_with fail
    go_loopw [8] (fun i wr => ∃ (k : Nat) (A : Option Addr) (C : Nat), k ≤ n ∧ i = .int .i64 k ∧ Hid (Box wr w1.heap.size 25 (.int .i64 s) (.slice A k C)) ∧ Own (w1.heap.size + 1) wr A k C (tab k (fun k => ps.getD k 0 / (g : Int))) ∧ Below w1.heap.size w1 wr) (fun i _ => n - (intOf i).toNat)
    case atStart => exact ⟨0, _, _, Nat.zero_le _, rfl, HBM, hn0, hbq⟩
    case round =>
      obtain ⟨k, A, C, hk, rfl, HBM, ho, hbr1⟩ := hrel
      clear hn0 hbq
      by_cases hlt : k < n
      · obtain ⟨b, off, x, rfl, hx, hc⟩ := (hr1.below hbr1).at_ hlt
        have hxb := HP.out k hlt
        rw [← hx] at hxb
        have HT : Hid (tab k (fun k => ps.getD k 0 / (g : Int)) ++ [x / (g : Int)] = tab (k + 1) (fun k => ps.getD k 0 / (g : Int))) := by show _ = _; rw [tab_succ, hx]
        obtain ⟨ys, hys⟩ : ∃ ys, ys = tab k (fun k => ps.getD k 0 / (g : Int)) := ⟨_, rfl⟩
        rw [← hys] at HT ho
        clear hx hys
        obtain ⟨c1, c2, f1, f2⟩ := HBM.out.cells
        have HO := Lib.hid ho; clear ho
        have hwl := HBM.out.lt
        have hq0 : 0 ≤ x / (g : Int) := Int.ediv_nonneg hxb.1 (by omega)
        have hq1 : x / (g : Int) ≤ x := Int.ediv_le_self _ hxb.1
        have hwr : IntKind.i64.wrap (x.tdiv (g : Int)) = x / (g : Int) := by rw [Int.tdiv_eq_ediv_of_nonneg hxb.1]; exact IntWalk.i64_in _ (by omega)
        obtain ⟨y, hy⟩ : ∃ y, y = x / (g : Int) := ⟨_, rfl⟩
        rw [← hy] at hwr HT hq0 hq1
        clear hy
        have hg0 : ¬ g = 0 := by omega
        go_wp2_with fail
        go_region_law (refine step_push wr.drew rfl _ _ (by rfl) A k C ys _ (w1.heap.size + 1) wr.drew (by rfl) (by rfl) HO.out (Below.refl _ _) (by simp; omega) (by omega) ?_; intro A' C' w3 ho' hb3; have hbx3 := HBM.out.drew.below hb3 (by simp); have c3 := hbx3.cells.2.1; have f3 := hbx3.cells.2.2.2)
        all_goals
          have HO' := Lib.hid (ho'.setFar (p := ⟨w1.heap.size, 1, none⟩) (fun g hg => by rcases ho'.form with ⟨h, _⟩ | ⟨g', h, h2, _⟩ <;> (rw [h] at hg; cases hg); simp; omega) (.slice A' (k + 1) C'))
          have HBX := Lib.hid (hbx3.set1 (.slice A' (k + 1) C'))
          have HB3 := Lib.hid ((hbr1.drew.trans (hb3.mono (by omega))).setCell (p := ⟨w1.heap.size, 1, none⟩) (Nat.le_refl _) (.slice A' (k + 1) C'))
          clear ho' hbx3 hb3
          go_wp2_with fail
          go_roundw
          case rel => exact ⟨k + 1, A', C', by omega, by go_num, HBX.out, by rw [← HT.out]; exact HO'.out, HB3.out⟩
          case measure => simp [intOf]; omega
      · have hk' : k = n := by omega
        have hlow : tab k (fun k => ps.getD k 0 / (g : Int)) = low ps := by rw [HLOW.out, hk']
        rw [hlow] at ho
        subst hk'
        obtain ⟨c1, c2, f1, f2⟩ := HBM.out.cells
        have HM := Lib.hid (MassValid_any s A k C (low ps) wr ho.row hn)
        have HO := Lib.hid ho
        have hgz : gcdL ps ≠ 0 := by rw [← HGE.out]; omega
        have HGZ := Lib.hid hgz
        clear ho hlow hgz
        by_cases hm : massB s (low ps) = true
        · rw [hm] at HM
          have HMM := Lib.hid (makeM_yes HGZ.out hm)
          clear hm
          go_wp2_with fail
          refine HM.out.mono ?_
          rintro e w4 ⟨rfl, b4⟩
          obtain ⟨d1, d2, _, _⟩ := (HBM.out.below b4 HBM.out.lt).cells
          have hb4 := hbr1.trans (b4.mono hbr1.size)
          obtain ⟨r1, r2, q1, q2⟩ := (hbr.below hb4 hlt1).cells
          have HO4 := Lib.hid (HO.out.below b4)
          have HB4 := Lib.hid (hb1.trans (hb4.mono hb1.size))
          clear b4 hb4 c1 c2 f1 f2
          go_wp2_with fail
          refine bodyPost_ret (v := .tuple #[massV s A k C, .bool true]) (by simp [results, Tryz.results69, go_sem, r1, r2]) rfl ?_
          refine ⟨?_, (HB4.out.setCell (by simp) _).setCell (by simp) _⟩
          rw [HMM.out]
          have hx := HO4.out
          refine RetM.some_ (((hx.setFar (fun g hg => ?_) _).setFar (fun g hg => ?_) _).mono (by omega))
          · rcases hx.form with ⟨h, _⟩ | ⟨g', h, h2, _⟩ <;> (rw [h] at hg; cases hg)
            simp
            omega
          · rcases hx.form with ⟨h, _⟩ | ⟨g', h, h2, _⟩ <;> (rw [h] at hg; cases hg)
            simp
            omega
        · have hm' : massB s (low ps) = false := by simpa using hm
          rw [hm'] at HM
          have HMM := Lib.hid (makeM_no HGZ.out hm')
          clear hm hm'
          go_wp2_with fail
          refine HM.out.mono ?_
          rintro e w4 ⟨rfl, b4⟩
          have hb4 := hbr1.trans (b4.mono hbr1.size)
          obtain ⟨r1, r2, q1, q2⟩ := (hbr.below hb4 hlt1).cells
          have HB4 := Lib.hid (hb1.trans (hb4.mono hb1.size))
          clear b4 hb4 c1 c2 f1 f2
          go_wp2_with fail
          refine bodyPost_ret (v := .tuple #[massV 0 none 0 0, .bool false]) (by simp [results, Tryz.results69, go_sem, r1, r2]) rfl ?_
          refine ⟨?_, (HB4.out.setCell (by simp) _).setCell (by simp) _⟩
          rw [HMM.out]
          exact RetM.none_ _ _
end Go.Proofs.YtlfajalhoifliaaGreatDoor
