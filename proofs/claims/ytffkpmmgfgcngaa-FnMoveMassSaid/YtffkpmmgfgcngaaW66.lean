/- Contracts: an order of answers is drawn; the arguments of FnMoveMass are drawn. -/
import Derived.Test.YtffkpmmgfgcngaaW58
import Derived.Test.YtffkpmmgfgcngaaW55
import Derived.Deep.RegionHeld3
namespace Go.Proofs.Ytffkpmmgfgcngaa
open Go.RowKit

/-- append of some cells to a list of the call's own, inside a region that draws its order -/
theorem step_app (wr : World) {ops : Array Oper} {o : Oper} {a : Act} {K : Act → World → Prop} {Q : Exit → Act → World → Prop} {E : Prop} (hgd : o.guard = none) (s x : Operand)
    (hop : o.op = .call { callee := .builtin .append, args := #[s, x], argTypes := #[23, 23] })
    (G k C : Nat) (xs : List Int) (ad : Addr) (m c : Nat) (ys : List Int) (B : Nat) (w0 : World) (hs : a.eval s = .slice (some ⟨G, 0, none⟩) k C) (hx : a.eval x = .slice (some ad) m c)
    (ho : Own B wr (some ⟨G, 0, none⟩) k C xs) (hl : ys.length = m) (hc : ∀ j, j < m → wr.cell? (ad.add j) = some (.int .i64 (ys.getD j 0))) (hbr : Below B w0 wr) (hB : B ≤ wr.heap.size) (hk : k + m ≤ 1048576)
    (h : ∀ G' C' w1, Own B w1 (some ⟨G', 0, none⟩) (k + m) C' (xs ++ ys) → Below B w0 w1 → wr.grownBy w1 (some G) → K (a.put o.dst (.slice (some ⟨G', 0, none⟩) (k + m) C')) w1) :
    if Region.wanted o (yielded ops a.tmps) = true then Oper.wp Try.prog o a wr K Q else E := by
  have hw : Region.wanted o (yielded ops a.tmps) = true := by simp [Region.wanted, hgd]
  rw [if_pos hw]
  obtain ⟨i0, gi, gz0, gz1, gz2⟩ := info_parts info_int
  refine wp_append_own _ s x 23 hop B 3 i0 (.int .i64 0) 1 8 Try.underlying23 gi gz0 gz1 gz2 rfl (by decide) _ k _ hs ho ad m c (ys.map (Value.int .i64)) hx (by simp [hl]) ?_ (ints_oneCell _ _) ?_ ?_ hB ?_
  · intro j u hj
    have hjm : j < m := by
      have := (List.getElem?_eq_some_iff.1 hj).1
      simpa [hl] using this
    rw [hc j hjm, ← hj]
    simp [List.getD, show j < ys.length by omega]
  · unfold maxLen; omega
  · omega
  · intro v' w1 hown' hgrow hnil
    have hs2 : xs.map (Value.int .i64) ++ ys.map (Value.int .i64) = (xs ++ ys).map (Value.int .i64) := by simp
    rw [hs2] at hown'
    have hg1 : wr.grownBy w1 (some G) := by simpa [Value.ownBlock] using hgrow
    have hb : Below B w0 w1 := by
      refine hbr.grown hg1 hB (fun g hgk => ?_)
      rcases ho.form with ⟨h1, _⟩ | ⟨g', h1, h2, _, _⟩
      · cases h1
      · cases h1; cases hgk; exact h2
    rcases hown'.2 with ⟨h0, _⟩ | ⟨g, cap, cur, h1, _⟩
    · have := hnil.1 h0
      cases this.1
    · subst h1
      exact h g cap w1 hown' hb hg1
theorem one_cell {w : World} {J : Nat} {z : Int} (h : w.cell? ⟨J, 0, none⟩ = some (.int .i64 z)) : ∀ i, i < 1 → w.cell? ((⟨J, 0, none⟩ : Addr).add i) = some (.int .i64 ([z].getD i 0)) := fun i hi => by
  obtain rfl : i = 0 := by omega
  rw [Addr.add_lit]
  simpa using h
theorem grown_cell {w w' : World} {G J o : Nat} (hg : w.grownBy w' (some G)) (h : J < w.heap.size) (hne : J ≠ G) : w'.cell? ⟨J, o, none⟩ = w.cell? ⟨J, o, none⟩ := by
  have h2 := hg.block J h (fun e => by cases e; exact hne rfl)
  unfold World.cell?
  simp [h2]
set_option maxHeartbeats 3200000 in
set_option maxRecDepth 100000 in
theorem l1Order_any {w0 : World} (k : Nat) (q z : Int) (w : World) (hB : Below w0.heap.size w0 w) (hk : w0.heap.size ≤ k) (hx : Src w0 k q w) (hq : 0 ≤ q ∧ q ≤ 800000) (hz : 0 ≤ z ∧ z ≤ 5) :
    Calls Try.prog 119 #[.pointer (some ⟨k, 0, none⟩), .int .i64 z] w fun e w' => DrawnL w0 k q 20 w e w' := by
  have hkw := hx.lt
  have HB := Lib.hid hB
  have L0 := Lib.hid (Li.new hx)
  clear hx hB
  go_enter Try.func119, Try.ntmps119
  go_wp2_with fail
  go_loopw [5, 6] (fun v i wr => ∃ (j : Nat) (g l C : Nat), (j : Int) ≤ z ∧ i = .int .i64 j ∧ v = .slice (some ⟨g, 0, none⟩) l C ∧ l ≤ j ∧ Hid (Li w0 w k q j (some ⟨g, 0, none⟩) l C wr)) (fun _ i _ => z.toNat - (intOf i).toNat)
  case atStart => exact ⟨0, _, 0, 0, by omega, rfl, rfl, Nat.le_refl _, L0.out⟩
  case round =>
    obtain ⟨j, g, l, C, hj, rfl, rfl, hl, L⟩ := hrel
    by_cases hlt : (j : Int) < z
    · have HP := Lib.hid (L.out.pick (m := (l : Int) + 1) HB.out hk hkw (by omega) (by omega))
      clear L0
      go_wp2_with fail
      refine HP.out.mono ?_
      rintro e w1 ⟨y, rfl, hy, l1, _⟩
      obtain ⟨at', rfl⟩ : ∃ at' : Nat, y = at' := ⟨y.toNat, by omega⟩
      have hat : at' ≤ l := by omega
      have L1 := Lib.hid l1
      clear l1 HP
      go_wp2_with fail
      obtain ⟨ys, q', ho, hs', hqq, hgr⟩ := L1.out
      have hgl : g < w1.heap.size ∧ l ≤ C := by
        rcases ho.form with ⟨h1, _⟩ | ⟨g1, h1, h2, h3, h4⟩
        · cases h1
        · cases h1; exact ⟨h3, h4⟩
      have haC : (at' : Int) ≤ (C : Int) := by omega
      have hal : (at' : Int) ≤ (l : Int) := by omega
      obtain ⟨ad, had⟩ : ∃ ad, (if C = at' then some (⟨g, 0, none⟩ : Addr) else some ⟨g, at', none⟩) = some ad := by split <;> exact ⟨_, rfl⟩
      have hlen := ho.len
      have HR1 : Hid (∀ W, Below w1.heap.size w1 W → ∀ i, i < at' → W.cell? ((⟨g, 0, none⟩ : Addr).add i) = some (.int .i64 ((ys.take at').getD i 0))) := fun W hb i hi => by
        rw [Addr.add_lit, Nat.zero_add, hb.cell (p := ⟨g, i, none⟩) hgl.1, ho.cell (show i < l by omega)]
        simp [List.getD, List.getElem?_take, hi]
      have HR2 : Hid (∀ W, Below w1.heap.size w1 W → ∀ i, i < l - at' → W.cell? (ad.add i) = some (.int .i64 ((ys.drop at').getD i 0))) := fun W hb i hi => by
        rw [if_neg (by omega)] at had
        obtain rfl := Option.some.inj had
        rw [Addr.add_lit, hb.cell (p := ⟨g, at' + i, none⟩) hgl.1, ho.cell (show at' + i < l by omega)]
        simp [List.getD]
      have HL1 : Hid ((ys.take at').length = at') := by show _ = _; simp; omega
      have HL2 : Hid ((ys.drop at').length = l - at') := by show _ = _; simp; omega
      have HE0 : Hid (Own w1.heap.size (w1.alloc (.cells #[] 3)) (some ⟨w1.heap.size, 0, none⟩) 0 0 []) := World.ownsRow_lit w1 #[] 0 (Nat.le_refl _) (by unfold maxLen; omega) rfl
      have HB0 : Hid (Below w1.heap.size w1 (w1.alloc (.cells #[] 3))) := (Below.refl _ _).alloc (Nat.le_refl _) _
      have HE1 : Hid (Own w1.heap.size ((w1.alloc (.cells #[.int .i64 (j : Int)] 3)).alloc (.cells #[] 3)) (some ⟨w1.heap.size + 1, 0, none⟩) 0 0 []) := by
        have h : Own w1.heap.size ((w1.alloc (.cells #[.int .i64 (j : Int)] 3)).alloc (.cells #[] 3)) (some ⟨(w1.alloc (.cells #[.int .i64 (j : Int)] 3)).heap.size, 0, none⟩) 0 0 [] := World.ownsRow_lit (w1.alloc (.cells #[.int .i64 (j : Int)] 3)) #[] 0 (by simp) (by unfold maxLen; omega) rfl
        show Own _ _ _ _ _ _; simpa using h
      have HE2 : Hid (Own w1.heap.size ((w1.alloc (.cells #[] 3)).alloc (.cells #[.int .i64 (j : Int)] 3)) (some ⟨w1.heap.size, 0, none⟩) 0 0 []) := World.ownsRow.alloc HE0.out _
      have HD0 : Hid (Own w1.heap.size (World.drew (w1.alloc (.cells #[] 3))) (some ⟨w1.heap.size, 0, none⟩) 0 0 []) := HE0.out.below (Below.refl _ _).drew
      have HD1 : Hid (Own w1.heap.size (World.drew ((w1.alloc (.cells #[.int .i64 (j : Int)] 3)).alloc (.cells #[] 3))) (some ⟨w1.heap.size + 1, 0, none⟩) 0 0 []) := HE1.out.below (Below.refl _ _).drew
      have HD2 : Hid (Own w1.heap.size (World.drew ((w1.alloc (.cells #[] 3)).alloc (.cells #[.int .i64 (j : Int)] 3))) (some ⟨w1.heap.size, 0, none⟩) 0 0 []) := HE2.out.below (Below.refl _ _).drew
      have HB0 : Hid (Below w1.heap.size w1 (World.drew (w1.alloc (.cells #[] 3)))) := ((Below.refl _ _).alloc (Nat.le_refl _) _).drew
      have HB1 : Hid (Below w1.heap.size w1 (World.drew ((w1.alloc (.cells #[.int .i64 (j : Int)] 3)).alloc (.cells #[] 3)))) := (((Below.refl _ _).alloc (Nat.le_refl _) _).alloc (by simp) _).drew
      have HB2 : Hid (Below w1.heap.size w1 (World.drew ((w1.alloc (.cells #[] 3)).alloc (.cells #[.int .i64 (j : Int)] 3)))) := (((Below.refl _ _).alloc (Nat.le_refl _) _).alloc (by simp) _).drew
      have HJ1 : Hid ((World.drew ((w1.alloc (.cells #[.int .i64 (j : Int)] 3)).alloc (.cells #[] 3))).cell? ⟨w1.heap.size, 0, none⟩ = some (.int .i64 (j : Int))) := (((Below.refl (w1.heap.size + 1) (w1.alloc (.cells #[.int .i64 (j : Int)] 3))).alloc (by simp) (.cells #[] 3)).cell (p := ⟨w1.heap.size, 0, none⟩) (by simp)).trans (cell_one_new' _ _ _ rfl)
      have HJ2 : Hid ((World.drew ((w1.alloc (.cells #[] 3)).alloc (.cells #[.int .i64 (j : Int)] 3))).cell? ⟨w1.heap.size + 1, 0, none⟩ = some (.int .i64 (j : Int))) := cell_one_new' _ _ _ (by simp)
      clear hs' hqq hgr ho hlen HE0 HE1 HE2
      go_region_held3 (fun W => True)
        (first | trivial | go_keep)
        (first
          | (have _t := TK2; (refine step_app wq2 rfl _ _ (by rfl) G2 (at' + 1) C2 _ ad (l - at') (C - at') (ys.drop at') w1.heap.size w1 (by rfl) (by first | rfl | (show Value.slice _ _ _ = _; rw [had])) o2 HL2.out (HR2.out _ b2) b2 b2.size (by omega) ?_; intro G3 C3 wq3 o3 b3 g3; obtain ⟨l3, hl3⟩ : ∃ l3, l3 = at' + 1 + (l - at') := ⟨_, rfl⟩; rw [← hl3] at o3 ⊢; have hl3b : l3 ≤ j + 1 := (by omega); clear hl3; have TK3 : True := trivial))
          | (have _t := TK1; (first | (refine step_app (wq1.alloc (.cells #[.int .i64 (j : Int)] 3)) rfl _ _ (by rfl) G1 at' C1 (ys.take at') ⟨wq1.heap.size, 0, none⟩ 1 1 [(j : Int)] w1.heap.size w1 (by rfl) (by rfl) (World.ownsRow.alloc o1 _) rfl (one_cell (cell_one_new' _ _ _ rfl)) (b1.alloc b1.size _) (b1.alloc b1.size _).size (by omega) ?_; intro G2 C2 wq2 o2 b2 g2; have TK2 : True := trivial) | (refine step_app wq1 rfl _ _ (by rfl) G1 at' C1 (ys.take at') ⟨w1.heap.size, 0, none⟩ 1 1 [(j : Int)] w1.heap.size w1 (by rfl) (by rfl) o1 rfl (one_cell hJ) b1 b1.size (by omega) ?_; intro G2 C2 wq2 o2 b2 g2; have TK2 : True := trivial) | (refine step_app wq1 rfl _ _ (by rfl) G1 at' C1 (ys.take at') ⟨w1.heap.size + 1, 0, none⟩ 1 1 [(j : Int)] w1.heap.size w1 (by rfl) (by rfl) o1 rfl (one_cell hJ) b1 b1.size (by omega) ?_; intro G2 C2 wq2 o2 b2 g2; have TK2 : True := trivial)))
          | (first | (refine step_app (World.drew (w1.alloc (.cells #[] 3))) rfl _ _ (by rfl) (w1.heap.size) 0 0 [] ⟨g, 0, none⟩ at' C (ys.take at') w1.heap.size w1 (by rfl) (by rfl) HD0.out HL1.out (HR1.out _ HB0.out) HB0.out (by simp <;> omega) (by omega) ?_; intro G1 C1 wq1 o1 b1 g1; rw [Nat.zero_add] at o1 ⊢; rw [List.nil_append] at o1; have TK1 : True := trivial) | (refine step_app (World.drew ((w1.alloc (.cells #[.int .i64 (j : Int)] 3)).alloc (.cells #[] 3))) rfl _ _ (by rfl) (w1.heap.size + 1) 0 0 [] ⟨g, 0, none⟩ at' C (ys.take at') w1.heap.size w1 (by rfl) (by rfl) HD1.out HL1.out (HR1.out _ HB1.out) HB1.out (by simp <;> omega) (by omega) ?_; intro G1 C1 wq1 o1 b1 g1; rw [Nat.zero_add] at o1 ⊢; rw [List.nil_append] at o1; have hJ : wq1.cell? ⟨w1.heap.size, 0, none⟩ = some (.int .i64 (j : Int)) := (grown_cell g1 (by simp <;> omega) (by omega)).trans HJ1.out; have TK1 : True := trivial) | (refine step_app (World.drew ((w1.alloc (.cells #[] 3)).alloc (.cells #[.int .i64 (j : Int)] 3))) rfl _ _ (by rfl) (w1.heap.size) 0 0 [] ⟨g, 0, none⟩ at' C (ys.take at') w1.heap.size w1 (by rfl) (by rfl) HD2.out HL1.out (HR1.out _ HB2.out) HB2.out (by simp <;> omega) (by omega) ?_; intro G1 C1 wq1 o1 b1 g1; rw [Nat.zero_add] at o1 ⊢; rw [List.nil_append] at o1; have hJ : wq1.cell? ⟨w1.heap.size + 1, 0, none⟩ = some (.int .i64 (j : Int)) := (grown_cell g1 (by simp <;> omega) (by omega)).trans HJ2.out; have TK1 : True := trivial)))
      all_goals
        have L3 := Lib.hid (L1.out.to hkw (o3.mono L1.out.size) (b3.mono L1.out.size))
        clear o1 o2 o3 b1 b2 b3 g1 g2 g3
        go_wp2_with fail
        go_roundw
        case rel => exact ⟨j + 1, G3, l3, C3, by omega, by go_num, rfl, hl3b, L3.out.mono (by omega)⟩
        case measure => simp [intOf]; omega
    · have hjz : (j : Int) = z := by omega
      have hl5 : l ≤ 5 := by omega
      have hj5 : j ≤ 5 := by omega
      have HG := Lib.hid (grown_of_below (Below.refl w.heap.size w) (some k))
      have HP := Lib.hid (L.out.pick (m := 16) HB.out hk hkw (by omega) (by omega))
      clear L0 hjz
      go_wp2_with fail
      refine HP.out.mono ?_
      rintro e wu ⟨y, rfl, hy, lu, _⟩
      have LU := Lib.hid (lu.mono (d' := 6) (by omega))
      clear lu HP L
      by_cases h0 : y = 0
      · subst h0
        have hL := Row.lit wu #[.int .i64 0, .int .i64 4, .int .i64 (-1)] [0, 4, -1] 3 wu.heap.size rfl (fun j hj => by
          have h : j = 0 ∨ j = 1 ∨ j = 2 := by simp at hj; omega
          rcases h with rfl | rfl | rfl <;> rfl)
        have hba : Below wu.heap.size wu (wu.alloc (.cells #[.int .i64 0, .int .i64 4, .int .i64 (-1)] 3)) := (Below.refl _ _).alloc (Nat.le_refl _) _
        have hszu := LU.out.size
        have HN := Lib.hid ((LU.out.below hba).num (m := 3) (cL := 3) HB.out hk hkw (by omega) hL (by omega) (fun b off h => by cases h; omega))
        clear hL hba LU
        go_wp2_with fail
        refine HN.out.mono ?_
        rintro e w9 ⟨y, hy, rfl, l9, _⟩
        obtain ⟨v, hv⟩ : ∃ v, v = ([0, 4, -1] : List Int).getD y 0 := ⟨_, rfl⟩
        rw [← hv]
        clear hv HN
        have LU := Lib.hid l9
        clear l9
        obtain ⟨ys, _, hown, _⟩ := LU.out
        have hszu := LU.out.size
        have hbe := Below.refl w.heap.size w9
        go_wp2_with (at_builtin; refine wpList_push _ rfl _ _ rfl _ _ _ ys v w.heap.size w9 rfl rfl hown hbe hszu (by omega) ?_)
        intro A9 C9 w10 ho9 hb9
        have L9 := Lib.hid (LU.out.to hkw ho9 hb9)
        clear ho9 hb9 hown hbe
        go_wp2_with fail
        go_ret
        exact Li.done (q0 := q) (D := 20) L9.out HG.out (by omega) (by omega)
      · have h0' : (y == 0) = false := by simpa using h0
        go_wp2_with fail
        go_ret
        exact Li.done (q0 := q) (D := 20) LU.out HG.out (by omega) (by omega)
theorem clamp_in (s : Int) : 0 ≤ (if 5 < (if s < 0 then 0 else s) then 5 else (if s < 0 then 0 else s)) ∧ (if 5 < (if s < 0 then 0 else s) then 5 else (if s < 0 then 0 else s)) ≤ 5 := by
  by_cases h : s < 0
  · simp [h]
  · simp only [h, if_false]
    split <;> omega
/-- a mass and a list -/
def ArgMO (w : World) (e : Ending) (w' : World) : Prop :=
  ∃ s A n C xs B m D ys, e = .returned (.tuple #[massV s A n C, .slice B m D]) ∧ (1 ≤ n ∧ n ≤ 17) ∧ m ≤ 17 ∧ Row w' A n xs ∧ Row w' B m ys ∧ Below w.heap.size w w'
set_option maxHeartbeats 3200000 in
set_option maxRecDepth 100000 in
theorem DrawMoveMass_any (a : Option Addr) (l c : Nat) (bs : List Int) (w : World) (hr : BRow w a l bs) (hnc : l ≤ c ∨ l ≤ 2000) :
    Calls Try.prog 44 #[.slice a l c] w fun e w' => ArgMO w e w' := by
  obtain ⟨wx, hwx⟩ : ∃ wx, wx = w.alloc (.cells #[.int .i64 0, .slice none 0 0] 25) := ⟨_, rfl⟩
  have hbx : Box wx w.heap.size 25 (.int .i64 0) (.slice none 0 0) := by rw [hwx]; exact Box.new _ _ _ _
  have hbw0 : Below w.heap.size w wx := by rw [hwx]; exact (Below.refl _ _).alloc (Nat.le_refl _) _
  have hsx : wx.heap.size = w.heap.size + 1 := by rw [hwx]; simp
  have HO := Lib.hid (l14Open_any a l c bs wx (hr.below hbw0) hnc)
  rw [hsx] at HO
  have HX := Lib.hid hbx
  have HB := Lib.hid hbw0
  have HW := Lib.hid hwx
  clear hwx hbx hbw0 hr
  go_enter Try.func44, Try.ntmps44
  go_wp2_with fail
  rw [← HW.out]
  refine HO.out.mono ?_
  rintro e w1 ⟨rfl, hs1, b1⟩
  have HBX1 : Hid (Below wx.heap.size wx w1) := by rw [hsx] <;> exact b1
  have HS := Lib.hid (l3Open_any (w0 := wx) (w.heap.size + 1) 0 w1 HBX1.out (by omega) hs1 (by omega))
  have HX1 := Lib.hid (HX.out.below b1 (by omega))
  have HB1 := Lib.hid (HB.out.trans (b1.mono (by omega)))
  have hsz1 := HX1.out.lt
  have hk1 := hs1.lt
  clear hs1 b1
  go_wp2_with fail
  refine HS.out.mono ?_
  rintro e w2 ⟨s, A, n, C, xs, q2, rfl, hn, ho, hs2, hqq, hg2⟩
  have HX2 := Lib.hid (HX1.out.grown hg2 (by simp))
  have HB2 := Lib.hid (HB1.out.grown hg2 HB1.out.size (fun g h => by cases h; omega))
  have HBX2 := Lib.hid (HBX1.out.grown hg2 HBX1.out.size (fun g h => by cases h; omega))
  have hsz2 := hg2.size
  have hk2 := hs2.lt
  have HO2 := Lib.hid ho
  have HS2 := Lib.hid hs2
  clear ho hs2 hg2
  go_upto_region 2 with fail
  obtain ⟨w3, hw3⟩ : ∃ W, W = w2.alloc (.cells #[.int .i64 s, .slice A n C] 25) := ⟨_, rfl⟩
  have ba : Below w2.heap.size w2 w3 := by rw [hw3]; exact (Below.refl _ _).alloc (Nat.le_refl _) _
  have HM3 : Hid (Box w3 w2.heap.size 25 (.int .i64 s) (.slice A n C)) := by rw [hw3]; exact Lib.hid (Box.new _ _ _ _)
  rw [← hw3]
  have HX3 := Lib.hid (HX2.out.below ba HX2.out.lt).drew
  have HO3 := Lib.hid (HO2.out.below (ba.trans (Below.refl _ _).drew))
  have HM4 := Lib.hid HM3.out.drew
  have HB3 := Lib.hid (HB2.out.trans (ba.mono HB2.out.size)).drew
  have hba := Lib.hid (HBX2.out.trans (ba.mono HBX2.out.size)).drew
  have HD := Lib.hid (fun (z : Int) (hz : 0 ≤ z ∧ z ≤ 5) => l1Order_any (w.heap.size + 1) q2 z w3.drew hba.out (by omega) ((HS2.out.below ba).below (w' := w3.drew) (Below.refl _ _).drew) (by omega) hz)
  have hkA : ∀ g, A = some ⟨g, 0, none⟩ → some (w.heap.size + 1) ≠ some g := fun g h => by
    rcases HO3.out.form with ⟨h1, _⟩ | ⟨g1, h1, h2, _⟩
    · rw [h1] at h; cases h
    · rw [h1] at h; cases h; intro e; cases e; omega
  have hsz3 : w2.heap.size ≤ w3.drew.heap.size := ba.size
  clear hw3 ba hba HX2 HO2 HB2 HBX2
  obtain ⟨d1, d2, _, _⟩ := HM4.out.cells
  have k1 : w2.heap.size ≠ w.heap.size := by omega
  have HF1 : Hid (∀ (W : World) (u v : Value), (W.cell? ⟨w2.heap.size, 0, none⟩ = some (.int .i64 s) ∧ W.cell? ⟨w2.heap.size, 1, none⟩ = some (.slice A n C)) → (((W.setCell ⟨w.heap.size, 0, none⟩ u).setCell ⟨w.heap.size, 1, none⟩ v).cell? ⟨w2.heap.size, 0, none⟩ = some (.int .i64 s) ∧ ((W.setCell ⟨w.heap.size, 0, none⟩ u).setCell ⟨w.heap.size, 1, none⟩ v).cell? ⟨w2.heap.size, 1, none⟩ = some (.slice A n C))) := fun W u v h => ⟨World.cell_far k1 k1 h.1, World.cell_far k1 k1 h.2⟩
  have h3 : s < 0 ∨ (¬ s < 0 ∧ ¬ 5 < s) ∨ (¬ s < 0 ∧ 5 < s) := by omega
  rcases h3 with h0 | ⟨h0, h5⟩ | ⟨h0, h5⟩
  all_goals
    go_wp2_with fail
    go_region_held3 (fun W => W.cell? ⟨w2.heap.size, 0, none⟩ = some (.int .i64 s) ∧ W.cell? ⟨w2.heap.size, 1, none⟩ = some (.slice A n C))
      (first | with_reducible exact ⟨d1, d2⟩ | with_reducible exact HF1.out _ _ _ (by assumption) | exact ⟨HM9.out.cells.1, HM9.out.cells.2.1⟩ | go_keep)
      (first
        | ((go_at_call 119; refine (HD.out _ (by omega)).mono ?_; rintro e w9 ⟨B, m, D, ys, q9, rfl, hm, ho9, hs9, _, hg9⟩; have HM9 := Lib.hid (HM4.out.grown hg9 (fun e => by simp at e; omega)); have HX9 := Lib.hid (HX3.out.grown hg9 (by simp)); have HO9 := Lib.hid (HO3.out.kept hg9 hkA); have HP9 := Lib.hid ho9; have HB9 := Lib.hid (HB3.out.grown hg9 HB3.out.size (fun g h => by cases h; omega)); obtain ⟨x1, x2, x3, x4⟩ := HX9.out.cells)))
    all_goals
      go_wp2_with fail
      refine bodyPost_ret (v := .tuple #[massV s A n C, .slice B m D]) (by simp [results, Try.results44, go_sem, x1, x2]) rfl ?_
      exact ⟨s, A, n, C, xs, B, m, D, ys, rfl, hn, hm, Row.setBox HO9.out (by omega) _ _, Row.setBox HP9.out (by omega) _ _, (HB9.out.setCell (Nat.le_refl _) _).setCell (Nat.le_refl _) _⟩
end Go.Proofs.Ytffkpmmgfgcngaa
