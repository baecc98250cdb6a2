/- Contract of FormatMass, of the program (the walk). -/
import Derived.Test.YtlfajalhoifliaaGreatDoorW72
import Derived.Deep.RegionHeld3
namespace Go.Proofs.YtlfajalhoifliaaGreatDoor
open Go.RowKit

theorem join_snoc (es : List (List UInt8)) (e sep : List UInt8) : Go.Lib.join (es ++ [e]) sep = (if es = [] then [] else Go.Lib.join es sep ++ sep) ++ e := by
  cases es with
  | nil => simp [Go.Lib.join_one]
  | cons x r =>
    rw [if_neg (by simp), List.cons_append, Go.Lib.join_cons, Go.Lib.join_cons]
    simp [Go.Lib.joinTail]
/-- the texts of the sets with parts, joined -/
theorem parts_join (xs : List Int) : ∀ k, Go.Lib.join ((focL xs k).map (entL xs)) [44] = partsL xs k ∧ (partsL xs k = [] ↔ focL xs k = [])
  | 0 => ⟨rfl, by simp [partsL, focL]⟩
  | k + 1 => by
    obtain ⟨h1, h2⟩ := parts_join xs k
    by_cases h0 : xs.getD k 0 = 0
    · rw [focL_no h0, partsL, if_pos h0]
      exact ⟨h1, h2⟩
    · rw [focL_yes h0, partsL, if_neg h0, List.map_append, List.map_cons, List.map_nil, join_snoc, h1]
      constructor
      · by_cases he : focL xs k = []
        · rw [if_pos (by rw [he]; rfl), if_pos (h2.2 he)]
        · rw [if_neg (by simpa using he), if_neg (fun h => he (h2.1 h))]
      · constructor
        · intro h
          have := entL_ne xs k
          simp at h
          exact absurd h.2 this
        · intro h
          simp at h
/-- the strings of the first sets with parts -/
def entsB (xs : List Int) (n i : Nat) : List ByteArray := ((focL xs n).take i).map (fun k => bs (entL xs k))
theorem entsB_snoc {xs : List Int} {n i : Nat} (h : i < (focL xs n).length) : entsB xs n (i + 1) = entsB xs n i ++ [bs (entL xs ((focL xs n).getD i 0))] := by
  have e : (focL xs n).take (i + 1) = (focL xs n).take i ++ [(focL xs n).getD i 0] := by
    rw [List.take_succ_eq_append_getElem h]; simp [List.getD, h]
  unfold entsB
  rw [e, List.map_append]
  rfl
theorem entsB_all {xs : List Int} {n : Nat} : (entsB xs n (focL xs n).length).map (·.data.toList) = (focL xs n).map (entL xs) := by
  unfold entsB
  rw [List.take_length, List.map_map]
  rfl
theorem grow_into {a b c : World} {g0 G : Nat} (h1 : a.grownBy b (some g0)) (h2 : b.grownBy c (some G)) (hG : G = g0 ∨ a.heap.size ≤ G) : a.grownBy c (some g0) :=
  ⟨h2.os.trans h1.os, h2.tape.trans h1.tape, h2.output.trans h1.output, Nat.le_trans h1.size h2.size, fun i hi hne => (h2.block i (Nat.lt_of_lt_of_le hi h1.size) (fun e => by
    cases e
    rcases hG with rfl | h
    · exact hne rfl
    · omega)).trans (h1.block i hi hne)⟩
theorem tab_grown {P : Program} {n : String} {k : IntKind} {zs : List Int} {w a b : World} {g0 : Nat} (h : Go.Lib.TabIs P w n k zs) (hb : Below w.heap.size w a) (hg : a.grownBy b (some g0)) (hle : w.heap.size ≤ g0) : Go.Lib.TabIs P b n k zs := by
  have h1 := tab_below h hb
  unfold Go.Lib.TabIs World.var? at h h1 ⊢
  cases hgn : P.globalNamed n with
  | none => rw [hgn] at h; cases h
  | some g =>
    rw [hgn] at h h1
    simp only [Option.bind_some] at h h1 ⊢
    have hlt : g < w.heap.size := by
      rcases Nat.lt_or_ge g w.heap.size with h' | h'
      · exact h'
      · rw [Array.getElem?_eq_none h'] at h; cases h
    rw [hg.block g (Nat.lt_of_lt_of_le hlt hb.size) (fun e => by cases e; omega)]
    exact h1
theorem OwnS.below {B : Nat} {w w' : World} {G n c : Nat} {xs : List ByteArray} (h : OwnS B w (some ⟨G, 0, none⟩) n c xs) (hb : Below w.heap.size w w') : OwnS B w' (some ⟨G, 0, none⟩) n c xs :=
  World.ownsRow.kept h (grown_of_below hb none) (.inr (by simp [Value.ownBlock]))
/-- the table that Itoa reads -/
def TabP (w : World) : Prop := Go.Lib.TabIs Tryz.prog w "internal/strconv.uint64pow10" .u64 Go.Lib.pow10Tab
theorem Itoa_any (n : Nat) (hn : n ≤ 1000000000) (w : World) (h : TabP w) :
    Calls Tryz.prog 18 #[.int .i64 n] w fun e w' => e = .returned (.string (bs (Go.Lib.decDigits n))) ∧ Below w.heap.size w w' :=
  (Tryz.strconv_Itoa (n : Int) (by omega) (by omega) w h).mono (fun e w' h => by
    obtain ⟨rfl, k, os, rfl⟩ := h
    exact ⟨by rw [Go.Lib.itoa_nonneg]; rfl, Go.Lib.below_grow _ _ (Nat.le_refl _) k os⟩)
set_option maxHeartbeats 6400000 in
set_option maxRecDepth 100000 in
theorem iFormatMass_any (s : Int) (a : Option Addr) (n c : Nat) (xs : List Int) (w : World) (hr : Row w a n xs) (hn : n ≤ 1048576) (htab : TabP w) :
    Calls Tryz.prog 5 #[massV s a n c] w fun e w' => e = .returned (.string (bs (fmtT s xs))) ∧ Below w.heap.size w w' := by
  obtain ⟨w0, hw0⟩ : ∃ w0, w0 = w.alloc (.cells #[.int .i64 s, .slice a n c] 25) := ⟨_, rfl⟩
  have HBM : Hid (Box w0 w.heap.size 25 (.int .i64 s) (.slice a n c)) := by rw [hw0]; exact Box.new _ _ _ _
  have HB0 : Hid (Below w.heap.size w w0) := by rw [hw0]; exact (Below.refl _ _).alloc (Nat.le_refl _) _
  have hs0 : w0.heap.size = w.heap.size + 1 := by rw [hw0]; simp
  have hr0 := hr.below HB0.out
  have HTW := Lib.hid htab
  have HRW := Lib.hid hr
  have HW0 := Lib.hid hw0; clear hw0 hr htab
  have HM := Lib.hid (isMass_any s a n c xs w0 hr0 hn)
  by_cases hm : massB s xs = true
  · rw [hm] at HM
    have hI := massB_is hr0.1 hm
    obtain ⟨m, rfl⟩ : ∃ m : Nat, s = m := ⟨s.toNat, by have := size_cases hI.size; omega⟩
    have hm4 : 1 ≤ m ∧ m ≤ 4 := by have := size_cases hI.size; omega
    have hn16 : 2 ≤ n ∧ n ≤ 16 := by have := hI.nums; omega
    have HFO := Lib.hid (fun W (h : Row W a n xs) => focalSets_any (m : Int) a n c xs W h hn16.2)
    have HF : Hid (fmtT (m : Int) xs = headL m ++ partsL xs n) := by show _ = _; rw [fmtT, if_pos hm, hr0.1]
    have HP := Lib.hid hI.part
    have hpl := partsL_le hI.part n (Nat.le_refl _)
    have HR := Lib.hid hr0
    clear hm hI hr0
    go_enter Tryz.func5, Tryz.ntmps5
    go_wp2_with fail
    rw [← HW0.out]
    refine HM.out.mono ?_
    rintro e w1 ⟨rfl, b1⟩
    obtain ⟨c1, c2, _, _⟩ := (HBM.out.below b1 HBM.out.lt).cells
    have HM1 := Lib.hid (HBM.out.below b1 HBM.out.lt)
    have HR1 := Lib.hid (HR.out.below b1)
    have HB1 := Lib.hid (HB0.out.trans (b1.mono HB0.out.size))
    have hsz1 := b1.size
    clear b1 HBM HR
    have HE0 : Hid (OwnS w1.heap.size (w1.alloc (.cells #[] 9)) (some ⟨w1.heap.size, 0, none⟩) 0 0 []) := World.ownsRow_lit w1 #[] 0 (Nat.le_refl _) (by unfold maxLen; omega) rfl
    have hba : Below w1.heap.size w1 (w1.alloc (.cells #[] 9)) := (Below.refl _ _).alloc (Nat.le_refl _) _
    obtain ⟨wv, hwv⟩ : ∃ W, W = w1.alloc (.cells #[] 9) := ⟨_, rfl⟩
    have hsv : wv.heap.size = w1.heap.size + 1 := by rw [hwv]; simp
    rw [← hwv] at hba HE0
    have HMv := Lib.hid (HM1.out.below hba HM1.out.lt)
    have HRv := Lib.hid (HR1.out.below hba)
    have HBv := Lib.hid (HB1.out.trans (hba.mono HB1.out.size))
    have HWV := Lib.hid hwv
    clear hwv hba c1 c2
    go_upto_region 4 with fail
    rw [← HWV.out]
    obtain ⟨c1, c2, _, _⟩ := HMv.out.cells
    go_wp2_with fail
    refine (HFO.out _ HRv.out).mono ?_
    rintro e w2 ⟨A, l, CF, rfl, hl, ho, b2⟩
    have HL := Lib.hid hl
    have HO := Lib.hid ho
    have hl16 : l ≤ 16 := by have := focL_le xs n; omega
    have HM2 := Lib.hid (HMv.out.below b2 HMv.out.lt)
    have HR2 := Lib.hid (HRv.out.below b2)
    have HB2 := Lib.hid (HBv.out.trans (b2.mono HBv.out.size))
    have HE2 := Lib.hid (HE0.out.below b2)
    have hsz2 := b2.size
    have HT2 := Lib.hid (tab_below HTW.out HB2.out)
    have hA : ∀ g, A = some ⟨g, 0, none⟩ → g ≠ w1.heap.size := fun g hg => by
      rcases ho.form with ⟨h1, _⟩ | ⟨g1, h1, h2, _⟩
      · rw [h1] at hg; cases hg
      · rw [h1] at hg; cases hg; omega
    have HA := Lib.hid hA
    clear hl ho b2 hA c1 c2 HMv HRv HBv HE0 HFO
    go_wp2_with fail
    go_loopw [3, 13] (fun v i wr => ∃ (k G C : Nat), k ≤ l ∧ i = .int .i64 k ∧ v = .slice (some ⟨G, 0, none⟩) k C ∧ Hid (OwnS w1.heap.size wr (some ⟨G, 0, none⟩) k C (entsB xs n k)) ∧ Hid (G = w1.heap.size ∨ w2.heap.size ≤ G) ∧ Hid (w2.grownBy wr (some w1.heap.size))) (fun _ i _ => l - (intOf i).toNat)
    case atStart => exact ⟨0, _, 0, Nat.zero_le _, rfl, rfl, HE2.out, .inl rfl, World.grownBy.refl _ _⟩
    case round =>
      obtain ⟨k, G, C, hk, rfl, rfl, HE, HG, HGR⟩ := hrel
      have HMr := Lib.hid (HM2.out.grown HGR.out (by simp; omega))
      by_cases hlt : k < l
      · have hkl : k < (focL xs n).length := by rw [← HL.out]; exact hlt
        have hat := focL_at hkl
        have hof := (HO.out.kept HGR.out (fun g hg e => by cases e; exact HA.out _ hg rfl)).row
        obtain ⟨bf, off, x, rfl, hx, hc⟩ := hof.at_ hlt
        rw [ints_getD] at hx
        have HSN := Lib.hid (entsB_snoc hkl)
        obtain ⟨y, hy⟩ : ∃ y, y = (focL xs n).getD k 0 := ⟨_, rfl⟩
        rw [← hy] at hx hat HSN
        subst hx
        have hyn := hat.1
        have hy16 : y < 16 := by omega
        have hyb := HP.out y hyn
        have hy0 := hat.2
        clear hy hat hof
        obtain ⟨b, off2, x, rfl, hx, hcx⟩ := HR2.out.at_ hyn
        rw [← hx] at hyb hy0
        obtain ⟨u, rfl⟩ : ∃ u : Nat, x = u := ⟨x.toNat, by omega⟩
        have hbw : b < w.heap.size := by
          obtain ⟨b', off', x', h1, _, h3⟩ := HRW.out.at_ hyn
          cases h1
          exact World.block_lt_of_cell? _ _ h3
        have hcr : wr.cell? ⟨b, off2 + y, none⟩ = some (.int .i64 (u : Int)) := World.grownBy.cell HGR.out hcx (by simp; omega)
        have HST := Lib.hid (fun W => setText_any y W hy16)
        have HTR := Lib.hid (tab_grown HTW.out HB2.out HGR.out (by omega))
        have HIT := Lib.hid (fun W (h : Below wr.heap.size wr W) => Itoa_any u (by omega) W (tab_below HTR.out h))
        obtain ⟨F, hF⟩ : ∃ F, F = bs (setL y) := ⟨_, rfl⟩
        obtain ⟨D, hD⟩ : ∃ D, D = bs (Go.Lib.decDigits u) := ⟨_, rfl⟩
        have hFs : F.size ≤ 4 := by rw [hF, bs_size]; exact setL_le y
        have hDs : D.size ≤ 7 := by rw [hD, bs_size]; exact dec_length (k := 7) (by omega) (by omega)
        have HEN : Hid (bs (entL xs y) = F ++ bs [32] ++ D) := by show _ = _; rw [entL, ← hx, Int.toNat_natCast, ← bs_append, ← bs_append, hF, hD, ByteArray.append_assoc]
        rw [← hF] at HST
        rw [← hD] at HIT
        obtain ⟨c1, c2, _, _⟩ := HMr.out.cells
        have hGw : w.heap.size ≠ G := by have := HG.out; omega
        have hGb : b ≠ G := by have := HG.out; omega
        have hzw : w.heap.size < wr.heap.size := HMr.out.lt
        have HI : Hid (∀ W, Below wr.heap.size wr W → W.cell? ⟨w.heap.size, 0, none⟩ = some (.int .i64 m) ∧ W.cell? ⟨w.heap.size, 1, none⟩ = some (.slice (some ⟨b, off2, none⟩) n c) ∧ W.cell? ⟨b, off2 + y, none⟩ = some (.int .i64 (u : Int))) := fun W h => ⟨(h.cell (World.block_lt_of_cell? _ _ c1)).trans c1, (h.cell (World.block_lt_of_cell? _ _ c2)).trans c2, (h.cell (World.block_lt_of_cell? _ _ hcr)).trans hcr⟩
        have HS0 := Lib.hid (HI.out _ ((Below.refl _ _).drew : Below wr.heap.size wr wr.drew))
        have HI2 := Lib.hid (HIT.out (World.drew wr) ((Below.refl _ _).drew))
        have HAL : Hid (∀ (W : World) (o : Obj), (W.cell? ⟨w.heap.size, 0, none⟩ = some (.int .i64 m) ∧ W.cell? ⟨w.heap.size, 1, none⟩ = some (.slice (some ⟨b, off2, none⟩) n c) ∧ W.cell? ⟨b, off2 + y, none⟩ = some (.int .i64 (u : Int))) → (W.alloc o).cell? ⟨w.heap.size, 0, none⟩ = some (.int .i64 m) ∧ (W.alloc o).cell? ⟨w.heap.size, 1, none⟩ = some (.slice (some ⟨b, off2, none⟩) n c) ∧ (W.alloc o).cell? ⟨b, off2 + y, none⟩ = some (.int .i64 (u : Int))) := fun W o h => by
          have hb : Below W.heap.size W (W.alloc o) := (Below.refl _ _).alloc (Nat.le_refl _) _
          exact ⟨(hb.cell (World.block_lt_of_cell? _ _ h.1)).trans h.1, (hb.cell (World.block_lt_of_cell? _ _ h.2.1)).trans h.2.1, (hb.cell (World.block_lt_of_cell? _ _ h.2.2)).trans h.2.2⟩
        have hEc := HE.out
        have hszr : w1.heap.size ≤ wr.heap.size := by have := HGR.out.size; omega
        have hszr2 : w2.heap.size ≤ wr.heap.size := HGR.out.size
        clear hF hD hx hcx c1 c2 hcr HIT hy0
        have hk1 := cat_run F { data := #[32] } (by show _ + 1 ≤ _; omega)
        have hk2 := cat_run (F ++ { data := #[32] }) D (by rw [ByteArray.size_append]; show _ + 1 + _ ≤ _; omega)
        go_wp2_with fail
        go_region_held3 (fun W => W.cell? ⟨w.heap.size, 0, none⟩ = some (.int .i64 m) ∧ W.cell? ⟨w.heap.size, 1, none⟩ = some (.slice (some ⟨b, off2, none⟩) n c) ∧ W.cell? ⟨b, off2 + y, none⟩ = some (.int .i64 (u : Int)))
          (first | with_reducible exact HS0.out | with_reducible assumption | with_reducible exact hS1 | with_reducible exact HAL.out _ _ hS1 | with_reducible exact hS3 | go_keep)
          (first
            | (have _t := TK1; refine step_pushS wq1 rfl _ _ (by rfl) G k C _ _ w1.heap.size (by rfl) (by rfl) (hEc.below hBN) (Nat.le_trans hszr hBN.size) (by omega) ?_; intro G3 C3 w3 o3 hG3 g3; have hS3 : w3.cell? ⟨w.heap.size, 0, none⟩ = some (.int .i64 m) ∧ w3.cell? ⟨w.heap.size, 1, none⟩ = some (.slice (some ⟨b, off2, none⟩) n c) ∧ w3.cell? ⟨b, off2 + y, none⟩ = some (.int .i64 (u : Int)) := ⟨World.grownBy.cell g3 hS1.1 (by simpa using hGw), World.grownBy.cell g3 hS1.2.1 (by simpa using hGw), World.grownBy.cell g3 hS1.2.2 (by simpa using hGb)⟩)
            | (go_at_call 18; refine HI2.out.mono ?_; rintro e wq1 ⟨rfl, b9⟩; have hBN : Below wr.heap.size wr wq1 := (Below.refl wr.heap.size wr).drew.trans b9; have hS1 := HI.out wq1 hBN; have TK1 : True := trivial)
            | (go_at_call 17; refine (HST.out _).mono ?_; rintro e w9 ⟨rfl, rfl⟩))
        all_goals
          have HO3 := Lib.hid o3
          have HG3 : Hid (G3 = w1.heap.size ∨ w2.heap.size ≤ G3) := by
            rcases hG3 with h | h
            · rw [h]; exact HG.out
            · right; have := hBN.size; omega
          have HR3 := Lib.hid (grow_into (grown_trans HGR.out (grown_of_below hBN _)) g3 HG.out)
          clear o3 hG3 g3 hS1 hS3 hEc
          go_wp2_with fail
          go_roundw
          case rel => exact ⟨k + 1, G3, C3, by omega, by go_num, rfl, by rw [HSN.out, HEN.out]; exact HO3.out, HG3.out, HR3.out⟩
          case measure => simp [intOf]; omega
      · obtain rfl : l = k := by omega
        have HTR := Lib.hid (tab_grown HTW.out HB2.out HGR.out (by omega))
        obtain ⟨D, hD⟩ : ∃ D, D = bs (Go.Lib.decDigits m) := ⟨_, rfl⟩
        have hDs : D.size ≤ 1 := by rw [hD, bs_size]; exact dec_length (k := 1) (by omega) (by omega)
        have HIT := Lib.hid (Itoa_any m (by omega) wr HTR.out)
        rw [← hD] at HIT
        obtain ⟨P, hP⟩ : ∃ P, P = bs (partsL xs n) := ⟨_, rfl⟩
        have hPs : P.size ≤ 300 := by rw [hP, bs_size]; omega
        have hel : (entsB xs n l).length = l := by unfold entsB; rw [HL.out]; simp
        have HJ : Hid (∀ W, Below wr.heap.size wr W → Calls Tryz.prog 19 #[.slice (some ⟨G, 0, none⟩) l C, .string { data := #[44] }] W fun e w' => e = .returned (.string P) ∧ Below W.heap.size W w') := fun W h => by
          have ho := HE.out.below h
          have hcap : l ≤ C := by
            rcases ho.2 with ⟨h1, _⟩ | ⟨g, cap, cur, h1, h2, h3, h4, _⟩
            · cases h1
            · cases h1; exact h4
          have hlt := (World.ownsRow.lt ho G (by simp [Value.ownBlock])).2
          have hjn := (parts_join xs n).1
          have hall : (entsB xs n l).map (·.data.toList) = (focL xs n).map (entL xs) := by rw [HL.out]; exact entsB_all
          have hc := Tryz.strings_Join G 0 C (entsB xs n l) { data := #[44] } W (fun j x hj => by
            have h1 := World.ownsRow.cells ho (g := G) rfl j (.string x) (by simp [hj])
            rw [Addr.add_lit] at h1
            exact h1) hlt (by omega) (by omega) (by
              rw [hall, show ({ data := #[44] } : ByteArray).data.toList = [44] from rfl, hjn]
              omega)
          rw [hall, show ({ data := #[44] } : ByteArray).data.toList = [44] from rfl, hjn, hel] at hc
          rw [hP]
          exact hc
        have HQ : Hid (bs (fmtT (m : Int) xs) = D ++ bs [58] ++ P) := by show _ = _; rw [HF.out, headL, Int.toNat_natCast, hD, hP, bs_append, bs_append]
        obtain ⟨c1, c2, _, _⟩ := HMr.out.cells
        clear hD hP hel hpl
        go_wp2_with fail
        refine HIT.out.mono ?_
        rintro e w5 ⟨rfl, b5⟩
        have HB5 := Lib.hid b5
        clear b5
        go_wp2_with fail
        refine (HJ.out _ HB5.out).mono ?_
        rintro e w6 ⟨rfl, b6⟩
        have hb6 : Below wr.heap.size wr w6 := HB5.out.trans (b6.mono HB5.out.size)
        have HBE : Hid (Below w.heap.size w w6) := by
          have h1 : Below w.heap.size w wr := HB2.out.grown HGR.out HB2.out.size (fun k h => by cases h; omega)
          exact h1.trans (hb6.mono h1.size)
        clear b6 hb6
        go_wp2_with fail
        go_ret
        exact ⟨by rw [HQ.out] <;> rfl, HBE.out⟩
  · have hm' : massB s xs = false := by simpa using hm
    rw [hm'] at HM
    have HF : Hid (bs (fmtT s xs) = { data := #[] }) := by show _ = _; rw [fmtT, if_neg hm]; rfl
    clear hm hm'
    go_enter Tryz.func5, Tryz.ntmps5
    go_wp2_with fail
    rw [← HW0.out]
    refine HM.out.mono ?_
    rintro e w1 ⟨rfl, b1⟩
    have HB1 := Lib.hid (HB0.out.trans (b1.mono HB0.out.size))
    clear b1
    go_wp2_with fail
    go_ret
    exact ⟨by rw [HF.out] <;> rfl, HB1.out⟩
end Go.Proofs.YtlfajalhoifliaaGreatDoor
