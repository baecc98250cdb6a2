/- Contract of FormatMass, of the reference; the text of a mass. -/
import Derived.Test.YtlfajalhoifliaaGreatDoorW70
import Derived.Test.YtlfajalhoifliaaGreatDoorW54
import Derived.Test.YtlfajalhoifliaaGreatDoorW12
import Derived.Lib.Join
import Derived.Deep.RegionHeld3
namespace Go.Proofs.YtlfajalhoifliaaGreatDoor
open Go.RowKit

/-- the text of a set and its part -/
def entL (xs : List Int) (k : Nat) : List UInt8 := setL k ++ ([32] ++ Go.Lib.decDigits (xs.getD k 0).toNat)
/-- the texts of the first sets that have parts -/
def partsL (xs : List Int) : Nat → List UInt8
  | 0 => []
  | k + 1 => if xs.getD k 0 = 0 then partsL xs k else (if partsL xs k = [] then [] else partsL xs k ++ [44]) ++ entL xs k
def headL (s : Int) : List UInt8 := Go.Lib.decDigits s.toNat ++ [58]
/-- the text of a mass -/
def fmtT (s : Int) (xs : List Int) : List UInt8 := if massB s xs = true then headL s ++ partsL xs xs.length else []
theorem dec_length {k : Nat} : ∀ {u : Nat}, 1 ≤ k → u < 10 ^ k → (Go.Lib.decDigits u).length ≤ k := by
  induction k with
  | zero => intro u h; omega
  | succ k ih =>
    intro u _ h
    by_cases h9 : 9 < u
    · rw [dec_step h9, List.length_append]
      have hk : 1 ≤ k := by
        rcases Nat.eq_zero_or_pos k with rfl | h0
        · simp at h; omega
        · exact h0
      have := ih (u := u / 10) hk (by rw [Nat.pow_succ] at h; omega)
      simp
      omega
    · rw [Go.Lib.decDigits_one (by omega)]
      simp
theorem setL_le (a : Nat) : (setL a).length ≤ 4 := by
  have := ansL_le a 4
  unfold setL
  split <;> simp <;> omega
theorem setL_ne (a : Nat) : setL a ≠ [] := by
  unfold setL
  split
  · simp
  · assumption
theorem entL_le {xs : List Int} {k : Nat} (h : 0 ≤ xs.getD k 0 ∧ xs.getD k 0 ≤ 1000000) : (entL xs k).length ≤ 12 := by
  have h1 := setL_le k
  have h2 := dec_length (k := 7) (u := (xs.getD k 0).toNat) (by omega) (by omega)
  unfold entL
  rw [List.length_append, List.length_append, List.length_singleton]
  omega
theorem entL_ne (xs : List Int) (k : Nat) : entL xs k ≠ [] := by
  unfold entL
  have := setL_ne k
  simp [this]
theorem partsL_le {xs : List Int} {n : Nat} (h : ∀ k, k < n → 0 ≤ xs.getD k 0 ∧ xs.getD k 0 ≤ 1000000) : ∀ k, k ≤ n → (partsL xs k).length ≤ 13 * k
  | 0, _ => by simp [partsL]
  | k + 1, hk => by
    have ih := partsL_le h k (by omega)
    have h2 := entL_le (h k (by omega))
    unfold partsL
    split
    · omega
    · split <;> simp <;> omega
/-- the last byte of a decimal number -/
theorem dec_last (u : Nat) : ∃ l d, d ≤ 9 ∧ Go.Lib.decDigits u = l ++ [UInt8.ofNat (48 + d)] := by
  by_cases h9 : 9 < u
  · exact ⟨_, u % 10, by omega, dec_step h9⟩
  · exact ⟨[], u, by omega, by rw [Go.Lib.decDigits_one (by omega)]; rfl⟩
theorem partsL_last {xs : List Int} : ∀ k, partsL xs k ≠ [] → ∃ l d, d ≤ 9 ∧ partsL xs k = l ++ [UInt8.ofNat (48 + d)]
  | 0, h => absurd rfl h
  | k + 1, h => by
    unfold partsL at h ⊢
    split
    · rename_i h0
      rw [if_pos h0] at h
      exact partsL_last k h
    · obtain ⟨l, d, hd, he⟩ := dec_last (xs.getD k 0).toNat
      refine ⟨(if partsL xs k = [] then [] else partsL xs k ++ [44]) ++ (setL k ++ ([32] ++ l)), d, hd, ?_⟩
      unfold entL
      rw [he]
      simp
/-- two strings that are not too long -/
theorem cat_run (a b : ByteArray) (h : a.size + b.size ≤ 1000000) (W : World) : Sem.run Tryz.prog (Op.stringOp .add a b) W = .ok (.string (a ++ b)) W := by
  unfold Op.stringOp
  rw [if_neg]
  · rfl
  · show ¬ ((a.size + b.size : Nat) : Int) > 9223372036854775807
    omega
theorem last_at {S : ByteArray} {l : List UInt8} {b : UInt8} (h : S = bs (l ++ [b])) (hs : S.size - 1 < S.size) : S[S.size - 1] = b := by
  subst h
  have h1 : (bs (l ++ [b])).size = l.length + 1 := by rw [bs_size]; simp
  have h2 : (bs (l ++ [b]))[l.length]'(by omega) = b := by
    simp [bs, ByteArray.getElem_eq_getElem_data]
  simpa [h1] using h2
set_option maxHeartbeats 3200000 in
set_option maxRecDepth 100000 in
theorem sFormatMass_any (s : Int) (a : Option Addr) (n c : Nat) (xs : List Int) (w : World) (hr : Row w a n xs) (hn : n ≤ 1048576) :
    Calls Tryz.prog 6 #[massV s a n c] w fun e w' => e = .returned (.string (bs (fmtT s xs))) ∧ Below w.heap.size w w' := by
  obtain ⟨w0, hw0⟩ : ∃ w0, w0 = w.alloc (.cells #[.int .i64 s, .slice a n c] 25) := ⟨_, rfl⟩
  have HBM : Hid (Box w0 w.heap.size 25 (.int .i64 s) (.slice a n c)) := by rw [hw0]; exact Box.new _ _ _ _
  have HB0 : Hid (Below w.heap.size w w0) := by rw [hw0]; exact (Below.refl _ _).alloc (Nat.le_refl _) _
  have hr0 := hr.below HB0.out
  have HW0 := Lib.hid hw0; clear hw0 hr
  have HM := Lib.hid (MassValid_any s a n c xs w0 hr0 hn)
  by_cases hm : massB s xs = true
  · rw [hm] at HM
    have hI := massB_is hr0.1 hm
    obtain ⟨m, rfl⟩ : ∃ m : Nat, s = m := ⟨s.toNat, by have := size_cases hI.size; omega⟩
    have hm4 : 1 ≤ m ∧ m ≤ 4 := by have := size_cases hI.size; omega
    have hn16 : 2 ≤ n ∧ n ≤ 16 := by have := hI.nums; omega
    have HDM := Lib.hid (fun W => l14Dec_any m W (by omega))
    obtain ⟨D0, hD0⟩ : ∃ D, D = bs (Go.Lib.decDigits m) := ⟨_, rfl⟩
    have hD0s : D0.size ≤ 1 := by rw [hD0, bs_size]; exact dec_length (k := 1) (by omega) (by omega)
    rw [← hD0] at HDM
    have HF : Hid (fmtT (m : Int) xs = headL m ++ partsL xs n) := by show _ = _; rw [fmtT, if_pos hm, hr0.1]
    have HH : Hid (bs (headL m) = D0 ++ bs [58]) := by show _ = _; rw [headL, Int.toNat_natCast, ← bs_append, hD0]
    have HP := Lib.hid hI.part
    have HPL := Lib.hid (fun k hk => partsL_le hI.part k hk)
    have hhl : (headL (m : Int)).length ≤ 2 := by
      have := dec_length (k := 1) (u := m) (by omega) (by omega)
      unfold headL
      rw [Int.toNat_natCast]
      simp
      omega
    have HR := Lib.hid hr0
    clear hm hI hD0 hr0
    go_enter Tryz.func6, Tryz.ntmps6
    go_wp2_with fail
    rw [← HW0.out]
    refine HM.out.mono ?_
    rintro e w1 ⟨rfl, b1⟩
    obtain ⟨c1, c2, _, _⟩ := (HBM.out.below b1 HBM.out.lt).cells
    have HB1 := Lib.hid b1
    clear b1
    go_wp2_with fail
    refine (HDM.out _).mono ?_
    rintro e w2 ⟨rfl, b2⟩
    have HB2 := Lib.hid (HB1.out.trans (b2.mono HB1.out.size))
    clear b2 c1 c2
    go_wp2_with fail
    go_loopw [3, 4] (fun v i wr => ∃ k : Nat, k ≤ n ∧ i = .int .i64 k ∧ v = .string (bs (headL m ++ partsL xs k)) ∧ Hid (Below w0.heap.size w0 wr)) (fun _ i _ => n - (intOf i).toNat)
    case atStart => exact ⟨0, Nat.zero_le _, rfl, by rw [show partsL xs 0 = [] from rfl, List.append_nil, HH.out]; rfl, HB2.out⟩
    case round =>
      obtain ⟨k, hk, rfl, rfl, HB⟩ := hrel
      obtain ⟨S, hS⟩ : ∃ S, S = bs (headL m ++ partsL xs k) := ⟨_, rfl⟩
      have hSs : S.size ≤ 300 := by rw [hS, bs_size, List.length_append]; have := HPL.out k hk; omega
      obtain ⟨c1, c2, _, _⟩ := (HBM.out.below HB.out HBM.out.lt).cells
      by_cases hlt : k < n
      · obtain ⟨b, off, x, rfl, hx, hc⟩ := (HR.out.below HB.out).at_ hlt
        have hxb := HP.out k hlt
        rw [← hx] at hxb
        by_cases h0 : x = 0
        · have HQ : Hid (partsL xs (k + 1) = partsL xs k) := by show _ = _; rw [partsL, if_pos (by rw [← hx]; exact h0)]
          subst h0
          have HSS := Lib.hid hS
          rw [← hS]
          clear hx hS
          go_wp2_with fail
          go_roundw
          case rel => exact ⟨k + 1, by omega, by go_num, by rw [HQ.out, ← HSS.out], HB.out⟩
          case measure => simp [intOf]; omega
        · have hx0 : 0 < x := by omega
          have hS1 : 1 ≤ S.size := by rw [hS, bs_size, List.length_append, headL]; simp; omega
          obtain ⟨u, rfl⟩ : ∃ u : Nat, x = u := ⟨x.toNat, by omega⟩
          have HFS := Lib.hid (fun W => FormatSet_any k W (by omega))
          have HDX := Lib.hid (fun W => l14Dec_any u W (by omega))
          obtain ⟨F, hF⟩ : ∃ F, F = bs (setL k) := ⟨_, rfl⟩
          obtain ⟨D, hD⟩ : ∃ D, D = bs (Go.Lib.decDigits u) := ⟨_, rfl⟩
          have hFs : F.size ≤ 4 := by rw [hF, bs_size]; exact setL_le k
          have hDs : D.size ≤ 7 := by rw [hD, bs_size]; exact dec_length (k := 7) (by omega) (by omega)
          have hE : bs (entL xs k) = F ++ (bs [32] ++ D) := by rw [entL, ← hx, Int.toNat_natCast, ← bs_append, ← bs_append, hF, hD]
          rw [← hF] at HFS
          rw [← hD] at HDX
          have HC := Lib.hid hc
          have HI : Hid (∀ W, Below wr.heap.size wr W → Below wr.heap.size wr W ∧ W.cell? ⟨w.heap.size, 0, none⟩ = some (.int .i64 m) ∧ W.cell? ⟨w.heap.size, 1, none⟩ = some (.slice (some ⟨b, off, none⟩) n c) ∧ W.cell? ⟨b, off + k, none⟩ = some (.int .i64 (u : Int))) := fun W h => ⟨h, (h.cell (World.block_lt_of_cell? _ _ c1)).trans c1, (h.cell (World.block_lt_of_cell? _ _ c2)).trans c2, (h.cell (World.block_lt_of_cell? _ _ HC.out)).trans HC.out⟩
          have HK : Hid (∀ W W', Below W.heap.size W W' → (Below wr.heap.size wr W ∧ W.cell? ⟨w.heap.size, 0, none⟩ = some (.int .i64 m) ∧ W.cell? ⟨w.heap.size, 1, none⟩ = some (.slice (some ⟨b, off, none⟩) n c) ∧ W.cell? ⟨b, off + k, none⟩ = some (.int .i64 (u : Int))) → Below wr.heap.size wr W' ∧ W'.cell? ⟨w.heap.size, 0, none⟩ = some (.int .i64 m) ∧ W'.cell? ⟨w.heap.size, 1, none⟩ = some (.slice (some ⟨b, off, none⟩) n c) ∧ W'.cell? ⟨b, off + k, none⟩ = some (.int .i64 (u : Int))) := fun W W' b h => HI.out W' (h.1.trans (b.mono h.1.size))
          have HS0 := Lib.hid (HI.out _ ((Below.refl _ _).drew : Below wr.heap.size wr wr.drew))
          have hlt1 : S.size - 1 < S.size := by omega
          by_cases he : partsL xs k = []
          · have hl : ((S[S.size - 1].toNat : Int) != 58) = false := by
              rw [last_at (l := Go.Lib.decDigits (m : Int).toNat) (b := 58) (by rw [hS, he, List.append_nil]; rfl) hlt1]
              rfl
            have HQ : Hid (bs (headL m ++ partsL xs (k + 1)) = ((S ++ F) ++ bs [32]) ++ D) := by
              show _ = _
              rw [partsL, if_neg (by rw [← hx]; exact h0), if_pos he, List.nil_append, ← bs_append, hE, hS, he, List.append_nil, ByteArray.append_assoc, ByteArray.append_assoc]
            rw [← hS]
            clear hS he hx h0 hE hF hD
            have hk1 := cat_run S F (by omega)
            have hk2 := cat_run (S ++ F) { data := #[32] } (by rw [ByteArray.size_append]; show _ + 1 ≤ _; omega)
            have hk3 := cat_run (S ++ F ++ { data := #[32] }) D (by rw [ByteArray.size_append, ByteArray.size_append]; show _ + 1 + _ ≤ _; omega)
            go_wp2_with fail
            go_region_held3 (fun W => Below wr.heap.size wr W ∧ W.cell? ⟨w.heap.size, 0, none⟩ = some (.int .i64 m) ∧ W.cell? ⟨w.heap.size, 1, none⟩ = some (.slice (some ⟨b, off, none⟩) n c) ∧ W.cell? ⟨b, off + k, none⟩ = some (.int .i64 (u : Int)))
              (first | with_reducible exact HS0.out | with_reducible assumption | with_reducible exact HK.out _ _ (by assumption) (by assumption) | go_keep)
              (first | (go_at_call 21; refine (HFS.out _).mono ?_; rintro e w9 ⟨rfl, rfl⟩) | (go_at_call 20; refine (HDX.out _).mono ?_; rintro e w9 ⟨rfl, b9⟩))
            all_goals
              go_wp2_with fail
              go_roundw
              case rel => exact ⟨k + 1, by omega, by go_num, by rw [HQ.out] <;> rfl, HB.out.trans (Below.mono (And.left (by assumption)) HB.out.size)⟩
              case measure => simp [intOf]; omega
          · obtain ⟨pl, d, hd9, hpl⟩ := partsL_last k he
            have hl : ((S[S.size - 1].toNat : Int) != 58) = true := by
              rw [last_at (l := headL m ++ pl) (b := UInt8.ofNat (48 + d)) (by rw [hS, hpl, List.append_assoc]) hlt1]
              have h1 : (UInt8.ofNat (48 + d)).toNat = 48 + d := by simp; omega
              rw [h1]
              simp
              omega
            have HQ : Hid (bs (headL m ++ partsL xs (k + 1)) = (((S ++ bs [44]) ++ F) ++ bs [32]) ++ D) := by
              show _ = _
              rw [partsL, if_neg (by rw [← hx]; exact h0), if_neg he, ← List.append_assoc, ← List.append_assoc, ← bs_append, hE, ← bs_append, hS]
              simp only [ByteArray.append_assoc]
            rw [← hS]
            clear hS he hx h0 hE hF hD hpl
            have hk1 := cat_run (S ++ { data := #[44] }) F (by rw [ByteArray.size_append]; show _ + 1 + _ ≤ _; omega)
            have hk2 := cat_run (S ++ { data := #[44] } ++ F) { data := #[32] } (by rw [ByteArray.size_append, ByteArray.size_append]; show _ + 1 + _ + 1 ≤ _; omega)
            have hk3 := cat_run (S ++ { data := #[44] } ++ F ++ { data := #[32] }) D (by rw [ByteArray.size_append, ByteArray.size_append, ByteArray.size_append]; show _ + 1 + _ + 1 + _ ≤ _; omega)
            go_wp2_with fail
            go_region_held3 (fun W => Below wr.heap.size wr W ∧ W.cell? ⟨w.heap.size, 0, none⟩ = some (.int .i64 m) ∧ W.cell? ⟨w.heap.size, 1, none⟩ = some (.slice (some ⟨b, off, none⟩) n c) ∧ W.cell? ⟨b, off + k, none⟩ = some (.int .i64 (u : Int)))
              (first | with_reducible exact HS0.out | with_reducible assumption | with_reducible exact HK.out _ _ (by assumption) (by assumption) | go_keep)
              (first | (go_at_call 21; refine (HFS.out _).mono ?_; rintro e w9 ⟨rfl, rfl⟩) | (go_at_call 20; refine (HDX.out _).mono ?_; rintro e w9 ⟨rfl, b9⟩))
            all_goals
              go_wp2_with fail
              go_roundw
              case rel => exact ⟨k + 1, by omega, by go_num, by rw [HQ.out] <;> rfl, HB.out.trans (Below.mono (And.left (by assumption)) HB.out.size)⟩
              case measure => simp [intOf]; omega
      · obtain rfl : n = k := by omega
        rw [← hS]
        have HO : Hid (bs (fmtT (m : Int) xs) = S) := by show _ = _; rw [HF.out, hS]
        clear hS
        go_wp2_with fail
        go_ret
        exact ⟨by rw [HO.out] <;> rfl, HB0.out.trans (HB.out.mono HB0.out.size)⟩
  · have hm' : massB s xs = false := by simpa using hm
    rw [hm'] at HM
    have HF : Hid (bs (fmtT s xs) = { data := #[] }) := by show _ = _; rw [fmtT, if_neg hm]; rfl
    clear hm hm'
    go_enter Tryz.func6, Tryz.ntmps6
    go_wp2_with fail
    rw [← HW0.out]
    refine HM.out.mono ?_
    rintro e w1 ⟨rfl, b1⟩
    have HB1 := Lib.hid (HB0.out.trans (b1.mono HB0.out.size))
    clear b1
    go_wp2_with fail
    go_ret
    exact ⟨by rw [HF.out] <;> rfl, HB1.out⟩
end Go.Proofs.YtlfajalhoifliaaGreatDoor
