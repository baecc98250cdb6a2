/- Contracts: sets and numbers read from texts. -/
import Derived.Test.YtlfajalhoifliaaGreatDoorW74
namespace Go.Proofs.YtlfajalhoifliaaGreatDoor
open Go.RowKit

/-- what the reading of a set from a text returns -/
def RetS (s : ByteArray) (e : Ending) : Prop := ∃ (v : Nat) (ok : Bool), v < 16 ∧ e = .returned (.tuple #[.int .i64 v, .bool ok]) ∧ ∀ k, k < 16 → s = bs (setL k) → v = k ∧ ok = true
/-- what the reading of a number from a text returns -/
def RetN (l : List UInt8) (e : Ending) : Prop := ∃ (v : Int) (ok : Bool), e = .returned (.tuple #[.int .i64 v, .bool ok]) ∧ ∀ u : Nat, u ≤ 1000000000 → l = Go.Lib.decDigits u → v = u ∧ ok = true
theorem toList_ne {F s : ByteArray} (h : F ≠ s) : (F.toList == s.toList) = false := by
  rw [beq_eq_false_iff_ne]
  intro e
  rw [ByteArray.toList_eq, ByteArray.toList_eq] at e
  exact h (ByteArray.ext (Array.toList_inj.1 e))
set_option maxHeartbeats 1600000 in
theorem sParseSet_any (s : ByteArray) (w : World) : Calls Tryz.prog 56 #[.string s] w fun e w' => RetS s e ∧ w = w' := by
  go_enter Tryz.func56, Tryz.ntmps56
  go_wp2_with fail
  go_loop [4] (fun i => ∃ k : Nat, k ≤ 16 ∧ i = .int .i64 k ∧ Hid (∀ j, j < k → s ≠ bs (setL j))) (fun i => 16 - (intOf i).toNat)
  case atStart => exact ⟨0, by omega, rfl, fun j hj => by omega⟩
  case round =>
    obtain ⟨k, hk, rfl, HN⟩ := hrel
    by_cases hlt : k < 16
    · have HF := Lib.hid (FormatSet_any k w hlt)
      obtain ⟨F, hF⟩ : ∃ F, F = bs (setL k) := ⟨_, rfl⟩
      rw [← hF] at HF
      have HFF := Lib.hid hF
      clear hF
      by_cases he : F = s
      · subst he
        go_wp2_with (go_at_call 21; refine HF.out.mono ?_; rintro e w' ⟨rfl, rfl⟩)
        refine bodyPost_ret (v := .tuple #[.int .i64 k, .bool true]) (by simp [results, Tryz.results56, go_sem]) rfl ?_
        exact ⟨⟨k, true, hlt, rfl, fun j hj h => ⟨setL_inj hlt hj (bs_inj (HFF.out.symm.trans h)), rfl⟩⟩, rfl⟩
      · have he2 := toList_ne he
        have HE := Lib.hid he
        clear he
        go_wp2_with (go_at_call 21; refine HF.out.mono ?_; rintro e w' ⟨rfl, rfl⟩)
        go_round
        case rel => exact ⟨k + 1, by omega, by go_num, fun j hj => by
          rcases Nat.lt_or_ge j k with h | h
          · exact HN.out j h
          · have : j = k := by omega
            subst this
            rw [← HFF.out]
            exact fun e => HE.out e.symm⟩
        case measure => simp [intOf]; omega
    · obtain rfl : k = 16 := by omega
      go_wp2_with fail
      refine bodyPost_ret (v := .tuple #[.int .i64 0, .bool false]) (by simp [results, Tryz.results56, go_sem]) rfl ?_
      exact ⟨⟨0, false, by omega, rfl, fun j hj h => absurd h (HN.out j hj)⟩, rfl⟩
set_option maxHeartbeats 1600000 in
theorem iParseSet_any (s : ByteArray) (w : World) : Calls Tryz.prog 30 #[.string s] w fun e w' => RetS s e ∧ w = w' := by
  go_enter Tryz.func30, Tryz.ntmps30
  go_wp2_with fail
  go_loop [5] (fun i => ∃ k : Nat, k ≤ 16 ∧ i = .int .i64 k ∧ Hid (∀ j, j < k → s ≠ bs (setL j))) (fun i => 16 - (intOf i).toNat)
  case atStart => exact ⟨0, by omega, rfl, fun j hj => by omega⟩
  case round =>
    obtain ⟨k, hk, rfl, HN⟩ := hrel
    by_cases hlt : k < 16
    · have HF := Lib.hid (setText_any k w hlt)
      obtain ⟨F, hF⟩ : ∃ F, F = bs (setL k) := ⟨_, rfl⟩
      rw [← hF] at HF
      have HFF := Lib.hid hF
      clear hF
      by_cases he : F = s
      · subst he
        go_wp2_with (go_at_call 17; refine HF.out.mono ?_; rintro e w' ⟨rfl, rfl⟩)
        refine bodyPost_ret (v := .tuple #[.int .i64 k, .bool true]) (by simp [results, Tryz.results30, go_sem]) rfl ?_
        exact ⟨⟨k, true, hlt, rfl, fun j hj h => ⟨setL_inj hlt hj (bs_inj (HFF.out.symm.trans h)), rfl⟩⟩, rfl⟩
      · have he2 := toList_ne he
        have HE := Lib.hid he
        clear he
        go_wp2_with (go_at_call 17; refine HF.out.mono ?_; rintro e w' ⟨rfl, rfl⟩)
        go_round
        case rel => exact ⟨k + 1, by omega, by go_num, fun j hj => by
          rcases Nat.lt_or_ge j k with h | h
          · exact HN.out j h
          · have : j = k := by omega
            subst this
            rw [← HFF.out]
            exact fun e => HE.out e.symm⟩
        case measure => simp [intOf]; omega
    · obtain rfl : k = 16 := by omega
      go_wp2_with fail
      refine bodyPost_ret (v := .tuple #[.int .i64 0, .bool false]) (by simp [results, Tryz.results30, go_sem]) rfl ?_
      exact ⟨⟨0, false, by omega, rfl, fun j hj h => absurd h (HN.out j hj)⟩, rfl⟩
theorem bs_tail (b : UInt8) (r : List UInt8) : (bs (b :: r)).extract 1 (bs (b :: r)).size = bs r := by
  apply ByteArray.ext
  simp [bs, ByteArray.size]
theorem bs_at (l : List UInt8) (i : Nat) (h : i < (bs l).size) : (bs l)[i] = l[i]'(by rw [bs_size] at h; exact h) := by
  simp [bs, ByteArray.getElem_eq_getElem_data]
theorem run_tail (S R : ByteArray) (h1 : 1 ≤ S.size) (hR : R = S.extract 1 S.size) (W : World) : Sem.run Tryz.prog (Instr.slice 9 (.string S) (some (.int .i64 1)) none none) W = .ok (.string R) W := by
  have hn : ¬ S.size = 0 := by omega
  subst hR
  simp [Instr.slice, Instr.sliceBounds, go_sem, run_underlying Tryz.underlying9]
  omega
theorem numFrom_take {l : List UInt8} {i : Nat} (h : i < l.length) (n : Nat) : numFrom n (l.take (i + 1)) = numFrom n (l.take i) * 10 + (l[i].toNat - 48) := by
  rw [List.take_succ_eq_append_getElem h]
  unfold numFrom
  rw [List.foldl_append]
  rfl
set_option maxHeartbeats 3200000 in
theorem l14Num_any (l : List UInt8) (w : World) (hl : l.length ≤ 1048576) : Calls Tryz.prog 37 #[.string (bs l)] w fun e w' => RetN l e ∧ w = w' := by
  obtain ⟨S, hS⟩ : ∃ S, S = bs l := ⟨_, rfl⟩
  have hSz : S.size = l.length := by rw [hS, bs_size]
  rw [← hS]
  rcases l with _ | ⟨b, r⟩
  · simp only [List.length_nil] at hSz
    clear hS hl
    go_enter Tryz.func37, Tryz.ntmps37
    go_wp2_with fail
    refine bodyPost_ret (v := .tuple #[.int .i64 0, .bool false]) (by simp [results, Tryz.results37, go_sem]) rfl ?_
    exact ⟨⟨0, false, rfl, fun u _ h => absurd h.symm (dec_ne u)⟩, rfl⟩
  · have h0 : 0 < S.size := by rw [hSz]; simp
    have hat : S[0] = b := by subst hS; rw [bs_at]; rfl
    have hS2 : S.size ≤ 1048576 := by rw [hSz]; exact hl
    by_cases hb : b = 45
    · obtain ⟨R, hR⟩ : ∃ R, R = bs r := ⟨_, rfl⟩
      obtain ⟨T, hT⟩ : ∃ T, T = r := ⟨_, rfl⟩
      have hsl := run_tail S R (by omega) (by rw [hR, hS]; exact (bs_tail b r).symm)
      have HU : Hid (∀ u, b :: r = Go.Lib.decDigits u → T = b :: r ∧ true = false) := fun u h => by
        have := dec_digit b (by rw [← h]; simp)
        rw [hb] at this
        simp at this
      rw [← hT] at hR
      have h45 : ((S[0].toNat : Int) == 45) = true := by rw [hat, hb]; rfl
      have hTl : T.length ≤ 1048576 := by rw [hT]; simp at hl; omega
      clear hT hS hb hat hl hSz
      have hRz : R.size = T.length := by rw [hR, bs_size]
      rcases T with _ | ⟨c, q⟩
      · simp only [List.length_nil] at hRz
        clear hR hTl
        go_enter Tryz.func37, Tryz.ntmps37
        go_wp2_with fail
        refine bodyPost_ret (v := .tuple #[.int .i64 0, .bool false]) (by simp [results, Tryz.results37, go_sem]) rfl ?_
        exact ⟨⟨0, false, rfl, fun u _ h => absurd (HU.out u h).2 (by simp)⟩, rfl⟩
      · have hR0 : 0 < R.size := by rw [hRz]; simp
        have hRat : R[0] = c := by subst hR; rw [bs_at]; rfl
        have hRe : ¬ R = ByteArray.empty := fun e => by rw [e] at hR0; simp at hR0
        by_cases h17 : 17 < R.size
        · clear hR hRz
          go_enter Tryz.func37, Tryz.ntmps37
          go_wp2_with fail
          refine bodyPost_ret (v := .tuple #[.int .i64 0, .bool false]) (by simp [results, Tryz.results37, go_sem]) rfl ?_
          exact ⟨⟨0, false, rfl, fun u _ h => absurd (HU.out u h).2 (by simp)⟩, rfl⟩
        · by_cases h48 : c = 48
          · have hc48 : ((R[0].toNat : Int) == 48) = true := by rw [hRat, h48]; rfl
            clear hR hRz hRat h48
            by_cases h1 : 1 < R.size
            all_goals
              go_enter Tryz.func37, Tryz.ntmps37
              go_wp2_with fail
              refine bodyPost_ret (v := .tuple #[.int .i64 0, .bool false]) (by simp [results, Tryz.results37, go_sem]) rfl ?_
              exact ⟨⟨0, false, rfl, fun u _ h => absurd (HU.out u h).2 (by simp)⟩, rfl⟩
          · have hc48 : ((R[0].toNat : Int) == 48) = false := by
              rw [hRat, beq_eq_false_iff_ne]
              intro e
              exact h48 (UInt8.toNat_inj.1 (by have : c.toNat = 48 := by omega
                                               rw [this]; rfl))
            obtain ⟨T, hT⟩ : ∃ T, T = c :: q := ⟨_, rfl⟩
            rw [← hT] at hR hRz hTl HU
            have hRe0 : ((R.size : Int) == 0) = false := by rw [beq_eq_false_iff_ne]; omega
            have h17d : decide (17 < (R.size : Int)) = false := by simp; omega
            have HR := Lib.hid hR
            have HRZ := Lib.hid hRz
            clear hT hRat h48 hR hRz
            go_enter Tryz.func37, Tryz.ntmps37
            go_wp2_with fail
            go_loop [5, 6] (fun n i => ∃ k m : Nat, k ≤ R.size ∧ i = .int .i64 k ∧ n = .int .i64 m ∧ Hid (m = numFrom 0 (T.take k)) ∧ Hid (m < 10 ^ k)) (fun _ i => R.size - (intOf i).toNat)
            case atStart => exact ⟨0, 0, by omega, rfl, rfl, rfl, by show _ < _; simp⟩
            case round =>
              obtain ⟨k, m, hk, rfl, rfl, HM, HP⟩ := hrel
              have hm17 : m < 10 ^ 17 := Nat.lt_of_lt_of_le HP.out (Nat.pow_le_pow_right (by decide) (by omega))
              by_cases hlt : k < R.size
              · have hTk : k < T.length := by rw [← HRZ.out]; exact hlt
                have hy2 : R[k] = T[k] := by have hR := HR.out; subst hR; rw [bs_at]
                have HST : Hid (numFrom 0 (T.take (k + 1)) = m * 10 + (R[k].toNat - 48)) := by show _ = _; rw [numFrom_take hTk, hy2, ← HM.out]
                have HMEM : Hid (∀ u, T = Go.Lib.decDigits u → 48 ≤ R[k].toNat ∧ R[k].toNat ≤ 57) := fun u h => by rw [hy2]; exact dec_digit _ (by rw [← h]; exact List.getElem_mem _)
                obtain ⟨y, hy⟩ : ∃ y, R[k].toNat = y := ⟨_, rfl⟩
                have hy8 : y < 256 := by rw [← hy]; exact UInt8.toNat_lt _
                rw [hy] at HST HMEM
                clear hy2
                by_cases hlo : y < 48
                · go_wp2_with fail
                  refine bodyPost_ret (v := .tuple #[.int .i64 0, .bool false]) (by simp [results, Tryz.results37, go_sem]) rfl ?_
                  exact ⟨⟨0, false, rfl, fun u _ h => by have h1 := HU.out u h; have h2 := HMEM.out u (h1.1.trans h); omega⟩, rfl⟩
                · by_cases hhi : 57 < y
                  · go_wp2_with fail
                    refine bodyPost_ret (v := .tuple #[.int .i64 0, .bool false]) (by simp [results, Tryz.results37, go_sem]) rfl ?_
                    exact ⟨⟨0, false, rfl, fun u _ h => by have h1 := HU.out u h; have h2 := HMEM.out u (h1.1.trans h); omega⟩, rfl⟩
                  · obtain ⟨d, hd⟩ : ∃ d, y = 48 + d := ⟨y - 48, by omega⟩
                    have hd9 : d ≤ 9 := by omega
                    subst hd
                    have hsub : IntKind.u8.wrap (((48 + d : Nat) : Int) - 48) = d := by rw [show ((48 + d : Nat) : Int) - 48 = d by omega]; exact Int.emod_eq_of_lt (by omega) (by simp [IntKind.bits]; omega)
                    go_wp2_with fail
                    go_round
                    case rel => exact ⟨k + 1, m * 10 + d, by omega, by go_num, by go_num, by show _ = _; rw [HST.out]; omega, by show _ < _; have := HP.out; rw [Nat.pow_succ]; omega⟩
                    case measure => simp [intOf]; omega
              · obtain rfl : k = R.size := by omega
                go_wp2_with fail
                refine bodyPost_ret (v := .tuple #[.int .i64 (-(m : Int)), .bool true]) (by simp [results, Tryz.results37, go_sem]) rfl ?_
                exact ⟨⟨_, true, rfl, fun u _ h => absurd (HU.out u h).2 (by simp)⟩, rfl⟩
    · obtain ⟨R, hR⟩ : ∃ R, R = S := ⟨_, rfl⟩
      obtain ⟨T, hT⟩ : ∃ T, T = b :: r := ⟨_, rfl⟩
      have HU : Hid (∀ u, b :: r = Go.Lib.decDigits u → T = b :: r ∧ T = Go.Lib.decDigits u) := fun u h => ⟨hT, hT.trans h⟩
      rw [← hR, ← hT] at hS
      rw [← hR] at hSz h0 hS2 ⊢
      have hat2 : R[0] = b := by subst hR; exact hat
      have h45 : ((R[0].toNat : Int) == 45) = false := by
        rw [hat2, beq_eq_false_iff_ne]
        intro e
        exact hb (UInt8.toNat_inj.1 (by have : b.toNat = 45 := by omega
                                        rw [this]; rfl))
      have hRe : ¬ R = ByteArray.empty := fun e => by rw [e] at h0; simp at h0
      have HD : Hid (∀ u : Nat, u ≤ 1000000000 → b :: r = Go.Lib.decDigits u → R.size ≤ 10) := fun u hu h => by
        rw [hSz, h]; exact dec_length (by omega) (by omega)
      have HD2 : Hid (∀ u : Nat, b :: r = Go.Lib.decDigits u → b = 48 → R.size = 1) := fun u h h2 => by
        rw [hSz, dec_head h.symm h2]; rfl
      have HRZ : Hid (R.size = T.length) := by show _ = _; rw [hSz, hT]
      have HR := Lib.hid hS
      clear hT hat hb hS hSz hR
      by_cases h17 : 17 < R.size
      · clear hat2
        go_enter Tryz.func37, Tryz.ntmps37
        go_wp2_with fail
        refine bodyPost_ret (v := .tuple #[.int .i64 0, .bool false]) (by simp [results, Tryz.results37, go_sem]) rfl ?_
        exact ⟨⟨0, false, rfl, fun u hu h => absurd (HD.out u hu h) (by omega)⟩, rfl⟩
      · by_cases h48 : b = 48 ∧ 1 < R.size
        · have hc48 : ((R[0].toNat : Int) == 48) = true := by rw [hat2, h48.1]; rfl
          have h1 := h48.2
          have HB := Lib.hid h48.1
          clear hat2 h48
          go_enter Tryz.func37, Tryz.ntmps37
          go_wp2_with fail
          refine bodyPost_ret (v := .tuple #[.int .i64 0, .bool false]) (by simp [results, Tryz.results37, go_sem]) rfl ?_
          exact ⟨⟨0, false, rfl, fun u hu h => absurd (HD2.out u h HB.out) (by omega)⟩, rfl⟩
        · have hRe0 : ((R.size : Int) == 0) = false := by rw [beq_eq_false_iff_ne]; omega
          have h17d : decide (17 < (R.size : Int)) = false := by simp; omega
          by_cases hb8 : b = 48
          · have h1 : decide (1 < (R.size : Int)) = false := by simp; have : ¬ 1 < R.size := fun h => h48 ⟨hb8, h⟩; omega
            have hc48 : ((R[0].toNat : Int) == 48) = true := by rw [hat2, hb8]; rfl
            clear hat2 h48 hb8
            go_enter Tryz.func37, Tryz.ntmps37
            go_wp2_with fail
            go_loop [5, 6] (fun n i => ∃ k m : Nat, k ≤ R.size ∧ i = .int .i64 k ∧ n = .int .i64 m ∧ Hid (m = numFrom 0 (T.take k)) ∧ Hid (m < 10 ^ k)) (fun _ i => R.size - (intOf i).toNat)
            case atStart => exact ⟨0, 0, by omega, rfl, rfl, rfl, by show _ < _; simp⟩
            case round =>
              obtain ⟨k, m, hk, rfl, rfl, HM, HP⟩ := hrel
              have hm17 : m < 10 ^ 17 := Nat.lt_of_lt_of_le HP.out (Nat.pow_le_pow_right (by decide) (by omega))
              by_cases hlt : k < R.size
              · have hTk : k < T.length := by rw [← HRZ.out]; exact hlt
                have hy2 : R[k] = T[k] := by have hR := HR.out; subst hR; rw [bs_at]
                have HST : Hid (numFrom 0 (T.take (k + 1)) = m * 10 + (R[k].toNat - 48)) := by show _ = _; rw [numFrom_take hTk, hy2, ← HM.out]
                have HMEM : Hid (∀ u, T = Go.Lib.decDigits u → 48 ≤ R[k].toNat ∧ R[k].toNat ≤ 57) := fun u h => by rw [hy2]; exact dec_digit _ (by rw [← h]; exact List.getElem_mem _)
                obtain ⟨y, hy⟩ : ∃ y, R[k].toNat = y := ⟨_, rfl⟩
                have hy8 : y < 256 := by rw [← hy]; exact UInt8.toNat_lt _
                rw [hy] at HST HMEM
                clear hy2
                by_cases hlo : y < 48
                · go_wp2_with fail
                  refine bodyPost_ret (v := .tuple #[.int .i64 0, .bool false]) (by simp [results, Tryz.results37, go_sem]) rfl ?_
                  exact ⟨⟨0, false, rfl, fun u _ h => by have h1 := HU.out u h; have h2 := HMEM.out u (h1.1.trans h); omega⟩, rfl⟩
                · by_cases hhi : 57 < y
                  · go_wp2_with fail
                    refine bodyPost_ret (v := .tuple #[.int .i64 0, .bool false]) (by simp [results, Tryz.results37, go_sem]) rfl ?_
                    exact ⟨⟨0, false, rfl, fun u _ h => by have h1 := HU.out u h; have h2 := HMEM.out u (h1.1.trans h); omega⟩, rfl⟩
                  · obtain ⟨d, hd⟩ : ∃ d, y = 48 + d := ⟨y - 48, by omega⟩
                    have hd9 : d ≤ 9 := by omega
                    subst hd
                    have hsub : IntKind.u8.wrap (((48 + d : Nat) : Int) - 48) = d := by rw [show ((48 + d : Nat) : Int) - 48 = d by omega]; exact Int.emod_eq_of_lt (by omega) (by simp [IntKind.bits]; omega)
                    go_wp2_with fail
                    go_round
                    case rel => exact ⟨k + 1, m * 10 + d, by omega, by go_num, by go_num, by show _ = _; rw [HST.out]; omega, by show _ < _; have := HP.out; rw [Nat.pow_succ]; omega⟩
                    case measure => simp [intOf]; omega
              · obtain rfl : k = R.size := by omega
                go_wp2_with fail
                refine bodyPost_ret (v := .tuple #[.int .i64 m, .bool true]) (by simp [results, Tryz.results37, go_sem]) rfl ?_
                exact ⟨⟨_, true, rfl, fun u _ h => ⟨by rw [HM.out, HRZ.out, List.take_length, (HU.out u h).1.trans h, numFrom_dec], rfl⟩⟩, rfl⟩
          · have hc48 : ((R[0].toNat : Int) == 48) = false := by
              rw [hat2, beq_eq_false_iff_ne]
              intro e
              exact hb8 (UInt8.toNat_inj.1 (by have : b.toNat = 48 := by omega
                                               rw [this]; rfl))
            clear hat2 h48 hb8
            go_enter Tryz.func37, Tryz.ntmps37
            go_wp2_with fail
            go_loop [5, 6] (fun n i => ∃ k m : Nat, k ≤ R.size ∧ i = .int .i64 k ∧ n = .int .i64 m ∧ Hid (m = numFrom 0 (T.take k)) ∧ Hid (m < 10 ^ k)) (fun _ i => R.size - (intOf i).toNat)
            case atStart => exact ⟨0, 0, by omega, rfl, rfl, rfl, by show _ < _; simp⟩
            case round =>
              obtain ⟨k, m, hk, rfl, rfl, HM, HP⟩ := hrel
              have hm17 : m < 10 ^ 17 := Nat.lt_of_lt_of_le HP.out (Nat.pow_le_pow_right (by decide) (by omega))
              by_cases hlt : k < R.size
              · have hTk : k < T.length := by rw [← HRZ.out]; exact hlt
                have hy2 : R[k] = T[k] := by have hR := HR.out; subst hR; rw [bs_at]
                have HST : Hid (numFrom 0 (T.take (k + 1)) = m * 10 + (R[k].toNat - 48)) := by show _ = _; rw [numFrom_take hTk, hy2, ← HM.out]
                have HMEM : Hid (∀ u, T = Go.Lib.decDigits u → 48 ≤ R[k].toNat ∧ R[k].toNat ≤ 57) := fun u h => by rw [hy2]; exact dec_digit _ (by rw [← h]; exact List.getElem_mem _)
                obtain ⟨y, hy⟩ : ∃ y, R[k].toNat = y := ⟨_, rfl⟩
                have hy8 : y < 256 := by rw [← hy]; exact UInt8.toNat_lt _
                rw [hy] at HST HMEM
                clear hy2
                by_cases hlo : y < 48
                · go_wp2_with fail
                  refine bodyPost_ret (v := .tuple #[.int .i64 0, .bool false]) (by simp [results, Tryz.results37, go_sem]) rfl ?_
                  exact ⟨⟨0, false, rfl, fun u _ h => by have h1 := HU.out u h; have h2 := HMEM.out u (h1.1.trans h); omega⟩, rfl⟩
                · by_cases hhi : 57 < y
                  · go_wp2_with fail
                    refine bodyPost_ret (v := .tuple #[.int .i64 0, .bool false]) (by simp [results, Tryz.results37, go_sem]) rfl ?_
                    exact ⟨⟨0, false, rfl, fun u _ h => by have h1 := HU.out u h; have h2 := HMEM.out u (h1.1.trans h); omega⟩, rfl⟩
                  · obtain ⟨d, hd⟩ : ∃ d, y = 48 + d := ⟨y - 48, by omega⟩
                    have hd9 : d ≤ 9 := by omega
                    subst hd
                    have hsub : IntKind.u8.wrap (((48 + d : Nat) : Int) - 48) = d := by rw [show ((48 + d : Nat) : Int) - 48 = d by omega]; exact Int.emod_eq_of_lt (by omega) (by simp [IntKind.bits]; omega)
                    go_wp2_with fail
                    go_round
                    case rel => exact ⟨k + 1, m * 10 + d, by omega, by go_num, by go_num, by show _ = _; rw [HST.out]; omega, by show _ < _; have := HP.out; rw [Nat.pow_succ]; omega⟩
                    case measure => simp [intOf]; omega
              · obtain rfl : k = R.size := by omega
                go_wp2_with fail
                refine bodyPost_ret (v := .tuple #[.int .i64 m, .bool true]) (by simp [results, Tryz.results37, go_sem]) rfl ?_
                exact ⟨⟨_, true, rfl, fun u _ h => ⟨by rw [HM.out, HRZ.out, List.take_length, (HU.out u h).1.trans h, numFrom_dec], rfl⟩⟩, rfl⟩
end Go.Proofs.YtlfajalhoifliaaGreatDoor
