/- Plain facts: texts cut at a byte, decimal numbers read again. No program. -/
import Derived.Test.YtlfajalhoifliaaGreatDoorW73
import Derived.Lib.SplitLaws
import Derived.Lib.CutLaws
import Derived.Lib.AtoiTie
namespace Go.Proofs.YtlfajalhoifliaaGreatDoor
open Go.RowKit

/-- a text cut at every byte c -/
def cutL (c : UInt8) : List UInt8 → List (List UInt8)
  | [] => [[]]
  | b :: r => if b = c then [] :: cutL c r else (b :: (cutL c r).headD []) :: (cutL c r).tail
theorem cutL_ne (c : UInt8) : ∀ l, cutL c l ≠ []
  | [] => by simp [cutL]
  | b :: r => by unfold cutL; split <;> simp
theorem cutL_no {c : UInt8} : ∀ {a : List UInt8}, c ∉ a → cutL c a = [a]
  | [], _ => rfl
  | b :: r, h => by
    have hb : ¬ b = c := fun e => h (by rw [e]; simp)
    have hr : c ∉ r := fun e => h (List.mem_cons_of_mem _ e)
    rw [cutL, if_neg hb, cutL_no hr]
    rfl
theorem cutL_at {c : UInt8} (b : List UInt8) : ∀ {a : List UInt8}, c ∉ a → cutL c (a ++ c :: b) = a :: cutL c b
  | [], _ => by simp [cutL]
  | x :: r, h => by
    have hb : ¬ x = c := fun e => h (by rw [e]; simp)
    have hr : c ∉ r := fun e => h (List.mem_cons_of_mem _ e)
    rw [List.cons_append, cutL, if_neg hb, cutL_at b hr]
    rfl
theorem cutL_length (c : UInt8) : ∀ l, (cutL c l).length ≤ l.length + 1
  | [] => by simp [cutL]
  | b :: r => by
    have := cutL_length c r
    unfold cutL
    split
    · simp; omega
    · simp
      omega
theorem cutL_mem {c : UInt8} : ∀ {l x : List UInt8}, x ∈ cutL c l → x.length ≤ l.length
  | [], x, h => by simp [cutL] at h; simp [h]
  | b :: r, x, h => by
    unfold cutL at h
    split at h
    · rcases List.mem_cons.1 h with rfl | h
      · simp
      · have := cutL_mem h
        simp; omega
    · rcases List.mem_cons.1 h with rfl | h
      · have h2 : (cutL c r).headD [] ∈ cutL c r := by
          cases hc : cutL c r with
          | nil => exact absurd hc (cutL_ne c r)
          | cons y t => simp
        have := cutL_mem h2
        simp only [List.length_cons]; omega
      · have := cutL_mem (List.mem_of_mem_tail h)
        simp; omega
/-- joined texts are cut again -/
theorem cutL_join {c : UInt8} : ∀ {es : List (List UInt8)}, es ≠ [] → (∀ e ∈ es, c ∉ e) → cutL c (Go.Lib.join es [c]) = es
  | [], h, _ => absurd rfl h
  | [e], _, h => by
    rw [Go.Lib.join_one]
    exact cutL_no (h e (by simp))
  | e :: f :: r, _, h => by
    have ih := cutL_join (es := f :: r) (by simp) (fun x hx => h x (List.mem_cons_of_mem _ hx))
    have he : Go.Lib.join (e :: f :: r) [c] = e ++ c :: Go.Lib.join (f :: r) [c] := by
      rw [Go.Lib.join_cons, Go.Lib.join_cons]
      simp [Go.Lib.joinTail]
    rw [he, cutL_at _ (h e (by simp)), ih]
/-- the digits of a decimal number -/
theorem dec_digit {u : Nat} : ∀ b ∈ Go.Lib.decDigits u, 48 ≤ b.toNat ∧ b.toNat ≤ 57 := by
  induction u using Nat.strongRecOn with
  | ind u ih =>
    intro b hb
    by_cases h9 : 9 < u
    · rw [dec_step h9] at hb
      rcases List.mem_append.1 hb with h | h
      · exact ih (u / 10) (by omega) b h
      · simp at h; subst h; simp; omega
    · rw [Go.Lib.decDigits_one (by omega)] at hb
      simp at hb; subst hb; simp; omega
theorem dec_ne (u : Nat) : Go.Lib.decDigits u ≠ [] := by
  obtain ⟨l, d, _, h⟩ := dec_last u
  rw [h]; simp
theorem dec_no {u : Nat} {c : UInt8} (h : c.toNat < 48 ∨ 57 < c.toNat) : c ∉ Go.Lib.decDigits u := fun hm => by
  have := dec_digit c hm
  omega
/-- a number of more than one digit does not begin with 0 -/
theorem dec_head {u : Nat} : ∀ {b : UInt8} {r : List UInt8}, Go.Lib.decDigits u = b :: r → b = 48 → r = [] := by
  induction u using Nat.strongRecOn with
  | ind u ih =>
    intro b r h hb
    by_cases h9 : 9 < u
    · rw [dec_step h9] at h
      cases hd : Go.Lib.decDigits (u / 10) with
      | nil => exact absurd hd (dec_ne _)
      | cons x t =>
        rw [hd] at h
        simp at h
        have hx := h.1.trans hb
        have ht := ih (u / 10) (by omega) hd hx
        subst ht
        -- u / 10 has one digit which is 0
        by_cases h99 : 9 < u / 10
        · rw [dec_step h99] at hd
          have := dec_ne (u / 10 / 10)
          have hl := congrArg List.length hd
          simp at hl
          exact absurd hl this
        · rw [Go.Lib.decDigits_one (by omega)] at hd
          simp at hd
          have h2 := congrArg UInt8.toNat (hd.trans hx)
          simp at h2
          omega
    · rw [Go.Lib.decDigits_one (by omega)] at h
      simp at h
      exact h.2
/-- the number that digits spell -/
def numFrom (n : Nat) (l : List UInt8) : Nat := l.foldl (fun n b => n * 10 + (b.toNat - 48)) n
theorem numFrom_dec (u : Nat) : numFrom 0 (Go.Lib.decDigits u) = u := by
  induction u using Nat.strongRecOn with
  | ind u ih =>
    by_cases h9 : 9 < u
    · rw [dec_step h9]
      unfold numFrom
      rw [List.foldl_append]
      have := ih (u / 10) (by omega)
      unfold numFrom at this
      rw [this]
      simp
      omega
    · rw [Go.Lib.decDigits_one (by omega)]
      simp [numFrom]
      omega
theorem decFrom_num : ∀ (l : List UInt8) (n : Nat), (∀ b ∈ l, 48 ≤ b.toNat ∧ b.toNat ≤ 57) → Go.Lib.decFrom n l = some (numFrom n l)
  | [], n, _ => rfl
  | b :: r, n, h => by
    have hb := h b (by simp)
    rw [Go.Lib.decFrom, Go.Lib.digitVal, if_pos hb]
    simp only
    rw [decFrom_num r _ (fun x hx => h x (List.mem_cons_of_mem _ hx))]
    rfl
theorem atoi_dec (u : Nat) : Go.Lib.atoi (Go.Lib.decDigits u) = some (u : Int) := by
  have hn : Go.Lib.decNat (Go.Lib.decDigits u) = some u := by
    unfold Go.Lib.decNat
    rw [if_neg (by simpa using dec_ne u), decFrom_num _ _ dec_digit, numFrom_dec]
  cases hd : Go.Lib.decDigits u with
  | nil => exact absurd hd (dec_ne u)
  | cons b r =>
    have hb := dec_digit b (by rw [hd]; simp)
    rw [hd] at hn
    unfold Go.Lib.atoi
    simp only
    rw [if_neg (by intro e; rw [beq_iff_eq] at e; rw [e] at hb; simp at hb), if_neg (by intro e; rw [beq_iff_eq] at e; rw [e] at hb; simp at hb), hn]
    rfl
theorem atoiAll_dec {u : Nat} (h : u < 10 ^ 18) : Go.Lib.atoiAll (Go.Lib.decDigits u) = .ok (u : Int) := by
  rw [Go.Lib.atoiAll_short _ (dec_length (k := 18) (by omega) h), atoi_dec]
  rfl
/-- letters of sets -/
theorem ansL_mem {a : Nat} : ∀ x, x ≤ 4 → ∀ b ∈ ansL a x, 97 ≤ b.toNat
  | 0, _, b, h => by simp [ansL] at h
  | x + 1, hx, b, h => by
    unfold ansL at h
    split at h
    · rcases List.mem_append.1 h with h | h
      · exact ansL_mem x (by omega) b h
      · simp at h; subst h; simp; omega
    · exact ansL_mem x (by omega) b h
theorem setL_mem {a : Nat} {b : UInt8} (h : b ∈ setL a) : b = 45 ∨ 97 ≤ b.toNat := by
  unfold setL at h
  split at h
  · simp at h; exact .inl h
  · exact .inr (ansL_mem 4 (by omega) b h)
theorem setL_no {a : Nat} {c : UInt8} (h : c = 32 ∨ c = 44 ∨ c = 58) : c ∉ setL a := fun hm => by
  rcases setL_mem hm with h1 | h1 <;> rcases h with rfl | rfl | rfl <;> simp at h1
theorem setL_inj16 : ∀ a b : Fin 16, setL a.val = setL b.val → a = b := by decide +kernel
theorem setL_inj {a b : Nat} (ha : a < 16) (hb : b < 16) (h : setL a = setL b) : a = b := by
  have := setL_inj16 ⟨a, ha⟩ ⟨b, hb⟩ h
  exact congrArg Fin.val this
theorem entL_no {xs : List Int} {k : Nat} {c : UInt8} (h : c = 44 ∨ c = 58) : c ∉ entL xs k := fun hm => by
  unfold entL at hm
  rcases List.mem_append.1 hm with h1 | h1
  · exact setL_no (by rcases h with h | h <;> simp [h]) h1
  · rcases List.mem_append.1 h1 with h2 | h2
    · simp at h2; rcases h with rfl | rfl <;> simp at h2
    · exact dec_no (by rcases h with rfl | rfl <;> simp) h2
theorem entL_cut (xs : List Int) (k : Nat) : cutL 32 (entL xs k) = [setL k, Go.Lib.decDigits (xs.getD k 0).toNat] := by
  unfold entL
  rw [List.singleton_append, cutL_at _ (setL_no (.inl rfl)), cutL_no (dec_no (by simp))]
theorem mass_foc {s : Int} {xs : List Int} (h : massB s xs = true) : focL xs xs.length ≠ [] := fun he => by
  have hI := massB_is rfl h
  have h0 : ∀ k, k < xs.length → xs.getD k 0 = (fun _ => (0 : Int)) k := fun k hk => by
    by_cases hz : xs.getD k 0 = 0
    · exact hz
    · have := (mem_focL (xs := xs) (a := k) xs.length).2 ⟨hk, hz⟩
      rw [he] at this
      cases this
  have hs : sumL xs = 0 := by
    unfold sumL
    rw [sumTo_congr _ h0]
    have : ∀ n, sumTo (fun _ => (0 : Int)) n = 0 := fun n => by
      induction n with
      | zero => rfl
      | succ n ih => simp [sumTo, ih]
    exact this _
  have := hI.whole
  omega
theorem partsL_cut {s : Int} {xs : List Int} (h : massB s xs = true) : cutL 44 (partsL xs xs.length) = (focL xs xs.length).map (entL xs) := by
  rw [← (parts_join xs xs.length).1]
  refine cutL_join (by simpa using mass_foc h) (fun e he => ?_)
  obtain ⟨k, _, rfl⟩ := List.mem_map.1 he
  exact entL_no (.inl rfl)
theorem partsL_no {xs : List Int} : ∀ k, (58 : UInt8) ∉ partsL xs k
  | 0 => by simp [partsL]
  | k + 1 => by
    unfold partsL
    split
    · exact partsL_no k
    · intro hm
      rcases List.mem_append.1 hm with h1 | h1
      · split at h1
        · cases h1
        · rcases List.mem_append.1 h1 with h2 | h2
          · exact partsL_no k h2
          · simp at h2
      · exact entL_no (.inr rfl) h1
/-- the text of a mass, cut at its colon -/
theorem fmtT_cut {s : Int} {xs : List Int} (h : massB s xs = true) : cutL 58 (fmtT s xs) = [Go.Lib.decDigits s.toNat, partsL xs xs.length] := by
  rw [fmtT, if_pos h, headL, List.append_assoc, List.singleton_append, cutL_at _ (dec_no (by simp)), cutL_no (partsL_no _)]
/-- what a text spells: a mass of which it is the text -/
def Good (l : List UInt8) (p : Int × List Int) : Prop := massB p.1 p.2 = true ∧ l = fmtT p.1 p.2
open Classical in
noncomputable def parR (l : List UInt8) : MassR := if h : ∃ p, Good l p then some (Classical.choose h) else none
theorem parR_no {l : List UInt8} (h : ∀ p, ¬ Good l p) : parR l = none := by
  unfold parR
  rw [dif_neg (fun ⟨p, hp⟩ => h p hp)]
theorem parR_yes {l : List UInt8} {p : Int × List Int} (hp : Good l p) (hu : ∀ q, Good l q → q = p) : parR l = some p := by
  have he : ∃ p, Good l p := ⟨p, hp⟩
  unfold parR
  rw [dif_pos he, hu _ (Classical.choose_spec he)]
/-- the parts of the first i sets that have one -/
def putTo (xs : List Int) (n i : Nat) : List Int := tab n (fun k => if k ∈ (focL xs xs.length).take i then xs.getD k 0 else 0)
theorem tab_at {n : Nat} {f : Nat → Int} {k : Nat} (h : k < (tab n f).length) : (tab n f)[k] = f k := by simp [tab]
theorem getD_at {xs : List Int} {k : Nat} (h : k < xs.length) : xs.getD k 0 = xs[k] := by simp [List.getD, h]
theorem putTo_zero (xs : List Int) (n : Nat) : putTo xs n 0 = List.replicate n 0 := by
  unfold putTo
  refine List.ext_getElem (by simp [tab_length]) (fun i h1 h2 => ?_)
  rw [tab_at]
  simp
theorem putTo_step {xs : List Int} {n i : Nat} (h : i < (focL xs xs.length).length) : putTo xs n (i + 1) = (putTo xs n i).set ((focL xs xs.length).getD i 0) (xs.getD ((focL xs xs.length).getD i 0) 0) := by
  have e : (focL xs xs.length).take (i + 1) = (focL xs xs.length).take i ++ [(focL xs xs.length).getD i 0] := by
    rw [List.take_succ_eq_append_getElem h]; simp [List.getD, h]
  obtain ⟨y, hy⟩ : ∃ y, y = (focL xs xs.length).getD i 0 := ⟨_, rfl⟩
  rw [← hy] at e ⊢
  unfold putTo
  refine List.ext_getElem (by simp [tab_length]) (fun k h1 h2 => ?_)
  rw [tab_at, List.getElem_set, tab_at]
  by_cases hyk : y = k
  · subst hyk
    rw [if_pos rfl, if_pos (by rw [e]; simp)]
  · rw [if_neg hyk, e]
    simp [show ¬ k = y from fun e => hyk e.symm]
theorem putTo_all (xs : List Int) : putTo xs xs.length (focL xs xs.length).length = xs := by
  unfold putTo
  rw [List.take_length]
  refine List.ext_getElem (by simp [tab_length]) (fun k h1 h2 => ?_)
  rw [tab_at, ← getD_at h2]
  by_cases h0 : xs.getD k 0 = 0
  · rw [if_neg (fun hm => ((mem_focL xs.length).1 hm).2 h0), h0]
  · rw [if_pos ((mem_focL xs.length).2 ⟨h2, h0⟩)]
end Go.Proofs.YtlfajalhoifliaaGreatDoor
