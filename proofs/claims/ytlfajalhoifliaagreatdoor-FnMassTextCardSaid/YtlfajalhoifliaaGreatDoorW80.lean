/- Contracts of strings.Cut, strings.Split, strconv.Atoi, for walks. -/
import Derived.Test.YtlfajalhoifliaaGreatDoorW79
namespace Go.Proofs.YtlfajalhoifliaaGreatDoor
open Go.RowKit

/-- a text cut once at a byte c -/
theorem index_at {c : UInt8} (b : List UInt8) : ∀ {a : List UInt8}, c ∉ a → Go.Lib.index (a ++ c :: b) [c] = a.length
  | [], _ => by simp [Go.Lib.index]
  | x :: r, h => by
    have hx : ¬ c = x := fun e => h (by rw [e]; simp)
    have hr : c ∉ r := fun e => h (List.mem_cons_of_mem _ e)
    have ih := index_at b hr
    rw [List.cons_append, Go.Lib.index, if_neg (by simp [hx]), ih, if_neg (by simp)]
    simp
theorem index_not {c : UInt8} : ∀ {a : List UInt8}, c ∉ a → Go.Lib.index a [c] = -1
  | [], _ => by simp [Go.Lib.index]
  | x :: r, h => by
    have hx : ¬ c = x := fun e => h (by rw [e]; simp)
    have hr : c ∉ r := fun e => h (List.mem_cons_of_mem _ e)
    rw [Go.Lib.index, if_neg (by simp [hx]), index_not hr]
    rfl
theorem cut_at {c : UInt8} {a : List UInt8} (b : List UInt8) (h : c ∉ a) : Go.Lib.cut (a ++ c :: b) [c] = (a, b, true) := by
  unfold Go.Lib.cut
  rw [index_at b h, if_pos (by omega)]
  simp
theorem cut_le (l sep : List UInt8) : (Go.Lib.cut l sep).1.length ≤ l.length ∧ (Go.Lib.cut l sep).2.1.length ≤ l.length := by
  unfold Go.Lib.cut
  split
  · simp; omega
  · simp
/-- every text parts at its first byte c, or holds none -/
theorem part_at (c : UInt8) : ∀ l : List UInt8, c ∉ l ∨ ∃ a b, c ∉ a ∧ l = a ++ c :: b
  | [] => .inl (by simp)
  | x :: r => by
    by_cases hx : c = x
    · exact .inr ⟨[], r, by simp, by rw [hx]; rfl⟩
    · rcases part_at c r with h | ⟨a, b, h1, h2⟩
      · exact .inl (by simp [hx, h])
      · exact .inr ⟨x :: a, b, by simp [hx, h1], by rw [h2]; rfl⟩
theorem split_cut (c : UInt8) : ∀ (n : Nat) (l : List UInt8), l.length ≤ n → Go.Lib.splitK [c] 0 (Go.Lib.count l [c]) l = cutL c l := by
  intro n
  induction n with
  | zero =>
    intro l hl
    have : l = [] := by cases l <;> simp at hl ⊢
    subst this
    rw [Go.Lib.count_miss (by rfl)]
    rfl
  | succ n ih =>
    intro l hl
    rcases part_at c l with h | ⟨a, b, h1, h2⟩
    · rw [Go.Lib.count_miss (index_not h), cutL_no h]
      rfl
    · subst h2
      have hi := index_at b h1
      rw [Go.Lib.count_hit (by simp) hi, cutL_at b h1, Nat.add_comm 1, Go.Lib.splitK, if_neg (by rw [hi]; simp), hi]
      have hd : (a ++ c :: b).drop (a.length + [c].length) = b := by simp
      have ht : (a ++ c :: b).take ((a.length : Int).toNat + 0) = a := by simp
      have hd2 : (a ++ c :: b).drop ((a.length : Int).toNat + [c].length) = b := by simp
      rw [hd, ht, hd2, ih b (by simp at hl; omega)]
theorem splitB_cut (c : UInt8) (l : List UInt8) : Go.Lib.splitB (bs [c]) 0 (Go.Lib.countB (bs l) (bs [c])) (bs l) = (cutL c l).map bs := by
  have h := Go.Lib.splitB_data (bs [c]) 0 (Go.Lib.countB (bs l) (bs [c])) (bs l)
  have h2 : (bs l).data.toList = l := by simp [bs]
  have h3 : (bs [c]).data.toList = [c] := by simp [bs]
  rw [h2, h3, show Go.Lib.countB (bs l) (bs [c]) = Go.Lib.count l [c] by unfold Go.Lib.countB; rw [h2, h3], split_cut c _ l (Nat.le_refl _)] at h
  rw [← h, List.map_map, show Go.Lib.countB (bs l) (bs [c]) = Go.Lib.count l [c] by unfold Go.Lib.countB; rw [h2, h3]]
  refine (List.map_id _).symm.trans (List.map_congr_left fun x _ => ?_)
  simp [bs]
theorem countB_cut (c : UInt8) (l : List UInt8) : Go.Lib.countB (bs l) (bs [c]) + 1 = (cutL c l).length := by
  have h := congrArg List.length (splitB_cut c l)
  rw [Go.Lib.splitB_all (bs [c]) (by simp [bs, ByteArray.size]) 0 _ _ rfl, List.length_map] at h
  exact h
/-- what the library reads: its tables and its errors -/
structure Env (w : World) : Prop where
  len : ∃ m, w.cell? ⟨0, 0, none⟩ = some (.int .i64 m)
  syn : ∃ ev, w.cell? ⟨1, 0, none⟩ = some ev ∧ (ev = .nilIface ∨ ∃ te pe, ev = .iface te pe)
  rng : ∃ ev, w.cell? ⟨2, 0, none⟩ = some ev ∧ (ev = .nilIface ∨ ∃ te pe, ev = .iface te pe)
  tab : TabP w
theorem Env.below {w w' : World} (h : Env w) (hb : Below w.heap.size w w') : Env w' := by
  obtain ⟨⟨m, hm⟩, ⟨e1, h1, g1⟩, ⟨e2, h2, g2⟩, h3⟩ := h
  exact ⟨⟨m, (hb.cell (World.block_lt_of_cell? _ _ hm)).trans hm⟩, ⟨e1, (hb.cell (World.block_lt_of_cell? _ _ h1)).trans h1, g1⟩, ⟨e2, (hb.cell (World.block_lt_of_cell? _ _ h2)).trans h2, g2⟩, tab_below h3 hb⟩
/-- what strconv.Atoi returns -/
def RetA (l : List UInt8) (e : Ending) : Prop := ∃ (v : Int) (err : Value), e = .returned (.tuple #[.int .i64 v, err]) ∧ (err = .nilIface ∨ ∃ t N, err = .iface t (.pointer (some ⟨N, 0, none⟩))) ∧ ∀ u : Nat, u ≤ 1000000000 → l = Go.Lib.decDigits u → v = u ∧ err = .nilIface
theorem bs_data (l : List UInt8) : (bs l).data.toList = l := by simp [bs]
theorem Atoi_any (l : List UInt8) (w : World) (hl : l.length ≤ 1048576) (hE : Env w) : Calls Tryz.prog 27 #[.string (bs l)] w fun e w' => RetA l e ∧ Below w.heap.size w w' := by
  have hsz : (bs l).size ≤ 1048576 := by rw [bs_size]; exact hl
  cases h : Go.Lib.atoiAll (bs l).data.toList with
  | ok v =>
    refine (Tryz.strconv_Atoi_ok (bs l) (by omega) v h w).mono ?_
    rintro e w' ⟨rfl, hw⟩
    refine ⟨⟨v, .nilIface, rfl, .inl rfl, fun u hu he => ⟨?_, rfl⟩⟩, ?_⟩
    · rw [bs_data, he, atoiAll_dec (by omega)] at h
      injection h with h
      exact h.symm
    · rcases hw with rfl | ⟨t, rfl⟩
      · exact Below.refl _ _
      · exact Go.Lib.bytesWorld_below _ _ _
  | range =>
    obtain ⟨ev, h1, h2⟩ := hE.rng
    refine (Any.strconv_Atoi_range Tryz.laysC172 (bs l) (by omega) h ev w h1 h2).mono ?_
    rintro e w' ⟨N, rfl, _, _, hb⟩
    refine ⟨⟨_, _, rfl, .inr ⟨_, _, rfl⟩, fun u hu he => ?_⟩, hb⟩
    rw [bs_data, he, atoiAll_dec (by omega)] at h
    cases h
  | _ =>
    obtain ⟨ev, h1, h2⟩ := hE.syn
    refine (Any.strconv_Atoi_syntax Tryz.laysC172 (bs l) (by omega) h ev w h1 h2).mono ?_
    rintro e w' ⟨N, rfl, _, _, hb⟩
    refine ⟨⟨_, _, rfl, .inr ⟨_, _, rfl⟩, fun u hu he => ?_⟩, hb⟩
    rw [bs_data, he, atoiAll_dec (by omega)] at h
    cases h
/-- what strings.Cut returns, at one byte -/
def RetC (l : List UInt8) (c : UInt8) (e : Ending) : Prop := ∃ (a b : List UInt8) (ok : Bool), e = .returned (.tuple #[.string (bs a), .string (bs b), .bool ok]) ∧ a.length ≤ l.length ∧ b.length ≤ l.length ∧ (ok = true → l ≠ []) ∧ ∀ x y, c ∉ x → l = x ++ c :: y → a = x ∧ b = y ∧ ok = true
theorem Cut_any (l : List UInt8) (c : UInt8) (w : World) (hl : l.length ≤ 1048576) (hE : Env w) : Calls Tryz.prog 26 #[.string (bs l), .string { data := #[c] }] w fun e w' => RetC l c e ∧ Below w.heap.size w w' := by
  obtain ⟨m, hm⟩ := hE.len
  refine (Tryz.strings_Cut (bs l) { data := #[c] } m w (by rw [bs_size]; omega) hm).mono ?_
  rintro e w' ⟨rfl, n, rfl⟩
  rw [bs_data, show ({ data := #[c] } : ByteArray).data.toList = [c] from rfl]
  refine ⟨⟨_, _, _, rfl, (cut_le l [c]).1, (cut_le l [c]).2, fun h e => by rw [e] at h; simp [Go.Lib.cut, Go.Lib.index] at h, fun x y hx he => ?_⟩, below_drewN (Below.refl _ _) n⟩
  rw [he, cut_at y hx]
  exact ⟨rfl, rfl, rfl⟩
theorem Split_any (l : List UInt8) (c : UInt8) (w : World) (hl : l.length ≤ 1048576) (hE : Env w) : Calls Tryz.prog 29 #[.string (bs l), .string { data := #[c] }] w fun e w' =>
    ∃ G C, e = .returned (.slice (some ⟨G, 0, none⟩) (cutL c l).length C) ∧ OwnS w.heap.size w' (some ⟨G, 0, none⟩) (cutL c l).length C ((cutL c l).map bs) ∧ Below w.heap.size w w' := by
  obtain ⟨m, hm⟩ := hE.len
  refine (Tryz.strings_Split (bs l) (bs [c]) m w (by rw [bs_size]; omega) hm (by simp [bs, ByteArray.size])).mono ?_
  rintro e w' ⟨rfl, rfl⟩
  rw [countB_cut, splitB_cut]
  refine ⟨w.heap.size, _, rfl, ?_, (Below.refl _ _).alloc (Nat.le_refl _) _⟩
  have h := World.ownsRow_lit (base := w.heap.size) (e := 9) (size := 1) w (((cutL c l).map bs).map Value.string).toArray (cutL c l).length (Nat.le_refl _) (by unfold maxLen; have := cutL_length c l; omega) (by simp)
  unfold OwnS
  simpa using h
end Go.Proofs.YtlfajalhoifliaaGreatDoor
