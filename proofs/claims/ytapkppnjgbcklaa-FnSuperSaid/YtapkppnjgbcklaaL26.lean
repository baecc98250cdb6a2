/- The walk of the law FnSuper. -/
import Derived.Test.YtapkppnjgbcklaaBase7
import Derived.Test.YtapkppnjgbcklaaLaw5
import Derived.Test.YtapkppnjgbcklaaW14
import Derived.Test.YtapkppnjgbcklaaW15
import Derived.Deep.RegionHeld3
import Derived.Deep.QuietTactic
import Derived.BigQuiet
namespace Go.Proofs.Ytapkppnjgbcklaa
open Go.RowKit

def topB (n : Nat) : Bool := (List.range n).all fun k => subB k (n - 1)
theorem top_all : ∀ n ∈ [2, 4, 8, 16], topB n = true := by decide +kernel
theorem sub_top {n z k : Nat} (h : n = 2 ∨ n = 4 ∨ n = 8 ∨ n = 16) (hz : z = n - 1) (hk : k < n) : subB k z = true := by
  subst hz
  have h1 := top_all n (by simp; omega)
  unfold topB at h1
  exact List.all_eq_true.1 h1 k (by simpa using hk)
set_option maxHeartbeats 6400000 in
set_option maxRecDepth 100000 in
theorem walkSuper (a : Option Addr) (l c : Nat) (bs : List Int) (w : World) (hr : BRow w a l bs) (hlc : l ≤ c) :
    Calls Try.prog 8 #[.slice a l c] w fun e w' => e = .returned (.bool true) ∧ Below w.heap.size w w' := by
  by_cases hl : 1048576 < (l : Int)
  · clear hr
    go_enter Try.func8, Try.ntmps8
    go_wp2_with fail
    go_ret
    exact ⟨rfl, Below.refl _ _⟩
  have HD := Lib.hid (DrawImpliedPart_any a l c bs w hr (.inl hlc))
  clear hr
  go_enter Try.func8, Try.ntmps8
  go_wp2_with fail
  refine HD.out.mono ?_
  rintro e w1 ⟨s, A, n, C, xs, x, rfl, hn17, Rm, b1⟩
  have BB := b1
  have hn : n ≤ 1048576 := by omega
  go_upto_region 4 with fail
  obtain ⟨w2, hw2⟩ : ∃ W, W = w1.alloc (.cells #[.int .i64 s, .slice A n C] 30) := ⟨_, rfl⟩
  obtain ⟨Mm, b2⟩ := Mv.new Rm hw2
  rw [← hw2]
  clear hw2
  replace BB := BB.trans (b2.mono BB.size)
  have HN := Lib.hid (fun W (h : Row W A n xs) => iImpliedPart_any s x A n C xs W h hn)
  have HN2 := Lib.hid (fun W (h : Row W A n xs) => sImpliedPart_any s x A n C xs W h hn)
  by_cases hms : (massB s xs && setB s x) = true
  · obtain ⟨hm, hset⟩ : massB s xs = true ∧ setB s x = true := by simpa using hms
    have hI := massB_is Rm.1 hm
    obtain ⟨y, rfl, hy⟩ := set_nat hI hset
    rw [measure_yes hm hset, Int.toNat_natCast] at HN HN2
    obtain ⟨i, hi⟩ : ∃ i, i = partOf (fun j => subB j y) xs := ⟨_, rfl⟩
    rw [← hi] at HN HN2
    have h16 : n ≤ 16 := by have := hI.nums; omega
    have hib := partOf_bound (pr := fun j => subB j y) Rm.1 hI.part
    rw [← hi] at hib
    obtain ⟨hib0, hib1⟩ := hib
    have hib2 : i ≤ 16000000 := by omega
    have HIE := Lib.hid hi
    have HI := Lib.hid hI
    have HM1 := Lib.hid hm
    have HLX := Lib.hid Rm.1
    clear hms hm hset hI hi hib1
    obtain ⟨m1, m2⟩ := Mm.at_ (Below.refl _ _)
    go_wp2_with fail
    clear m1 m2
    refine (HN.out _ Mm.2).mono ?_
    rintro e w3 ⟨rfl, b3⟩
    replace Mm := Mm.below b3
    replace BB := BB.trans (b3.mono BB.size)
    obtain ⟨m1, m2⟩ := Mm.at_ (Below.refl _ _)
    go_wp2_with fail
    clear m1 m2
    refine (HN2.out _ Mm.2).mono ?_
    rintro e w4 ⟨rfl, b4⟩
    replace Mm := Mm.below b4
    replace BB := BB.trans (b4.mono BB.size)
    have Hm := Lib.hid Mm
    have HBB := Lib.hid BB
    clear BB Mm
    have HSM := Lib.hid (fun (x : Nat) (hx : x < n) => set_mk HI.out.fit hx)
    have HIS : Hid (∀ W, Below w4.heap.size w4 W → Below w4.heap.size w4 W ∧ W.cell? ⟨w1.heap.size, 0, none⟩ = some (.int .i64 s) ∧ W.cell? ⟨w1.heap.size, 1, none⟩ = some (.slice A n C)) := fun W h => ⟨h, (Hm.out.at_ h).1, (Hm.out.at_ h).2⟩
    have HKS : Hid (∀ W W', Below W.heap.size W W' → (Below w4.heap.size w4 W ∧ W.cell? ⟨w1.heap.size, 0, none⟩ = some (.int .i64 s) ∧ W.cell? ⟨w1.heap.size, 1, none⟩ = some (.slice A n C)) → Below w4.heap.size w4 W' ∧ W'.cell? ⟨w1.heap.size, 0, none⟩ = some (.int .i64 s) ∧ W'.cell? ⟨w1.heap.size, 1, none⟩ = some (.slice A n C)) := fun W W' b h => HIS.out W' (h.1.trans (b.mono h.1.size))
    obtain ⟨m1, m2⟩ := Hm.out.at_ (Below.refl _ _)
    go_wp2_with fail
    clear m1 m2
    go_loopw [6] (fun v wr => ∃ j : Nat, j ≤ n ∧ v = .int .i64 j ∧ Hid (Below w4.heap.size w4 wr)) (fun v _ => n - (intOf v).toNat)
    case atStart => exact ⟨0, Nat.zero_le _, rfl, Lib.hid (Below.refl _ _)⟩
    case round =>
      obtain ⟨j, hj, rfl, HB⟩ := hrel
      obtain ⟨m1, m2⟩ := Hm.out.at_ HB.out
      by_cases hlt : j < n
      · have hj16 : j < 16 := by omega
        have hy16 : y < 16 := by omega
        have q1 := implied_super HLX.out h16 (fun k hk => (HI.out.part k hk).1) hy16 hj16
        have q2 := possible_sub HLX.out h16 (fun k hk => (HI.out.part k hk).1) hy16 hj16
        obtain ⟨zo, hzo⟩ : ∃ z, z = y ||| j := ⟨_, rfl⟩
        obtain ⟨za, hza⟩ : ∃ z, z = y &&& j := ⟨_, rfl⟩
        obtain ⟨u, hu⟩ : ∃ z, z = y &&& (15 - j) := ⟨_, rfl⟩
        have hzon : zo < n := by rw [hzo]; exact or_lt HI.out.nums hy hlt
        have hzan : za < n := by rw [hza]; exact and_lt hy
        have e1 := bits_or y j hy16 hj16
        have e2 := bits_and y j hy16 hj16
        have e3 := bits_andNot y j hy16 hj16
        have q3 : u = 0 → partOf (fun i => subB i y) xs ≤ partOf (fun i => subB i j) xs := fun hu0 => part_le HLX.out (fun k hk => (HI.out.part k hk).1) (fun k hk hp => sub_trans16 ⟨y, hy16⟩ ⟨j, hj16⟩ ⟨k, by omega⟩ (by show subB y j = true; unfold subB; rw [← hu, hu0]; rfl) hp)
        have q4 : partOf (fun i => subB zo i) xs ≤ partOf (fun i => subB y i) xs := part_le HLX.out (fun k hk => (HI.out.part k hk).1) (fun k hk hp => by
          have h1 := super16 ⟨y, hy16⟩ ⟨j, hj16⟩ ⟨k, by omega⟩
          simp only [← hzo] at h1
          rw [h1] at hp
          simp only [Bool.and_eq_true] at hp
          exact hp.1)
        have q5 : partOf (fun i => subB zo i) xs ≤ partOf (fun i => subB j i) xs := part_le HLX.out (fun k hk => (HI.out.part k hk).1) (fun k hk hp => by
          have h1 := super16 ⟨y, hy16⟩ ⟨j, hj16⟩ ⟨k, by omega⟩
          simp only [← hzo] at h1
          rw [h1] at hp
          simp only [Bool.and_eq_true] at hp
          exact hp.2)
        rw [← hzo, ← hza] at q1 q2
        rw [← hzo] at e1
        rw [← hza] at e2
        rw [← hu] at e3
        clear hzo hza hu
        have Hio := Lib.hid (fun W (h : Below w4.heap.size w4 W) => iImpliedPart_any s (zo : Nat) A n C xs W (Hm.out.2.below h) hn)
        rw [measure_yes HM1.out (HSM.out zo hzon), Int.toNat_natCast] at Hio
        obtain ⟨io, hio⟩ : ∃ v, v = partOf (fun i => subB i zo) xs := ⟨_, rfl⟩
        rw [← hio] at Hio
        have bio := partOf_bound (pr := fun i => subB i zo) HLX.out HI.out.part
        rw [← hio] at bio
        replace bio : 0 ≤ io ∧ io ≤ 16000000 := by omega
        have Hia := Lib.hid (fun W (h : Below w4.heap.size w4 W) => iImpliedPart_any s (za : Nat) A n C xs W (Hm.out.2.below h) hn)
        rw [measure_yes HM1.out (HSM.out za hzan), Int.toNat_natCast] at Hia
        obtain ⟨ia, hia⟩ : ∃ v, v = partOf (fun i => subB i za) xs := ⟨_, rfl⟩
        rw [← hia] at Hia
        have bia := partOf_bound (pr := fun i => subB i za) HLX.out HI.out.part
        rw [← hia] at bia
        replace bia : 0 ≤ ia ∧ ia ≤ 16000000 := by omega
        have Hij := Lib.hid (fun W (h : Below w4.heap.size w4 W) => iImpliedPart_any s (j : Nat) A n C xs W (Hm.out.2.below h) hn)
        rw [measure_yes HM1.out (HSM.out j hlt), Int.toNat_natCast] at Hij
        obtain ⟨ij, hij⟩ : ∃ v, v = partOf (fun i => subB i j) xs := ⟨_, rfl⟩
        rw [← hij] at Hij
        have bij := partOf_bound (pr := fun i => subB i j) HLX.out HI.out.part
        rw [← hij] at bij
        replace bij : 0 ≤ ij ∧ ij ≤ 16000000 := by omega
        have Hpo := Lib.hid (fun W (h : Below w4.heap.size w4 W) => iPossiblePart_any s (zo : Nat) A n C xs W (Hm.out.2.below h) hn)
        rw [measure_yes HM1.out (HSM.out zo hzon), Int.toNat_natCast] at Hpo
        obtain ⟨po, hpo⟩ : ∃ v, v = partOf (fun i => meetB zo i) xs := ⟨_, rfl⟩
        rw [← hpo] at Hpo
        have bpo := partOf_bound (pr := fun i => meetB zo i) HLX.out HI.out.part
        rw [← hpo] at bpo
        replace bpo : 0 ≤ po ∧ po ≤ 16000000 := by omega
        have Hpa := Lib.hid (fun W (h : Below w4.heap.size w4 W) => iPossiblePart_any s (za : Nat) A n C xs W (Hm.out.2.below h) hn)
        rw [measure_yes HM1.out (HSM.out za hzan), Int.toNat_natCast] at Hpa
        obtain ⟨pa, hpa⟩ : ∃ v, v = partOf (fun i => meetB za i) xs := ⟨_, rfl⟩
        rw [← hpa] at Hpa
        have bpa := partOf_bound (pr := fun i => meetB za i) HLX.out HI.out.part
        rw [← hpa] at bpa
        replace bpa : 0 ≤ pa ∧ pa ≤ 16000000 := by omega
        have Hpy := Lib.hid (fun W (h : Below w4.heap.size w4 W) => iPossiblePart_any s (y : Nat) A n C xs W (Hm.out.2.below h) hn)
        rw [measure_yes HM1.out (HSM.out y hy), Int.toNat_natCast] at Hpy
        obtain ⟨py, hpy⟩ : ∃ v, v = partOf (fun i => meetB y i) xs := ⟨_, rfl⟩
        rw [← hpy] at Hpy
        have bpy := partOf_bound (pr := fun i => meetB y i) HLX.out HI.out.part
        rw [← hpy] at bpy
        replace bpy : 0 ≤ py ∧ py ≤ 16000000 := by omega
        have Hpj := Lib.hid (fun W (h : Below w4.heap.size w4 W) => iPossiblePart_any s (j : Nat) A n C xs W (Hm.out.2.below h) hn)
        rw [measure_yes HM1.out (HSM.out j hlt), Int.toNat_natCast] at Hpj
        obtain ⟨pj, hpj⟩ : ∃ v, v = partOf (fun i => meetB j i) xs := ⟨_, rfl⟩
        rw [← hpj] at Hpj
        have bpj := partOf_bound (pr := fun i => meetB j i) HLX.out HI.out.part
        rw [← hpj] at bpj
        replace bpj : 0 ≤ pj ∧ pj ≤ 16000000 := by omega
        have Hco := Lib.hid (fun W (h : Below w4.heap.size w4 W) => iCommonPart_any s (zo : Nat) A n C xs W (Hm.out.2.below h) hn)
        rw [measure_yes HM1.out (HSM.out zo hzon), Int.toNat_natCast] at Hco
        obtain ⟨co, hco⟩ : ∃ v, v = partOf (fun i => subB zo i) xs := ⟨_, rfl⟩
        rw [← hco] at Hco
        have bco := partOf_bound (pr := fun i => subB zo i) HLX.out HI.out.part
        rw [← hco] at bco
        replace bco : 0 ≤ co ∧ co ≤ 16000000 := by omega
        have Hcy := Lib.hid (fun W (h : Below w4.heap.size w4 W) => iCommonPart_any s (y : Nat) A n C xs W (Hm.out.2.below h) hn)
        rw [measure_yes HM1.out (HSM.out y hy), Int.toNat_natCast] at Hcy
        obtain ⟨cy, hcy⟩ : ∃ v, v = partOf (fun i => subB y i) xs := ⟨_, rfl⟩
        rw [← hcy] at Hcy
        have bcy := partOf_bound (pr := fun i => subB y i) HLX.out HI.out.part
        rw [← hcy] at bcy
        replace bcy : 0 ≤ cy ∧ cy ≤ 16000000 := by omega
        have Hcj := Lib.hid (fun W (h : Below w4.heap.size w4 W) => iCommonPart_any s (j : Nat) A n C xs W (Hm.out.2.below h) hn)
        rw [measure_yes HM1.out (HSM.out j hlt), Int.toNat_natCast] at Hcj
        obtain ⟨cj, hcj⟩ : ∃ v, v = partOf (fun i => subB j i) xs := ⟨_, rfl⟩
        rw [← hcj] at Hcj
        have bcj := partOf_bound (pr := fun i => subB j i) HLX.out HI.out.part
        rw [← hcj] at bcj
        replace bcj : 0 ≤ cj ∧ cj ≤ 16000000 := by omega
        rw [← hio, ← hia, ← hij, ← HIE.out] at q1
        rw [← hpo, ← hpa, ← hpy, ← hpj] at q2
        rw [← hij, ← HIE.out] at q3
        rw [← hco, ← hcy] at q4
        rw [← hco, ← hcj] at q5
        clear hio hia hij hpo hpa hpy hpj hco hcy hcj
        have n1 : decide (io + ia < i + ij) = false := decide_eq_false (by omega)
        have n2 : decide (py + pj < po + pa) = false := decide_eq_false (by omega)
        have n3 : u = 0 → decide (ij < i) = false := fun h => decide_eq_false (by have := q3 h; omega)
        have kw1 : IntKind.i64.wrap (io + ia) = io + ia := IntWalk.i64_in _ (by omega)
        have kw2 : IntKind.i64.wrap (i + ij) = i + ij := IntWalk.i64_in _ (by omega)
        have kw3 : IntKind.i64.wrap (po + pa) = po + pa := IntWalk.i64_in _ (by omega)
        have kw4 : IntKind.i64.wrap (py + pj) = py + pj := IntWalk.i64_in _ (by omega)
        have HN3 := Lib.hid n3
        clear n3 q1 q2 q3
        go_wp2_with fail
        clear m1 m2
        by_cases hu0 : u = 0
        · have n3 := HN3.out hu0
          subst hu0
          have HS0 := Lib.hid (HIS.out _ (HB.out.drew))
          go_wp2_with fail
          refine wp_region_held_drew (S := fun W => Below w4.heap.size w4 W ∧ W.cell? ⟨w1.heap.size, 0, none⟩ = some (.int .i64 s) ∧ W.cell? ⟨w1.heap.size, 1, none⟩ = some (.slice A n C)) (by kernel_rfl) ?_ (fun hHeld => ?_)
          · exact HS0.out
          refine wpAnyH_take (i := 0) (oi := { dst := some 39, op := Op.load 30 (Operand.tmp 3), type := 30, pos := "laws.go:426", after := #[], guard := none }) (v := ?_) rfl (by kernel_rfl) (by kernel_rfl) (by kernel_rfl) (fun _ _ _ h => h) (Or.inl ⟨by rfl, ?_⟩) (by assumption) ?_
          rotate_left
          · intro w hSw
            (try dsimp only at hSw)
            go_simp
            (try with_reducible rfl)
          (try simp only [Act.put, List.setIfInBounds_toArray, List.set_cons_zero, List.set_cons_succ])
          refine wpAnyH_take (i := 1) (oi := { dst := some 40, op := Op.move (Operand.tmp 4), type := 3, pos := "laws.go:426", after := #[], guard := none }) (v := ?_) rfl (by kernel_rfl) (by kernel_rfl) (by kernel_rfl) (fun _ _ _ h => h) (Or.inl ⟨by rfl, ?_⟩) (by assumption) ?_
          rotate_left
          · intro w hSw
            (try dsimp only at hSw)
            go_simp
            (try with_reducible rfl)
          (try simp only [Act.put, List.setIfInBounds_toArray, List.set_cons_zero, List.set_cons_succ])
          refine wpAnyH_take (i := 2) (oi := { dst := some 41, op := Op.move (Operand.tmp 6), type := 3, pos := "laws.go:426", after := #[], guard := none }) (v := ?_) rfl (by kernel_rfl) (by kernel_rfl) (by kernel_rfl) (fun _ _ _ h => h) (Or.inl ⟨by rfl, ?_⟩) (by assumption) ?_
          rotate_left
          · intro w hSw
            (try dsimp only at hSw)
            go_simp
            (try with_reducible rfl)
          (try simp only [Act.put, List.setIfInBounds_toArray, List.set_cons_zero, List.set_cons_succ])
          refine wpAnyH_take (i := 3) (oi := { dst := some 42, op := Op.binOp BinOp.or 3 (Operand.tmp 40) (Operand.tmp 41) 3, type := 3, pos := "laws.go:426", after := #[{ on := 1, ground := Ground.data }, { on := 2, ground := Ground.data }], guard := none }) (v := ?_) rfl (by kernel_rfl) (by kernel_rfl) (by kernel_rfl) (fun _ _ _ h => h) (Or.inl ⟨by rfl, ?_⟩) (by assumption) ?_
          rotate_left
          · intro w hSw
            (try dsimp only at hSw)
            go_simp
            (try with_reducible rfl)
          (try simp only [Act.put, List.setIfInBounds_toArray, List.set_cons_zero, List.set_cons_succ])
          refine wpAnyH_take (i := 5) (oi := { dst := some 44, op := Op.load 30 (Operand.tmp 3), type := 30, pos := "laws.go:426", after := #[], guard := none }) (v := ?_) rfl (by kernel_rfl) (by kernel_rfl) (by kernel_rfl) (fun _ _ _ h => h) (Or.inl ⟨by rfl, ?_⟩) (by assumption) ?_
          rotate_left
          · intro w hSw
            (try dsimp only at hSw)
            go_simp
            (try with_reducible rfl)
          (try simp only [Act.put, List.setIfInBounds_toArray, List.set_cons_zero, List.set_cons_succ])
          refine wpAnyH_take (i := 6) (oi := { dst := some 45, op := Op.move (Operand.tmp 4), type := 3, pos := "laws.go:426", after := #[], guard := none }) (v := ?_) rfl (by kernel_rfl) (by kernel_rfl) (by kernel_rfl) (fun _ _ _ h => h) (Or.inl ⟨by rfl, ?_⟩) (by assumption) ?_
          rotate_left
          · intro w hSw
            (try dsimp only at hSw)
            go_simp
            (try with_reducible rfl)
          (try simp only [Act.put, List.setIfInBounds_toArray, List.set_cons_zero, List.set_cons_succ])
          refine wpAnyH_take (i := 7) (oi := { dst := some 46, op := Op.move (Operand.tmp 6), type := 3, pos := "laws.go:426", after := #[], guard := none }) (v := ?_) rfl (by kernel_rfl) (by kernel_rfl) (by kernel_rfl) (fun _ _ _ h => h) (Or.inl ⟨by rfl, ?_⟩) (by assumption) ?_
          rotate_left
          · intro w hSw
            (try dsimp only at hSw)
            go_simp
            (try with_reducible rfl)
          (try simp only [Act.put, List.setIfInBounds_toArray, List.set_cons_zero, List.set_cons_succ])
          refine wpAnyH_take (i := 8) (oi := { dst := some 47, op := Op.binOp BinOp.and 3 (Operand.tmp 45) (Operand.tmp 46) 3, type := 3, pos := "laws.go:426", after := #[{ on := 6, ground := Ground.data }, { on := 7, ground := Ground.data }], guard := none }) (v := ?_) rfl (by kernel_rfl) (by kernel_rfl) (by kernel_rfl) (fun _ _ _ h => h) (Or.inl ⟨by rfl, ?_⟩) (by assumption) ?_
          rotate_left
          · intro w hSw
            (try dsimp only at hSw)
            go_simp
            (try with_reducible rfl)
          (try simp only [Act.put, List.setIfInBounds_toArray, List.set_cons_zero, List.set_cons_succ])
          refine wpAnyH_take (i := 11) (oi := { dst := some 50, op := Op.move (Operand.tmp 5), type := 3, pos := "laws.go:426", after := #[], guard := none }) (v := ?_) rfl (by kernel_rfl) (by kernel_rfl) (by kernel_rfl) (fun _ _ _ h => h) (Or.inl ⟨by rfl, ?_⟩) (by assumption) ?_
          rotate_left
          · intro w hSw
            (try dsimp only at hSw)
            go_simp
            (try with_reducible rfl)
          (try simp only [Act.put, List.setIfInBounds_toArray, List.set_cons_zero, List.set_cons_succ])
          refine wpAnyH_take (i := 12) (oi := { dst := some 51, op := Op.load 30 (Operand.tmp 3), type := 30, pos := "laws.go:426", after := #[], guard := none }) (v := ?_) rfl (by kernel_rfl) (by kernel_rfl) (by kernel_rfl) (fun _ _ _ h => h) (Or.inl ⟨by rfl, ?_⟩) (by assumption) ?_
          rotate_left
          · intro w hSw
            (try dsimp only at hSw)
            go_simp
            (try with_reducible rfl)
          (try simp only [Act.put, List.setIfInBounds_toArray, List.set_cons_zero, List.set_cons_succ])
          refine wpAnyH_take (i := 13) (oi := { dst := some 52, op := Op.move (Operand.tmp 6), type := 3, pos := "laws.go:426", after := #[], guard := none }) (v := ?_) rfl (by kernel_rfl) (by kernel_rfl) (by kernel_rfl) (fun _ _ _ h => h) (Or.inl ⟨by rfl, ?_⟩) (by assumption) ?_
          rotate_left
          · intro w hSw
            (try dsimp only at hSw)
            go_simp
            (try with_reducible rfl)
          (try simp only [Act.put, List.setIfInBounds_toArray, List.set_cons_zero, List.set_cons_succ])
          refine wpAnyH_ready (rs := [4]) (by kernel_rfl) (by simp) ?_
          refine AllReadyH.cons (o := { dst := some 43, op := Op.call { callee := Callee.value (Operand.func 35), args := #[Operand.tmp 39, Operand.tmp 42], argTypes := #[30, 3] }, type := 3, pos := "laws.go:426", after := #[{ on := 0, ground := Ground.data }, { on := 3, ground := Ground.data }], guard := none }) rfl (fun K hK => ?_) AllReadyH.nil
          go_simp
          go_at_call 35
          refine (Hio.out _ (And.left (by assumption))).mono ?_
          rintro e w9 ⟨rfl, b9⟩
          go_simp
          refine hK.out _ _ ?_ (fun hHeld => ?_)
          · first | assumption | exact HKS.out _ _ (by assumption) (by assumption)
          clear hK K
          (try simp only [Act.put, List.setIfInBounds_toArray, List.set_cons_zero, List.set_cons_succ])
          refine wpAnyH_ready (rs := [9]) (by kernel_rfl) (by simp) ?_
          refine AllReadyH.cons (o := { dst := some 48, op := Op.call { callee := Callee.value (Operand.func 35), args := #[Operand.tmp 44, Operand.tmp 47], argTypes := #[30, 3] }, type := 3, pos := "laws.go:426", after := #[{ on := 5, ground := Ground.data }, { on := 8, ground := Ground.data }, { on := 4, ground := Ground.chain }], guard := none }) rfl (fun K hK => ?_) AllReadyH.nil
          go_simp
          go_at_call 35
          refine (Hia.out _ (And.left (by assumption))).mono ?_
          rintro e w9 ⟨rfl, b9⟩
          go_simp
          refine hK.out _ _ ?_ (fun hHeld => ?_)
          · first | assumption | exact HKS.out _ _ (by assumption) (by assumption)
          clear hK K
          (try simp only [Act.put, List.setIfInBounds_toArray, List.set_cons_zero, List.set_cons_succ])
          refine wpAnyH_take (i := 10) (oi := { dst := some 49, op := Op.binOp BinOp.add 3 (Operand.tmp 43) (Operand.tmp 48) 3, type := 3, pos := "laws.go:426", after := #[{ on := 4, ground := Ground.data }, { on := 9, ground := Ground.data }], guard := none }) (v := ?_) rfl (by kernel_rfl) (by kernel_rfl) (by kernel_rfl) (fun _ _ _ h => h) (Or.inl ⟨by rfl, ?_⟩) (by assumption) ?_
          rotate_left
          · intro w hSw
            (try dsimp only at hSw)
            go_simp
            (try with_reducible rfl)
          (try simp only [Act.put, List.setIfInBounds_toArray, List.set_cons_zero, List.set_cons_succ])
          refine wpAnyH_ready (rs := [14]) (by kernel_rfl) (by simp) ?_
          refine AllReadyH.cons (o := { dst := some 53, op := Op.call { callee := Callee.value (Operand.func 35), args := #[Operand.tmp 51, Operand.tmp 52], argTypes := #[30, 3] }, type := 3, pos := "laws.go:426", after := #[{ on := 12, ground := Ground.data }, { on := 13, ground := Ground.data }, { on := 9, ground := Ground.chain }], guard := none }) rfl (fun K hK => ?_) AllReadyH.nil
          go_simp
          go_at_call 35
          refine (Hij.out _ (And.left (by assumption))).mono ?_
          rintro e w9 ⟨rfl, b9⟩
          go_simp
          refine hK.out _ _ ?_ (fun hHeld => ?_)
          · first | assumption | exact HKS.out _ _ (by assumption) (by assumption)
          clear hK K
          (try simp only [Act.put, List.setIfInBounds_toArray, List.set_cons_zero, List.set_cons_succ])
          refine wpAnyH_take (i := 15) (oi := { dst := some 54, op := Op.binOp BinOp.add 3 (Operand.tmp 50) (Operand.tmp 53) 3, type := 3, pos := "laws.go:426", after := #[{ on := 11, ground := Ground.data }, { on := 14, ground := Ground.data }], guard := none }) (v := ?_) rfl (by kernel_rfl) (by kernel_rfl) (by kernel_rfl) (fun _ _ _ h => h) (Or.inl ⟨by rfl, ?_⟩) (by assumption) ?_
          rotate_left
          · intro w hSw
            (try dsimp only at hSw)
            go_simp
            (try with_reducible rfl)
          (try simp only [Act.put, List.setIfInBounds_toArray, List.set_cons_zero, List.set_cons_succ])
          refine wpAnyH_take (i := 16) (oi := { dst := some 55, op := Op.binOp BinOp.lss 3 (Operand.tmp 49) (Operand.tmp 54) 3, type := 4, pos := "laws.go:426", after := #[{ on := 10, ground := Ground.data }, { on := 15, ground := Ground.data }], guard := none }) (v := ?_) rfl (by kernel_rfl) (by kernel_rfl) (by kernel_rfl) (fun _ _ _ h => h) (Or.inl ⟨by rfl, ?_⟩) (by assumption) ?_
          rotate_left
          · intro w hSw
            (try dsimp only at hSw)
            go_simp
            (try with_reducible rfl)
          (try simp only [Act.put, List.setIfInBounds_toArray, List.set_cons_zero, List.set_cons_succ])
          refine wpAnyH_take (i := 17) (oi := { dst := some 56, op := Op.move (Operand.tmp 55), type := 4, pos := "laws.go:426", after := #[{ on := 16, ground := Ground.data }, { on := 14, ground := Ground.chain }], guard := none }) (v := ?_) rfl (by kernel_rfl) (by kernel_rfl) (by kernel_rfl) (fun _ _ _ h => h) (Or.inl ⟨by rfl, ?_⟩) (by assumption) ?_
          rotate_left
          · intro w hSw
            (try dsimp only at hSw)
            go_simp
            (try with_reducible rfl)
          (try simp only [Act.put, List.setIfInBounds_toArray, List.set_cons_zero, List.set_cons_succ])
          refine wpAnyH_take (i := 18) (oi := { dst := some 57, op := Op.load 30 (Operand.tmp 3), type := 30, pos := "laws.go:426", after := #[{ on := 17, ground := Ground.guard }], guard := some (17, false) }) (v := ?_) rfl (by kernel_rfl) (by kernel_rfl) (by kernel_rfl) (fun _ _ _ h => h) (Or.inl ⟨by rfl, ?_⟩) (by assumption) ?_
          rotate_left
          · intro w hSw
            (try dsimp only at hSw)
            go_simp
            (try with_reducible rfl)
          (try simp only [Act.put, List.setIfInBounds_toArray, List.set_cons_zero, List.set_cons_succ])
          refine wpAnyH_take (i := 19) (oi := { dst := some 58, op := Op.move (Operand.tmp 4), type := 3, pos := "laws.go:426", after := #[{ on := 17, ground := Ground.guard }], guard := some (17, false) }) (v := ?_) rfl (by kernel_rfl) (by kernel_rfl) (by kernel_rfl) (fun _ _ _ h => h) (Or.inl ⟨by rfl, ?_⟩) (by assumption) ?_
          rotate_left
          · intro w hSw
            (try dsimp only at hSw)
            go_simp
            (try with_reducible rfl)
          (try simp only [Act.put, List.setIfInBounds_toArray, List.set_cons_zero, List.set_cons_succ])
          refine wpAnyH_take (i := 20) (oi := { dst := some 59, op := Op.move (Operand.tmp 6), type := 3, pos := "laws.go:426", after := #[{ on := 17, ground := Ground.guard }], guard := some (17, false) }) (v := ?_) rfl (by kernel_rfl) (by kernel_rfl) (by kernel_rfl) (fun _ _ _ h => h) (Or.inl ⟨by rfl, ?_⟩) (by assumption) ?_
          rotate_left
          · intro w hSw
            (try dsimp only at hSw)
            go_simp
            (try with_reducible rfl)
          (try simp only [Act.put, List.setIfInBounds_toArray, List.set_cons_zero, List.set_cons_succ])
          refine wpAnyH_take (i := 21) (oi := { dst := some 60, op := Op.binOp BinOp.or 3 (Operand.tmp 58) (Operand.tmp 59) 3, type := 3, pos := "laws.go:426", after := #[{ on := 19, ground := Ground.data }, { on := 20, ground := Ground.data }, { on := 17, ground := Ground.guard }], guard := some (17, false) }) (v := ?_) rfl (by kernel_rfl) (by kernel_rfl) (by kernel_rfl) (fun _ _ _ h => h) (Or.inl ⟨by rfl, ?_⟩) (by assumption) ?_
          rotate_left
          · intro w hSw
            (try dsimp only at hSw)
            go_simp
            (try with_reducible rfl)
          (try simp only [Act.put, List.setIfInBounds_toArray, List.set_cons_zero, List.set_cons_succ])
          refine wpAnyH_take (i := 23) (oi := { dst := some 62, op := Op.load 30 (Operand.tmp 3), type := 30, pos := "laws.go:426", after := #[{ on := 17, ground := Ground.guard }], guard := some (17, false) }) (v := ?_) rfl (by kernel_rfl) (by kernel_rfl) (by kernel_rfl) (fun _ _ _ h => h) (Or.inl ⟨by rfl, ?_⟩) (by assumption) ?_
          rotate_left
          · intro w hSw
            (try dsimp only at hSw)
            go_simp
            (try with_reducible rfl)
          (try simp only [Act.put, List.setIfInBounds_toArray, List.set_cons_zero, List.set_cons_succ])
          refine wpAnyH_take (i := 24) (oi := { dst := some 63, op := Op.move (Operand.tmp 4), type := 3, pos := "laws.go:426", after := #[{ on := 17, ground := Ground.guard }], guard := some (17, false) }) (v := ?_) rfl (by kernel_rfl) (by kernel_rfl) (by kernel_rfl) (fun _ _ _ h => h) (Or.inl ⟨by rfl, ?_⟩) (by assumption) ?_
          rotate_left
          · intro w hSw
            (try dsimp only at hSw)
            go_simp
            (try with_reducible rfl)
          (try simp only [Act.put, List.setIfInBounds_toArray, List.set_cons_zero, List.set_cons_succ])
          refine wpAnyH_take (i := 25) (oi := { dst := some 64, op := Op.move (Operand.tmp 6), type := 3, pos := "laws.go:426", after := #[{ on := 17, ground := Ground.guard }], guard := some (17, false) }) (v := ?_) rfl (by kernel_rfl) (by kernel_rfl) (by kernel_rfl) (fun _ _ _ h => h) (Or.inl ⟨by rfl, ?_⟩) (by assumption) ?_
          rotate_left
          · intro w hSw
            (try dsimp only at hSw)
            go_simp
            (try with_reducible rfl)
          (try simp only [Act.put, List.setIfInBounds_toArray, List.set_cons_zero, List.set_cons_succ])
          refine wpAnyH_take (i := 26) (oi := { dst := some 65, op := Op.binOp BinOp.and 3 (Operand.tmp 63) (Operand.tmp 64) 3, type := 3, pos := "laws.go:426", after := #[{ on := 24, ground := Ground.data }, { on := 25, ground := Ground.data }, { on := 17, ground := Ground.guard }], guard := some (17, false) }) (v := ?_) rfl (by kernel_rfl) (by kernel_rfl) (by kernel_rfl) (fun _ _ _ h => h) (Or.inl ⟨by rfl, ?_⟩) (by assumption) ?_
          rotate_left
          · intro w hSw
            (try dsimp only at hSw)
            go_simp
            (try with_reducible rfl)
          (try simp only [Act.put, List.setIfInBounds_toArray, List.set_cons_zero, List.set_cons_succ])
          refine wpAnyH_take (i := 29) (oi := { dst := some 68, op := Op.load 30 (Operand.tmp 3), type := 30, pos := "laws.go:426", after := #[{ on := 17, ground := Ground.guard }], guard := some (17, false) }) (v := ?_) rfl (by kernel_rfl) (by kernel_rfl) (by kernel_rfl) (fun _ _ _ h => h) (Or.inl ⟨by rfl, ?_⟩) (by assumption) ?_
          rotate_left
          · intro w hSw
            (try dsimp only at hSw)
            go_simp
            (try with_reducible rfl)
          (try simp only [Act.put, List.setIfInBounds_toArray, List.set_cons_zero, List.set_cons_succ])
          refine wpAnyH_take (i := 30) (oi := { dst := some 69, op := Op.move (Operand.tmp 4), type := 3, pos := "laws.go:426", after := #[{ on := 17, ground := Ground.guard }], guard := some (17, false) }) (v := ?_) rfl (by kernel_rfl) (by kernel_rfl) (by kernel_rfl) (fun _ _ _ h => h) (Or.inl ⟨by rfl, ?_⟩) (by assumption) ?_
          rotate_left
          · intro w hSw
            (try dsimp only at hSw)
            go_simp
            (try with_reducible rfl)
          (try simp only [Act.put, List.setIfInBounds_toArray, List.set_cons_zero, List.set_cons_succ])
          refine wpAnyH_take (i := 32) (oi := { dst := some 71, op := Op.load 30 (Operand.tmp 3), type := 30, pos := "laws.go:426", after := #[{ on := 17, ground := Ground.guard }], guard := some (17, false) }) (v := ?_) rfl (by kernel_rfl) (by kernel_rfl) (by kernel_rfl) (fun _ _ _ h => h) (Or.inl ⟨by rfl, ?_⟩) (by assumption) ?_
          rotate_left
          · intro w hSw
            (try dsimp only at hSw)
            go_simp
            (try with_reducible rfl)
          (try simp only [Act.put, List.setIfInBounds_toArray, List.set_cons_zero, List.set_cons_succ])
          refine wpAnyH_take (i := 33) (oi := { dst := some 72, op := Op.move (Operand.tmp 6), type := 3, pos := "laws.go:426", after := #[{ on := 17, ground := Ground.guard }], guard := some (17, false) }) (v := ?_) rfl (by kernel_rfl) (by kernel_rfl) (by kernel_rfl) (fun _ _ _ h => h) (Or.inl ⟨by rfl, ?_⟩) (by assumption) ?_
          rotate_left
          · intro w hSw
            (try dsimp only at hSw)
            go_simp
            (try with_reducible rfl)
          (try simp only [Act.put, List.setIfInBounds_toArray, List.set_cons_zero, List.set_cons_succ])
          refine wpAnyH_ready (rs := [22]) (by kernel_rfl) (by simp) ?_
          refine AllReadyH.cons (o := { dst := some 61, op := Op.call { callee := Callee.value (Operand.func 37), args := #[Operand.tmp 57, Operand.tmp 60], argTypes := #[30, 3] }, type := 3, pos := "laws.go:426", after := #[{ on := 18, ground := Ground.data }, { on := 21, ground := Ground.data }, { on := 17, ground := Ground.chain }, { on := 17, ground := Ground.guard }], guard := some (17, false) }) rfl (fun K hK => ?_) AllReadyH.nil
          go_simp
          go_at_call 37
          refine (Hpo.out _ (And.left (by assumption))).mono ?_
          rintro e w9 ⟨rfl, b9⟩
          go_simp
          refine hK.out _ _ ?_ (fun hHeld => ?_)
          · first | assumption | exact HKS.out _ _ (by assumption) (by assumption)
          clear hK K
          (try simp only [Act.put, List.setIfInBounds_toArray, List.set_cons_zero, List.set_cons_succ])
          refine wpAnyH_ready (rs := [27]) (by kernel_rfl) (by simp) ?_
          refine AllReadyH.cons (o := { dst := some 66, op := Op.call { callee := Callee.value (Operand.func 37), args := #[Operand.tmp 62, Operand.tmp 65], argTypes := #[30, 3] }, type := 3, pos := "laws.go:426", after := #[{ on := 23, ground := Ground.data }, { on := 26, ground := Ground.data }, { on := 22, ground := Ground.chain }, { on := 17, ground := Ground.guard }], guard := some (17, false) }) rfl (fun K hK => ?_) AllReadyH.nil
          go_simp
          go_at_call 37
          refine (Hpa.out _ (And.left (by assumption))).mono ?_
          rintro e w9 ⟨rfl, b9⟩
          go_simp
          refine hK.out _ _ ?_ (fun hHeld => ?_)
          · first | assumption | exact HKS.out _ _ (by assumption) (by assumption)
          clear hK K
          (try simp only [Act.put, List.setIfInBounds_toArray, List.set_cons_zero, List.set_cons_succ])
          refine wpAnyH_take (i := 28) (oi := { dst := some 67, op := Op.binOp BinOp.add 3 (Operand.tmp 61) (Operand.tmp 66) 3, type := 3, pos := "laws.go:426", after := #[{ on := 22, ground := Ground.data }, { on := 27, ground := Ground.data }, { on := 17, ground := Ground.guard }], guard := some (17, false) }) (v := ?_) rfl (by kernel_rfl) (by kernel_rfl) (by kernel_rfl) (fun _ _ _ h => h) (Or.inl ⟨by rfl, ?_⟩) (by assumption) ?_
          rotate_left
          · intro w hSw
            (try dsimp only at hSw)
            go_simp
            (try with_reducible rfl)
          (try simp only [Act.put, List.setIfInBounds_toArray, List.set_cons_zero, List.set_cons_succ])
          refine wpAnyH_ready (rs := [31]) (by kernel_rfl) (by simp) ?_
          refine AllReadyH.cons (o := { dst := some 70, op := Op.call { callee := Callee.value (Operand.func 37), args := #[Operand.tmp 68, Operand.tmp 69], argTypes := #[30, 3] }, type := 3, pos := "laws.go:426", after := #[{ on := 29, ground := Ground.data }, { on := 30, ground := Ground.data }, { on := 27, ground := Ground.chain }, { on := 17, ground := Ground.guard }], guard := some (17, false) }) rfl (fun K hK => ?_) AllReadyH.nil
          go_simp
          go_at_call 37
          refine (Hpy.out _ (And.left (by assumption))).mono ?_
          rintro e w9 ⟨rfl, b9⟩
          go_simp
          refine hK.out _ _ ?_ (fun hHeld => ?_)
          · first | assumption | exact HKS.out _ _ (by assumption) (by assumption)
          clear hK K
          (try simp only [Act.put, List.setIfInBounds_toArray, List.set_cons_zero, List.set_cons_succ])
          refine wpAnyH_ready (rs := [34]) (by kernel_rfl) (by simp) ?_
          refine AllReadyH.cons (o := { dst := some 73, op := Op.call { callee := Callee.value (Operand.func 37), args := #[Operand.tmp 71, Operand.tmp 72], argTypes := #[30, 3] }, type := 3, pos := "laws.go:426", after := #[{ on := 32, ground := Ground.data }, { on := 33, ground := Ground.data }, { on := 31, ground := Ground.chain }, { on := 17, ground := Ground.guard }], guard := some (17, false) }) rfl (fun K hK => ?_) AllReadyH.nil
          go_simp
          go_at_call 37
          refine (Hpj.out _ (And.left (by assumption))).mono ?_
          rintro e w9 ⟨rfl, b9⟩
          go_simp
          refine hK.out _ _ ?_ (fun hHeld => ?_)
          · first | assumption | exact HKS.out _ _ (by assumption) (by assumption)
          clear hK K
          (try simp only [Act.put, List.setIfInBounds_toArray, List.set_cons_zero, List.set_cons_succ])
          refine wpAnyH_take (i := 35) (oi := { dst := some 74, op := Op.binOp BinOp.add 3 (Operand.tmp 70) (Operand.tmp 73) 3, type := 3, pos := "laws.go:426", after := #[{ on := 31, ground := Ground.data }, { on := 34, ground := Ground.data }, { on := 17, ground := Ground.guard }], guard := some (17, false) }) (v := ?_) rfl (by kernel_rfl) (by kernel_rfl) (by kernel_rfl) (fun _ _ _ h => h) (Or.inl ⟨by rfl, ?_⟩) (by assumption) ?_
          rotate_left
          · intro w hSw
            (try dsimp only at hSw)
            go_simp
            (try with_reducible rfl)
          (try simp only [Act.put, List.setIfInBounds_toArray, List.set_cons_zero, List.set_cons_succ])
          refine wpAnyH_take (i := 36) (oi := { dst := some 75, op := Op.binOp BinOp.gtr 3 (Operand.tmp 67) (Operand.tmp 74) 3, type := 4, pos := "laws.go:426", after := #[{ on := 28, ground := Ground.data }, { on := 35, ground := Ground.data }, { on := 17, ground := Ground.guard }], guard := some (17, false) }) (v := ?_) rfl (by kernel_rfl) (by kernel_rfl) (by kernel_rfl) (fun _ _ _ h => h) (Or.inl ⟨by rfl, ?_⟩) (by assumption) ?_
          rotate_left
          · intro w hSw
            (try dsimp only at hSw)
            go_simp
            (try with_reducible rfl)
          (try simp only [Act.put, List.setIfInBounds_toArray, List.set_cons_zero, List.set_cons_succ])
          refine wpAnyH_take (i := 37) (oi := { dst := some 76, op := Op.pick (Operand.tmp 56) (Operand.const (Value.bool true)) (Operand.tmp 75), type := 4, pos := "laws.go:426", after := #[{ on := 17, ground := Ground.data }, { on := 36, ground := Ground.data }], guard := none }) (v := ?_) rfl (by kernel_rfl) (by kernel_rfl) (by kernel_rfl) (fun _ _ _ h => h) (Or.inl ⟨by rfl, ?_⟩) (by assumption) ?_
          rotate_left
          · intro w hSw
            (try dsimp only at hSw)
            go_simp
            (try with_reducible rfl)
          (try simp only [Act.put, List.setIfInBounds_toArray, List.set_cons_zero, List.set_cons_succ])
          refine wpAnyH_take (i := 38) (oi := { dst := some 77, op := Op.move (Operand.tmp 76), type := 4, pos := "laws.go:426", after := #[{ on := 37, ground := Ground.data }, { on := 34, ground := Ground.chain }], guard := none }) (v := ?_) rfl (by kernel_rfl) (by kernel_rfl) (by kernel_rfl) (fun _ _ _ h => h) (Or.inl ⟨by rfl, ?_⟩) (by assumption) ?_
          rotate_left
          · intro w hSw
            (try dsimp only at hSw)
            go_simp
            (try with_reducible rfl)
          (try simp only [Act.put, List.setIfInBounds_toArray, List.set_cons_zero, List.set_cons_succ])
          refine wpAnyH_take (i := 39) (oi := { dst := some 78, op := Op.move (Operand.tmp 4), type := 3, pos := "laws.go:426", after := #[{ on := 38, ground := Ground.guard }], guard := some (38, false) }) (v := ?_) rfl (by kernel_rfl) (by kernel_rfl) (by kernel_rfl) (fun _ _ _ h => h) (Or.inl ⟨by rfl, ?_⟩) (by assumption) ?_
          rotate_left
          · intro w hSw
            (try dsimp only at hSw)
            go_simp
            (try with_reducible rfl)
          (try simp only [Act.put, List.setIfInBounds_toArray, List.set_cons_zero, List.set_cons_succ])
          refine wpAnyH_take (i := 40) (oi := { dst := some 79, op := Op.move (Operand.tmp 6), type := 3, pos := "laws.go:426", after := #[{ on := 38, ground := Ground.guard }], guard := some (38, false) }) (v := ?_) rfl (by kernel_rfl) (by kernel_rfl) (by kernel_rfl) (fun _ _ _ h => h) (Or.inl ⟨by rfl, ?_⟩) (by assumption) ?_
          rotate_left
          · intro w hSw
            (try dsimp only at hSw)
            go_simp
            (try with_reducible rfl)
          (try simp only [Act.put, List.setIfInBounds_toArray, List.set_cons_zero, List.set_cons_succ])
          refine wpAnyH_take (i := 41) (oi := { dst := some 80, op := Op.binOp BinOp.andNot 3 (Operand.tmp 78) (Operand.tmp 79) 3, type := 3, pos := "laws.go:426", after := #[{ on := 39, ground := Ground.data }, { on := 40, ground := Ground.data }, { on := 38, ground := Ground.guard }], guard := some (38, false) }) (v := ?_) rfl (by kernel_rfl) (by kernel_rfl) (by kernel_rfl) (fun _ _ _ h => h) (Or.inl ⟨by rfl, ?_⟩) (by assumption) ?_
          rotate_left
          · intro w hSw
            (try dsimp only at hSw)
            go_simp
            (try with_reducible rfl)
          (try simp only [Act.put, List.setIfInBounds_toArray, List.set_cons_zero, List.set_cons_succ])
          refine wpAnyH_take (i := 42) (oi := { dst := some 81, op := Op.binOp BinOp.eql 3 (Operand.tmp 80) (Operand.const (Value.int IntKind.i64 0)) 3, type := 4, pos := "laws.go:426", after := #[{ on := 41, ground := Ground.data }, { on := 38, ground := Ground.guard }], guard := some (38, false) }) (v := ?_) rfl (by kernel_rfl) (by kernel_rfl) (by kernel_rfl) (fun _ _ _ h => h) (Or.inl ⟨by rfl, ?_⟩) (by assumption) ?_
          rotate_left
          · intro w hSw
            (try dsimp only at hSw)
            go_simp
            (try with_reducible rfl)
          (try simp only [Act.put, List.setIfInBounds_toArray, List.set_cons_zero, List.set_cons_succ])
          refine wpAnyH_take (i := 43) (oi := { dst := some 82, op := Op.move (Operand.tmp 81), type := 4, pos := "laws.go:426", after := #[{ on := 42, ground := Ground.data }, { on := 38, ground := Ground.chain }, { on := 38, ground := Ground.guard }], guard := some (38, false) }) (v := ?_) rfl (by kernel_rfl) (by kernel_rfl) (by kernel_rfl) (fun _ _ _ h => h) (Or.inl ⟨by rfl, ?_⟩) (by assumption) ?_
          rotate_left
          · intro w hSw
            (try dsimp only at hSw)
            go_simp
            (try with_reducible rfl)
          (try simp only [Act.put, List.setIfInBounds_toArray, List.set_cons_zero, List.set_cons_succ])
          refine wpAnyH_take (i := 44) (oi := { dst := some 83, op := Op.move (Operand.tmp 5), type := 3, pos := "laws.go:426", after := #[{ on := 43, ground := Ground.guard }], guard := some (43, true) }) (v := ?_) rfl (by kernel_rfl) (by kernel_rfl) (by kernel_rfl) (fun _ _ _ h => h) (Or.inl ⟨by rfl, ?_⟩) (by assumption) ?_
          rotate_left
          · intro w hSw
            (try dsimp only at hSw)
            go_simp
            (try with_reducible rfl)
          (try simp only [Act.put, List.setIfInBounds_toArray, List.set_cons_zero, List.set_cons_succ])
          refine wpAnyH_take (i := 45) (oi := { dst := some 84, op := Op.load 30 (Operand.tmp 3), type := 30, pos := "laws.go:426", after := #[{ on := 43, ground := Ground.guard }], guard := some (43, true) }) (v := ?_) rfl (by kernel_rfl) (by kernel_rfl) (by kernel_rfl) (fun _ _ _ h => h) (Or.inl ⟨by rfl, ?_⟩) (by assumption) ?_
          rotate_left
          · intro w hSw
            (try dsimp only at hSw)
            go_simp
            (try with_reducible rfl)
          (try simp only [Act.put, List.setIfInBounds_toArray, List.set_cons_zero, List.set_cons_succ])
          refine wpAnyH_take (i := 46) (oi := { dst := some 85, op := Op.move (Operand.tmp 6), type := 3, pos := "laws.go:426", after := #[{ on := 43, ground := Ground.guard }], guard := some (43, true) }) (v := ?_) rfl (by kernel_rfl) (by kernel_rfl) (by kernel_rfl) (fun _ _ _ h => h) (Or.inl ⟨by rfl, ?_⟩) (by assumption) ?_
          rotate_left
          · intro w hSw
            (try dsimp only at hSw)
            go_simp
            (try with_reducible rfl)
          (try simp only [Act.put, List.setIfInBounds_toArray, List.set_cons_zero, List.set_cons_succ])
          refine wpAnyH_ready (rs := [47]) (by kernel_rfl) (by simp) ?_
          refine AllReadyH.cons (o := { dst := some 86, op := Op.call { callee := Callee.value (Operand.func 35), args := #[Operand.tmp 84, Operand.tmp 85], argTypes := #[30, 3] }, type := 3, pos := "laws.go:426", after := #[{ on := 45, ground := Ground.data }, { on := 46, ground := Ground.data }, { on := 43, ground := Ground.chain }, { on := 43, ground := Ground.guard }], guard := some (43, true) }) rfl (fun K hK => ?_) AllReadyH.nil
          go_simp
          go_at_call 35
          refine (Hij.out _ (And.left (by assumption))).mono ?_
          rintro e w9 ⟨rfl, b9⟩
          go_simp
          refine hK.out _ _ ?_ (fun hHeld => ?_)
          · first | assumption | exact HKS.out _ _ (by assumption) (by assumption)
          clear hK K
          (try simp only [Act.put, List.setIfInBounds_toArray, List.set_cons_zero, List.set_cons_succ])
          refine wpAnyH_take (i := 48) (oi := { dst := some 87, op := Op.binOp BinOp.gtr 3 (Operand.tmp 83) (Operand.tmp 86) 3, type := 4, pos := "laws.go:426", after := #[{ on := 44, ground := Ground.data }, { on := 47, ground := Ground.data }, { on := 43, ground := Ground.guard }], guard := some (43, true) }) (v := ?_) rfl (by kernel_rfl) (by kernel_rfl) (by kernel_rfl) (fun _ _ _ h => h) (Or.inl ⟨by rfl, ?_⟩) (by assumption) ?_
          rotate_left
          · intro w hSw
            (try dsimp only at hSw)
            go_simp
            (try with_reducible rfl)
          (try simp only [Act.put, List.setIfInBounds_toArray, List.set_cons_zero, List.set_cons_succ])
          refine wpAnyH_take (i := 49) (oi := { dst := some 88, op := Op.pick (Operand.tmp 82) (Operand.tmp 87) (Operand.const (Value.bool false)), type := 4, pos := "laws.go:426", after := #[{ on := 43, ground := Ground.data }, { on := 48, ground := Ground.data }, { on := 38, ground := Ground.guard }], guard := some (38, false) }) (v := ?_) rfl (by kernel_rfl) (by kernel_rfl) (by kernel_rfl) (fun _ _ _ h => h) (Or.inl ⟨by rfl, ?_⟩) (by assumption) ?_
          rotate_left
          · intro w hSw
            (try dsimp only at hSw)
            go_simp
            (try with_reducible rfl)
          (try simp only [Act.put, List.setIfInBounds_toArray, List.set_cons_zero, List.set_cons_succ])
          refine wpAnyH_take (i := 50) (oi := { dst := some 89, op := Op.pick (Operand.tmp 77) (Operand.const (Value.bool true)) (Operand.tmp 88), type := 4, pos := "laws.go:426", after := #[{ on := 38, ground := Ground.data }, { on := 49, ground := Ground.data }], guard := none }) (v := ?_) rfl (by kernel_rfl) (by kernel_rfl) (by kernel_rfl) (fun _ _ _ h => h) (Or.inl ⟨by rfl, ?_⟩) (by assumption) ?_
          rotate_left
          · intro w hSw
            (try dsimp only at hSw)
            go_simp
            (try with_reducible rfl)
          (try simp only [Act.put, List.setIfInBounds_toArray, List.set_cons_zero, List.set_cons_succ])
          refine wpAnyH_done (by kernel_rfl) ?_ _
          clear HS0
          have HBX := Lib.hid (And.left (by assumption) : Below w4.heap.size w4 _)
          have n4 : decide (min cy cj < co) = false := decide_eq_false (by omega)
          have HS0 := Lib.hid (HIS.out _ (HBX.out.drew))
          go_wp2_with fail
          refine wp_region_held_drew (S := fun W => Below w4.heap.size w4 W ∧ W.cell? ⟨w1.heap.size, 0, none⟩ = some (.int .i64 s) ∧ W.cell? ⟨w1.heap.size, 1, none⟩ = some (.slice A n C)) (by kernel_rfl) ?_ (fun hHeld => ?_)
          · exact HS0.out
          refine wpAnyH_take (i := 0) (oi := { dst := some 90, op := Op.load 30 (Operand.tmp 3), type := 30, pos := "laws.go:429", after := #[], guard := none }) (v := ?_) rfl (by kernel_rfl) (by kernel_rfl) (by kernel_rfl) (fun _ _ _ h => h) (Or.inl ⟨by rfl, ?_⟩) (by assumption) ?_
          rotate_left
          · intro w hSw
            (try dsimp only at hSw)
            go_simp
            (try with_reducible rfl)
          (try simp only [Act.put, List.setIfInBounds_toArray, List.set_cons_zero, List.set_cons_succ])
          refine wpAnyH_take (i := 1) (oi := { dst := some 91, op := Op.move (Operand.tmp 4), type := 3, pos := "laws.go:429", after := #[], guard := none }) (v := ?_) rfl (by kernel_rfl) (by kernel_rfl) (by kernel_rfl) (fun _ _ _ h => h) (Or.inl ⟨by rfl, ?_⟩) (by assumption) ?_
          rotate_left
          · intro w hSw
            (try dsimp only at hSw)
            go_simp
            (try with_reducible rfl)
          (try simp only [Act.put, List.setIfInBounds_toArray, List.set_cons_zero, List.set_cons_succ])
          refine wpAnyH_take (i := 2) (oi := { dst := some 92, op := Op.move (Operand.tmp 6), type := 3, pos := "laws.go:429", after := #[], guard := none }) (v := ?_) rfl (by kernel_rfl) (by kernel_rfl) (by kernel_rfl) (fun _ _ _ h => h) (Or.inl ⟨by rfl, ?_⟩) (by assumption) ?_
          rotate_left
          · intro w hSw
            (try dsimp only at hSw)
            go_simp
            (try with_reducible rfl)
          (try simp only [Act.put, List.setIfInBounds_toArray, List.set_cons_zero, List.set_cons_succ])
          refine wpAnyH_take (i := 3) (oi := { dst := some 93, op := Op.binOp BinOp.or 3 (Operand.tmp 91) (Operand.tmp 92) 3, type := 3, pos := "laws.go:429", after := #[{ on := 1, ground := Ground.data }, { on := 2, ground := Ground.data }], guard := none }) (v := ?_) rfl (by kernel_rfl) (by kernel_rfl) (by kernel_rfl) (fun _ _ _ h => h) (Or.inl ⟨by rfl, ?_⟩) (by assumption) ?_
          rotate_left
          · intro w hSw
            (try dsimp only at hSw)
            go_simp
            (try with_reducible rfl)
          (try simp only [Act.put, List.setIfInBounds_toArray, List.set_cons_zero, List.set_cons_succ])
          refine wpAnyH_take (i := 5) (oi := { dst := some 95, op := Op.load 30 (Operand.tmp 3), type := 30, pos := "laws.go:429", after := #[], guard := none }) (v := ?_) rfl (by kernel_rfl) (by kernel_rfl) (by kernel_rfl) (fun _ _ _ h => h) (Or.inl ⟨by rfl, ?_⟩) (by assumption) ?_
          rotate_left
          · intro w hSw
            (try dsimp only at hSw)
            go_simp
            (try with_reducible rfl)
          (try simp only [Act.put, List.setIfInBounds_toArray, List.set_cons_zero, List.set_cons_succ])
          refine wpAnyH_take (i := 6) (oi := { dst := some 96, op := Op.move (Operand.tmp 4), type := 3, pos := "laws.go:429", after := #[], guard := none }) (v := ?_) rfl (by kernel_rfl) (by kernel_rfl) (by kernel_rfl) (fun _ _ _ h => h) (Or.inl ⟨by rfl, ?_⟩) (by assumption) ?_
          rotate_left
          · intro w hSw
            (try dsimp only at hSw)
            go_simp
            (try with_reducible rfl)
          (try simp only [Act.put, List.setIfInBounds_toArray, List.set_cons_zero, List.set_cons_succ])
          refine wpAnyH_take (i := 8) (oi := { dst := some 98, op := Op.load 30 (Operand.tmp 3), type := 30, pos := "laws.go:429", after := #[], guard := none }) (v := ?_) rfl (by kernel_rfl) (by kernel_rfl) (by kernel_rfl) (fun _ _ _ h => h) (Or.inl ⟨by rfl, ?_⟩) (by assumption) ?_
          rotate_left
          · intro w hSw
            (try dsimp only at hSw)
            go_simp
            (try with_reducible rfl)
          (try simp only [Act.put, List.setIfInBounds_toArray, List.set_cons_zero, List.set_cons_succ])
          refine wpAnyH_take (i := 9) (oi := { dst := some 99, op := Op.move (Operand.tmp 6), type := 3, pos := "laws.go:429", after := #[], guard := none }) (v := ?_) rfl (by kernel_rfl) (by kernel_rfl) (by kernel_rfl) (fun _ _ _ h => h) (Or.inl ⟨by rfl, ?_⟩) (by assumption) ?_
          rotate_left
          · intro w hSw
            (try dsimp only at hSw)
            go_simp
            (try with_reducible rfl)
          (try simp only [Act.put, List.setIfInBounds_toArray, List.set_cons_zero, List.set_cons_succ])
          refine wpAnyH_ready (rs := [4]) (by kernel_rfl) (by simp) ?_
          refine AllReadyH.cons (o := { dst := some 94, op := Op.call { callee := Callee.value (Operand.func 38), args := #[Operand.tmp 90, Operand.tmp 93], argTypes := #[30, 3] }, type := 3, pos := "laws.go:429", after := #[{ on := 0, ground := Ground.data }, { on := 3, ground := Ground.data }], guard := none }) rfl (fun K hK => ?_) AllReadyH.nil
          go_simp
          go_at_call 38
          refine (Hco.out _ (And.left (by assumption))).mono ?_
          rintro e w9 ⟨rfl, b9⟩
          go_simp
          refine hK.out _ _ ?_ (fun hHeld => ?_)
          · first | assumption | exact HKS.out _ _ (by assumption) (by assumption)
          clear hK K
          (try simp only [Act.put, List.setIfInBounds_toArray, List.set_cons_zero, List.set_cons_succ])
          refine wpAnyH_ready (rs := [7]) (by kernel_rfl) (by simp) ?_
          refine AllReadyH.cons (o := { dst := some 97, op := Op.call { callee := Callee.value (Operand.func 38), args := #[Operand.tmp 95, Operand.tmp 96], argTypes := #[30, 3] }, type := 3, pos := "laws.go:429", after := #[{ on := 5, ground := Ground.data }, { on := 6, ground := Ground.data }, { on := 4, ground := Ground.chain }], guard := none }) rfl (fun K hK => ?_) AllReadyH.nil
          go_simp
          go_at_call 38
          refine (Hcy.out _ (And.left (by assumption))).mono ?_
          rintro e w9 ⟨rfl, b9⟩
          go_simp
          refine hK.out _ _ ?_ (fun hHeld => ?_)
          · first | assumption | exact HKS.out _ _ (by assumption) (by assumption)
          clear hK K
          (try simp only [Act.put, List.setIfInBounds_toArray, List.set_cons_zero, List.set_cons_succ])
          refine wpAnyH_ready (rs := [10]) (by kernel_rfl) (by simp) ?_
          refine AllReadyH.cons (o := { dst := some 100, op := Op.call { callee := Callee.value (Operand.func 38), args := #[Operand.tmp 98, Operand.tmp 99], argTypes := #[30, 3] }, type := 3, pos := "laws.go:429", after := #[{ on := 8, ground := Ground.data }, { on := 9, ground := Ground.data }, { on := 7, ground := Ground.chain }], guard := none }) rfl (fun K hK => ?_) AllReadyH.nil
          go_simp
          go_at_call 38
          refine (Hcj.out _ (And.left (by assumption))).mono ?_
          rintro e w9 ⟨rfl, b9⟩
          go_simp
          refine hK.out _ _ ?_ (fun hHeld => ?_)
          · first | assumption | exact HKS.out _ _ (by assumption) (by assumption)
          clear hK K
          (try simp only [Act.put, List.setIfInBounds_toArray, List.set_cons_zero, List.set_cons_succ])
          refine wpAnyH_take (i := 11) (oi := { dst := some 101, op := Op.call { callee := Callee.builtin Builtin.min, args := #[Operand.tmp 97, Operand.tmp 100], argTypes := #[3, 3] }, type := 3, pos := "laws.go:429", after := #[{ on := 7, ground := Ground.data }, { on := 10, ground := Ground.data }], guard := none }) (v := ?_) rfl (by kernel_rfl) (by kernel_rfl) (by kernel_rfl) (fun _ _ _ h => h) (Or.inl ⟨by rfl, ?_⟩) (by assumption) ?_
          rotate_left
          · intro w hSw
            (try dsimp only at hSw)
            go_simp
            (try with_reducible rfl)
          (try simp only [Act.put, List.setIfInBounds_toArray, List.set_cons_zero, List.set_cons_succ])
          refine wpAnyH_take (i := 12) (oi := { dst := some 102, op := Op.binOp BinOp.gtr 3 (Operand.tmp 94) (Operand.tmp 101) 3, type := 4, pos := "laws.go:429", after := #[{ on := 4, ground := Ground.data }, { on := 11, ground := Ground.data }], guard := none }) (v := ?_) rfl (by kernel_rfl) (by kernel_rfl) (by kernel_rfl) (fun _ _ _ h => h) (Or.inl ⟨by rfl, ?_⟩) (by assumption) ?_
          rotate_left
          · intro w hSw
            (try dsimp only at hSw)
            go_simp
            (try with_reducible rfl)
          (try simp only [Act.put, List.setIfInBounds_toArray, List.set_cons_zero, List.set_cons_succ])
          refine wpAnyH_done (by kernel_rfl) ?_ _
          clear HS0
          go_wp2_with fail
          go_roundw
          case rel => exact ⟨j + 1, by omega, by go_num, Lib.hid (And.left (by assumption))⟩
          case measure => simp [intOf]; omega
        · have hu1 : ((u : Int) == 0) = false := by simp; omega
          clear hu0
          have HS0 := Lib.hid (HIS.out _ (HB.out.drew))
          go_wp2_with fail
          refine wp_region_held_drew (S := fun W => Below w4.heap.size w4 W ∧ W.cell? ⟨w1.heap.size, 0, none⟩ = some (.int .i64 s) ∧ W.cell? ⟨w1.heap.size, 1, none⟩ = some (.slice A n C)) (by kernel_rfl) ?_ (fun hHeld => ?_)
          · exact HS0.out
          refine wpAnyH_take (i := 0) (oi := { dst := some 39, op := Op.load 30 (Operand.tmp 3), type := 30, pos := "laws.go:426", after := #[], guard := none }) (v := ?_) rfl (by kernel_rfl) (by kernel_rfl) (by kernel_rfl) (fun _ _ _ h => h) (Or.inl ⟨by rfl, ?_⟩) (by assumption) ?_
          rotate_left
          · intro w hSw
            (try dsimp only at hSw)
            go_simp
            (try with_reducible rfl)
          (try simp only [Act.put, List.setIfInBounds_toArray, List.set_cons_zero, List.set_cons_succ])
          refine wpAnyH_take (i := 1) (oi := { dst := some 40, op := Op.move (Operand.tmp 4), type := 3, pos := "laws.go:426", after := #[], guard := none }) (v := ?_) rfl (by kernel_rfl) (by kernel_rfl) (by kernel_rfl) (fun _ _ _ h => h) (Or.inl ⟨by rfl, ?_⟩) (by assumption) ?_
          rotate_left
          · intro w hSw
            (try dsimp only at hSw)
            go_simp
            (try with_reducible rfl)
          (try simp only [Act.put, List.setIfInBounds_toArray, List.set_cons_zero, List.set_cons_succ])
          refine wpAnyH_take (i := 2) (oi := { dst := some 41, op := Op.move (Operand.tmp 6), type := 3, pos := "laws.go:426", after := #[], guard := none }) (v := ?_) rfl (by kernel_rfl) (by kernel_rfl) (by kernel_rfl) (fun _ _ _ h => h) (Or.inl ⟨by rfl, ?_⟩) (by assumption) ?_
          rotate_left
          · intro w hSw
            (try dsimp only at hSw)
            go_simp
            (try with_reducible rfl)
          (try simp only [Act.put, List.setIfInBounds_toArray, List.set_cons_zero, List.set_cons_succ])
          refine wpAnyH_take (i := 3) (oi := { dst := some 42, op := Op.binOp BinOp.or 3 (Operand.tmp 40) (Operand.tmp 41) 3, type := 3, pos := "laws.go:426", after := #[{ on := 1, ground := Ground.data }, { on := 2, ground := Ground.data }], guard := none }) (v := ?_) rfl (by kernel_rfl) (by kernel_rfl) (by kernel_rfl) (fun _ _ _ h => h) (Or.inl ⟨by rfl, ?_⟩) (by assumption) ?_
          rotate_left
          · intro w hSw
            (try dsimp only at hSw)
            go_simp
            (try with_reducible rfl)
          (try simp only [Act.put, List.setIfInBounds_toArray, List.set_cons_zero, List.set_cons_succ])
          refine wpAnyH_take (i := 5) (oi := { dst := some 44, op := Op.load 30 (Operand.tmp 3), type := 30, pos := "laws.go:426", after := #[], guard := none }) (v := ?_) rfl (by kernel_rfl) (by kernel_rfl) (by kernel_rfl) (fun _ _ _ h => h) (Or.inl ⟨by rfl, ?_⟩) (by assumption) ?_
          rotate_left
          · intro w hSw
            (try dsimp only at hSw)
            go_simp
            (try with_reducible rfl)
          (try simp only [Act.put, List.setIfInBounds_toArray, List.set_cons_zero, List.set_cons_succ])
          refine wpAnyH_take (i := 6) (oi := { dst := some 45, op := Op.move (Operand.tmp 4), type := 3, pos := "laws.go:426", after := #[], guard := none }) (v := ?_) rfl (by kernel_rfl) (by kernel_rfl) (by kernel_rfl) (fun _ _ _ h => h) (Or.inl ⟨by rfl, ?_⟩) (by assumption) ?_
          rotate_left
          · intro w hSw
            (try dsimp only at hSw)
            go_simp
            (try with_reducible rfl)
          (try simp only [Act.put, List.setIfInBounds_toArray, List.set_cons_zero, List.set_cons_succ])
          refine wpAnyH_take (i := 7) (oi := { dst := some 46, op := Op.move (Operand.tmp 6), type := 3, pos := "laws.go:426", after := #[], guard := none }) (v := ?_) rfl (by kernel_rfl) (by kernel_rfl) (by kernel_rfl) (fun _ _ _ h => h) (Or.inl ⟨by rfl, ?_⟩) (by assumption) ?_
          rotate_left
          · intro w hSw
            (try dsimp only at hSw)
            go_simp
            (try with_reducible rfl)
          (try simp only [Act.put, List.setIfInBounds_toArray, List.set_cons_zero, List.set_cons_succ])
          refine wpAnyH_take (i := 8) (oi := { dst := some 47, op := Op.binOp BinOp.and 3 (Operand.tmp 45) (Operand.tmp 46) 3, type := 3, pos := "laws.go:426", after := #[{ on := 6, ground := Ground.data }, { on := 7, ground := Ground.data }], guard := none }) (v := ?_) rfl (by kernel_rfl) (by kernel_rfl) (by kernel_rfl) (fun _ _ _ h => h) (Or.inl ⟨by rfl, ?_⟩) (by assumption) ?_
          rotate_left
          · intro w hSw
            (try dsimp only at hSw)
            go_simp
            (try with_reducible rfl)
          (try simp only [Act.put, List.setIfInBounds_toArray, List.set_cons_zero, List.set_cons_succ])
          refine wpAnyH_take (i := 11) (oi := { dst := some 50, op := Op.move (Operand.tmp 5), type := 3, pos := "laws.go:426", after := #[], guard := none }) (v := ?_) rfl (by kernel_rfl) (by kernel_rfl) (by kernel_rfl) (fun _ _ _ h => h) (Or.inl ⟨by rfl, ?_⟩) (by assumption) ?_
          rotate_left
          · intro w hSw
            (try dsimp only at hSw)
            go_simp
            (try with_reducible rfl)
          (try simp only [Act.put, List.setIfInBounds_toArray, List.set_cons_zero, List.set_cons_succ])
          refine wpAnyH_take (i := 12) (oi := { dst := some 51, op := Op.load 30 (Operand.tmp 3), type := 30, pos := "laws.go:426", after := #[], guard := none }) (v := ?_) rfl (by kernel_rfl) (by kernel_rfl) (by kernel_rfl) (fun _ _ _ h => h) (Or.inl ⟨by rfl, ?_⟩) (by assumption) ?_
          rotate_left
          · intro w hSw
            (try dsimp only at hSw)
            go_simp
            (try with_reducible rfl)
          (try simp only [Act.put, List.setIfInBounds_toArray, List.set_cons_zero, List.set_cons_succ])
          refine wpAnyH_take (i := 13) (oi := { dst := some 52, op := Op.move (Operand.tmp 6), type := 3, pos := "laws.go:426", after := #[], guard := none }) (v := ?_) rfl (by kernel_rfl) (by kernel_rfl) (by kernel_rfl) (fun _ _ _ h => h) (Or.inl ⟨by rfl, ?_⟩) (by assumption) ?_
          rotate_left
          · intro w hSw
            (try dsimp only at hSw)
            go_simp
            (try with_reducible rfl)
          (try simp only [Act.put, List.setIfInBounds_toArray, List.set_cons_zero, List.set_cons_succ])
          refine wpAnyH_ready (rs := [4]) (by kernel_rfl) (by simp) ?_
          refine AllReadyH.cons (o := { dst := some 43, op := Op.call { callee := Callee.value (Operand.func 35), args := #[Operand.tmp 39, Operand.tmp 42], argTypes := #[30, 3] }, type := 3, pos := "laws.go:426", after := #[{ on := 0, ground := Ground.data }, { on := 3, ground := Ground.data }], guard := none }) rfl (fun K hK => ?_) AllReadyH.nil
          go_simp
          go_at_call 35
          refine (Hio.out _ (And.left (by assumption))).mono ?_
          rintro e w9 ⟨rfl, b9⟩
          go_simp
          refine hK.out _ _ ?_ (fun hHeld => ?_)
          · first | assumption | exact HKS.out _ _ (by assumption) (by assumption)
          clear hK K
          (try simp only [Act.put, List.setIfInBounds_toArray, List.set_cons_zero, List.set_cons_succ])
          refine wpAnyH_ready (rs := [9]) (by kernel_rfl) (by simp) ?_
          refine AllReadyH.cons (o := { dst := some 48, op := Op.call { callee := Callee.value (Operand.func 35), args := #[Operand.tmp 44, Operand.tmp 47], argTypes := #[30, 3] }, type := 3, pos := "laws.go:426", after := #[{ on := 5, ground := Ground.data }, { on := 8, ground := Ground.data }, { on := 4, ground := Ground.chain }], guard := none }) rfl (fun K hK => ?_) AllReadyH.nil
          go_simp
          go_at_call 35
          refine (Hia.out _ (And.left (by assumption))).mono ?_
          rintro e w9 ⟨rfl, b9⟩
          go_simp
          refine hK.out _ _ ?_ (fun hHeld => ?_)
          · first | assumption | exact HKS.out _ _ (by assumption) (by assumption)
          clear hK K
          (try simp only [Act.put, List.setIfInBounds_toArray, List.set_cons_zero, List.set_cons_succ])
          refine wpAnyH_take (i := 10) (oi := { dst := some 49, op := Op.binOp BinOp.add 3 (Operand.tmp 43) (Operand.tmp 48) 3, type := 3, pos := "laws.go:426", after := #[{ on := 4, ground := Ground.data }, { on := 9, ground := Ground.data }], guard := none }) (v := ?_) rfl (by kernel_rfl) (by kernel_rfl) (by kernel_rfl) (fun _ _ _ h => h) (Or.inl ⟨by rfl, ?_⟩) (by assumption) ?_
          rotate_left
          · intro w hSw
            (try dsimp only at hSw)
            go_simp
            (try with_reducible rfl)
          (try simp only [Act.put, List.setIfInBounds_toArray, List.set_cons_zero, List.set_cons_succ])
          refine wpAnyH_ready (rs := [14]) (by kernel_rfl) (by simp) ?_
          refine AllReadyH.cons (o := { dst := some 53, op := Op.call { callee := Callee.value (Operand.func 35), args := #[Operand.tmp 51, Operand.tmp 52], argTypes := #[30, 3] }, type := 3, pos := "laws.go:426", after := #[{ on := 12, ground := Ground.data }, { on := 13, ground := Ground.data }, { on := 9, ground := Ground.chain }], guard := none }) rfl (fun K hK => ?_) AllReadyH.nil
          go_simp
          go_at_call 35
          refine (Hij.out _ (And.left (by assumption))).mono ?_
          rintro e w9 ⟨rfl, b9⟩
          go_simp
          refine hK.out _ _ ?_ (fun hHeld => ?_)
          · first | assumption | exact HKS.out _ _ (by assumption) (by assumption)
          clear hK K
          (try simp only [Act.put, List.setIfInBounds_toArray, List.set_cons_zero, List.set_cons_succ])
          refine wpAnyH_take (i := 15) (oi := { dst := some 54, op := Op.binOp BinOp.add 3 (Operand.tmp 50) (Operand.tmp 53) 3, type := 3, pos := "laws.go:426", after := #[{ on := 11, ground := Ground.data }, { on := 14, ground := Ground.data }], guard := none }) (v := ?_) rfl (by kernel_rfl) (by kernel_rfl) (by kernel_rfl) (fun _ _ _ h => h) (Or.inl ⟨by rfl, ?_⟩) (by assumption) ?_
          rotate_left
          · intro w hSw
            (try dsimp only at hSw)
            go_simp
            (try with_reducible rfl)
          (try simp only [Act.put, List.setIfInBounds_toArray, List.set_cons_zero, List.set_cons_succ])
          refine wpAnyH_take (i := 16) (oi := { dst := some 55, op := Op.binOp BinOp.lss 3 (Operand.tmp 49) (Operand.tmp 54) 3, type := 4, pos := "laws.go:426", after := #[{ on := 10, ground := Ground.data }, { on := 15, ground := Ground.data }], guard := none }) (v := ?_) rfl (by kernel_rfl) (by kernel_rfl) (by kernel_rfl) (fun _ _ _ h => h) (Or.inl ⟨by rfl, ?_⟩) (by assumption) ?_
          rotate_left
          · intro w hSw
            (try dsimp only at hSw)
            go_simp
            (try with_reducible rfl)
          (try simp only [Act.put, List.setIfInBounds_toArray, List.set_cons_zero, List.set_cons_succ])
          refine wpAnyH_take (i := 17) (oi := { dst := some 56, op := Op.move (Operand.tmp 55), type := 4, pos := "laws.go:426", after := #[{ on := 16, ground := Ground.data }, { on := 14, ground := Ground.chain }], guard := none }) (v := ?_) rfl (by kernel_rfl) (by kernel_rfl) (by kernel_rfl) (fun _ _ _ h => h) (Or.inl ⟨by rfl, ?_⟩) (by assumption) ?_
          rotate_left
          · intro w hSw
            (try dsimp only at hSw)
            go_simp
            (try with_reducible rfl)
          (try simp only [Act.put, List.setIfInBounds_toArray, List.set_cons_zero, List.set_cons_succ])
          refine wpAnyH_take (i := 18) (oi := { dst := some 57, op := Op.load 30 (Operand.tmp 3), type := 30, pos := "laws.go:426", after := #[{ on := 17, ground := Ground.guard }], guard := some (17, false) }) (v := ?_) rfl (by kernel_rfl) (by kernel_rfl) (by kernel_rfl) (fun _ _ _ h => h) (Or.inl ⟨by rfl, ?_⟩) (by assumption) ?_
          rotate_left
          · intro w hSw
            (try dsimp only at hSw)
            go_simp
            (try with_reducible rfl)
          (try simp only [Act.put, List.setIfInBounds_toArray, List.set_cons_zero, List.set_cons_succ])
          refine wpAnyH_take (i := 19) (oi := { dst := some 58, op := Op.move (Operand.tmp 4), type := 3, pos := "laws.go:426", after := #[{ on := 17, ground := Ground.guard }], guard := some (17, false) }) (v := ?_) rfl (by kernel_rfl) (by kernel_rfl) (by kernel_rfl) (fun _ _ _ h => h) (Or.inl ⟨by rfl, ?_⟩) (by assumption) ?_
          rotate_left
          · intro w hSw
            (try dsimp only at hSw)
            go_simp
            (try with_reducible rfl)
          (try simp only [Act.put, List.setIfInBounds_toArray, List.set_cons_zero, List.set_cons_succ])
          refine wpAnyH_take (i := 20) (oi := { dst := some 59, op := Op.move (Operand.tmp 6), type := 3, pos := "laws.go:426", after := #[{ on := 17, ground := Ground.guard }], guard := some (17, false) }) (v := ?_) rfl (by kernel_rfl) (by kernel_rfl) (by kernel_rfl) (fun _ _ _ h => h) (Or.inl ⟨by rfl, ?_⟩) (by assumption) ?_
          rotate_left
          · intro w hSw
            (try dsimp only at hSw)
            go_simp
            (try with_reducible rfl)
          (try simp only [Act.put, List.setIfInBounds_toArray, List.set_cons_zero, List.set_cons_succ])
          refine wpAnyH_take (i := 21) (oi := { dst := some 60, op := Op.binOp BinOp.or 3 (Operand.tmp 58) (Operand.tmp 59) 3, type := 3, pos := "laws.go:426", after := #[{ on := 19, ground := Ground.data }, { on := 20, ground := Ground.data }, { on := 17, ground := Ground.guard }], guard := some (17, false) }) (v := ?_) rfl (by kernel_rfl) (by kernel_rfl) (by kernel_rfl) (fun _ _ _ h => h) (Or.inl ⟨by rfl, ?_⟩) (by assumption) ?_
          rotate_left
          · intro w hSw
            (try dsimp only at hSw)
            go_simp
            (try with_reducible rfl)
          (try simp only [Act.put, List.setIfInBounds_toArray, List.set_cons_zero, List.set_cons_succ])
          refine wpAnyH_take (i := 23) (oi := { dst := some 62, op := Op.load 30 (Operand.tmp 3), type := 30, pos := "laws.go:426", after := #[{ on := 17, ground := Ground.guard }], guard := some (17, false) }) (v := ?_) rfl (by kernel_rfl) (by kernel_rfl) (by kernel_rfl) (fun _ _ _ h => h) (Or.inl ⟨by rfl, ?_⟩) (by assumption) ?_
          rotate_left
          · intro w hSw
            (try dsimp only at hSw)
            go_simp
            (try with_reducible rfl)
          (try simp only [Act.put, List.setIfInBounds_toArray, List.set_cons_zero, List.set_cons_succ])
          refine wpAnyH_take (i := 24) (oi := { dst := some 63, op := Op.move (Operand.tmp 4), type := 3, pos := "laws.go:426", after := #[{ on := 17, ground := Ground.guard }], guard := some (17, false) }) (v := ?_) rfl (by kernel_rfl) (by kernel_rfl) (by kernel_rfl) (fun _ _ _ h => h) (Or.inl ⟨by rfl, ?_⟩) (by assumption) ?_
          rotate_left
          · intro w hSw
            (try dsimp only at hSw)
            go_simp
            (try with_reducible rfl)
          (try simp only [Act.put, List.setIfInBounds_toArray, List.set_cons_zero, List.set_cons_succ])
          refine wpAnyH_take (i := 25) (oi := { dst := some 64, op := Op.move (Operand.tmp 6), type := 3, pos := "laws.go:426", after := #[{ on := 17, ground := Ground.guard }], guard := some (17, false) }) (v := ?_) rfl (by kernel_rfl) (by kernel_rfl) (by kernel_rfl) (fun _ _ _ h => h) (Or.inl ⟨by rfl, ?_⟩) (by assumption) ?_
          rotate_left
          · intro w hSw
            (try dsimp only at hSw)
            go_simp
            (try with_reducible rfl)
          (try simp only [Act.put, List.setIfInBounds_toArray, List.set_cons_zero, List.set_cons_succ])
          refine wpAnyH_take (i := 26) (oi := { dst := some 65, op := Op.binOp BinOp.and 3 (Operand.tmp 63) (Operand.tmp 64) 3, type := 3, pos := "laws.go:426", after := #[{ on := 24, ground := Ground.data }, { on := 25, ground := Ground.data }, { on := 17, ground := Ground.guard }], guard := some (17, false) }) (v := ?_) rfl (by kernel_rfl) (by kernel_rfl) (by kernel_rfl) (fun _ _ _ h => h) (Or.inl ⟨by rfl, ?_⟩) (by assumption) ?_
          rotate_left
          · intro w hSw
            (try dsimp only at hSw)
            go_simp
            (try with_reducible rfl)
          (try simp only [Act.put, List.setIfInBounds_toArray, List.set_cons_zero, List.set_cons_succ])
          refine wpAnyH_take (i := 29) (oi := { dst := some 68, op := Op.load 30 (Operand.tmp 3), type := 30, pos := "laws.go:426", after := #[{ on := 17, ground := Ground.guard }], guard := some (17, false) }) (v := ?_) rfl (by kernel_rfl) (by kernel_rfl) (by kernel_rfl) (fun _ _ _ h => h) (Or.inl ⟨by rfl, ?_⟩) (by assumption) ?_
          rotate_left
          · intro w hSw
            (try dsimp only at hSw)
            go_simp
            (try with_reducible rfl)
          (try simp only [Act.put, List.setIfInBounds_toArray, List.set_cons_zero, List.set_cons_succ])
          refine wpAnyH_take (i := 30) (oi := { dst := some 69, op := Op.move (Operand.tmp 4), type := 3, pos := "laws.go:426", after := #[{ on := 17, ground := Ground.guard }], guard := some (17, false) }) (v := ?_) rfl (by kernel_rfl) (by kernel_rfl) (by kernel_rfl) (fun _ _ _ h => h) (Or.inl ⟨by rfl, ?_⟩) (by assumption) ?_
          rotate_left
          · intro w hSw
            (try dsimp only at hSw)
            go_simp
            (try with_reducible rfl)
          (try simp only [Act.put, List.setIfInBounds_toArray, List.set_cons_zero, List.set_cons_succ])
          refine wpAnyH_take (i := 32) (oi := { dst := some 71, op := Op.load 30 (Operand.tmp 3), type := 30, pos := "laws.go:426", after := #[{ on := 17, ground := Ground.guard }], guard := some (17, false) }) (v := ?_) rfl (by kernel_rfl) (by kernel_rfl) (by kernel_rfl) (fun _ _ _ h => h) (Or.inl ⟨by rfl, ?_⟩) (by assumption) ?_
          rotate_left
          · intro w hSw
            (try dsimp only at hSw)
            go_simp
            (try with_reducible rfl)
          (try simp only [Act.put, List.setIfInBounds_toArray, List.set_cons_zero, List.set_cons_succ])
          refine wpAnyH_take (i := 33) (oi := { dst := some 72, op := Op.move (Operand.tmp 6), type := 3, pos := "laws.go:426", after := #[{ on := 17, ground := Ground.guard }], guard := some (17, false) }) (v := ?_) rfl (by kernel_rfl) (by kernel_rfl) (by kernel_rfl) (fun _ _ _ h => h) (Or.inl ⟨by rfl, ?_⟩) (by assumption) ?_
          rotate_left
          · intro w hSw
            (try dsimp only at hSw)
            go_simp
            (try with_reducible rfl)
          (try simp only [Act.put, List.setIfInBounds_toArray, List.set_cons_zero, List.set_cons_succ])
          refine wpAnyH_ready (rs := [22]) (by kernel_rfl) (by simp) ?_
          refine AllReadyH.cons (o := { dst := some 61, op := Op.call { callee := Callee.value (Operand.func 37), args := #[Operand.tmp 57, Operand.tmp 60], argTypes := #[30, 3] }, type := 3, pos := "laws.go:426", after := #[{ on := 18, ground := Ground.data }, { on := 21, ground := Ground.data }, { on := 17, ground := Ground.chain }, { on := 17, ground := Ground.guard }], guard := some (17, false) }) rfl (fun K hK => ?_) AllReadyH.nil
          go_simp
          go_at_call 37
          refine (Hpo.out _ (And.left (by assumption))).mono ?_
          rintro e w9 ⟨rfl, b9⟩
          go_simp
          refine hK.out _ _ ?_ (fun hHeld => ?_)
          · first | assumption | exact HKS.out _ _ (by assumption) (by assumption)
          clear hK K
          (try simp only [Act.put, List.setIfInBounds_toArray, List.set_cons_zero, List.set_cons_succ])
          refine wpAnyH_ready (rs := [27]) (by kernel_rfl) (by simp) ?_
          refine AllReadyH.cons (o := { dst := some 66, op := Op.call { callee := Callee.value (Operand.func 37), args := #[Operand.tmp 62, Operand.tmp 65], argTypes := #[30, 3] }, type := 3, pos := "laws.go:426", after := #[{ on := 23, ground := Ground.data }, { on := 26, ground := Ground.data }, { on := 22, ground := Ground.chain }, { on := 17, ground := Ground.guard }], guard := some (17, false) }) rfl (fun K hK => ?_) AllReadyH.nil
          go_simp
          go_at_call 37
          refine (Hpa.out _ (And.left (by assumption))).mono ?_
          rintro e w9 ⟨rfl, b9⟩
          go_simp
          refine hK.out _ _ ?_ (fun hHeld => ?_)
          · first | assumption | exact HKS.out _ _ (by assumption) (by assumption)
          clear hK K
          (try simp only [Act.put, List.setIfInBounds_toArray, List.set_cons_zero, List.set_cons_succ])
          refine wpAnyH_take (i := 28) (oi := { dst := some 67, op := Op.binOp BinOp.add 3 (Operand.tmp 61) (Operand.tmp 66) 3, type := 3, pos := "laws.go:426", after := #[{ on := 22, ground := Ground.data }, { on := 27, ground := Ground.data }, { on := 17, ground := Ground.guard }], guard := some (17, false) }) (v := ?_) rfl (by kernel_rfl) (by kernel_rfl) (by kernel_rfl) (fun _ _ _ h => h) (Or.inl ⟨by rfl, ?_⟩) (by assumption) ?_
          rotate_left
          · intro w hSw
            (try dsimp only at hSw)
            go_simp
            (try with_reducible rfl)
          (try simp only [Act.put, List.setIfInBounds_toArray, List.set_cons_zero, List.set_cons_succ])
          refine wpAnyH_ready (rs := [31]) (by kernel_rfl) (by simp) ?_
          refine AllReadyH.cons (o := { dst := some 70, op := Op.call { callee := Callee.value (Operand.func 37), args := #[Operand.tmp 68, Operand.tmp 69], argTypes := #[30, 3] }, type := 3, pos := "laws.go:426", after := #[{ on := 29, ground := Ground.data }, { on := 30, ground := Ground.data }, { on := 27, ground := Ground.chain }, { on := 17, ground := Ground.guard }], guard := some (17, false) }) rfl (fun K hK => ?_) AllReadyH.nil
          go_simp
          go_at_call 37
          refine (Hpy.out _ (And.left (by assumption))).mono ?_
          rintro e w9 ⟨rfl, b9⟩
          go_simp
          refine hK.out _ _ ?_ (fun hHeld => ?_)
          · first | assumption | exact HKS.out _ _ (by assumption) (by assumption)
          clear hK K
          (try simp only [Act.put, List.setIfInBounds_toArray, List.set_cons_zero, List.set_cons_succ])
          refine wpAnyH_ready (rs := [34]) (by kernel_rfl) (by simp) ?_
          refine AllReadyH.cons (o := { dst := some 73, op := Op.call { callee := Callee.value (Operand.func 37), args := #[Operand.tmp 71, Operand.tmp 72], argTypes := #[30, 3] }, type := 3, pos := "laws.go:426", after := #[{ on := 32, ground := Ground.data }, { on := 33, ground := Ground.data }, { on := 31, ground := Ground.chain }, { on := 17, ground := Ground.guard }], guard := some (17, false) }) rfl (fun K hK => ?_) AllReadyH.nil
          go_simp
          go_at_call 37
          refine (Hpj.out _ (And.left (by assumption))).mono ?_
          rintro e w9 ⟨rfl, b9⟩
          go_simp
          refine hK.out _ _ ?_ (fun hHeld => ?_)
          · first | assumption | exact HKS.out _ _ (by assumption) (by assumption)
          clear hK K
          (try simp only [Act.put, List.setIfInBounds_toArray, List.set_cons_zero, List.set_cons_succ])
          refine wpAnyH_take (i := 35) (oi := { dst := some 74, op := Op.binOp BinOp.add 3 (Operand.tmp 70) (Operand.tmp 73) 3, type := 3, pos := "laws.go:426", after := #[{ on := 31, ground := Ground.data }, { on := 34, ground := Ground.data }, { on := 17, ground := Ground.guard }], guard := some (17, false) }) (v := ?_) rfl (by kernel_rfl) (by kernel_rfl) (by kernel_rfl) (fun _ _ _ h => h) (Or.inl ⟨by rfl, ?_⟩) (by assumption) ?_
          rotate_left
          · intro w hSw
            (try dsimp only at hSw)
            go_simp
            (try with_reducible rfl)
          (try simp only [Act.put, List.setIfInBounds_toArray, List.set_cons_zero, List.set_cons_succ])
          refine wpAnyH_take (i := 36) (oi := { dst := some 75, op := Op.binOp BinOp.gtr 3 (Operand.tmp 67) (Operand.tmp 74) 3, type := 4, pos := "laws.go:426", after := #[{ on := 28, ground := Ground.data }, { on := 35, ground := Ground.data }, { on := 17, ground := Ground.guard }], guard := some (17, false) }) (v := ?_) rfl (by kernel_rfl) (by kernel_rfl) (by kernel_rfl) (fun _ _ _ h => h) (Or.inl ⟨by rfl, ?_⟩) (by assumption) ?_
          rotate_left
          · intro w hSw
            (try dsimp only at hSw)
            go_simp
            (try with_reducible rfl)
          (try simp only [Act.put, List.setIfInBounds_toArray, List.set_cons_zero, List.set_cons_succ])
          refine wpAnyH_take (i := 37) (oi := { dst := some 76, op := Op.pick (Operand.tmp 56) (Operand.const (Value.bool true)) (Operand.tmp 75), type := 4, pos := "laws.go:426", after := #[{ on := 17, ground := Ground.data }, { on := 36, ground := Ground.data }], guard := none }) (v := ?_) rfl (by kernel_rfl) (by kernel_rfl) (by kernel_rfl) (fun _ _ _ h => h) (Or.inl ⟨by rfl, ?_⟩) (by assumption) ?_
          rotate_left
          · intro w hSw
            (try dsimp only at hSw)
            go_simp
            (try with_reducible rfl)
          (try simp only [Act.put, List.setIfInBounds_toArray, List.set_cons_zero, List.set_cons_succ])
          refine wpAnyH_take (i := 38) (oi := { dst := some 77, op := Op.move (Operand.tmp 76), type := 4, pos := "laws.go:426", after := #[{ on := 37, ground := Ground.data }, { on := 34, ground := Ground.chain }], guard := none }) (v := ?_) rfl (by kernel_rfl) (by kernel_rfl) (by kernel_rfl) (fun _ _ _ h => h) (Or.inl ⟨by rfl, ?_⟩) (by assumption) ?_
          rotate_left
          · intro w hSw
            (try dsimp only at hSw)
            go_simp
            (try with_reducible rfl)
          (try simp only [Act.put, List.setIfInBounds_toArray, List.set_cons_zero, List.set_cons_succ])
          refine wpAnyH_take (i := 39) (oi := { dst := some 78, op := Op.move (Operand.tmp 4), type := 3, pos := "laws.go:426", after := #[{ on := 38, ground := Ground.guard }], guard := some (38, false) }) (v := ?_) rfl (by kernel_rfl) (by kernel_rfl) (by kernel_rfl) (fun _ _ _ h => h) (Or.inl ⟨by rfl, ?_⟩) (by assumption) ?_
          rotate_left
          · intro w hSw
            (try dsimp only at hSw)
            go_simp
            (try with_reducible rfl)
          (try simp only [Act.put, List.setIfInBounds_toArray, List.set_cons_zero, List.set_cons_succ])
          refine wpAnyH_take (i := 40) (oi := { dst := some 79, op := Op.move (Operand.tmp 6), type := 3, pos := "laws.go:426", after := #[{ on := 38, ground := Ground.guard }], guard := some (38, false) }) (v := ?_) rfl (by kernel_rfl) (by kernel_rfl) (by kernel_rfl) (fun _ _ _ h => h) (Or.inl ⟨by rfl, ?_⟩) (by assumption) ?_
          rotate_left
          · intro w hSw
            (try dsimp only at hSw)
            go_simp
            (try with_reducible rfl)
          (try simp only [Act.put, List.setIfInBounds_toArray, List.set_cons_zero, List.set_cons_succ])
          refine wpAnyH_take (i := 41) (oi := { dst := some 80, op := Op.binOp BinOp.andNot 3 (Operand.tmp 78) (Operand.tmp 79) 3, type := 3, pos := "laws.go:426", after := #[{ on := 39, ground := Ground.data }, { on := 40, ground := Ground.data }, { on := 38, ground := Ground.guard }], guard := some (38, false) }) (v := ?_) rfl (by kernel_rfl) (by kernel_rfl) (by kernel_rfl) (fun _ _ _ h => h) (Or.inl ⟨by rfl, ?_⟩) (by assumption) ?_
          rotate_left
          · intro w hSw
            (try dsimp only at hSw)
            go_simp
            (try with_reducible rfl)
          (try simp only [Act.put, List.setIfInBounds_toArray, List.set_cons_zero, List.set_cons_succ])
          refine wpAnyH_take (i := 42) (oi := { dst := some 81, op := Op.binOp BinOp.eql 3 (Operand.tmp 80) (Operand.const (Value.int IntKind.i64 0)) 3, type := 4, pos := "laws.go:426", after := #[{ on := 41, ground := Ground.data }, { on := 38, ground := Ground.guard }], guard := some (38, false) }) (v := ?_) rfl (by kernel_rfl) (by kernel_rfl) (by kernel_rfl) (fun _ _ _ h => h) (Or.inl ⟨by rfl, ?_⟩) (by assumption) ?_
          rotate_left
          · intro w hSw
            (try dsimp only at hSw)
            go_simp
            (try with_reducible rfl)
          (try simp only [Act.put, List.setIfInBounds_toArray, List.set_cons_zero, List.set_cons_succ])
          refine wpAnyH_take (i := 43) (oi := { dst := some 82, op := Op.move (Operand.tmp 81), type := 4, pos := "laws.go:426", after := #[{ on := 42, ground := Ground.data }, { on := 38, ground := Ground.chain }, { on := 38, ground := Ground.guard }], guard := some (38, false) }) (v := ?_) rfl (by kernel_rfl) (by kernel_rfl) (by kernel_rfl) (fun _ _ _ h => h) (Or.inl ⟨by rfl, ?_⟩) (by assumption) ?_
          rotate_left
          · intro w hSw
            (try dsimp only at hSw)
            go_simp
            (try with_reducible rfl)
          (try simp only [Act.put, List.setIfInBounds_toArray, List.set_cons_zero, List.set_cons_succ])
          refine wpAnyH_take (i := 44) (oi := { dst := some 83, op := Op.move (Operand.tmp 5), type := 3, pos := "laws.go:426", after := #[{ on := 43, ground := Ground.guard }], guard := some (43, true) }) (v := undef) rfl (by kernel_rfl) (by kernel_rfl) (by kernel_rfl) (fun _ _ _ h => h) (Or.inr ⟨by rfl, rfl⟩) (by assumption) ?_
          (try simp only [Act.put, List.setIfInBounds_toArray, List.set_cons_zero, List.set_cons_succ])
          refine wpAnyH_take (i := 45) (oi := { dst := some 84, op := Op.load 30 (Operand.tmp 3), type := 30, pos := "laws.go:426", after := #[{ on := 43, ground := Ground.guard }], guard := some (43, true) }) (v := undef) rfl (by kernel_rfl) (by kernel_rfl) (by kernel_rfl) (fun _ _ _ h => h) (Or.inr ⟨by rfl, rfl⟩) (by assumption) ?_
          (try simp only [Act.put, List.setIfInBounds_toArray, List.set_cons_zero, List.set_cons_succ])
          refine wpAnyH_take (i := 46) (oi := { dst := some 85, op := Op.move (Operand.tmp 6), type := 3, pos := "laws.go:426", after := #[{ on := 43, ground := Ground.guard }], guard := some (43, true) }) (v := undef) rfl (by kernel_rfl) (by kernel_rfl) (by kernel_rfl) (fun _ _ _ h => h) (Or.inr ⟨by rfl, rfl⟩) (by assumption) ?_
          (try simp only [Act.put, List.setIfInBounds_toArray, List.set_cons_zero, List.set_cons_succ])
          refine wpAnyH_take (i := 47) (oi := { dst := some 86, op := Op.call { callee := Callee.value (Operand.func 35), args := #[Operand.tmp 84, Operand.tmp 85], argTypes := #[30, 3] }, type := 3, pos := "laws.go:426", after := #[{ on := 45, ground := Ground.data }, { on := 46, ground := Ground.data }, { on := 43, ground := Ground.chain }, { on := 43, ground := Ground.guard }], guard := some (43, true) }) (v := undef) rfl (by kernel_rfl) (by kernel_rfl) (by kernel_rfl) (fun _ _ _ h => h) (Or.inr ⟨by rfl, rfl⟩) (by assumption) ?_
          (try simp only [Act.put, List.setIfInBounds_toArray, List.set_cons_zero, List.set_cons_succ])
          refine wpAnyH_take (i := 48) (oi := { dst := some 87, op := Op.binOp BinOp.gtr 3 (Operand.tmp 83) (Operand.tmp 86) 3, type := 4, pos := "laws.go:426", after := #[{ on := 44, ground := Ground.data }, { on := 47, ground := Ground.data }, { on := 43, ground := Ground.guard }], guard := some (43, true) }) (v := undef) rfl (by kernel_rfl) (by kernel_rfl) (by kernel_rfl) (fun _ _ _ h => h) (Or.inr ⟨by rfl, rfl⟩) (by assumption) ?_
          (try simp only [Act.put, List.setIfInBounds_toArray, List.set_cons_zero, List.set_cons_succ])
          refine wpAnyH_take (i := 49) (oi := { dst := some 88, op := Op.pick (Operand.tmp 82) (Operand.tmp 87) (Operand.const (Value.bool false)), type := 4, pos := "laws.go:426", after := #[{ on := 43, ground := Ground.data }, { on := 48, ground := Ground.data }, { on := 38, ground := Ground.guard }], guard := some (38, false) }) (v := ?_) rfl (by kernel_rfl) (by kernel_rfl) (by kernel_rfl) (fun _ _ _ h => h) (Or.inl ⟨by rfl, ?_⟩) (by assumption) ?_
          rotate_left
          · intro w hSw
            (try dsimp only at hSw)
            go_simp
            (try with_reducible rfl)
          (try simp only [Act.put, List.setIfInBounds_toArray, List.set_cons_zero, List.set_cons_succ])
          refine wpAnyH_take (i := 50) (oi := { dst := some 89, op := Op.pick (Operand.tmp 77) (Operand.const (Value.bool true)) (Operand.tmp 88), type := 4, pos := "laws.go:426", after := #[{ on := 38, ground := Ground.data }, { on := 49, ground := Ground.data }], guard := none }) (v := ?_) rfl (by kernel_rfl) (by kernel_rfl) (by kernel_rfl) (fun _ _ _ h => h) (Or.inl ⟨by rfl, ?_⟩) (by assumption) ?_
          rotate_left
          · intro w hSw
            (try dsimp only at hSw)
            go_simp
            (try with_reducible rfl)
          (try simp only [Act.put, List.setIfInBounds_toArray, List.set_cons_zero, List.set_cons_succ])
          refine wpAnyH_done (by kernel_rfl) ?_ _
          clear HS0
          have HBX := Lib.hid (And.left (by assumption) : Below w4.heap.size w4 _)
          have n4 : decide (min cy cj < co) = false := decide_eq_false (by omega)
          have HS0 := Lib.hid (HIS.out _ (HBX.out.drew))
          go_wp2_with fail
          refine wp_region_held_drew (S := fun W => Below w4.heap.size w4 W ∧ W.cell? ⟨w1.heap.size, 0, none⟩ = some (.int .i64 s) ∧ W.cell? ⟨w1.heap.size, 1, none⟩ = some (.slice A n C)) (by kernel_rfl) ?_ (fun hHeld => ?_)
          · exact HS0.out
          refine wpAnyH_take (i := 0) (oi := { dst := some 90, op := Op.load 30 (Operand.tmp 3), type := 30, pos := "laws.go:429", after := #[], guard := none }) (v := ?_) rfl (by kernel_rfl) (by kernel_rfl) (by kernel_rfl) (fun _ _ _ h => h) (Or.inl ⟨by rfl, ?_⟩) (by assumption) ?_
          rotate_left
          · intro w hSw
            (try dsimp only at hSw)
            go_simp
            (try with_reducible rfl)
          (try simp only [Act.put, List.setIfInBounds_toArray, List.set_cons_zero, List.set_cons_succ])
          refine wpAnyH_take (i := 1) (oi := { dst := some 91, op := Op.move (Operand.tmp 4), type := 3, pos := "laws.go:429", after := #[], guard := none }) (v := ?_) rfl (by kernel_rfl) (by kernel_rfl) (by kernel_rfl) (fun _ _ _ h => h) (Or.inl ⟨by rfl, ?_⟩) (by assumption) ?_
          rotate_left
          · intro w hSw
            (try dsimp only at hSw)
            go_simp
            (try with_reducible rfl)
          (try simp only [Act.put, List.setIfInBounds_toArray, List.set_cons_zero, List.set_cons_succ])
          refine wpAnyH_take (i := 2) (oi := { dst := some 92, op := Op.move (Operand.tmp 6), type := 3, pos := "laws.go:429", after := #[], guard := none }) (v := ?_) rfl (by kernel_rfl) (by kernel_rfl) (by kernel_rfl) (fun _ _ _ h => h) (Or.inl ⟨by rfl, ?_⟩) (by assumption) ?_
          rotate_left
          · intro w hSw
            (try dsimp only at hSw)
            go_simp
            (try with_reducible rfl)
          (try simp only [Act.put, List.setIfInBounds_toArray, List.set_cons_zero, List.set_cons_succ])
          refine wpAnyH_take (i := 3) (oi := { dst := some 93, op := Op.binOp BinOp.or 3 (Operand.tmp 91) (Operand.tmp 92) 3, type := 3, pos := "laws.go:429", after := #[{ on := 1, ground := Ground.data }, { on := 2, ground := Ground.data }], guard := none }) (v := ?_) rfl (by kernel_rfl) (by kernel_rfl) (by kernel_rfl) (fun _ _ _ h => h) (Or.inl ⟨by rfl, ?_⟩) (by assumption) ?_
          rotate_left
          · intro w hSw
            (try dsimp only at hSw)
            go_simp
            (try with_reducible rfl)
          (try simp only [Act.put, List.setIfInBounds_toArray, List.set_cons_zero, List.set_cons_succ])
          refine wpAnyH_take (i := 5) (oi := { dst := some 95, op := Op.load 30 (Operand.tmp 3), type := 30, pos := "laws.go:429", after := #[], guard := none }) (v := ?_) rfl (by kernel_rfl) (by kernel_rfl) (by kernel_rfl) (fun _ _ _ h => h) (Or.inl ⟨by rfl, ?_⟩) (by assumption) ?_
          rotate_left
          · intro w hSw
            (try dsimp only at hSw)
            go_simp
            (try with_reducible rfl)
          (try simp only [Act.put, List.setIfInBounds_toArray, List.set_cons_zero, List.set_cons_succ])
          refine wpAnyH_take (i := 6) (oi := { dst := some 96, op := Op.move (Operand.tmp 4), type := 3, pos := "laws.go:429", after := #[], guard := none }) (v := ?_) rfl (by kernel_rfl) (by kernel_rfl) (by kernel_rfl) (fun _ _ _ h => h) (Or.inl ⟨by rfl, ?_⟩) (by assumption) ?_
          rotate_left
          · intro w hSw
            (try dsimp only at hSw)
            go_simp
            (try with_reducible rfl)
          (try simp only [Act.put, List.setIfInBounds_toArray, List.set_cons_zero, List.set_cons_succ])
          refine wpAnyH_take (i := 8) (oi := { dst := some 98, op := Op.load 30 (Operand.tmp 3), type := 30, pos := "laws.go:429", after := #[], guard := none }) (v := ?_) rfl (by kernel_rfl) (by kernel_rfl) (by kernel_rfl) (fun _ _ _ h => h) (Or.inl ⟨by rfl, ?_⟩) (by assumption) ?_
          rotate_left
          · intro w hSw
            (try dsimp only at hSw)
            go_simp
            (try with_reducible rfl)
          (try simp only [Act.put, List.setIfInBounds_toArray, List.set_cons_zero, List.set_cons_succ])
          refine wpAnyH_take (i := 9) (oi := { dst := some 99, op := Op.move (Operand.tmp 6), type := 3, pos := "laws.go:429", after := #[], guard := none }) (v := ?_) rfl (by kernel_rfl) (by kernel_rfl) (by kernel_rfl) (fun _ _ _ h => h) (Or.inl ⟨by rfl, ?_⟩) (by assumption) ?_
          rotate_left
          · intro w hSw
            (try dsimp only at hSw)
            go_simp
            (try with_reducible rfl)
          (try simp only [Act.put, List.setIfInBounds_toArray, List.set_cons_zero, List.set_cons_succ])
          refine wpAnyH_ready (rs := [4]) (by kernel_rfl) (by simp) ?_
          refine AllReadyH.cons (o := { dst := some 94, op := Op.call { callee := Callee.value (Operand.func 38), args := #[Operand.tmp 90, Operand.tmp 93], argTypes := #[30, 3] }, type := 3, pos := "laws.go:429", after := #[{ on := 0, ground := Ground.data }, { on := 3, ground := Ground.data }], guard := none }) rfl (fun K hK => ?_) AllReadyH.nil
          go_simp
          go_at_call 38
          refine (Hco.out _ (And.left (by assumption))).mono ?_
          rintro e w9 ⟨rfl, b9⟩
          go_simp
          refine hK.out _ _ ?_ (fun hHeld => ?_)
          · first | assumption | exact HKS.out _ _ (by assumption) (by assumption)
          clear hK K
          (try simp only [Act.put, List.setIfInBounds_toArray, List.set_cons_zero, List.set_cons_succ])
          refine wpAnyH_ready (rs := [7]) (by kernel_rfl) (by simp) ?_
          refine AllReadyH.cons (o := { dst := some 97, op := Op.call { callee := Callee.value (Operand.func 38), args := #[Operand.tmp 95, Operand.tmp 96], argTypes := #[30, 3] }, type := 3, pos := "laws.go:429", after := #[{ on := 5, ground := Ground.data }, { on := 6, ground := Ground.data }, { on := 4, ground := Ground.chain }], guard := none }) rfl (fun K hK => ?_) AllReadyH.nil
          go_simp
          go_at_call 38
          refine (Hcy.out _ (And.left (by assumption))).mono ?_
          rintro e w9 ⟨rfl, b9⟩
          go_simp
          refine hK.out _ _ ?_ (fun hHeld => ?_)
          · first | assumption | exact HKS.out _ _ (by assumption) (by assumption)
          clear hK K
          (try simp only [Act.put, List.setIfInBounds_toArray, List.set_cons_zero, List.set_cons_succ])
          refine wpAnyH_ready (rs := [10]) (by kernel_rfl) (by simp) ?_
          refine AllReadyH.cons (o := { dst := some 100, op := Op.call { callee := Callee.value (Operand.func 38), args := #[Operand.tmp 98, Operand.tmp 99], argTypes := #[30, 3] }, type := 3, pos := "laws.go:429", after := #[{ on := 8, ground := Ground.data }, { on := 9, ground := Ground.data }, { on := 7, ground := Ground.chain }], guard := none }) rfl (fun K hK => ?_) AllReadyH.nil
          go_simp
          go_at_call 38
          refine (Hcj.out _ (And.left (by assumption))).mono ?_
          rintro e w9 ⟨rfl, b9⟩
          go_simp
          refine hK.out _ _ ?_ (fun hHeld => ?_)
          · first | assumption | exact HKS.out _ _ (by assumption) (by assumption)
          clear hK K
          (try simp only [Act.put, List.setIfInBounds_toArray, List.set_cons_zero, List.set_cons_succ])
          refine wpAnyH_take (i := 11) (oi := { dst := some 101, op := Op.call { callee := Callee.builtin Builtin.min, args := #[Operand.tmp 97, Operand.tmp 100], argTypes := #[3, 3] }, type := 3, pos := "laws.go:429", after := #[{ on := 7, ground := Ground.data }, { on := 10, ground := Ground.data }], guard := none }) (v := ?_) rfl (by kernel_rfl) (by kernel_rfl) (by kernel_rfl) (fun _ _ _ h => h) (Or.inl ⟨by rfl, ?_⟩) (by assumption) ?_
          rotate_left
          · intro w hSw
            (try dsimp only at hSw)
            go_simp
            (try with_reducible rfl)
          (try simp only [Act.put, List.setIfInBounds_toArray, List.set_cons_zero, List.set_cons_succ])
          refine wpAnyH_take (i := 12) (oi := { dst := some 102, op := Op.binOp BinOp.gtr 3 (Operand.tmp 94) (Operand.tmp 101) 3, type := 4, pos := "laws.go:429", after := #[{ on := 4, ground := Ground.data }, { on := 11, ground := Ground.data }], guard := none }) (v := ?_) rfl (by kernel_rfl) (by kernel_rfl) (by kernel_rfl) (fun _ _ _ h => h) (Or.inl ⟨by rfl, ?_⟩) (by assumption) ?_
          rotate_left
          · intro w hSw
            (try dsimp only at hSw)
            go_simp
            (try with_reducible rfl)
          (try simp only [Act.put, List.setIfInBounds_toArray, List.set_cons_zero, List.set_cons_succ])
          refine wpAnyH_done (by kernel_rfl) ?_ _
          clear HS0
          go_wp2_with fail
          go_roundw
          case rel => exact ⟨j + 1, by omega, by go_num, Lib.hid (And.left (by assumption))⟩
          case measure => simp [intOf]; omega
      · obtain rfl : n = j := by omega
        have BB := HB.out
        have Mm := Hm.out.below BB
        obtain ⟨z, hz⟩ : ∃ z : Nat, z = n - 1 := ⟨_, rfl⟩
        have hzn : z < n := by omega
        have hzi : (n : Int) - 1 = (z : Int) := by omega
        have hzw : IntKind.i64.wrap ((n : Int) - 1) = (z : Int) := by rw [hzi]; exact IntWalk.i64_in _ (by omega)
        have hn2 := HI.out.nums
        have k1 : partOf (fun i => subB i z) xs = sumL xs := part_all HLX.out (fun k hk => sub_top hn2 (by omega) hk)
        have k2 : partOf (fun i => subB 0 i) xs = sumL xs := part_all HLX.out (fun k hk => by simp [subB])
        have H1 := Lib.hid (fun W (h : Below w4.heap.size w4 W) => iImpliedPart_any s (z : Nat) A n C xs W (Hm.out.2.below h) hn)
        rw [measure_yes HM1.out (HSM.out z hzn), Int.toNat_natCast, k1] at H1
        have H1b := H1
        rw [← hzi] at H1b
        have H2 := Lib.hid (fun W (h : Below w4.heap.size w4 W) => iCommonPart_any s ((0 : Nat) : Int) A n C xs W (Hm.out.2.below h) hn)
        rw [measure_yes HM1.out (HSM.out 0 (by omega)), Int.toNat_natCast, k2] at H2
        rw [show ((0 : Nat) : Int) = 0 from rfl] at H2
        have H3 := Lib.hid (fun W (h : Below w4.heap.size w4 W) => WholeOf_any s A n C xs W (Hm.out.2.below h) hn)
        rw [wholeR_yes HM1.out] at H3
        obtain ⟨d, hd⟩ : ∃ d, d = sumL xs := ⟨_, rfl⟩
        rw [← hd] at H1 H1b H2 H3
        clear hd k1 k2 hz hn2 hzi
        have HS0 := Lib.hid (HIS.out _ (HB.out.drew))
        go_wp2_with fail
        go_region_held3 (fun W => Below w4.heap.size w4 W ∧ W.cell? ⟨w1.heap.size, 0, none⟩ = some (.int .i64 s) ∧ W.cell? ⟨w1.heap.size, 1, none⟩ = some (.slice A n C))
          (first | exact HS0.out | assumption | exact HKS.out _ _ (by assumption) (by assumption) | go_keep)
          (first | (go_at_call 35; (first | ((with_reducible refine (H1.out _ (And.left (by assumption))).mono ?_); rintro e w9 ⟨rfl, b9⟩) | ((with_reducible refine (H1b.out _ (And.left (by assumption))).mono ?_); rintro e w9 ⟨rfl, b9⟩))) | (go_at_call 38; (first | ((with_reducible refine (H2.out _ (And.left (by assumption))).mono ?_); rintro e w9 ⟨rfl, b9⟩))) | (go_at_call 39; (first | ((with_reducible refine (H3.out _ (And.left (by assumption))).mono ?_); rintro e w9 ⟨rfl, b9⟩))))
        clear HS0
        go_wp2_with fail
        go_ret
        exact ⟨by simp, HBB.out.trans (Below.mono (And.left (by assumption)) HBB.out.size)⟩
  · have hv : measure s xs x (partOf (fun j => subB j x.toNat) xs) = -1 := if_neg hms
    rw [hv] at HN HN2
    clear hv hms
    obtain ⟨m1, m2⟩ := Mm.at_ (Below.refl _ _)
    go_wp2_with fail
    clear m1 m2
    refine (HN.out _ Mm.2).mono ?_
    rintro e w3 ⟨rfl, b3⟩
    replace Mm := Mm.below b3
    replace BB := BB.trans (b3.mono BB.size)
    obtain ⟨m1, m2⟩ := Mm.at_ (Below.refl _ _)
    go_wp2_with fail
    clear m1 m2
    refine (HN2.out _ Mm.2).mono ?_
    rintro e w4 ⟨rfl, b4⟩
    replace Mm := Mm.below b4
    replace BB := BB.trans (b4.mono BB.size)
    obtain ⟨m1, m2⟩ := Mm.at_ (Below.refl _ _)
    go_wp2_with fail
    clear m1 m2
    refine (HN2.out _ Mm.2).mono ?_
    rintro e w5 ⟨rfl, b5⟩
    replace Mm := Mm.below b5
    replace BB := BB.trans (b5.mono BB.size)
    go_wp2_with fail
    go_ret
    exact ⟨rfl, BB⟩
end Go.Proofs.Ytapkppnjgbcklaa
