/- The walk of the law FnParts. -/
import Derived.Test.YtffkpmmgfgcngaaBase7
import Derived.Test.YtffkpmmgfgcngaaLaw
import Derived.Test.YtffkpmmgfgcngaaW8
import Derived.Test.YtffkpmmgfgcngaaW10
import Derived.Test.YtffkpmmgfgcngaaW53
import Derived.Test.YtffkpmmgfgcngaaW60
import Derived.Deep.RegionHeld3
import Derived.Deep.QuietTactic
import Derived.BigQuiet
namespace Go.Proofs.Ytffkpmmgfgcngaa
open Go.RowKit

set_option maxHeartbeats 6400000 in
set_option maxRecDepth 100000 in
theorem walkParts (a : Option Addr) (l c : Nat) (bs : List Int) (w : World) (hr : BRow w a l bs) (hlc : l ≤ c) :
    Calls Try.prog 12 #[.slice a l c] w fun e w' => e = .returned (.bool true) ∧ Below w.heap.size w w' := by
  by_cases hl : 1048576 < (l : Int)
  · clear hr
    go_enter Try.func12, Try.ntmps12
    go_wp2_with fail
    go_ret
    exact ⟨rfl, Below.refl _ _⟩
  have HD := Lib.hid (DrawPartsBelow_any a l c bs w hr (.inl hlc))
  clear hr
  go_enter Try.func12, Try.ntmps12
  go_wp2_with fail
  refine HD.out.mono ?_
  rintro e w1 ⟨A, n, C, xs, rfl, hn17, Rl, b1⟩
  have BB := b1
  have hn : n ≤ 1048576 := by omega
  have hlx := Rl.1
  by_cases ht : tableB xs = true
  · have HT := Lib.hid ht
    have h4 := (table_part hlx ht).1
    obtain ⟨ps, hps⟩ : ∃ ps, ps = sums false true xs := ⟨_, rfl⟩
    obtain ⟨qs, hqs⟩ : ∃ qs, qs = sums true true xs := ⟨_, rfl⟩
    have HPS := Lib.hid hps
    have HQS := Lib.hid hqs
    have HLX := Lib.hid hlx
    have H4 := Lib.hid h4
    have hn2 : 2 ≤ n := by omega
    have hne : ((n : Int) == 0) = false := by simp; omega
    clear ht hps hqs hlx h4
    have HXa := Lib.hid (fun W (h : Row W A n xs) => iPartsBelow_any A n C xs W h (by omega))
    rw [toldN_yes HT.out, told_yes HT.out, ← HPS.out] at HXa
    go_wp2_with fail
    refine (HXa.out _ Rl).mono ?_
    rintro e w2 ⟨Aa, Ca, rfl, Oa, b2⟩
    replace Rl := Rl.below b2
    replace BB := BB.trans (b2.mono BB.size)
    have Ra := Oa.row
    clear Oa HXa
    have HXb := Lib.hid (fun W (h : Row W A n xs) => iPartsAbove_any A n C xs W h (by omega))
    rw [toldN_yes HT.out, told_yes HT.out, ← HQS.out] at HXb
    go_wp2_with fail
    refine (HXb.out _ Rl).mono ?_
    rintro e w3 ⟨Ab, Cb, rfl, Ob, b3⟩
    replace Rl := Rl.below b3
    replace Ra := Ra.below b3
    replace BB := BB.trans (b3.mono BB.size)
    have Rb := Ob.row
    clear Ob HXb
    have HXs := Lib.hid (fun W (h : Row W A n xs) => sPartsBelow_any A n C xs W h (by omega))
    rw [toldN_yes HT.out, told_yes HT.out, ← HPS.out] at HXs
    go_wp2_with fail
    refine (HXs.out _ Rl).mono ?_
    rintro e w4 ⟨As, Cs, rfl, Os, b4⟩
    replace Rl := Rl.below b4
    replace Ra := Ra.below b4
    replace Rb := Rb.below b4
    replace BB := BB.trans (b4.mono BB.size)
    have Rs := Os.row
    clear Os HXs
    have HE := Lib.hid (weSame_any Aa As n Ca n Cs ps ps w4 Ra Rs (by omega) (by omega))
    rw [eqB_self] at HE
    go_wp2_with fail
    refine (HE.out).mono ?_
    rintro e w5 ⟨rfl, b5⟩
    replace Rl := Rl.below b5
    replace Ra := Ra.below b5
    replace Rb := Rb.below b5
    replace Rs := Rs.below b5
    replace BB := BB.trans (b5.mono BB.size)
    clear HE
    clear Rs
    have HXu := Lib.hid (fun W (h : Row W A n xs) => sPartsAbove_any A n C xs W h (by omega))
    rw [toldN_yes HT.out, told_yes HT.out, ← HQS.out] at HXu
    go_wp2_with fail
    refine (HXu.out _ Rl).mono ?_
    rintro e w6 ⟨Au, Cu, rfl, Ou, b6⟩
    replace Rl := Rl.below b6
    replace Ra := Ra.below b6
    replace Rb := Rb.below b6
    replace BB := BB.trans (b6.mono BB.size)
    have Ru := Ou.row
    clear Ou HXu
    have HE := Lib.hid (weSame_any Ab Au n Cb n Cu qs qs w6 Rb Ru (by omega) (by omega))
    rw [eqB_self] at HE
    go_wp2_with fail
    refine (HE.out).mono ?_
    rintro e w7 ⟨rfl, b7⟩
    replace Rl := Rl.below b7
    replace Ra := Ra.below b7
    replace Rb := Rb.below b7
    replace Ru := Ru.below b7
    replace BB := BB.trans (b7.mono BB.size)
    clear HE
    clear Ru
    have HP1 := Lib.hid (parts_first HLX.out H4.out)
    have HP2 := Lib.hid (parts_last HLX.out H4.out)
    rw [← HPS.out] at HP1
    rw [← HQS.out] at HP2
    by_cases hp : tableB ps = true
    · have HP := Lib.hid hp
      clear hp
      by_cases hq : tableB qs = true
      · have HQ := Lib.hid hq
        clear hq
        have HX1 : Hid (sums false false ps = xs) := by show _ = _; rw [HPS.out]; exact sums_parts HLX.out H4.out false
        have HXx := Lib.hid (fun W (h : Row W Aa n ps) => iSumsBelow_any Aa n Ca ps W h (by omega))
        rw [toldN_yes HP.out, told_yes HP.out, HX1.out] at HXx
        go_wp2_with fail
        refine (HXx.out _ Ra).mono ?_
        rintro e w8 ⟨Ax, Cx, rfl, Ox, b8⟩
        replace Rl := Rl.below b8
        replace Ra := Ra.below b8
        replace Rb := Rb.below b8
        replace BB := BB.trans (b8.mono BB.size)
        have Rx := Ox.row
        clear Ox HXx
        have HX2 : Hid (sums true false qs = xs) := by show _ = _; rw [HQS.out]; exact sums_parts HLX.out H4.out true
        have HXy := Lib.hid (fun W (h : Row W Ab n qs) => iSumsAbove_any Ab n Cb qs W h (by omega))
        rw [toldN_yes HQ.out, told_yes HQ.out, HX2.out] at HXy
        go_wp2_with fail
        refine (HXy.out _ Rb).mono ?_
        rintro e w9 ⟨Ay, Cy, rfl, Oy, b9⟩
        replace Rl := Rl.below b9
        replace Ra := Ra.below b9
        replace Rb := Rb.below b9
        replace Rx := Rx.below b9
        replace BB := BB.trans (b9.mono BB.size)
        have Ry := Oy.row
        clear Oy HXy
        obtain ⟨b0, off0, rfl⟩ := Rl.form (by omega)
        obtain ⟨ba, offa, rfl⟩ := Ra.form (by omega)
        obtain ⟨bb, offb, rfl⟩ := Rb.form (by omega)
        have HBB := Lib.hid BB
        clear BB 
        obtain ⟨z, hz⟩ : ∃ z : Nat, z = n - 1 := ⟨_, rfl⟩
        have hzn : z < n := by omega
        have hzw : IntKind.i64.wrap ((n : Int) - 1) = (z : Int) := by rw [show (n : Int) - 1 = (z : Int) by omega]; exact IntWalk.i64_in _ (by omega)
        rw [← hz] at HP2
        obtain ⟨v0, hv0⟩ : ∃ v, v = xs.getD 0 0 := ⟨_, rfl⟩
        obtain ⟨v1, hv1⟩ : ∃ v, v = xs.getD z 0 := ⟨_, rfl⟩
        have HCa := Lib.hid (fun W (h : Below w9.heap.size w9 W) => Ra.cellAt h (k := 0) (by omega))
        have HCl := Lib.hid (fun W (h : Below w9.heap.size w9 W) => Rl.cellAt h (k := 0) (by omega))
        have HCb := Lib.hid (fun W (h : Below w9.heap.size w9 W) => Rb.cellAt h hzn)
        have HCm := Lib.hid (fun W (h : Below w9.heap.size w9 W) => Rl.cellAt h hzn)
        rw [HP1.out, ← hv0] at HCa
        rw [← hv0] at HCl
        rw [HP2.out, ← hv1] at HCb
        rw [← hv1] at HCm
        have hzi : (z : Int) < (n : Int) := by omega
        have hn0 : (0 : Int) < (n : Int) := by omega
        have hn1 : 0 < n := by omega
        have HRx := Lib.hid Rx
        have HRy := Lib.hid Ry
        have HRl := Lib.hid Rl
        clear hv0 hv1 hz Ra Rb Rl Rx Ry
        have HIS : Hid (∀ W, Below w9.heap.size w9 W → Below w9.heap.size w9 W ∧ W.cell? ⟨ba, offa, none⟩ = some (.int .i64 v0) ∧ W.cell? ⟨b0, off0, none⟩ = some (.int .i64 v0) ∧ W.cell? ⟨bb, offb + z, none⟩ = some (.int .i64 v1) ∧ W.cell? ⟨b0, off0 + z, none⟩ = some (.int .i64 v1)) := fun W h => ⟨h, HCa.out W h, HCl.out W h, HCb.out W h, HCm.out W h⟩
        have HKS : Hid (∀ W W', Below W.heap.size W W' → (Below w9.heap.size w9 W ∧ W.cell? ⟨ba, offa, none⟩ = some (.int .i64 v0) ∧ W.cell? ⟨b0, off0, none⟩ = some (.int .i64 v0) ∧ W.cell? ⟨bb, offb + z, none⟩ = some (.int .i64 v1) ∧ W.cell? ⟨b0, off0 + z, none⟩ = some (.int .i64 v1)) → Below w9.heap.size w9 W' ∧ W'.cell? ⟨ba, offa, none⟩ = some (.int .i64 v0) ∧ W'.cell? ⟨b0, off0, none⟩ = some (.int .i64 v0) ∧ W'.cell? ⟨bb, offb + z, none⟩ = some (.int .i64 v1) ∧ W'.cell? ⟨b0, off0 + z, none⟩ = some (.int .i64 v1)) := fun W W' b h => HIS.out W' (h.1.trans (b.mono h.1.size))
        have HWx := Lib.hid (fun W (h : Below w9.heap.size w9 W) => weSame_any Ax (some ⟨b0, off0, none⟩) n Cx n C xs xs W (HRx.out.below h) (HRl.out.below h) hn hn)
        rw [eqB_self] at HWx
        have HWy := Lib.hid (fun W (h : Below w9.heap.size w9 W) => weSame_any Ay (some ⟨b0, off0, none⟩) n Cy n C xs xs W (HRy.out.below h) (HRl.out.below h) hn hn)
        rw [eqB_self] at HWy
        have HS0 := Lib.hid (HIS.out _ ((Below.refl _ _).drew))
        go_wp2_with fail
        refine wp_region_held_drew (S := fun W => Below w9.heap.size w9 W ∧ W.cell? ⟨ba, offa, none⟩ = some (.int .i64 v0) ∧ W.cell? ⟨b0, off0, none⟩ = some (.int .i64 v0) ∧ W.cell? ⟨bb, offb + z, none⟩ = some (.int .i64 v1) ∧ W.cell? ⟨b0, off0 + z, none⟩ = some (.int .i64 v1)) (by kernel_rfl) ?_ (fun hHeld => ?_)
        · exact HS0.out
        refine wpAnyH_take (i := 0) (oi := { dst := some 53, op := Op.move (Operand.tmp 6), type := 23, pos := "laws.go:560", after := #[], guard := none }) (v := ?_) rfl (by kernel_rfl) (by kernel_rfl) (by kernel_rfl) (fun _ _ _ h => h) (Or.inl ⟨by rfl, ?_⟩) (by assumption) ?_
        rotate_left
        · intro w hSw
          (try dsimp only at hSw)
          go_simp
          (try with_reducible rfl)
        (try simp only [Act.put, List.setIfInBounds_toArray, List.set_cons_zero, List.set_cons_succ])
        refine wpAnyH_take (i := 1) (oi := { dst := some 54, op := Op.call { callee := Callee.builtin Builtin.len, args := #[Operand.tmp 53], argTypes := #[23] }, type := 3, pos := "laws.go:560", after := #[{ on := 0, ground := Ground.data }], guard := none }) (v := ?_) rfl (by kernel_rfl) (by kernel_rfl) (by kernel_rfl) (fun _ _ _ h => h) (Or.inl ⟨by rfl, ?_⟩) (by assumption) ?_
        rotate_left
        · intro w hSw
          (try dsimp only at hSw)
          go_simp
          (try with_reducible rfl)
        (try simp only [Act.put, List.setIfInBounds_toArray, List.set_cons_zero, List.set_cons_succ])
        refine wpAnyH_take (i := 2) (oi := { dst := some 55, op := Op.binOp BinOp.eql 3 (Operand.tmp 54) (Operand.const (Value.int IntKind.i64 0)) 3, type := 4, pos := "laws.go:560", after := #[{ on := 1, ground := Ground.data }], guard := none }) (v := ?_) rfl (by kernel_rfl) (by kernel_rfl) (by kernel_rfl) (fun _ _ _ h => h) (Or.inl ⟨by rfl, ?_⟩) (by assumption) ?_
        rotate_left
        · intro w hSw
          (try dsimp only at hSw)
          go_simp
          (try with_reducible rfl)
        (try simp only [Act.put, List.setIfInBounds_toArray, List.set_cons_zero, List.set_cons_succ])
        refine wpAnyH_take (i := 3) (oi := { dst := some 56, op := Op.move (Operand.tmp 55), type := 4, pos := "laws.go:560", after := #[{ on := 2, ground := Ground.data }], guard := none }) (v := ?_) rfl (by kernel_rfl) (by kernel_rfl) (by kernel_rfl) (fun _ _ _ h => h) (Or.inl ⟨by rfl, ?_⟩) (by assumption) ?_
        rotate_left
        · intro w hSw
          (try dsimp only at hSw)
          go_simp
          (try with_reducible rfl)
        (try simp only [Act.put, List.setIfInBounds_toArray, List.set_cons_zero, List.set_cons_succ])
        refine wpAnyH_take (i := 4) (oi := { dst := some 57, op := Op.move (Operand.tmp 6), type := 23, pos := "laws.go:560", after := #[{ on := 3, ground := Ground.guard }], guard := some (3, false) }) (v := ?_) rfl (by kernel_rfl) (by kernel_rfl) (by kernel_rfl) (fun _ _ _ h => h) (Or.inl ⟨by rfl, ?_⟩) (by assumption) ?_
        rotate_left
        · intro w hSw
          (try dsimp only at hSw)
          go_simp
          (try with_reducible rfl)
        (try simp only [Act.put, List.setIfInBounds_toArray, List.set_cons_zero, List.set_cons_succ])
        refine wpAnyH_take (i := 5) (oi := { dst := some 58, op := Op.move (Operand.tmp 3), type := 23, pos := "laws.go:560", after := #[{ on := 3, ground := Ground.guard }], guard := some (3, false) }) (v := ?_) rfl (by kernel_rfl) (by kernel_rfl) (by kernel_rfl) (fun _ _ _ h => h) (Or.inl ⟨by rfl, ?_⟩) (by assumption) ?_
        rotate_left
        · intro w hSw
          (try dsimp only at hSw)
          go_simp
          (try with_reducible rfl)
        (try simp only [Act.put, List.setIfInBounds_toArray, List.set_cons_zero, List.set_cons_succ])
        refine wpAnyH_ready (rs := [6]) (by kernel_rfl) (by simp) ?_
        refine AllReadyH.cons (o := { dst := some 59, op := Op.call { callee := Callee.value (Operand.func 54), args := #[Operand.tmp 57, Operand.tmp 58], argTypes := #[23, 23] }, type := 4, pos := "laws.go:560", after := #[{ on := 4, ground := Ground.data }, { on := 5, ground := Ground.data }, { on := 3, ground := Ground.chain }, { on := 3, ground := Ground.guard }], guard := some (3, false) }) rfl (fun K hK => ?_) AllReadyH.nil
        go_simp
        go_at_call 54
        refine (HWx.out _ (And.left (by assumption))).mono ?_
        rintro e w9 ⟨rfl, b9⟩
        go_simp
        refine hK.out _ _ ?_ (fun hHeld => ?_)
        · first | assumption | exact HKS.out _ _ (by assumption) (by assumption)
        clear hK K
        (try simp only [Act.put, List.setIfInBounds_toArray, List.set_cons_zero, List.set_cons_succ])
        refine wpAnyH_take (i := 7) (oi := { dst := some 60, op := Op.pick (Operand.tmp 56) (Operand.const (Value.bool true)) (Operand.tmp 59), type := 4, pos := "laws.go:560", after := #[{ on := 3, ground := Ground.data }, { on := 6, ground := Ground.data }], guard := none }) (v := ?_) rfl (by kernel_rfl) (by kernel_rfl) (by kernel_rfl) (fun _ _ _ h => h) (Or.inl ⟨by rfl, ?_⟩) (by assumption) ?_
        rotate_left
        · intro w hSw
          (try dsimp only at hSw)
          go_simp
          (try with_reducible rfl)
        (try simp only [Act.put, List.setIfInBounds_toArray, List.set_cons_zero, List.set_cons_succ])
        refine wpAnyH_take (i := 8) (oi := { dst := some 61, op := Op.move (Operand.tmp 60), type := 4, pos := "laws.go:560", after := #[{ on := 7, ground := Ground.data }, { on := 6, ground := Ground.chain }], guard := none }) (v := ?_) rfl (by kernel_rfl) (by kernel_rfl) (by kernel_rfl) (fun _ _ _ h => h) (Or.inl ⟨by rfl, ?_⟩) (by assumption) ?_
        rotate_left
        · intro w hSw
          (try dsimp only at hSw)
          go_simp
          (try with_reducible rfl)
        (try simp only [Act.put, List.setIfInBounds_toArray, List.set_cons_zero, List.set_cons_succ])
        refine wpAnyH_take (i := 9) (oi := { dst := some 62, op := Op.move (Operand.tmp 7), type := 23, pos := "laws.go:560", after := #[{ on := 8, ground := Ground.guard }], guard := some (8, true) }) (v := ?_) rfl (by kernel_rfl) (by kernel_rfl) (by kernel_rfl) (fun _ _ _ h => h) (Or.inl ⟨by rfl, ?_⟩) (by assumption) ?_
        rotate_left
        · intro w hSw
          (try dsimp only at hSw)
          go_simp
          (try with_reducible rfl)
        (try simp only [Act.put, List.setIfInBounds_toArray, List.set_cons_zero, List.set_cons_succ])
        refine wpAnyH_take (i := 10) (oi := { dst := some 63, op := Op.call { callee := Callee.builtin Builtin.len, args := #[Operand.tmp 62], argTypes := #[23] }, type := 3, pos := "laws.go:560", after := #[{ on := 9, ground := Ground.data }, { on := 8, ground := Ground.guard }], guard := some (8, true) }) (v := ?_) rfl (by kernel_rfl) (by kernel_rfl) (by kernel_rfl) (fun _ _ _ h => h) (Or.inl ⟨by rfl, ?_⟩) (by assumption) ?_
        rotate_left
        · intro w hSw
          (try dsimp only at hSw)
          go_simp
          (try with_reducible rfl)
        (try simp only [Act.put, List.setIfInBounds_toArray, List.set_cons_zero, List.set_cons_succ])
        refine wpAnyH_take (i := 11) (oi := { dst := some 64, op := Op.binOp BinOp.eql 3 (Operand.tmp 63) (Operand.const (Value.int IntKind.i64 0)) 3, type := 4, pos := "laws.go:560", after := #[{ on := 10, ground := Ground.data }, { on := 8, ground := Ground.guard }], guard := some (8, true) }) (v := ?_) rfl (by kernel_rfl) (by kernel_rfl) (by kernel_rfl) (fun _ _ _ h => h) (Or.inl ⟨by rfl, ?_⟩) (by assumption) ?_
        rotate_left
        · intro w hSw
          (try dsimp only at hSw)
          go_simp
          (try with_reducible rfl)
        (try simp only [Act.put, List.setIfInBounds_toArray, List.set_cons_zero, List.set_cons_succ])
        refine wpAnyH_take (i := 12) (oi := { dst := some 65, op := Op.move (Operand.tmp 64), type := 4, pos := "laws.go:560", after := #[{ on := 11, ground := Ground.data }, { on := 8, ground := Ground.chain }, { on := 8, ground := Ground.guard }], guard := some (8, true) }) (v := ?_) rfl (by kernel_rfl) (by kernel_rfl) (by kernel_rfl) (fun _ _ _ h => h) (Or.inl ⟨by rfl, ?_⟩) (by assumption) ?_
        rotate_left
        · intro w hSw
          (try dsimp only at hSw)
          go_simp
          (try with_reducible rfl)
        (try simp only [Act.put, List.setIfInBounds_toArray, List.set_cons_zero, List.set_cons_succ])
        refine wpAnyH_take (i := 13) (oi := { dst := some 66, op := Op.move (Operand.tmp 7), type := 23, pos := "laws.go:560", after := #[{ on := 12, ground := Ground.guard }], guard := some (12, false) }) (v := ?_) rfl (by kernel_rfl) (by kernel_rfl) (by kernel_rfl) (fun _ _ _ h => h) (Or.inl ⟨by rfl, ?_⟩) (by assumption) ?_
        rotate_left
        · intro w hSw
          (try dsimp only at hSw)
          go_simp
          (try with_reducible rfl)
        (try simp only [Act.put, List.setIfInBounds_toArray, List.set_cons_zero, List.set_cons_succ])
        refine wpAnyH_take (i := 14) (oi := { dst := some 67, op := Op.move (Operand.tmp 3), type := 23, pos := "laws.go:560", after := #[{ on := 12, ground := Ground.guard }], guard := some (12, false) }) (v := ?_) rfl (by kernel_rfl) (by kernel_rfl) (by kernel_rfl) (fun _ _ _ h => h) (Or.inl ⟨by rfl, ?_⟩) (by assumption) ?_
        rotate_left
        · intro w hSw
          (try dsimp only at hSw)
          go_simp
          (try with_reducible rfl)
        (try simp only [Act.put, List.setIfInBounds_toArray, List.set_cons_zero, List.set_cons_succ])
        refine wpAnyH_ready (rs := [15]) (by kernel_rfl) (by simp) ?_
        refine AllReadyH.cons (o := { dst := some 68, op := Op.call { callee := Callee.value (Operand.func 54), args := #[Operand.tmp 66, Operand.tmp 67], argTypes := #[23, 23] }, type := 4, pos := "laws.go:560", after := #[{ on := 13, ground := Ground.data }, { on := 14, ground := Ground.data }, { on := 12, ground := Ground.chain }, { on := 12, ground := Ground.guard }], guard := some (12, false) }) rfl (fun K hK => ?_) AllReadyH.nil
        go_simp
        go_at_call 54
        refine (HWy.out _ (And.left (by assumption))).mono ?_
        rintro e w9 ⟨rfl, b9⟩
        go_simp
        refine hK.out _ _ ?_ (fun hHeld => ?_)
        · first | assumption | exact HKS.out _ _ (by assumption) (by assumption)
        clear hK K
        (try simp only [Act.put, List.setIfInBounds_toArray, List.set_cons_zero, List.set_cons_succ])
        refine wpAnyH_take (i := 16) (oi := { dst := some 69, op := Op.pick (Operand.tmp 65) (Operand.const (Value.bool true)) (Operand.tmp 68), type := 4, pos := "laws.go:560", after := #[{ on := 12, ground := Ground.data }, { on := 15, ground := Ground.data }, { on := 8, ground := Ground.guard }], guard := some (8, true) }) (v := ?_) rfl (by kernel_rfl) (by kernel_rfl) (by kernel_rfl) (fun _ _ _ h => h) (Or.inl ⟨by rfl, ?_⟩) (by assumption) ?_
        rotate_left
        · intro w hSw
          (try dsimp only at hSw)
          go_simp
          (try with_reducible rfl)
        (try simp only [Act.put, List.setIfInBounds_toArray, List.set_cons_zero, List.set_cons_succ])
        refine wpAnyH_take (i := 17) (oi := { dst := some 70, op := Op.pick (Operand.tmp 61) (Operand.tmp 69) (Operand.const (Value.bool false)), type := 4, pos := "laws.go:560", after := #[{ on := 8, ground := Ground.data }, { on := 16, ground := Ground.data }], guard := none }) (v := ?_) rfl (by kernel_rfl) (by kernel_rfl) (by kernel_rfl) (fun _ _ _ h => h) (Or.inl ⟨by rfl, ?_⟩) (by assumption) ?_
        rotate_left
        · intro w hSw
          (try dsimp only at hSw)
          go_simp
          (try with_reducible rfl)
        (try simp only [Act.put, List.setIfInBounds_toArray, List.set_cons_zero, List.set_cons_succ])
        refine wpAnyH_take (i := 18) (oi := { dst := some 71, op := Op.move (Operand.tmp 70), type := 4, pos := "laws.go:560", after := #[{ on := 17, ground := Ground.data }, { on := 15, ground := Ground.chain }], guard := none }) (v := ?_) rfl (by kernel_rfl) (by kernel_rfl) (by kernel_rfl) (fun _ _ _ h => h) (Or.inl ⟨by rfl, ?_⟩) (by assumption) ?_
        rotate_left
        · intro w hSw
          (try dsimp only at hSw)
          go_simp
          (try with_reducible rfl)
        (try simp only [Act.put, List.setIfInBounds_toArray, List.set_cons_zero, List.set_cons_succ])
        refine wpAnyH_take (i := 19) (oi := { dst := some 72, op := Op.move (Operand.tmp 4), type := 23, pos := "laws.go:560", after := #[{ on := 18, ground := Ground.guard }], guard := some (18, true) }) (v := ?_) rfl (by kernel_rfl) (by kernel_rfl) (by kernel_rfl) (fun _ _ _ h => h) (Or.inl ⟨by rfl, ?_⟩) (by assumption) ?_
        rotate_left
        · intro w hSw
          (try dsimp only at hSw)
          go_simp
          (try with_reducible rfl)
        (try simp only [Act.put, List.setIfInBounds_toArray, List.set_cons_zero, List.set_cons_succ])
        refine wpAnyH_take (i := 20) (oi := { dst := some 73, op := Op.indexAddr 23 (Operand.tmp 72) (Operand.const (Value.int IntKind.i64 0)), type := 0, pos := "laws.go:560", after := #[{ on := 19, ground := Ground.data }, { on := 18, ground := Ground.guard }], guard := some (18, true) }) (v := ?_) rfl (by kernel_rfl) (by kernel_rfl) (by kernel_rfl) (fun _ _ _ h => h) (Or.inl ⟨by rfl, ?_⟩) (by assumption) ?_
        rotate_left
        · intro w hSw
          (try dsimp only at hSw)
          go_simp
          (try with_reducible rfl)
        (try simp only [Act.put, List.setIfInBounds_toArray, List.set_cons_zero, List.set_cons_succ])
        refine wpAnyH_take (i := 21) (oi := { dst := some 74, op := Op.load 3 (Operand.tmp 73), type := 3, pos := "laws.go:560", after := #[{ on := 20, ground := Ground.data }, { on := 18, ground := Ground.guard }], guard := some (18, true) }) (v := ?_) rfl (by kernel_rfl) (by kernel_rfl) (by kernel_rfl) (fun _ _ _ h => h) (Or.inl ⟨by rfl, ?_⟩) (by assumption) ?_
        rotate_left
        · intro w hSw
          (try dsimp only at hSw)
          go_simp
          (try with_reducible rfl)
        (try simp only [Act.put, List.setIfInBounds_toArray, List.set_cons_zero, List.set_cons_succ])
        refine wpAnyH_take (i := 22) (oi := { dst := some 75, op := Op.move (Operand.tmp 3), type := 23, pos := "laws.go:560", after := #[{ on := 18, ground := Ground.guard }], guard := some (18, true) }) (v := ?_) rfl (by kernel_rfl) (by kernel_rfl) (by kernel_rfl) (fun _ _ _ h => h) (Or.inl ⟨by rfl, ?_⟩) (by assumption) ?_
        rotate_left
        · intro w hSw
          (try dsimp only at hSw)
          go_simp
          (try with_reducible rfl)
        (try simp only [Act.put, List.setIfInBounds_toArray, List.set_cons_zero, List.set_cons_succ])
        refine wpAnyH_take (i := 23) (oi := { dst := some 76, op := Op.indexAddr 23 (Operand.tmp 75) (Operand.const (Value.int IntKind.i64 0)), type := 0, pos := "laws.go:560", after := #[{ on := 22, ground := Ground.data }, { on := 18, ground := Ground.guard }], guard := some (18, true) }) (v := ?_) rfl (by kernel_rfl) (by kernel_rfl) (by kernel_rfl) (fun _ _ _ h => h) (Or.inl ⟨by rfl, ?_⟩) (by assumption) ?_
        rotate_left
        · intro w hSw
          (try dsimp only at hSw)
          go_simp
          (try with_reducible rfl)
        (try simp only [Act.put, List.setIfInBounds_toArray, List.set_cons_zero, List.set_cons_succ])
        refine wpAnyH_take (i := 24) (oi := { dst := some 77, op := Op.load 3 (Operand.tmp 76), type := 3, pos := "laws.go:560", after := #[{ on := 23, ground := Ground.data }, { on := 18, ground := Ground.guard }], guard := some (18, true) }) (v := ?_) rfl (by kernel_rfl) (by kernel_rfl) (by kernel_rfl) (fun _ _ _ h => h) (Or.inl ⟨by rfl, ?_⟩) (by assumption) ?_
        rotate_left
        · intro w hSw
          (try dsimp only at hSw)
          go_simp
          (try with_reducible rfl)
        (try simp only [Act.put, List.setIfInBounds_toArray, List.set_cons_zero, List.set_cons_succ])
        refine wpAnyH_take (i := 25) (oi := { dst := some 78, op := Op.binOp BinOp.eql 3 (Operand.tmp 74) (Operand.tmp 77) 3, type := 4, pos := "laws.go:560", after := #[{ on := 21, ground := Ground.data }, { on := 24, ground := Ground.data }, { on := 18, ground := Ground.guard }], guard := some (18, true) }) (v := ?_) rfl (by kernel_rfl) (by kernel_rfl) (by kernel_rfl) (fun _ _ _ h => h) (Or.inl ⟨by rfl, ?_⟩) (by assumption) ?_
        rotate_left
        · intro w hSw
          (try dsimp only at hSw)
          go_simp
          (try with_reducible rfl)
        (try simp only [Act.put, List.setIfInBounds_toArray, List.set_cons_zero, List.set_cons_succ])
        refine wpAnyH_take (i := 26) (oi := { dst := some 79, op := Op.pick (Operand.tmp 71) (Operand.tmp 78) (Operand.const (Value.bool false)), type := 4, pos := "laws.go:560", after := #[{ on := 18, ground := Ground.data }, { on := 25, ground := Ground.data }], guard := none }) (v := ?_) rfl (by kernel_rfl) (by kernel_rfl) (by kernel_rfl) (fun _ _ _ h => h) (Or.inl ⟨by rfl, ?_⟩) (by assumption) ?_
        rotate_left
        · intro w hSw
          (try dsimp only at hSw)
          go_simp
          (try with_reducible rfl)
        (try simp only [Act.put, List.setIfInBounds_toArray, List.set_cons_zero, List.set_cons_succ])
        refine wpAnyH_take (i := 27) (oi := { dst := some 80, op := Op.move (Operand.tmp 79), type := 4, pos := "laws.go:560", after := #[{ on := 26, ground := Ground.data }, { on := 18, ground := Ground.chain }], guard := none }) (v := ?_) rfl (by kernel_rfl) (by kernel_rfl) (by kernel_rfl) (fun _ _ _ h => h) (Or.inl ⟨by rfl, ?_⟩) (by assumption) ?_
        rotate_left
        · intro w hSw
          (try dsimp only at hSw)
          go_simp
          (try with_reducible rfl)
        (try simp only [Act.put, List.setIfInBounds_toArray, List.set_cons_zero, List.set_cons_succ])
        refine wpAnyH_take (i := 28) (oi := { dst := some 81, op := Op.move (Operand.tmp 5), type := 23, pos := "laws.go:560", after := #[{ on := 27, ground := Ground.guard }], guard := some (27, true) }) (v := ?_) rfl (by kernel_rfl) (by kernel_rfl) (by kernel_rfl) (fun _ _ _ h => h) (Or.inl ⟨by rfl, ?_⟩) (by assumption) ?_
        rotate_left
        · intro w hSw
          (try dsimp only at hSw)
          go_simp
          (try with_reducible rfl)
        (try simp only [Act.put, List.setIfInBounds_toArray, List.set_cons_zero, List.set_cons_succ])
        refine wpAnyH_take (i := 29) (oi := { dst := some 82, op := Op.move (Operand.tmp 5), type := 23, pos := "laws.go:560", after := #[{ on := 27, ground := Ground.guard }], guard := some (27, true) }) (v := ?_) rfl (by kernel_rfl) (by kernel_rfl) (by kernel_rfl) (fun _ _ _ h => h) (Or.inl ⟨by rfl, ?_⟩) (by assumption) ?_
        rotate_left
        · intro w hSw
          (try dsimp only at hSw)
          go_simp
          (try with_reducible rfl)
        (try simp only [Act.put, List.setIfInBounds_toArray, List.set_cons_zero, List.set_cons_succ])
        refine wpAnyH_take (i := 30) (oi := { dst := some 83, op := Op.call { callee := Callee.builtin Builtin.len, args := #[Operand.tmp 82], argTypes := #[23] }, type := 3, pos := "laws.go:560", after := #[{ on := 29, ground := Ground.data }, { on := 27, ground := Ground.guard }], guard := some (27, true) }) (v := ?_) rfl (by kernel_rfl) (by kernel_rfl) (by kernel_rfl) (fun _ _ _ h => h) (Or.inl ⟨by rfl, ?_⟩) (by assumption) ?_
        rotate_left
        · intro w hSw
          (try dsimp only at hSw)
          go_simp
          (try with_reducible rfl)
        (try simp only [Act.put, List.setIfInBounds_toArray, List.set_cons_zero, List.set_cons_succ])
        refine wpAnyH_take (i := 31) (oi := { dst := some 84, op := Op.binOp BinOp.sub 3 (Operand.tmp 83) (Operand.const (Value.int IntKind.i64 1)) 3, type := 3, pos := "laws.go:560", after := #[{ on := 30, ground := Ground.data }, { on := 27, ground := Ground.guard }], guard := some (27, true) }) (v := ?_) rfl (by kernel_rfl) (by kernel_rfl) (by kernel_rfl) (fun _ _ _ h => h) (Or.inl ⟨by rfl, ?_⟩) (by assumption) ?_
        rotate_left
        · intro w hSw
          (try dsimp only at hSw)
          go_simp
          (try with_reducible rfl)
        (try simp only [Act.put, List.setIfInBounds_toArray, List.set_cons_zero, List.set_cons_succ])
        refine wpAnyH_take (i := 32) (oi := { dst := some 85, op := Op.indexAddr 23 (Operand.tmp 81) (Operand.tmp 84), type := 0, pos := "laws.go:560", after := #[{ on := 28, ground := Ground.data }, { on := 31, ground := Ground.data }, { on := 27, ground := Ground.guard }], guard := some (27, true) }) (v := ?_) rfl (by kernel_rfl) (by kernel_rfl) (by kernel_rfl) (fun _ _ _ h => h) (Or.inl ⟨by rfl, ?_⟩) (by assumption) ?_
        rotate_left
        · intro w hSw
          (try dsimp only at hSw)
          go_simp
          (try with_reducible rfl)
        (try simp only [Act.put, List.setIfInBounds_toArray, List.set_cons_zero, List.set_cons_succ])
        refine wpAnyH_take (i := 33) (oi := { dst := some 86, op := Op.load 3 (Operand.tmp 85), type := 3, pos := "laws.go:560", after := #[{ on := 32, ground := Ground.data }, { on := 27, ground := Ground.guard }], guard := some (27, true) }) (v := ?_) rfl (by kernel_rfl) (by kernel_rfl) (by kernel_rfl) (fun _ _ _ h => h) (Or.inl ⟨by rfl, ?_⟩) (by assumption) ?_
        rotate_left
        · intro w hSw
          (try dsimp only at hSw)
          go_simp
          (try with_reducible rfl)
        (try simp only [Act.put, List.setIfInBounds_toArray, List.set_cons_zero, List.set_cons_succ])
        refine wpAnyH_take (i := 34) (oi := { dst := some 87, op := Op.move (Operand.tmp 3), type := 23, pos := "laws.go:560", after := #[{ on := 27, ground := Ground.guard }], guard := some (27, true) }) (v := ?_) rfl (by kernel_rfl) (by kernel_rfl) (by kernel_rfl) (fun _ _ _ h => h) (Or.inl ⟨by rfl, ?_⟩) (by assumption) ?_
        rotate_left
        · intro w hSw
          (try dsimp only at hSw)
          go_simp
          (try with_reducible rfl)
        (try simp only [Act.put, List.setIfInBounds_toArray, List.set_cons_zero, List.set_cons_succ])
        refine wpAnyH_take (i := 35) (oi := { dst := some 88, op := Op.move (Operand.tmp 3), type := 23, pos := "laws.go:560", after := #[{ on := 27, ground := Ground.guard }], guard := some (27, true) }) (v := ?_) rfl (by kernel_rfl) (by kernel_rfl) (by kernel_rfl) (fun _ _ _ h => h) (Or.inl ⟨by rfl, ?_⟩) (by assumption) ?_
        rotate_left
        · intro w hSw
          (try dsimp only at hSw)
          go_simp
          (try with_reducible rfl)
        (try simp only [Act.put, List.setIfInBounds_toArray, List.set_cons_zero, List.set_cons_succ])
        refine wpAnyH_take (i := 36) (oi := { dst := some 89, op := Op.call { callee := Callee.builtin Builtin.len, args := #[Operand.tmp 88], argTypes := #[23] }, type := 3, pos := "laws.go:560", after := #[{ on := 35, ground := Ground.data }, { on := 27, ground := Ground.guard }], guard := some (27, true) }) (v := ?_) rfl (by kernel_rfl) (by kernel_rfl) (by kernel_rfl) (fun _ _ _ h => h) (Or.inl ⟨by rfl, ?_⟩) (by assumption) ?_
        rotate_left
        · intro w hSw
          (try dsimp only at hSw)
          go_simp
          (try with_reducible rfl)
        (try simp only [Act.put, List.setIfInBounds_toArray, List.set_cons_zero, List.set_cons_succ])
        refine wpAnyH_take (i := 37) (oi := { dst := some 90, op := Op.binOp BinOp.sub 3 (Operand.tmp 89) (Operand.const (Value.int IntKind.i64 1)) 3, type := 3, pos := "laws.go:560", after := #[{ on := 36, ground := Ground.data }, { on := 27, ground := Ground.guard }], guard := some (27, true) }) (v := ?_) rfl (by kernel_rfl) (by kernel_rfl) (by kernel_rfl) (fun _ _ _ h => h) (Or.inl ⟨by rfl, ?_⟩) (by assumption) ?_
        rotate_left
        · intro w hSw
          (try dsimp only at hSw)
          go_simp
          (try with_reducible rfl)
        (try simp only [Act.put, List.setIfInBounds_toArray, List.set_cons_zero, List.set_cons_succ])
        refine wpAnyH_take (i := 38) (oi := { dst := some 91, op := Op.indexAddr 23 (Operand.tmp 87) (Operand.tmp 90), type := 0, pos := "laws.go:560", after := #[{ on := 34, ground := Ground.data }, { on := 37, ground := Ground.data }, { on := 27, ground := Ground.guard }], guard := some (27, true) }) (v := ?_) rfl (by kernel_rfl) (by kernel_rfl) (by kernel_rfl) (fun _ _ _ h => h) (Or.inl ⟨by rfl, ?_⟩) (by assumption) ?_
        rotate_left
        · intro w hSw
          (try dsimp only at hSw)
          go_simp
          (try with_reducible rfl)
        (try simp only [Act.put, List.setIfInBounds_toArray, List.set_cons_zero, List.set_cons_succ])
        refine wpAnyH_take (i := 39) (oi := { dst := some 92, op := Op.load 3 (Operand.tmp 91), type := 3, pos := "laws.go:560", after := #[{ on := 38, ground := Ground.data }, { on := 27, ground := Ground.guard }], guard := some (27, true) }) (v := ?_) rfl (by kernel_rfl) (by kernel_rfl) (by kernel_rfl) (fun _ _ _ h => h) (Or.inl ⟨by rfl, ?_⟩) (by assumption) ?_
        rotate_left
        · intro w hSw
          (try dsimp only at hSw)
          go_simp
          (try with_reducible rfl)
        (try simp only [Act.put, List.setIfInBounds_toArray, List.set_cons_zero, List.set_cons_succ])
        refine wpAnyH_take (i := 40) (oi := { dst := some 93, op := Op.binOp BinOp.eql 3 (Operand.tmp 86) (Operand.tmp 92) 3, type := 4, pos := "laws.go:560", after := #[{ on := 33, ground := Ground.data }, { on := 39, ground := Ground.data }, { on := 27, ground := Ground.guard }], guard := some (27, true) }) (v := ?_) rfl (by kernel_rfl) (by kernel_rfl) (by kernel_rfl) (fun _ _ _ h => h) (Or.inl ⟨by rfl, ?_⟩) (by assumption) ?_
        rotate_left
        · intro w hSw
          (try dsimp only at hSw)
          go_simp
          (try with_reducible rfl)
        (try simp only [Act.put, List.setIfInBounds_toArray, List.set_cons_zero, List.set_cons_succ])
        refine wpAnyH_take (i := 41) (oi := { dst := some 94, op := Op.pick (Operand.tmp 80) (Operand.tmp 93) (Operand.const (Value.bool false)), type := 4, pos := "laws.go:560", after := #[{ on := 27, ground := Ground.data }, { on := 40, ground := Ground.data }], guard := none }) (v := ?_) rfl (by kernel_rfl) (by kernel_rfl) (by kernel_rfl) (fun _ _ _ h => h) (Or.inl ⟨by rfl, ?_⟩) (by assumption) ?_
        rotate_left
        · intro w hSw
          (try dsimp only at hSw)
          go_simp
          (try with_reducible rfl)
        (try simp only [Act.put, List.setIfInBounds_toArray, List.set_cons_zero, List.set_cons_succ])
        refine wpAnyH_take (i := 42) (oi := { dst := some 2, op := Op.assign (Operand.tmp 94), type := 4, pos := "laws.go:560", after := #[{ on := 41, ground := Ground.data }, { on := 27, ground := Ground.chain }, { on := 0, ground := Ground.phase }, { on := 1, ground := Ground.phase }, { on := 2, ground := Ground.phase }, { on := 3, ground := Ground.phase }, { on := 4, ground := Ground.phase }, { on := 5, ground := Ground.phase }, { on := 6, ground := Ground.phase }, { on := 7, ground := Ground.phase }, { on := 8, ground := Ground.phase }, { on := 9, ground := Ground.phase }, { on := 10, ground := Ground.phase }, { on := 11, ground := Ground.phase }, { on := 12, ground := Ground.phase }, { on := 13, ground := Ground.phase }, { on := 14, ground := Ground.phase }, { on := 15, ground := Ground.phase }, { on := 16, ground := Ground.phase }, { on := 17, ground := Ground.phase }, { on := 18, ground := Ground.phase }, { on := 19, ground := Ground.phase }, { on := 20, ground := Ground.phase }, { on := 21, ground := Ground.phase }, { on := 22, ground := Ground.phase }, { on := 23, ground := Ground.phase }, { on := 24, ground := Ground.phase }, { on := 25, ground := Ground.phase }, { on := 26, ground := Ground.phase }, { on := 27, ground := Ground.phase }, { on := 28, ground := Ground.phase }, { on := 29, ground := Ground.phase }, { on := 30, ground := Ground.phase }, { on := 31, ground := Ground.phase }, { on := 32, ground := Ground.phase }, { on := 33, ground := Ground.phase }, { on := 34, ground := Ground.phase }, { on := 35, ground := Ground.phase }, { on := 36, ground := Ground.phase }, { on := 37, ground := Ground.phase }, { on := 38, ground := Ground.phase }, { on := 39, ground := Ground.phase }, { on := 40, ground := Ground.phase }, { on := 41, ground := Ground.phase }], guard := none }) (v := ?_) rfl (by kernel_rfl) (by kernel_rfl) (by kernel_rfl) (fun _ _ _ h => h) (Or.inl ⟨by rfl, ?_⟩) (by assumption) ?_
        rotate_left
        · intro w hSw
          (try dsimp only at hSw)
          go_simp
          (try with_reducible rfl)
        (try simp only [Act.put, List.setIfInBounds_toArray, List.set_cons_zero, List.set_cons_succ])
        refine wpAnyH_done (by kernel_rfl) ?_ _
        clear HS0
        go_wp2_with fail
        go_ret
        exact ⟨by simp, HBB.out.trans (Below.mono (And.left (by assumption)) HBB.out.size)⟩
      · have HQ := Lib.hid (show tableB qs = false by simpa using hq)
        clear hq
        have HX1 : Hid (sums false false ps = xs) := by show _ = _; rw [HPS.out]; exact sums_parts HLX.out H4.out false
        have HXx := Lib.hid (fun W (h : Row W Aa n ps) => iSumsBelow_any Aa n Ca ps W h (by omega))
        rw [toldN_yes HP.out, told_yes HP.out, HX1.out] at HXx
        go_wp2_with fail
        refine (HXx.out _ Ra).mono ?_
        rintro e w8 ⟨Ax, Cx, rfl, Ox, b8⟩
        replace Rl := Rl.below b8
        replace Ra := Ra.below b8
        replace Rb := Rb.below b8
        replace BB := BB.trans (b8.mono BB.size)
        have Rx := Ox.row
        clear Ox HXx
        have HXy := Lib.hid (fun W (h : Row W Ab n qs) => iSumsAbove_any Ab n Cb qs W h (by omega))
        rw [toldN_no HQ.out, told_no HQ.out] at HXy
        go_wp2_with fail
        refine (HXy.out _ Rb).mono ?_
        rintro e w9 ⟨Ay, Cy, rfl, Oy, b9⟩
        replace Rl := Rl.below b9
        replace Ra := Ra.below b9
        replace Rb := Rb.below b9
        replace Rx := Rx.below b9
        replace BB := BB.trans (b9.mono BB.size)
        have Ry := Oy.row
        clear Oy HXy
        obtain ⟨b0, off0, rfl⟩ := Rl.form (by omega)
        obtain ⟨ba, offa, rfl⟩ := Ra.form (by omega)
        obtain ⟨bb, offb, rfl⟩ := Rb.form (by omega)
        have HBB := Lib.hid BB
        clear BB 
        obtain ⟨z, hz⟩ : ∃ z : Nat, z = n - 1 := ⟨_, rfl⟩
        have hzn : z < n := by omega
        have hzw : IntKind.i64.wrap ((n : Int) - 1) = (z : Int) := by rw [show (n : Int) - 1 = (z : Int) by omega]; exact IntWalk.i64_in _ (by omega)
        rw [← hz] at HP2
        obtain ⟨v0, hv0⟩ : ∃ v, v = xs.getD 0 0 := ⟨_, rfl⟩
        obtain ⟨v1, hv1⟩ : ∃ v, v = xs.getD z 0 := ⟨_, rfl⟩
        have HCa := Lib.hid (fun W (h : Below w9.heap.size w9 W) => Ra.cellAt h (k := 0) (by omega))
        have HCl := Lib.hid (fun W (h : Below w9.heap.size w9 W) => Rl.cellAt h (k := 0) (by omega))
        have HCb := Lib.hid (fun W (h : Below w9.heap.size w9 W) => Rb.cellAt h hzn)
        have HCm := Lib.hid (fun W (h : Below w9.heap.size w9 W) => Rl.cellAt h hzn)
        rw [HP1.out, ← hv0] at HCa
        rw [← hv0] at HCl
        rw [HP2.out, ← hv1] at HCb
        rw [← hv1] at HCm
        have hzi : (z : Int) < (n : Int) := by omega
        have hn0 : (0 : Int) < (n : Int) := by omega
        have hn1 : 0 < n := by omega
        have HRx := Lib.hid Rx
        have HRy := Lib.hid Ry
        have HRl := Lib.hid Rl
        clear hv0 hv1 hz Ra Rb Rl Rx Ry
        have HIS : Hid (∀ W, Below w9.heap.size w9 W → Below w9.heap.size w9 W ∧ W.cell? ⟨ba, offa, none⟩ = some (.int .i64 v0) ∧ W.cell? ⟨b0, off0, none⟩ = some (.int .i64 v0) ∧ W.cell? ⟨bb, offb + z, none⟩ = some (.int .i64 v1) ∧ W.cell? ⟨b0, off0 + z, none⟩ = some (.int .i64 v1)) := fun W h => ⟨h, HCa.out W h, HCl.out W h, HCb.out W h, HCm.out W h⟩
        have HKS : Hid (∀ W W', Below W.heap.size W W' → (Below w9.heap.size w9 W ∧ W.cell? ⟨ba, offa, none⟩ = some (.int .i64 v0) ∧ W.cell? ⟨b0, off0, none⟩ = some (.int .i64 v0) ∧ W.cell? ⟨bb, offb + z, none⟩ = some (.int .i64 v1) ∧ W.cell? ⟨b0, off0 + z, none⟩ = some (.int .i64 v1)) → Below w9.heap.size w9 W' ∧ W'.cell? ⟨ba, offa, none⟩ = some (.int .i64 v0) ∧ W'.cell? ⟨b0, off0, none⟩ = some (.int .i64 v0) ∧ W'.cell? ⟨bb, offb + z, none⟩ = some (.int .i64 v1) ∧ W'.cell? ⟨b0, off0 + z, none⟩ = some (.int .i64 v1)) := fun W W' b h => HIS.out W' (h.1.trans (b.mono h.1.size))
        have HWx := Lib.hid (fun W (h : Below w9.heap.size w9 W) => weSame_any Ax (some ⟨b0, off0, none⟩) n Cx n C xs xs W (HRx.out.below h) (HRl.out.below h) hn hn)
        rw [eqB_self] at HWx
        have HS0 := Lib.hid (HIS.out _ ((Below.refl _ _).drew))
        go_wp2_with fail
        refine wp_region_held_drew (S := fun W => Below w9.heap.size w9 W ∧ W.cell? ⟨ba, offa, none⟩ = some (.int .i64 v0) ∧ W.cell? ⟨b0, off0, none⟩ = some (.int .i64 v0) ∧ W.cell? ⟨bb, offb + z, none⟩ = some (.int .i64 v1) ∧ W.cell? ⟨b0, off0 + z, none⟩ = some (.int .i64 v1)) (by kernel_rfl) ?_ (fun hHeld => ?_)
        · exact HS0.out
        refine wpAnyH_take (i := 0) (oi := { dst := some 53, op := Op.move (Operand.tmp 6), type := 23, pos := "laws.go:560", after := #[], guard := none }) (v := ?_) rfl (by kernel_rfl) (by kernel_rfl) (by kernel_rfl) (fun _ _ _ h => h) (Or.inl ⟨by rfl, ?_⟩) (by assumption) ?_
        rotate_left
        · intro w hSw
          (try dsimp only at hSw)
          go_simp
          (try with_reducible rfl)
        (try simp only [Act.put, List.setIfInBounds_toArray, List.set_cons_zero, List.set_cons_succ])
        refine wpAnyH_take (i := 1) (oi := { dst := some 54, op := Op.call { callee := Callee.builtin Builtin.len, args := #[Operand.tmp 53], argTypes := #[23] }, type := 3, pos := "laws.go:560", after := #[{ on := 0, ground := Ground.data }], guard := none }) (v := ?_) rfl (by kernel_rfl) (by kernel_rfl) (by kernel_rfl) (fun _ _ _ h => h) (Or.inl ⟨by rfl, ?_⟩) (by assumption) ?_
        rotate_left
        · intro w hSw
          (try dsimp only at hSw)
          go_simp
          (try with_reducible rfl)
        (try simp only [Act.put, List.setIfInBounds_toArray, List.set_cons_zero, List.set_cons_succ])
        refine wpAnyH_take (i := 2) (oi := { dst := some 55, op := Op.binOp BinOp.eql 3 (Operand.tmp 54) (Operand.const (Value.int IntKind.i64 0)) 3, type := 4, pos := "laws.go:560", after := #[{ on := 1, ground := Ground.data }], guard := none }) (v := ?_) rfl (by kernel_rfl) (by kernel_rfl) (by kernel_rfl) (fun _ _ _ h => h) (Or.inl ⟨by rfl, ?_⟩) (by assumption) ?_
        rotate_left
        · intro w hSw
          (try dsimp only at hSw)
          go_simp
          (try with_reducible rfl)
        (try simp only [Act.put, List.setIfInBounds_toArray, List.set_cons_zero, List.set_cons_succ])
        refine wpAnyH_take (i := 3) (oi := { dst := some 56, op := Op.move (Operand.tmp 55), type := 4, pos := "laws.go:560", after := #[{ on := 2, ground := Ground.data }], guard := none }) (v := ?_) rfl (by kernel_rfl) (by kernel_rfl) (by kernel_rfl) (fun _ _ _ h => h) (Or.inl ⟨by rfl, ?_⟩) (by assumption) ?_
        rotate_left
        · intro w hSw
          (try dsimp only at hSw)
          go_simp
          (try with_reducible rfl)
        (try simp only [Act.put, List.setIfInBounds_toArray, List.set_cons_zero, List.set_cons_succ])
        refine wpAnyH_take (i := 4) (oi := { dst := some 57, op := Op.move (Operand.tmp 6), type := 23, pos := "laws.go:560", after := #[{ on := 3, ground := Ground.guard }], guard := some (3, false) }) (v := ?_) rfl (by kernel_rfl) (by kernel_rfl) (by kernel_rfl) (fun _ _ _ h => h) (Or.inl ⟨by rfl, ?_⟩) (by assumption) ?_
        rotate_left
        · intro w hSw
          (try dsimp only at hSw)
          go_simp
          (try with_reducible rfl)
        (try simp only [Act.put, List.setIfInBounds_toArray, List.set_cons_zero, List.set_cons_succ])
        refine wpAnyH_take (i := 5) (oi := { dst := some 58, op := Op.move (Operand.tmp 3), type := 23, pos := "laws.go:560", after := #[{ on := 3, ground := Ground.guard }], guard := some (3, false) }) (v := ?_) rfl (by kernel_rfl) (by kernel_rfl) (by kernel_rfl) (fun _ _ _ h => h) (Or.inl ⟨by rfl, ?_⟩) (by assumption) ?_
        rotate_left
        · intro w hSw
          (try dsimp only at hSw)
          go_simp
          (try with_reducible rfl)
        (try simp only [Act.put, List.setIfInBounds_toArray, List.set_cons_zero, List.set_cons_succ])
        refine wpAnyH_ready (rs := [6]) (by kernel_rfl) (by simp) ?_
        refine AllReadyH.cons (o := { dst := some 59, op := Op.call { callee := Callee.value (Operand.func 54), args := #[Operand.tmp 57, Operand.tmp 58], argTypes := #[23, 23] }, type := 4, pos := "laws.go:560", after := #[{ on := 4, ground := Ground.data }, { on := 5, ground := Ground.data }, { on := 3, ground := Ground.chain }, { on := 3, ground := Ground.guard }], guard := some (3, false) }) rfl (fun K hK => ?_) AllReadyH.nil
        go_simp
        go_at_call 54
        refine (HWx.out _ (And.left (by assumption))).mono ?_
        rintro e w9 ⟨rfl, b9⟩
        go_simp
        refine hK.out _ _ ?_ (fun hHeld => ?_)
        · first | assumption | exact HKS.out _ _ (by assumption) (by assumption)
        clear hK K
        (try simp only [Act.put, List.setIfInBounds_toArray, List.set_cons_zero, List.set_cons_succ])
        refine wpAnyH_take (i := 7) (oi := { dst := some 60, op := Op.pick (Operand.tmp 56) (Operand.const (Value.bool true)) (Operand.tmp 59), type := 4, pos := "laws.go:560", after := #[{ on := 3, ground := Ground.data }, { on := 6, ground := Ground.data }], guard := none }) (v := ?_) rfl (by kernel_rfl) (by kernel_rfl) (by kernel_rfl) (fun _ _ _ h => h) (Or.inl ⟨by rfl, ?_⟩) (by assumption) ?_
        rotate_left
        · intro w hSw
          (try dsimp only at hSw)
          go_simp
          (try with_reducible rfl)
        (try simp only [Act.put, List.setIfInBounds_toArray, List.set_cons_zero, List.set_cons_succ])
        refine wpAnyH_take (i := 8) (oi := { dst := some 61, op := Op.move (Operand.tmp 60), type := 4, pos := "laws.go:560", after := #[{ on := 7, ground := Ground.data }, { on := 6, ground := Ground.chain }], guard := none }) (v := ?_) rfl (by kernel_rfl) (by kernel_rfl) (by kernel_rfl) (fun _ _ _ h => h) (Or.inl ⟨by rfl, ?_⟩) (by assumption) ?_
        rotate_left
        · intro w hSw
          (try dsimp only at hSw)
          go_simp
          (try with_reducible rfl)
        (try simp only [Act.put, List.setIfInBounds_toArray, List.set_cons_zero, List.set_cons_succ])
        refine wpAnyH_take (i := 9) (oi := { dst := some 62, op := Op.move (Operand.tmp 7), type := 23, pos := "laws.go:560", after := #[{ on := 8, ground := Ground.guard }], guard := some (8, true) }) (v := ?_) rfl (by kernel_rfl) (by kernel_rfl) (by kernel_rfl) (fun _ _ _ h => h) (Or.inl ⟨by rfl, ?_⟩) (by assumption) ?_
        rotate_left
        · intro w hSw
          (try dsimp only at hSw)
          go_simp
          (try with_reducible rfl)
        (try simp only [Act.put, List.setIfInBounds_toArray, List.set_cons_zero, List.set_cons_succ])
        refine wpAnyH_take (i := 10) (oi := { dst := some 63, op := Op.call { callee := Callee.builtin Builtin.len, args := #[Operand.tmp 62], argTypes := #[23] }, type := 3, pos := "laws.go:560", after := #[{ on := 9, ground := Ground.data }, { on := 8, ground := Ground.guard }], guard := some (8, true) }) (v := ?_) rfl (by kernel_rfl) (by kernel_rfl) (by kernel_rfl) (fun _ _ _ h => h) (Or.inl ⟨by rfl, ?_⟩) (by assumption) ?_
        rotate_left
        · intro w hSw
          (try dsimp only at hSw)
          go_simp
          (try with_reducible rfl)
        (try simp only [Act.put, List.setIfInBounds_toArray, List.set_cons_zero, List.set_cons_succ])
        refine wpAnyH_take (i := 11) (oi := { dst := some 64, op := Op.binOp BinOp.eql 3 (Operand.tmp 63) (Operand.const (Value.int IntKind.i64 0)) 3, type := 4, pos := "laws.go:560", after := #[{ on := 10, ground := Ground.data }, { on := 8, ground := Ground.guard }], guard := some (8, true) }) (v := ?_) rfl (by kernel_rfl) (by kernel_rfl) (by kernel_rfl) (fun _ _ _ h => h) (Or.inl ⟨by rfl, ?_⟩) (by assumption) ?_
        rotate_left
        · intro w hSw
          (try dsimp only at hSw)
          go_simp
          (try with_reducible rfl)
        (try simp only [Act.put, List.setIfInBounds_toArray, List.set_cons_zero, List.set_cons_succ])
        refine wpAnyH_take (i := 12) (oi := { dst := some 65, op := Op.move (Operand.tmp 64), type := 4, pos := "laws.go:560", after := #[{ on := 11, ground := Ground.data }, { on := 8, ground := Ground.chain }, { on := 8, ground := Ground.guard }], guard := some (8, true) }) (v := ?_) rfl (by kernel_rfl) (by kernel_rfl) (by kernel_rfl) (fun _ _ _ h => h) (Or.inl ⟨by rfl, ?_⟩) (by assumption) ?_
        rotate_left
        · intro w hSw
          (try dsimp only at hSw)
          go_simp
          (try with_reducible rfl)
        (try simp only [Act.put, List.setIfInBounds_toArray, List.set_cons_zero, List.set_cons_succ])
        refine wpAnyH_take (i := 13) (oi := { dst := some 66, op := Op.move (Operand.tmp 7), type := 23, pos := "laws.go:560", after := #[{ on := 12, ground := Ground.guard }], guard := some (12, false) }) (v := undef) rfl (by kernel_rfl) (by kernel_rfl) (by kernel_rfl) (fun _ _ _ h => h) (Or.inr ⟨by rfl, rfl⟩) (by assumption) ?_
        (try simp only [Act.put, List.setIfInBounds_toArray, List.set_cons_zero, List.set_cons_succ])
        refine wpAnyH_take (i := 14) (oi := { dst := some 67, op := Op.move (Operand.tmp 3), type := 23, pos := "laws.go:560", after := #[{ on := 12, ground := Ground.guard }], guard := some (12, false) }) (v := undef) rfl (by kernel_rfl) (by kernel_rfl) (by kernel_rfl) (fun _ _ _ h => h) (Or.inr ⟨by rfl, rfl⟩) (by assumption) ?_
        (try simp only [Act.put, List.setIfInBounds_toArray, List.set_cons_zero, List.set_cons_succ])
        refine wpAnyH_take (i := 15) (oi := { dst := some 68, op := Op.call { callee := Callee.value (Operand.func 54), args := #[Operand.tmp 66, Operand.tmp 67], argTypes := #[23, 23] }, type := 4, pos := "laws.go:560", after := #[{ on := 13, ground := Ground.data }, { on := 14, ground := Ground.data }, { on := 12, ground := Ground.chain }, { on := 12, ground := Ground.guard }], guard := some (12, false) }) (v := undef) rfl (by kernel_rfl) (by kernel_rfl) (by kernel_rfl) (fun _ _ _ h => h) (Or.inr ⟨by rfl, rfl⟩) (by assumption) ?_
        (try simp only [Act.put, List.setIfInBounds_toArray, List.set_cons_zero, List.set_cons_succ])
        refine wpAnyH_take (i := 16) (oi := { dst := some 69, op := Op.pick (Operand.tmp 65) (Operand.const (Value.bool true)) (Operand.tmp 68), type := 4, pos := "laws.go:560", after := #[{ on := 12, ground := Ground.data }, { on := 15, ground := Ground.data }, { on := 8, ground := Ground.guard }], guard := some (8, true) }) (v := ?_) rfl (by kernel_rfl) (by kernel_rfl) (by kernel_rfl) (fun _ _ _ h => h) (Or.inl ⟨by rfl, ?_⟩) (by assumption) ?_
        rotate_left
        · intro w hSw
          (try dsimp only at hSw)
          go_simp
          (try with_reducible rfl)
        (try simp only [Act.put, List.setIfInBounds_toArray, List.set_cons_zero, List.set_cons_succ])
        refine wpAnyH_take (i := 17) (oi := { dst := some 70, op := Op.pick (Operand.tmp 61) (Operand.tmp 69) (Operand.const (Value.bool false)), type := 4, pos := "laws.go:560", after := #[{ on := 8, ground := Ground.data }, { on := 16, ground := Ground.data }], guard := none }) (v := ?_) rfl (by kernel_rfl) (by kernel_rfl) (by kernel_rfl) (fun _ _ _ h => h) (Or.inl ⟨by rfl, ?_⟩) (by assumption) ?_
        rotate_left
        · intro w hSw
          (try dsimp only at hSw)
          go_simp
          (try with_reducible rfl)
        (try simp only [Act.put, List.setIfInBounds_toArray, List.set_cons_zero, List.set_cons_succ])
        refine wpAnyH_take (i := 18) (oi := { dst := some 71, op := Op.move (Operand.tmp 70), type := 4, pos := "laws.go:560", after := #[{ on := 17, ground := Ground.data }, { on := 15, ground := Ground.chain }], guard := none }) (v := ?_) rfl (by kernel_rfl) (by kernel_rfl) (by kernel_rfl) (fun _ _ _ h => h) (Or.inl ⟨by rfl, ?_⟩) (by assumption) ?_
        rotate_left
        · intro w hSw
          (try dsimp only at hSw)
          go_simp
          (try with_reducible rfl)
        (try simp only [Act.put, List.setIfInBounds_toArray, List.set_cons_zero, List.set_cons_succ])
        refine wpAnyH_take (i := 19) (oi := { dst := some 72, op := Op.move (Operand.tmp 4), type := 23, pos := "laws.go:560", after := #[{ on := 18, ground := Ground.guard }], guard := some (18, true) }) (v := ?_) rfl (by kernel_rfl) (by kernel_rfl) (by kernel_rfl) (fun _ _ _ h => h) (Or.inl ⟨by rfl, ?_⟩) (by assumption) ?_
        rotate_left
        · intro w hSw
          (try dsimp only at hSw)
          go_simp
          (try with_reducible rfl)
        (try simp only [Act.put, List.setIfInBounds_toArray, List.set_cons_zero, List.set_cons_succ])
        refine wpAnyH_take (i := 20) (oi := { dst := some 73, op := Op.indexAddr 23 (Operand.tmp 72) (Operand.const (Value.int IntKind.i64 0)), type := 0, pos := "laws.go:560", after := #[{ on := 19, ground := Ground.data }, { on := 18, ground := Ground.guard }], guard := some (18, true) }) (v := ?_) rfl (by kernel_rfl) (by kernel_rfl) (by kernel_rfl) (fun _ _ _ h => h) (Or.inl ⟨by rfl, ?_⟩) (by assumption) ?_
        rotate_left
        · intro w hSw
          (try dsimp only at hSw)
          go_simp
          (try with_reducible rfl)
        (try simp only [Act.put, List.setIfInBounds_toArray, List.set_cons_zero, List.set_cons_succ])
        refine wpAnyH_take (i := 21) (oi := { dst := some 74, op := Op.load 3 (Operand.tmp 73), type := 3, pos := "laws.go:560", after := #[{ on := 20, ground := Ground.data }, { on := 18, ground := Ground.guard }], guard := some (18, true) }) (v := ?_) rfl (by kernel_rfl) (by kernel_rfl) (by kernel_rfl) (fun _ _ _ h => h) (Or.inl ⟨by rfl, ?_⟩) (by assumption) ?_
        rotate_left
        · intro w hSw
          (try dsimp only at hSw)
          go_simp
          (try with_reducible rfl)
        (try simp only [Act.put, List.setIfInBounds_toArray, List.set_cons_zero, List.set_cons_succ])
        refine wpAnyH_take (i := 22) (oi := { dst := some 75, op := Op.move (Operand.tmp 3), type := 23, pos := "laws.go:560", after := #[{ on := 18, ground := Ground.guard }], guard := some (18, true) }) (v := ?_) rfl (by kernel_rfl) (by kernel_rfl) (by kernel_rfl) (fun _ _ _ h => h) (Or.inl ⟨by rfl, ?_⟩) (by assumption) ?_
        rotate_left
        · intro w hSw
          (try dsimp only at hSw)
          go_simp
          (try with_reducible rfl)
        (try simp only [Act.put, List.setIfInBounds_toArray, List.set_cons_zero, List.set_cons_succ])
        refine wpAnyH_take (i := 23) (oi := { dst := some 76, op := Op.indexAddr 23 (Operand.tmp 75) (Operand.const (Value.int IntKind.i64 0)), type := 0, pos := "laws.go:560", after := #[{ on := 22, ground := Ground.data }, { on := 18, ground := Ground.guard }], guard := some (18, true) }) (v := ?_) rfl (by kernel_rfl) (by kernel_rfl) (by kernel_rfl) (fun _ _ _ h => h) (Or.inl ⟨by rfl, ?_⟩) (by assumption) ?_
        rotate_left
        · intro w hSw
          (try dsimp only at hSw)
          go_simp
          (try with_reducible rfl)
        (try simp only [Act.put, List.setIfInBounds_toArray, List.set_cons_zero, List.set_cons_succ])
        refine wpAnyH_take (i := 24) (oi := { dst := some 77, op := Op.load 3 (Operand.tmp 76), type := 3, pos := "laws.go:560", after := #[{ on := 23, ground := Ground.data }, { on := 18, ground := Ground.guard }], guard := some (18, true) }) (v := ?_) rfl (by kernel_rfl) (by kernel_rfl) (by kernel_rfl) (fun _ _ _ h => h) (Or.inl ⟨by rfl, ?_⟩) (by assumption) ?_
        rotate_left
        · intro w hSw
          (try dsimp only at hSw)
          go_simp
          (try with_reducible rfl)
        (try simp only [Act.put, List.setIfInBounds_toArray, List.set_cons_zero, List.set_cons_succ])
        refine wpAnyH_take (i := 25) (oi := { dst := some 78, op := Op.binOp BinOp.eql 3 (Operand.tmp 74) (Operand.tmp 77) 3, type := 4, pos := "laws.go:560", after := #[{ on := 21, ground := Ground.data }, { on := 24, ground := Ground.data }, { on := 18, ground := Ground.guard }], guard := some (18, true) }) (v := ?_) rfl (by kernel_rfl) (by kernel_rfl) (by kernel_rfl) (fun _ _ _ h => h) (Or.inl ⟨by rfl, ?_⟩) (by assumption) ?_
        rotate_left
        · intro w hSw
          (try dsimp only at hSw)
          go_simp
          (try with_reducible rfl)
        (try simp only [Act.put, List.setIfInBounds_toArray, List.set_cons_zero, List.set_cons_succ])
        refine wpAnyH_take (i := 26) (oi := { dst := some 79, op := Op.pick (Operand.tmp 71) (Operand.tmp 78) (Operand.const (Value.bool false)), type := 4, pos := "laws.go:560", after := #[{ on := 18, ground := Ground.data }, { on := 25, ground := Ground.data }], guard := none }) (v := ?_) rfl (by kernel_rfl) (by kernel_rfl) (by kernel_rfl) (fun _ _ _ h => h) (Or.inl ⟨by rfl, ?_⟩) (by assumption) ?_
        rotate_left
        · intro w hSw
          (try dsimp only at hSw)
          go_simp
          (try with_reducible rfl)
        (try simp only [Act.put, List.setIfInBounds_toArray, List.set_cons_zero, List.set_cons_succ])
        refine wpAnyH_take (i := 27) (oi := { dst := some 80, op := Op.move (Operand.tmp 79), type := 4, pos := "laws.go:560", after := #[{ on := 26, ground := Ground.data }, { on := 18, ground := Ground.chain }], guard := none }) (v := ?_) rfl (by kernel_rfl) (by kernel_rfl) (by kernel_rfl) (fun _ _ _ h => h) (Or.inl ⟨by rfl, ?_⟩) (by assumption) ?_
        rotate_left
        · intro w hSw
          (try dsimp only at hSw)
          go_simp
          (try with_reducible rfl)
        (try simp only [Act.put, List.setIfInBounds_toArray, List.set_cons_zero, List.set_cons_succ])
        refine wpAnyH_take (i := 28) (oi := { dst := some 81, op := Op.move (Operand.tmp 5), type := 23, pos := "laws.go:560", after := #[{ on := 27, ground := Ground.guard }], guard := some (27, true) }) (v := ?_) rfl (by kernel_rfl) (by kernel_rfl) (by kernel_rfl) (fun _ _ _ h => h) (Or.inl ⟨by rfl, ?_⟩) (by assumption) ?_
        rotate_left
        · intro w hSw
          (try dsimp only at hSw)
          go_simp
          (try with_reducible rfl)
        (try simp only [Act.put, List.setIfInBounds_toArray, List.set_cons_zero, List.set_cons_succ])
        refine wpAnyH_take (i := 29) (oi := { dst := some 82, op := Op.move (Operand.tmp 5), type := 23, pos := "laws.go:560", after := #[{ on := 27, ground := Ground.guard }], guard := some (27, true) }) (v := ?_) rfl (by kernel_rfl) (by kernel_rfl) (by kernel_rfl) (fun _ _ _ h => h) (Or.inl ⟨by rfl, ?_⟩) (by assumption) ?_
        rotate_left
        · intro w hSw
          (try dsimp only at hSw)
          go_simp
          (try with_reducible rfl)
        (try simp only [Act.put, List.setIfInBounds_toArray, List.set_cons_zero, List.set_cons_succ])
        refine wpAnyH_take (i := 30) (oi := { dst := some 83, op := Op.call { callee := Callee.builtin Builtin.len, args := #[Operand.tmp 82], argTypes := #[23] }, type := 3, pos := "laws.go:560", after := #[{ on := 29, ground := Ground.data }, { on := 27, ground := Ground.guard }], guard := some (27, true) }) (v := ?_) rfl (by kernel_rfl) (by kernel_rfl) (by kernel_rfl) (fun _ _ _ h => h) (Or.inl ⟨by rfl, ?_⟩) (by assumption) ?_
        rotate_left
        · intro w hSw
          (try dsimp only at hSw)
          go_simp
          (try with_reducible rfl)
        (try simp only [Act.put, List.setIfInBounds_toArray, List.set_cons_zero, List.set_cons_succ])
        refine wpAnyH_take (i := 31) (oi := { dst := some 84, op := Op.binOp BinOp.sub 3 (Operand.tmp 83) (Operand.const (Value.int IntKind.i64 1)) 3, type := 3, pos := "laws.go:560", after := #[{ on := 30, ground := Ground.data }, { on := 27, ground := Ground.guard }], guard := some (27, true) }) (v := ?_) rfl (by kernel_rfl) (by kernel_rfl) (by kernel_rfl) (fun _ _ _ h => h) (Or.inl ⟨by rfl, ?_⟩) (by assumption) ?_
        rotate_left
        · intro w hSw
          (try dsimp only at hSw)
          go_simp
          (try with_reducible rfl)
        (try simp only [Act.put, List.setIfInBounds_toArray, List.set_cons_zero, List.set_cons_succ])
        refine wpAnyH_take (i := 32) (oi := { dst := some 85, op := Op.indexAddr 23 (Operand.tmp 81) (Operand.tmp 84), type := 0, pos := "laws.go:560", after := #[{ on := 28, ground := Ground.data }, { on := 31, ground := Ground.data }, { on := 27, ground := Ground.guard }], guard := some (27, true) }) (v := ?_) rfl (by kernel_rfl) (by kernel_rfl) (by kernel_rfl) (fun _ _ _ h => h) (Or.inl ⟨by rfl, ?_⟩) (by assumption) ?_
        rotate_left
        · intro w hSw
          (try dsimp only at hSw)
          go_simp
          (try with_reducible rfl)
        (try simp only [Act.put, List.setIfInBounds_toArray, List.set_cons_zero, List.set_cons_succ])
        refine wpAnyH_take (i := 33) (oi := { dst := some 86, op := Op.load 3 (Operand.tmp 85), type := 3, pos := "laws.go:560", after := #[{ on := 32, ground := Ground.data }, { on := 27, ground := Ground.guard }], guard := some (27, true) }) (v := ?_) rfl (by kernel_rfl) (by kernel_rfl) (by kernel_rfl) (fun _ _ _ h => h) (Or.inl ⟨by rfl, ?_⟩) (by assumption) ?_
        rotate_left
        · intro w hSw
          (try dsimp only at hSw)
          go_simp
          (try with_reducible rfl)
        (try simp only [Act.put, List.setIfInBounds_toArray, List.set_cons_zero, List.set_cons_succ])
        refine wpAnyH_take (i := 34) (oi := { dst := some 87, op := Op.move (Operand.tmp 3), type := 23, pos := "laws.go:560", after := #[{ on := 27, ground := Ground.guard }], guard := some (27, true) }) (v := ?_) rfl (by kernel_rfl) (by kernel_rfl) (by kernel_rfl) (fun _ _ _ h => h) (Or.inl ⟨by rfl, ?_⟩) (by assumption) ?_
        rotate_left
        · intro w hSw
          (try dsimp only at hSw)
          go_simp
          (try with_reducible rfl)
        (try simp only [Act.put, List.setIfInBounds_toArray, List.set_cons_zero, List.set_cons_succ])
        refine wpAnyH_take (i := 35) (oi := { dst := some 88, op := Op.move (Operand.tmp 3), type := 23, pos := "laws.go:560", after := #[{ on := 27, ground := Ground.guard }], guard := some (27, true) }) (v := ?_) rfl (by kernel_rfl) (by kernel_rfl) (by kernel_rfl) (fun _ _ _ h => h) (Or.inl ⟨by rfl, ?_⟩) (by assumption) ?_
        rotate_left
        · intro w hSw
          (try dsimp only at hSw)
          go_simp
          (try with_reducible rfl)
        (try simp only [Act.put, List.setIfInBounds_toArray, List.set_cons_zero, List.set_cons_succ])
        refine wpAnyH_take (i := 36) (oi := { dst := some 89, op := Op.call { callee := Callee.builtin Builtin.len, args := #[Operand.tmp 88], argTypes := #[23] }, type := 3, pos := "laws.go:560", after := #[{ on := 35, ground := Ground.data }, { on := 27, ground := Ground.guard }], guard := some (27, true) }) (v := ?_) rfl (by kernel_rfl) (by kernel_rfl) (by kernel_rfl) (fun _ _ _ h => h) (Or.inl ⟨by rfl, ?_⟩) (by assumption) ?_
        rotate_left
        · intro w hSw
          (try dsimp only at hSw)
          go_simp
          (try with_reducible rfl)
        (try simp only [Act.put, List.setIfInBounds_toArray, List.set_cons_zero, List.set_cons_succ])
        refine wpAnyH_take (i := 37) (oi := { dst := some 90, op := Op.binOp BinOp.sub 3 (Operand.tmp 89) (Operand.const (Value.int IntKind.i64 1)) 3, type := 3, pos := "laws.go:560", after := #[{ on := 36, ground := Ground.data }, { on := 27, ground := Ground.guard }], guard := some (27, true) }) (v := ?_) rfl (by kernel_rfl) (by kernel_rfl) (by kernel_rfl) (fun _ _ _ h => h) (Or.inl ⟨by rfl, ?_⟩) (by assumption) ?_
        rotate_left
        · intro w hSw
          (try dsimp only at hSw)
          go_simp
          (try with_reducible rfl)
        (try simp only [Act.put, List.setIfInBounds_toArray, List.set_cons_zero, List.set_cons_succ])
        refine wpAnyH_take (i := 38) (oi := { dst := some 91, op := Op.indexAddr 23 (Operand.tmp 87) (Operand.tmp 90), type := 0, pos := "laws.go:560", after := #[{ on := 34, ground := Ground.data }, { on := 37, ground := Ground.data }, { on := 27, ground := Ground.guard }], guard := some (27, true) }) (v := ?_) rfl (by kernel_rfl) (by kernel_rfl) (by kernel_rfl) (fun _ _ _ h => h) (Or.inl ⟨by rfl, ?_⟩) (by assumption) ?_
        rotate_left
        · intro w hSw
          (try dsimp only at hSw)
          go_simp
          (try with_reducible rfl)
        (try simp only [Act.put, List.setIfInBounds_toArray, List.set_cons_zero, List.set_cons_succ])
        refine wpAnyH_take (i := 39) (oi := { dst := some 92, op := Op.load 3 (Operand.tmp 91), type := 3, pos := "laws.go:560", after := #[{ on := 38, ground := Ground.data }, { on := 27, ground := Ground.guard }], guard := some (27, true) }) (v := ?_) rfl (by kernel_rfl) (by kernel_rfl) (by kernel_rfl) (fun _ _ _ h => h) (Or.inl ⟨by rfl, ?_⟩) (by assumption) ?_
        rotate_left
        · intro w hSw
          (try dsimp only at hSw)
          go_simp
          (try with_reducible rfl)
        (try simp only [Act.put, List.setIfInBounds_toArray, List.set_cons_zero, List.set_cons_succ])
        refine wpAnyH_take (i := 40) (oi := { dst := some 93, op := Op.binOp BinOp.eql 3 (Operand.tmp 86) (Operand.tmp 92) 3, type := 4, pos := "laws.go:560", after := #[{ on := 33, ground := Ground.data }, { on := 39, ground := Ground.data }, { on := 27, ground := Ground.guard }], guard := some (27, true) }) (v := ?_) rfl (by kernel_rfl) (by kernel_rfl) (by kernel_rfl) (fun _ _ _ h => h) (Or.inl ⟨by rfl, ?_⟩) (by assumption) ?_
        rotate_left
        · intro w hSw
          (try dsimp only at hSw)
          go_simp
          (try with_reducible rfl)
        (try simp only [Act.put, List.setIfInBounds_toArray, List.set_cons_zero, List.set_cons_succ])
        refine wpAnyH_take (i := 41) (oi := { dst := some 94, op := Op.pick (Operand.tmp 80) (Operand.tmp 93) (Operand.const (Value.bool false)), type := 4, pos := "laws.go:560", after := #[{ on := 27, ground := Ground.data }, { on := 40, ground := Ground.data }], guard := none }) (v := ?_) rfl (by kernel_rfl) (by kernel_rfl) (by kernel_rfl) (fun _ _ _ h => h) (Or.inl ⟨by rfl, ?_⟩) (by assumption) ?_
        rotate_left
        · intro w hSw
          (try dsimp only at hSw)
          go_simp
          (try with_reducible rfl)
        (try simp only [Act.put, List.setIfInBounds_toArray, List.set_cons_zero, List.set_cons_succ])
        refine wpAnyH_take (i := 42) (oi := { dst := some 2, op := Op.assign (Operand.tmp 94), type := 4, pos := "laws.go:560", after := #[{ on := 41, ground := Ground.data }, { on := 27, ground := Ground.chain }, { on := 0, ground := Ground.phase }, { on := 1, ground := Ground.phase }, { on := 2, ground := Ground.phase }, { on := 3, ground := Ground.phase }, { on := 4, ground := Ground.phase }, { on := 5, ground := Ground.phase }, { on := 6, ground := Ground.phase }, { on := 7, ground := Ground.phase }, { on := 8, ground := Ground.phase }, { on := 9, ground := Ground.phase }, { on := 10, ground := Ground.phase }, { on := 11, ground := Ground.phase }, { on := 12, ground := Ground.phase }, { on := 13, ground := Ground.phase }, { on := 14, ground := Ground.phase }, { on := 15, ground := Ground.phase }, { on := 16, ground := Ground.phase }, { on := 17, ground := Ground.phase }, { on := 18, ground := Ground.phase }, { on := 19, ground := Ground.phase }, { on := 20, ground := Ground.phase }, { on := 21, ground := Ground.phase }, { on := 22, ground := Ground.phase }, { on := 23, ground := Ground.phase }, { on := 24, ground := Ground.phase }, { on := 25, ground := Ground.phase }, { on := 26, ground := Ground.phase }, { on := 27, ground := Ground.phase }, { on := 28, ground := Ground.phase }, { on := 29, ground := Ground.phase }, { on := 30, ground := Ground.phase }, { on := 31, ground := Ground.phase }, { on := 32, ground := Ground.phase }, { on := 33, ground := Ground.phase }, { on := 34, ground := Ground.phase }, { on := 35, ground := Ground.phase }, { on := 36, ground := Ground.phase }, { on := 37, ground := Ground.phase }, { on := 38, ground := Ground.phase }, { on := 39, ground := Ground.phase }, { on := 40, ground := Ground.phase }, { on := 41, ground := Ground.phase }], guard := none }) (v := ?_) rfl (by kernel_rfl) (by kernel_rfl) (by kernel_rfl) (fun _ _ _ h => h) (Or.inl ⟨by rfl, ?_⟩) (by assumption) ?_
        rotate_left
        · intro w hSw
          (try dsimp only at hSw)
          go_simp
          (try with_reducible rfl)
        (try simp only [Act.put, List.setIfInBounds_toArray, List.set_cons_zero, List.set_cons_succ])
        refine wpAnyH_done (by kernel_rfl) ?_ _
        clear HS0
        go_wp2_with fail
        go_ret
        exact ⟨by simp, HBB.out.trans (Below.mono (And.left (by assumption)) HBB.out.size)⟩
    · have HP := Lib.hid (show tableB ps = false by simpa using hp)
      clear hp
      by_cases hq : tableB qs = true
      · have HQ := Lib.hid hq
        clear hq
        have HXx := Lib.hid (fun W (h : Row W Aa n ps) => iSumsBelow_any Aa n Ca ps W h (by omega))
        rw [toldN_no HP.out, told_no HP.out] at HXx
        go_wp2_with fail
        refine (HXx.out _ Ra).mono ?_
        rintro e w8 ⟨Ax, Cx, rfl, Ox, b8⟩
        replace Rl := Rl.below b8
        replace Ra := Ra.below b8
        replace Rb := Rb.below b8
        replace BB := BB.trans (b8.mono BB.size)
        have Rx := Ox.row
        clear Ox HXx
        have HX2 : Hid (sums true false qs = xs) := by show _ = _; rw [HQS.out]; exact sums_parts HLX.out H4.out true
        have HXy := Lib.hid (fun W (h : Row W Ab n qs) => iSumsAbove_any Ab n Cb qs W h (by omega))
        rw [toldN_yes HQ.out, told_yes HQ.out, HX2.out] at HXy
        go_wp2_with fail
        refine (HXy.out _ Rb).mono ?_
        rintro e w9 ⟨Ay, Cy, rfl, Oy, b9⟩
        replace Rl := Rl.below b9
        replace Ra := Ra.below b9
        replace Rb := Rb.below b9
        replace Rx := Rx.below b9
        replace BB := BB.trans (b9.mono BB.size)
        have Ry := Oy.row
        clear Oy HXy
        obtain ⟨b0, off0, rfl⟩ := Rl.form (by omega)
        obtain ⟨ba, offa, rfl⟩ := Ra.form (by omega)
        obtain ⟨bb, offb, rfl⟩ := Rb.form (by omega)
        have HBB := Lib.hid BB
        clear BB 
        obtain ⟨z, hz⟩ : ∃ z : Nat, z = n - 1 := ⟨_, rfl⟩
        have hzn : z < n := by omega
        have hzw : IntKind.i64.wrap ((n : Int) - 1) = (z : Int) := by rw [show (n : Int) - 1 = (z : Int) by omega]; exact IntWalk.i64_in _ (by omega)
        rw [← hz] at HP2
        obtain ⟨v0, hv0⟩ : ∃ v, v = xs.getD 0 0 := ⟨_, rfl⟩
        obtain ⟨v1, hv1⟩ : ∃ v, v = xs.getD z 0 := ⟨_, rfl⟩
        have HCa := Lib.hid (fun W (h : Below w9.heap.size w9 W) => Ra.cellAt h (k := 0) (by omega))
        have HCl := Lib.hid (fun W (h : Below w9.heap.size w9 W) => Rl.cellAt h (k := 0) (by omega))
        have HCb := Lib.hid (fun W (h : Below w9.heap.size w9 W) => Rb.cellAt h hzn)
        have HCm := Lib.hid (fun W (h : Below w9.heap.size w9 W) => Rl.cellAt h hzn)
        rw [HP1.out, ← hv0] at HCa
        rw [← hv0] at HCl
        rw [HP2.out, ← hv1] at HCb
        rw [← hv1] at HCm
        have hzi : (z : Int) < (n : Int) := by omega
        have hn0 : (0 : Int) < (n : Int) := by omega
        have hn1 : 0 < n := by omega
        have HRx := Lib.hid Rx
        have HRy := Lib.hid Ry
        have HRl := Lib.hid Rl
        clear hv0 hv1 hz Ra Rb Rl Rx Ry
        have HIS : Hid (∀ W, Below w9.heap.size w9 W → Below w9.heap.size w9 W ∧ W.cell? ⟨ba, offa, none⟩ = some (.int .i64 v0) ∧ W.cell? ⟨b0, off0, none⟩ = some (.int .i64 v0) ∧ W.cell? ⟨bb, offb + z, none⟩ = some (.int .i64 v1) ∧ W.cell? ⟨b0, off0 + z, none⟩ = some (.int .i64 v1)) := fun W h => ⟨h, HCa.out W h, HCl.out W h, HCb.out W h, HCm.out W h⟩
        have HKS : Hid (∀ W W', Below W.heap.size W W' → (Below w9.heap.size w9 W ∧ W.cell? ⟨ba, offa, none⟩ = some (.int .i64 v0) ∧ W.cell? ⟨b0, off0, none⟩ = some (.int .i64 v0) ∧ W.cell? ⟨bb, offb + z, none⟩ = some (.int .i64 v1) ∧ W.cell? ⟨b0, off0 + z, none⟩ = some (.int .i64 v1)) → Below w9.heap.size w9 W' ∧ W'.cell? ⟨ba, offa, none⟩ = some (.int .i64 v0) ∧ W'.cell? ⟨b0, off0, none⟩ = some (.int .i64 v0) ∧ W'.cell? ⟨bb, offb + z, none⟩ = some (.int .i64 v1) ∧ W'.cell? ⟨b0, off0 + z, none⟩ = some (.int .i64 v1)) := fun W W' b h => HIS.out W' (h.1.trans (b.mono h.1.size))
        have HWy := Lib.hid (fun W (h : Below w9.heap.size w9 W) => weSame_any Ay (some ⟨b0, off0, none⟩) n Cy n C xs xs W (HRy.out.below h) (HRl.out.below h) hn hn)
        rw [eqB_self] at HWy
        have HS0 := Lib.hid (HIS.out _ ((Below.refl _ _).drew))
        go_wp2_with fail
        refine wp_region_held_drew (S := fun W => Below w9.heap.size w9 W ∧ W.cell? ⟨ba, offa, none⟩ = some (.int .i64 v0) ∧ W.cell? ⟨b0, off0, none⟩ = some (.int .i64 v0) ∧ W.cell? ⟨bb, offb + z, none⟩ = some (.int .i64 v1) ∧ W.cell? ⟨b0, off0 + z, none⟩ = some (.int .i64 v1)) (by kernel_rfl) ?_ (fun hHeld => ?_)
        · exact HS0.out
        refine wpAnyH_take (i := 0) (oi := { dst := some 53, op := Op.move (Operand.tmp 6), type := 23, pos := "laws.go:560", after := #[], guard := none }) (v := ?_) rfl (by kernel_rfl) (by kernel_rfl) (by kernel_rfl) (fun _ _ _ h => h) (Or.inl ⟨by rfl, ?_⟩) (by assumption) ?_
        rotate_left
        · intro w hSw
          (try dsimp only at hSw)
          go_simp
          (try with_reducible rfl)
        (try simp only [Act.put, List.setIfInBounds_toArray, List.set_cons_zero, List.set_cons_succ])
        refine wpAnyH_take (i := 1) (oi := { dst := some 54, op := Op.call { callee := Callee.builtin Builtin.len, args := #[Operand.tmp 53], argTypes := #[23] }, type := 3, pos := "laws.go:560", after := #[{ on := 0, ground := Ground.data }], guard := none }) (v := ?_) rfl (by kernel_rfl) (by kernel_rfl) (by kernel_rfl) (fun _ _ _ h => h) (Or.inl ⟨by rfl, ?_⟩) (by assumption) ?_
        rotate_left
        · intro w hSw
          (try dsimp only at hSw)
          go_simp
          (try with_reducible rfl)
        (try simp only [Act.put, List.setIfInBounds_toArray, List.set_cons_zero, List.set_cons_succ])
        refine wpAnyH_take (i := 2) (oi := { dst := some 55, op := Op.binOp BinOp.eql 3 (Operand.tmp 54) (Operand.const (Value.int IntKind.i64 0)) 3, type := 4, pos := "laws.go:560", after := #[{ on := 1, ground := Ground.data }], guard := none }) (v := ?_) rfl (by kernel_rfl) (by kernel_rfl) (by kernel_rfl) (fun _ _ _ h => h) (Or.inl ⟨by rfl, ?_⟩) (by assumption) ?_
        rotate_left
        · intro w hSw
          (try dsimp only at hSw)
          go_simp
          (try with_reducible rfl)
        (try simp only [Act.put, List.setIfInBounds_toArray, List.set_cons_zero, List.set_cons_succ])
        refine wpAnyH_take (i := 3) (oi := { dst := some 56, op := Op.move (Operand.tmp 55), type := 4, pos := "laws.go:560", after := #[{ on := 2, ground := Ground.data }], guard := none }) (v := ?_) rfl (by kernel_rfl) (by kernel_rfl) (by kernel_rfl) (fun _ _ _ h => h) (Or.inl ⟨by rfl, ?_⟩) (by assumption) ?_
        rotate_left
        · intro w hSw
          (try dsimp only at hSw)
          go_simp
          (try with_reducible rfl)
        (try simp only [Act.put, List.setIfInBounds_toArray, List.set_cons_zero, List.set_cons_succ])
        refine wpAnyH_take (i := 4) (oi := { dst := some 57, op := Op.move (Operand.tmp 6), type := 23, pos := "laws.go:560", after := #[{ on := 3, ground := Ground.guard }], guard := some (3, false) }) (v := undef) rfl (by kernel_rfl) (by kernel_rfl) (by kernel_rfl) (fun _ _ _ h => h) (Or.inr ⟨by rfl, rfl⟩) (by assumption) ?_
        (try simp only [Act.put, List.setIfInBounds_toArray, List.set_cons_zero, List.set_cons_succ])
        refine wpAnyH_take (i := 5) (oi := { dst := some 58, op := Op.move (Operand.tmp 3), type := 23, pos := "laws.go:560", after := #[{ on := 3, ground := Ground.guard }], guard := some (3, false) }) (v := undef) rfl (by kernel_rfl) (by kernel_rfl) (by kernel_rfl) (fun _ _ _ h => h) (Or.inr ⟨by rfl, rfl⟩) (by assumption) ?_
        (try simp only [Act.put, List.setIfInBounds_toArray, List.set_cons_zero, List.set_cons_succ])
        refine wpAnyH_take (i := 6) (oi := { dst := some 59, op := Op.call { callee := Callee.value (Operand.func 54), args := #[Operand.tmp 57, Operand.tmp 58], argTypes := #[23, 23] }, type := 4, pos := "laws.go:560", after := #[{ on := 4, ground := Ground.data }, { on := 5, ground := Ground.data }, { on := 3, ground := Ground.chain }, { on := 3, ground := Ground.guard }], guard := some (3, false) }) (v := undef) rfl (by kernel_rfl) (by kernel_rfl) (by kernel_rfl) (fun _ _ _ h => h) (Or.inr ⟨by rfl, rfl⟩) (by assumption) ?_
        (try simp only [Act.put, List.setIfInBounds_toArray, List.set_cons_zero, List.set_cons_succ])
        refine wpAnyH_take (i := 7) (oi := { dst := some 60, op := Op.pick (Operand.tmp 56) (Operand.const (Value.bool true)) (Operand.tmp 59), type := 4, pos := "laws.go:560", after := #[{ on := 3, ground := Ground.data }, { on := 6, ground := Ground.data }], guard := none }) (v := ?_) rfl (by kernel_rfl) (by kernel_rfl) (by kernel_rfl) (fun _ _ _ h => h) (Or.inl ⟨by rfl, ?_⟩) (by assumption) ?_
        rotate_left
        · intro w hSw
          (try dsimp only at hSw)
          go_simp
          (try with_reducible rfl)
        (try simp only [Act.put, List.setIfInBounds_toArray, List.set_cons_zero, List.set_cons_succ])
        refine wpAnyH_take (i := 8) (oi := { dst := some 61, op := Op.move (Operand.tmp 60), type := 4, pos := "laws.go:560", after := #[{ on := 7, ground := Ground.data }, { on := 6, ground := Ground.chain }], guard := none }) (v := ?_) rfl (by kernel_rfl) (by kernel_rfl) (by kernel_rfl) (fun _ _ _ h => h) (Or.inl ⟨by rfl, ?_⟩) (by assumption) ?_
        rotate_left
        · intro w hSw
          (try dsimp only at hSw)
          go_simp
          (try with_reducible rfl)
        (try simp only [Act.put, List.setIfInBounds_toArray, List.set_cons_zero, List.set_cons_succ])
        refine wpAnyH_take (i := 9) (oi := { dst := some 62, op := Op.move (Operand.tmp 7), type := 23, pos := "laws.go:560", after := #[{ on := 8, ground := Ground.guard }], guard := some (8, true) }) (v := ?_) rfl (by kernel_rfl) (by kernel_rfl) (by kernel_rfl) (fun _ _ _ h => h) (Or.inl ⟨by rfl, ?_⟩) (by assumption) ?_
        rotate_left
        · intro w hSw
          (try dsimp only at hSw)
          go_simp
          (try with_reducible rfl)
        (try simp only [Act.put, List.setIfInBounds_toArray, List.set_cons_zero, List.set_cons_succ])
        refine wpAnyH_take (i := 10) (oi := { dst := some 63, op := Op.call { callee := Callee.builtin Builtin.len, args := #[Operand.tmp 62], argTypes := #[23] }, type := 3, pos := "laws.go:560", after := #[{ on := 9, ground := Ground.data }, { on := 8, ground := Ground.guard }], guard := some (8, true) }) (v := ?_) rfl (by kernel_rfl) (by kernel_rfl) (by kernel_rfl) (fun _ _ _ h => h) (Or.inl ⟨by rfl, ?_⟩) (by assumption) ?_
        rotate_left
        · intro w hSw
          (try dsimp only at hSw)
          go_simp
          (try with_reducible rfl)
        (try simp only [Act.put, List.setIfInBounds_toArray, List.set_cons_zero, List.set_cons_succ])
        refine wpAnyH_take (i := 11) (oi := { dst := some 64, op := Op.binOp BinOp.eql 3 (Operand.tmp 63) (Operand.const (Value.int IntKind.i64 0)) 3, type := 4, pos := "laws.go:560", after := #[{ on := 10, ground := Ground.data }, { on := 8, ground := Ground.guard }], guard := some (8, true) }) (v := ?_) rfl (by kernel_rfl) (by kernel_rfl) (by kernel_rfl) (fun _ _ _ h => h) (Or.inl ⟨by rfl, ?_⟩) (by assumption) ?_
        rotate_left
        · intro w hSw
          (try dsimp only at hSw)
          go_simp
          (try with_reducible rfl)
        (try simp only [Act.put, List.setIfInBounds_toArray, List.set_cons_zero, List.set_cons_succ])
        refine wpAnyH_take (i := 12) (oi := { dst := some 65, op := Op.move (Operand.tmp 64), type := 4, pos := "laws.go:560", after := #[{ on := 11, ground := Ground.data }, { on := 8, ground := Ground.chain }, { on := 8, ground := Ground.guard }], guard := some (8, true) }) (v := ?_) rfl (by kernel_rfl) (by kernel_rfl) (by kernel_rfl) (fun _ _ _ h => h) (Or.inl ⟨by rfl, ?_⟩) (by assumption) ?_
        rotate_left
        · intro w hSw
          (try dsimp only at hSw)
          go_simp
          (try with_reducible rfl)
        (try simp only [Act.put, List.setIfInBounds_toArray, List.set_cons_zero, List.set_cons_succ])
        refine wpAnyH_take (i := 13) (oi := { dst := some 66, op := Op.move (Operand.tmp 7), type := 23, pos := "laws.go:560", after := #[{ on := 12, ground := Ground.guard }], guard := some (12, false) }) (v := ?_) rfl (by kernel_rfl) (by kernel_rfl) (by kernel_rfl) (fun _ _ _ h => h) (Or.inl ⟨by rfl, ?_⟩) (by assumption) ?_
        rotate_left
        · intro w hSw
          (try dsimp only at hSw)
          go_simp
          (try with_reducible rfl)
        (try simp only [Act.put, List.setIfInBounds_toArray, List.set_cons_zero, List.set_cons_succ])
        refine wpAnyH_take (i := 14) (oi := { dst := some 67, op := Op.move (Operand.tmp 3), type := 23, pos := "laws.go:560", after := #[{ on := 12, ground := Ground.guard }], guard := some (12, false) }) (v := ?_) rfl (by kernel_rfl) (by kernel_rfl) (by kernel_rfl) (fun _ _ _ h => h) (Or.inl ⟨by rfl, ?_⟩) (by assumption) ?_
        rotate_left
        · intro w hSw
          (try dsimp only at hSw)
          go_simp
          (try with_reducible rfl)
        (try simp only [Act.put, List.setIfInBounds_toArray, List.set_cons_zero, List.set_cons_succ])
        refine wpAnyH_ready (rs := [15]) (by kernel_rfl) (by simp) ?_
        refine AllReadyH.cons (o := { dst := some 68, op := Op.call { callee := Callee.value (Operand.func 54), args := #[Operand.tmp 66, Operand.tmp 67], argTypes := #[23, 23] }, type := 4, pos := "laws.go:560", after := #[{ on := 13, ground := Ground.data }, { on := 14, ground := Ground.data }, { on := 12, ground := Ground.chain }, { on := 12, ground := Ground.guard }], guard := some (12, false) }) rfl (fun K hK => ?_) AllReadyH.nil
        go_simp
        go_at_call 54
        refine (HWy.out _ (And.left (by assumption))).mono ?_
        rintro e w9 ⟨rfl, b9⟩
        go_simp
        refine hK.out _ _ ?_ (fun hHeld => ?_)
        · first | assumption | exact HKS.out _ _ (by assumption) (by assumption)
        clear hK K
        (try simp only [Act.put, List.setIfInBounds_toArray, List.set_cons_zero, List.set_cons_succ])
        refine wpAnyH_take (i := 16) (oi := { dst := some 69, op := Op.pick (Operand.tmp 65) (Operand.const (Value.bool true)) (Operand.tmp 68), type := 4, pos := "laws.go:560", after := #[{ on := 12, ground := Ground.data }, { on := 15, ground := Ground.data }, { on := 8, ground := Ground.guard }], guard := some (8, true) }) (v := ?_) rfl (by kernel_rfl) (by kernel_rfl) (by kernel_rfl) (fun _ _ _ h => h) (Or.inl ⟨by rfl, ?_⟩) (by assumption) ?_
        rotate_left
        · intro w hSw
          (try dsimp only at hSw)
          go_simp
          (try with_reducible rfl)
        (try simp only [Act.put, List.setIfInBounds_toArray, List.set_cons_zero, List.set_cons_succ])
        refine wpAnyH_take (i := 17) (oi := { dst := some 70, op := Op.pick (Operand.tmp 61) (Operand.tmp 69) (Operand.const (Value.bool false)), type := 4, pos := "laws.go:560", after := #[{ on := 8, ground := Ground.data }, { on := 16, ground := Ground.data }], guard := none }) (v := ?_) rfl (by kernel_rfl) (by kernel_rfl) (by kernel_rfl) (fun _ _ _ h => h) (Or.inl ⟨by rfl, ?_⟩) (by assumption) ?_
        rotate_left
        · intro w hSw
          (try dsimp only at hSw)
          go_simp
          (try with_reducible rfl)
        (try simp only [Act.put, List.setIfInBounds_toArray, List.set_cons_zero, List.set_cons_succ])
        refine wpAnyH_take (i := 18) (oi := { dst := some 71, op := Op.move (Operand.tmp 70), type := 4, pos := "laws.go:560", after := #[{ on := 17, ground := Ground.data }, { on := 15, ground := Ground.chain }], guard := none }) (v := ?_) rfl (by kernel_rfl) (by kernel_rfl) (by kernel_rfl) (fun _ _ _ h => h) (Or.inl ⟨by rfl, ?_⟩) (by assumption) ?_
        rotate_left
        · intro w hSw
          (try dsimp only at hSw)
          go_simp
          (try with_reducible rfl)
        (try simp only [Act.put, List.setIfInBounds_toArray, List.set_cons_zero, List.set_cons_succ])
        refine wpAnyH_take (i := 19) (oi := { dst := some 72, op := Op.move (Operand.tmp 4), type := 23, pos := "laws.go:560", after := #[{ on := 18, ground := Ground.guard }], guard := some (18, true) }) (v := ?_) rfl (by kernel_rfl) (by kernel_rfl) (by kernel_rfl) (fun _ _ _ h => h) (Or.inl ⟨by rfl, ?_⟩) (by assumption) ?_
        rotate_left
        · intro w hSw
          (try dsimp only at hSw)
          go_simp
          (try with_reducible rfl)
        (try simp only [Act.put, List.setIfInBounds_toArray, List.set_cons_zero, List.set_cons_succ])
        refine wpAnyH_take (i := 20) (oi := { dst := some 73, op := Op.indexAddr 23 (Operand.tmp 72) (Operand.const (Value.int IntKind.i64 0)), type := 0, pos := "laws.go:560", after := #[{ on := 19, ground := Ground.data }, { on := 18, ground := Ground.guard }], guard := some (18, true) }) (v := ?_) rfl (by kernel_rfl) (by kernel_rfl) (by kernel_rfl) (fun _ _ _ h => h) (Or.inl ⟨by rfl, ?_⟩) (by assumption) ?_
        rotate_left
        · intro w hSw
          (try dsimp only at hSw)
          go_simp
          (try with_reducible rfl)
        (try simp only [Act.put, List.setIfInBounds_toArray, List.set_cons_zero, List.set_cons_succ])
        refine wpAnyH_take (i := 21) (oi := { dst := some 74, op := Op.load 3 (Operand.tmp 73), type := 3, pos := "laws.go:560", after := #[{ on := 20, ground := Ground.data }, { on := 18, ground := Ground.guard }], guard := some (18, true) }) (v := ?_) rfl (by kernel_rfl) (by kernel_rfl) (by kernel_rfl) (fun _ _ _ h => h) (Or.inl ⟨by rfl, ?_⟩) (by assumption) ?_
        rotate_left
        · intro w hSw
          (try dsimp only at hSw)
          go_simp
          (try with_reducible rfl)
        (try simp only [Act.put, List.setIfInBounds_toArray, List.set_cons_zero, List.set_cons_succ])
        refine wpAnyH_take (i := 22) (oi := { dst := some 75, op := Op.move (Operand.tmp 3), type := 23, pos := "laws.go:560", after := #[{ on := 18, ground := Ground.guard }], guard := some (18, true) }) (v := ?_) rfl (by kernel_rfl) (by kernel_rfl) (by kernel_rfl) (fun _ _ _ h => h) (Or.inl ⟨by rfl, ?_⟩) (by assumption) ?_
        rotate_left
        · intro w hSw
          (try dsimp only at hSw)
          go_simp
          (try with_reducible rfl)
        (try simp only [Act.put, List.setIfInBounds_toArray, List.set_cons_zero, List.set_cons_succ])
        refine wpAnyH_take (i := 23) (oi := { dst := some 76, op := Op.indexAddr 23 (Operand.tmp 75) (Operand.const (Value.int IntKind.i64 0)), type := 0, pos := "laws.go:560", after := #[{ on := 22, ground := Ground.data }, { on := 18, ground := Ground.guard }], guard := some (18, true) }) (v := ?_) rfl (by kernel_rfl) (by kernel_rfl) (by kernel_rfl) (fun _ _ _ h => h) (Or.inl ⟨by rfl, ?_⟩) (by assumption) ?_
        rotate_left
        · intro w hSw
          (try dsimp only at hSw)
          go_simp
          (try with_reducible rfl)
        (try simp only [Act.put, List.setIfInBounds_toArray, List.set_cons_zero, List.set_cons_succ])
        refine wpAnyH_take (i := 24) (oi := { dst := some 77, op := Op.load 3 (Operand.tmp 76), type := 3, pos := "laws.go:560", after := #[{ on := 23, ground := Ground.data }, { on := 18, ground := Ground.guard }], guard := some (18, true) }) (v := ?_) rfl (by kernel_rfl) (by kernel_rfl) (by kernel_rfl) (fun _ _ _ h => h) (Or.inl ⟨by rfl, ?_⟩) (by assumption) ?_
        rotate_left
        · intro w hSw
          (try dsimp only at hSw)
          go_simp
          (try with_reducible rfl)
        (try simp only [Act.put, List.setIfInBounds_toArray, List.set_cons_zero, List.set_cons_succ])
        refine wpAnyH_take (i := 25) (oi := { dst := some 78, op := Op.binOp BinOp.eql 3 (Operand.tmp 74) (Operand.tmp 77) 3, type := 4, pos := "laws.go:560", after := #[{ on := 21, ground := Ground.data }, { on := 24, ground := Ground.data }, { on := 18, ground := Ground.guard }], guard := some (18, true) }) (v := ?_) rfl (by kernel_rfl) (by kernel_rfl) (by kernel_rfl) (fun _ _ _ h => h) (Or.inl ⟨by rfl, ?_⟩) (by assumption) ?_
        rotate_left
        · intro w hSw
          (try dsimp only at hSw)
          go_simp
          (try with_reducible rfl)
        (try simp only [Act.put, List.setIfInBounds_toArray, List.set_cons_zero, List.set_cons_succ])
        refine wpAnyH_take (i := 26) (oi := { dst := some 79, op := Op.pick (Operand.tmp 71) (Operand.tmp 78) (Operand.const (Value.bool false)), type := 4, pos := "laws.go:560", after := #[{ on := 18, ground := Ground.data }, { on := 25, ground := Ground.data }], guard := none }) (v := ?_) rfl (by kernel_rfl) (by kernel_rfl) (by kernel_rfl) (fun _ _ _ h => h) (Or.inl ⟨by rfl, ?_⟩) (by assumption) ?_
        rotate_left
        · intro w hSw
          (try dsimp only at hSw)
          go_simp
          (try with_reducible rfl)
        (try simp only [Act.put, List.setIfInBounds_toArray, List.set_cons_zero, List.set_cons_succ])
        refine wpAnyH_take (i := 27) (oi := { dst := some 80, op := Op.move (Operand.tmp 79), type := 4, pos := "laws.go:560", after := #[{ on := 26, ground := Ground.data }, { on := 18, ground := Ground.chain }], guard := none }) (v := ?_) rfl (by kernel_rfl) (by kernel_rfl) (by kernel_rfl) (fun _ _ _ h => h) (Or.inl ⟨by rfl, ?_⟩) (by assumption) ?_
        rotate_left
        · intro w hSw
          (try dsimp only at hSw)
          go_simp
          (try with_reducible rfl)
        (try simp only [Act.put, List.setIfInBounds_toArray, List.set_cons_zero, List.set_cons_succ])
        refine wpAnyH_take (i := 28) (oi := { dst := some 81, op := Op.move (Operand.tmp 5), type := 23, pos := "laws.go:560", after := #[{ on := 27, ground := Ground.guard }], guard := some (27, true) }) (v := ?_) rfl (by kernel_rfl) (by kernel_rfl) (by kernel_rfl) (fun _ _ _ h => h) (Or.inl ⟨by rfl, ?_⟩) (by assumption) ?_
        rotate_left
        · intro w hSw
          (try dsimp only at hSw)
          go_simp
          (try with_reducible rfl)
        (try simp only [Act.put, List.setIfInBounds_toArray, List.set_cons_zero, List.set_cons_succ])
        refine wpAnyH_take (i := 29) (oi := { dst := some 82, op := Op.move (Operand.tmp 5), type := 23, pos := "laws.go:560", after := #[{ on := 27, ground := Ground.guard }], guard := some (27, true) }) (v := ?_) rfl (by kernel_rfl) (by kernel_rfl) (by kernel_rfl) (fun _ _ _ h => h) (Or.inl ⟨by rfl, ?_⟩) (by assumption) ?_
        rotate_left
        · intro w hSw
          (try dsimp only at hSw)
          go_simp
          (try with_reducible rfl)
        (try simp only [Act.put, List.setIfInBounds_toArray, List.set_cons_zero, List.set_cons_succ])
        refine wpAnyH_take (i := 30) (oi := { dst := some 83, op := Op.call { callee := Callee.builtin Builtin.len, args := #[Operand.tmp 82], argTypes := #[23] }, type := 3, pos := "laws.go:560", after := #[{ on := 29, ground := Ground.data }, { on := 27, ground := Ground.guard }], guard := some (27, true) }) (v := ?_) rfl (by kernel_rfl) (by kernel_rfl) (by kernel_rfl) (fun _ _ _ h => h) (Or.inl ⟨by rfl, ?_⟩) (by assumption) ?_
        rotate_left
        · intro w hSw
          (try dsimp only at hSw)
          go_simp
          (try with_reducible rfl)
        (try simp only [Act.put, List.setIfInBounds_toArray, List.set_cons_zero, List.set_cons_succ])
        refine wpAnyH_take (i := 31) (oi := { dst := some 84, op := Op.binOp BinOp.sub 3 (Operand.tmp 83) (Operand.const (Value.int IntKind.i64 1)) 3, type := 3, pos := "laws.go:560", after := #[{ on := 30, ground := Ground.data }, { on := 27, ground := Ground.guard }], guard := some (27, true) }) (v := ?_) rfl (by kernel_rfl) (by kernel_rfl) (by kernel_rfl) (fun _ _ _ h => h) (Or.inl ⟨by rfl, ?_⟩) (by assumption) ?_
        rotate_left
        · intro w hSw
          (try dsimp only at hSw)
          go_simp
          (try with_reducible rfl)
        (try simp only [Act.put, List.setIfInBounds_toArray, List.set_cons_zero, List.set_cons_succ])
        refine wpAnyH_take (i := 32) (oi := { dst := some 85, op := Op.indexAddr 23 (Operand.tmp 81) (Operand.tmp 84), type := 0, pos := "laws.go:560", after := #[{ on := 28, ground := Ground.data }, { on := 31, ground := Ground.data }, { on := 27, ground := Ground.guard }], guard := some (27, true) }) (v := ?_) rfl (by kernel_rfl) (by kernel_rfl) (by kernel_rfl) (fun _ _ _ h => h) (Or.inl ⟨by rfl, ?_⟩) (by assumption) ?_
        rotate_left
        · intro w hSw
          (try dsimp only at hSw)
          go_simp
          (try with_reducible rfl)
        (try simp only [Act.put, List.setIfInBounds_toArray, List.set_cons_zero, List.set_cons_succ])
        refine wpAnyH_take (i := 33) (oi := { dst := some 86, op := Op.load 3 (Operand.tmp 85), type := 3, pos := "laws.go:560", after := #[{ on := 32, ground := Ground.data }, { on := 27, ground := Ground.guard }], guard := some (27, true) }) (v := ?_) rfl (by kernel_rfl) (by kernel_rfl) (by kernel_rfl) (fun _ _ _ h => h) (Or.inl ⟨by rfl, ?_⟩) (by assumption) ?_
        rotate_left
        · intro w hSw
          (try dsimp only at hSw)
          go_simp
          (try with_reducible rfl)
        (try simp only [Act.put, List.setIfInBounds_toArray, List.set_cons_zero, List.set_cons_succ])
        refine wpAnyH_take (i := 34) (oi := { dst := some 87, op := Op.move (Operand.tmp 3), type := 23, pos := "laws.go:560", after := #[{ on := 27, ground := Ground.guard }], guard := some (27, true) }) (v := ?_) rfl (by kernel_rfl) (by kernel_rfl) (by kernel_rfl) (fun _ _ _ h => h) (Or.inl ⟨by rfl, ?_⟩) (by assumption) ?_
        rotate_left
        · intro w hSw
          (try dsimp only at hSw)
          go_simp
          (try with_reducible rfl)
        (try simp only [Act.put, List.setIfInBounds_toArray, List.set_cons_zero, List.set_cons_succ])
        refine wpAnyH_take (i := 35) (oi := { dst := some 88, op := Op.move (Operand.tmp 3), type := 23, pos := "laws.go:560", after := #[{ on := 27, ground := Ground.guard }], guard := some (27, true) }) (v := ?_) rfl (by kernel_rfl) (by kernel_rfl) (by kernel_rfl) (fun _ _ _ h => h) (Or.inl ⟨by rfl, ?_⟩) (by assumption) ?_
        rotate_left
        · intro w hSw
          (try dsimp only at hSw)
          go_simp
          (try with_reducible rfl)
        (try simp only [Act.put, List.setIfInBounds_toArray, List.set_cons_zero, List.set_cons_succ])
        refine wpAnyH_take (i := 36) (oi := { dst := some 89, op := Op.call { callee := Callee.builtin Builtin.len, args := #[Operand.tmp 88], argTypes := #[23] }, type := 3, pos := "laws.go:560", after := #[{ on := 35, ground := Ground.data }, { on := 27, ground := Ground.guard }], guard := some (27, true) }) (v := ?_) rfl (by kernel_rfl) (by kernel_rfl) (by kernel_rfl) (fun _ _ _ h => h) (Or.inl ⟨by rfl, ?_⟩) (by assumption) ?_
        rotate_left
        · intro w hSw
          (try dsimp only at hSw)
          go_simp
          (try with_reducible rfl)
        (try simp only [Act.put, List.setIfInBounds_toArray, List.set_cons_zero, List.set_cons_succ])
        refine wpAnyH_take (i := 37) (oi := { dst := some 90, op := Op.binOp BinOp.sub 3 (Operand.tmp 89) (Operand.const (Value.int IntKind.i64 1)) 3, type := 3, pos := "laws.go:560", after := #[{ on := 36, ground := Ground.data }, { on := 27, ground := Ground.guard }], guard := some (27, true) }) (v := ?_) rfl (by kernel_rfl) (by kernel_rfl) (by kernel_rfl) (fun _ _ _ h => h) (Or.inl ⟨by rfl, ?_⟩) (by assumption) ?_
        rotate_left
        · intro w hSw
          (try dsimp only at hSw)
          go_simp
          (try with_reducible rfl)
        (try simp only [Act.put, List.setIfInBounds_toArray, List.set_cons_zero, List.set_cons_succ])
        refine wpAnyH_take (i := 38) (oi := { dst := some 91, op := Op.indexAddr 23 (Operand.tmp 87) (Operand.tmp 90), type := 0, pos := "laws.go:560", after := #[{ on := 34, ground := Ground.data }, { on := 37, ground := Ground.data }, { on := 27, ground := Ground.guard }], guard := some (27, true) }) (v := ?_) rfl (by kernel_rfl) (by kernel_rfl) (by kernel_rfl) (fun _ _ _ h => h) (Or.inl ⟨by rfl, ?_⟩) (by assumption) ?_
        rotate_left
        · intro w hSw
          (try dsimp only at hSw)
          go_simp
          (try with_reducible rfl)
        (try simp only [Act.put, List.setIfInBounds_toArray, List.set_cons_zero, List.set_cons_succ])
        refine wpAnyH_take (i := 39) (oi := { dst := some 92, op := Op.load 3 (Operand.tmp 91), type := 3, pos := "laws.go:560", after := #[{ on := 38, ground := Ground.data }, { on := 27, ground := Ground.guard }], guard := some (27, true) }) (v := ?_) rfl (by kernel_rfl) (by kernel_rfl) (by kernel_rfl) (fun _ _ _ h => h) (Or.inl ⟨by rfl, ?_⟩) (by assumption) ?_
        rotate_left
        · intro w hSw
          (try dsimp only at hSw)
          go_simp
          (try with_reducible rfl)
        (try simp only [Act.put, List.setIfInBounds_toArray, List.set_cons_zero, List.set_cons_succ])
        refine wpAnyH_take (i := 40) (oi := { dst := some 93, op := Op.binOp BinOp.eql 3 (Operand.tmp 86) (Operand.tmp 92) 3, type := 4, pos := "laws.go:560", after := #[{ on := 33, ground := Ground.data }, { on := 39, ground := Ground.data }, { on := 27, ground := Ground.guard }], guard := some (27, true) }) (v := ?_) rfl (by kernel_rfl) (by kernel_rfl) (by kernel_rfl) (fun _ _ _ h => h) (Or.inl ⟨by rfl, ?_⟩) (by assumption) ?_
        rotate_left
        · intro w hSw
          (try dsimp only at hSw)
          go_simp
          (try with_reducible rfl)
        (try simp only [Act.put, List.setIfInBounds_toArray, List.set_cons_zero, List.set_cons_succ])
        refine wpAnyH_take (i := 41) (oi := { dst := some 94, op := Op.pick (Operand.tmp 80) (Operand.tmp 93) (Operand.const (Value.bool false)), type := 4, pos := "laws.go:560", after := #[{ on := 27, ground := Ground.data }, { on := 40, ground := Ground.data }], guard := none }) (v := ?_) rfl (by kernel_rfl) (by kernel_rfl) (by kernel_rfl) (fun _ _ _ h => h) (Or.inl ⟨by rfl, ?_⟩) (by assumption) ?_
        rotate_left
        · intro w hSw
          (try dsimp only at hSw)
          go_simp
          (try with_reducible rfl)
        (try simp only [Act.put, List.setIfInBounds_toArray, List.set_cons_zero, List.set_cons_succ])
        refine wpAnyH_take (i := 42) (oi := { dst := some 2, op := Op.assign (Operand.tmp 94), type := 4, pos := "laws.go:560", after := #[{ on := 41, ground := Ground.data }, { on := 27, ground := Ground.chain }, { on := 0, ground := Ground.phase }, { on := 1, ground := Ground.phase }, { on := 2, ground := Ground.phase }, { on := 3, ground := Ground.phase }, { on := 4, ground := Ground.phase }, { on := 5, ground := Ground.phase }, { on := 6, ground := Ground.phase }, { on := 7, ground := Ground.phase }, { on := 8, ground := Ground.phase }, { on := 9, ground := Ground.phase }, { on := 10, ground := Ground.phase }, { on := 11, ground := Ground.phase }, { on := 12, ground := Ground.phase }, { on := 13, ground := Ground.phase }, { on := 14, ground := Ground.phase }, { on := 15, ground := Ground.phase }, { on := 16, ground := Ground.phase }, { on := 17, ground := Ground.phase }, { on := 18, ground := Ground.phase }, { on := 19, ground := Ground.phase }, { on := 20, ground := Ground.phase }, { on := 21, ground := Ground.phase }, { on := 22, ground := Ground.phase }, { on := 23, ground := Ground.phase }, { on := 24, ground := Ground.phase }, { on := 25, ground := Ground.phase }, { on := 26, ground := Ground.phase }, { on := 27, ground := Ground.phase }, { on := 28, ground := Ground.phase }, { on := 29, ground := Ground.phase }, { on := 30, ground := Ground.phase }, { on := 31, ground := Ground.phase }, { on := 32, ground := Ground.phase }, { on := 33, ground := Ground.phase }, { on := 34, ground := Ground.phase }, { on := 35, ground := Ground.phase }, { on := 36, ground := Ground.phase }, { on := 37, ground := Ground.phase }, { on := 38, ground := Ground.phase }, { on := 39, ground := Ground.phase }, { on := 40, ground := Ground.phase }, { on := 41, ground := Ground.phase }], guard := none }) (v := ?_) rfl (by kernel_rfl) (by kernel_rfl) (by kernel_rfl) (fun _ _ _ h => h) (Or.inl ⟨by rfl, ?_⟩) (by assumption) ?_
        rotate_left
        · intro w hSw
          (try dsimp only at hSw)
          go_simp
          (try with_reducible rfl)
        (try simp only [Act.put, List.setIfInBounds_toArray, List.set_cons_zero, List.set_cons_succ])
        refine wpAnyH_done (by kernel_rfl) ?_ _
        clear HS0
        go_wp2_with fail
        go_ret
        exact ⟨by simp, HBB.out.trans (Below.mono (And.left (by assumption)) HBB.out.size)⟩
      · have HQ := Lib.hid (show tableB qs = false by simpa using hq)
        clear hq
        have HXx := Lib.hid (fun W (h : Row W Aa n ps) => iSumsBelow_any Aa n Ca ps W h (by omega))
        rw [toldN_no HP.out, told_no HP.out] at HXx
        go_wp2_with fail
        refine (HXx.out _ Ra).mono ?_
        rintro e w8 ⟨Ax, Cx, rfl, Ox, b8⟩
        replace Rl := Rl.below b8
        replace Ra := Ra.below b8
        replace Rb := Rb.below b8
        replace BB := BB.trans (b8.mono BB.size)
        have Rx := Ox.row
        clear Ox HXx
        have HXy := Lib.hid (fun W (h : Row W Ab n qs) => iSumsAbove_any Ab n Cb qs W h (by omega))
        rw [toldN_no HQ.out, told_no HQ.out] at HXy
        go_wp2_with fail
        refine (HXy.out _ Rb).mono ?_
        rintro e w9 ⟨Ay, Cy, rfl, Oy, b9⟩
        replace Rl := Rl.below b9
        replace Ra := Ra.below b9
        replace Rb := Rb.below b9
        replace Rx := Rx.below b9
        replace BB := BB.trans (b9.mono BB.size)
        have Ry := Oy.row
        clear Oy HXy
        obtain ⟨b0, off0, rfl⟩ := Rl.form (by omega)
        obtain ⟨ba, offa, rfl⟩ := Ra.form (by omega)
        obtain ⟨bb, offb, rfl⟩ := Rb.form (by omega)
        have HBB := Lib.hid BB
        clear BB 
        obtain ⟨z, hz⟩ : ∃ z : Nat, z = n - 1 := ⟨_, rfl⟩
        have hzn : z < n := by omega
        have hzw : IntKind.i64.wrap ((n : Int) - 1) = (z : Int) := by rw [show (n : Int) - 1 = (z : Int) by omega]; exact IntWalk.i64_in _ (by omega)
        rw [← hz] at HP2
        obtain ⟨v0, hv0⟩ : ∃ v, v = xs.getD 0 0 := ⟨_, rfl⟩
        obtain ⟨v1, hv1⟩ : ∃ v, v = xs.getD z 0 := ⟨_, rfl⟩
        have HCa := Lib.hid (fun W (h : Below w9.heap.size w9 W) => Ra.cellAt h (k := 0) (by omega))
        have HCl := Lib.hid (fun W (h : Below w9.heap.size w9 W) => Rl.cellAt h (k := 0) (by omega))
        have HCb := Lib.hid (fun W (h : Below w9.heap.size w9 W) => Rb.cellAt h hzn)
        have HCm := Lib.hid (fun W (h : Below w9.heap.size w9 W) => Rl.cellAt h hzn)
        rw [HP1.out, ← hv0] at HCa
        rw [← hv0] at HCl
        rw [HP2.out, ← hv1] at HCb
        rw [← hv1] at HCm
        have hzi : (z : Int) < (n : Int) := by omega
        have hn0 : (0 : Int) < (n : Int) := by omega
        have hn1 : 0 < n := by omega
        have HRx := Lib.hid Rx
        have HRy := Lib.hid Ry
        have HRl := Lib.hid Rl
        clear hv0 hv1 hz Ra Rb Rl Rx Ry
        have HIS : Hid (∀ W, Below w9.heap.size w9 W → Below w9.heap.size w9 W ∧ W.cell? ⟨ba, offa, none⟩ = some (.int .i64 v0) ∧ W.cell? ⟨b0, off0, none⟩ = some (.int .i64 v0) ∧ W.cell? ⟨bb, offb + z, none⟩ = some (.int .i64 v1) ∧ W.cell? ⟨b0, off0 + z, none⟩ = some (.int .i64 v1)) := fun W h => ⟨h, HCa.out W h, HCl.out W h, HCb.out W h, HCm.out W h⟩
        have HKS : Hid (∀ W W', Below W.heap.size W W' → (Below w9.heap.size w9 W ∧ W.cell? ⟨ba, offa, none⟩ = some (.int .i64 v0) ∧ W.cell? ⟨b0, off0, none⟩ = some (.int .i64 v0) ∧ W.cell? ⟨bb, offb + z, none⟩ = some (.int .i64 v1) ∧ W.cell? ⟨b0, off0 + z, none⟩ = some (.int .i64 v1)) → Below w9.heap.size w9 W' ∧ W'.cell? ⟨ba, offa, none⟩ = some (.int .i64 v0) ∧ W'.cell? ⟨b0, off0, none⟩ = some (.int .i64 v0) ∧ W'.cell? ⟨bb, offb + z, none⟩ = some (.int .i64 v1) ∧ W'.cell? ⟨b0, off0 + z, none⟩ = some (.int .i64 v1)) := fun W W' b h => HIS.out W' (h.1.trans (b.mono h.1.size))
        have HS0 := Lib.hid (HIS.out _ ((Below.refl _ _).drew))
        go_wp2_with fail
        refine wp_region_held_drew (S := fun W => Below w9.heap.size w9 W ∧ W.cell? ⟨ba, offa, none⟩ = some (.int .i64 v0) ∧ W.cell? ⟨b0, off0, none⟩ = some (.int .i64 v0) ∧ W.cell? ⟨bb, offb + z, none⟩ = some (.int .i64 v1) ∧ W.cell? ⟨b0, off0 + z, none⟩ = some (.int .i64 v1)) (by kernel_rfl) ?_ (fun hHeld => ?_)
        · exact HS0.out
        refine wpAnyH_take (i := 0) (oi := { dst := some 53, op := Op.move (Operand.tmp 6), type := 23, pos := "laws.go:560", after := #[], guard := none }) (v := ?_) rfl (by kernel_rfl) (by kernel_rfl) (by kernel_rfl) (fun _ _ _ h => h) (Or.inl ⟨by rfl, ?_⟩) (by assumption) ?_
        rotate_left
        · intro w hSw
          (try dsimp only at hSw)
          go_simp
          (try with_reducible rfl)
        (try simp only [Act.put, List.setIfInBounds_toArray, List.set_cons_zero, List.set_cons_succ])
        refine wpAnyH_take (i := 1) (oi := { dst := some 54, op := Op.call { callee := Callee.builtin Builtin.len, args := #[Operand.tmp 53], argTypes := #[23] }, type := 3, pos := "laws.go:560", after := #[{ on := 0, ground := Ground.data }], guard := none }) (v := ?_) rfl (by kernel_rfl) (by kernel_rfl) (by kernel_rfl) (fun _ _ _ h => h) (Or.inl ⟨by rfl, ?_⟩) (by assumption) ?_
        rotate_left
        · intro w hSw
          (try dsimp only at hSw)
          go_simp
          (try with_reducible rfl)
        (try simp only [Act.put, List.setIfInBounds_toArray, List.set_cons_zero, List.set_cons_succ])
        refine wpAnyH_take (i := 2) (oi := { dst := some 55, op := Op.binOp BinOp.eql 3 (Operand.tmp 54) (Operand.const (Value.int IntKind.i64 0)) 3, type := 4, pos := "laws.go:560", after := #[{ on := 1, ground := Ground.data }], guard := none }) (v := ?_) rfl (by kernel_rfl) (by kernel_rfl) (by kernel_rfl) (fun _ _ _ h => h) (Or.inl ⟨by rfl, ?_⟩) (by assumption) ?_
        rotate_left
        · intro w hSw
          (try dsimp only at hSw)
          go_simp
          (try with_reducible rfl)
        (try simp only [Act.put, List.setIfInBounds_toArray, List.set_cons_zero, List.set_cons_succ])
        refine wpAnyH_take (i := 3) (oi := { dst := some 56, op := Op.move (Operand.tmp 55), type := 4, pos := "laws.go:560", after := #[{ on := 2, ground := Ground.data }], guard := none }) (v := ?_) rfl (by kernel_rfl) (by kernel_rfl) (by kernel_rfl) (fun _ _ _ h => h) (Or.inl ⟨by rfl, ?_⟩) (by assumption) ?_
        rotate_left
        · intro w hSw
          (try dsimp only at hSw)
          go_simp
          (try with_reducible rfl)
        (try simp only [Act.put, List.setIfInBounds_toArray, List.set_cons_zero, List.set_cons_succ])
        refine wpAnyH_take (i := 4) (oi := { dst := some 57, op := Op.move (Operand.tmp 6), type := 23, pos := "laws.go:560", after := #[{ on := 3, ground := Ground.guard }], guard := some (3, false) }) (v := undef) rfl (by kernel_rfl) (by kernel_rfl) (by kernel_rfl) (fun _ _ _ h => h) (Or.inr ⟨by rfl, rfl⟩) (by assumption) ?_
        (try simp only [Act.put, List.setIfInBounds_toArray, List.set_cons_zero, List.set_cons_succ])
        refine wpAnyH_take (i := 5) (oi := { dst := some 58, op := Op.move (Operand.tmp 3), type := 23, pos := "laws.go:560", after := #[{ on := 3, ground := Ground.guard }], guard := some (3, false) }) (v := undef) rfl (by kernel_rfl) (by kernel_rfl) (by kernel_rfl) (fun _ _ _ h => h) (Or.inr ⟨by rfl, rfl⟩) (by assumption) ?_
        (try simp only [Act.put, List.setIfInBounds_toArray, List.set_cons_zero, List.set_cons_succ])
        refine wpAnyH_take (i := 6) (oi := { dst := some 59, op := Op.call { callee := Callee.value (Operand.func 54), args := #[Operand.tmp 57, Operand.tmp 58], argTypes := #[23, 23] }, type := 4, pos := "laws.go:560", after := #[{ on := 4, ground := Ground.data }, { on := 5, ground := Ground.data }, { on := 3, ground := Ground.chain }, { on := 3, ground := Ground.guard }], guard := some (3, false) }) (v := undef) rfl (by kernel_rfl) (by kernel_rfl) (by kernel_rfl) (fun _ _ _ h => h) (Or.inr ⟨by rfl, rfl⟩) (by assumption) ?_
        (try simp only [Act.put, List.setIfInBounds_toArray, List.set_cons_zero, List.set_cons_succ])
        refine wpAnyH_take (i := 7) (oi := { dst := some 60, op := Op.pick (Operand.tmp 56) (Operand.const (Value.bool true)) (Operand.tmp 59), type := 4, pos := "laws.go:560", after := #[{ on := 3, ground := Ground.data }, { on := 6, ground := Ground.data }], guard := none }) (v := ?_) rfl (by kernel_rfl) (by kernel_rfl) (by kernel_rfl) (fun _ _ _ h => h) (Or.inl ⟨by rfl, ?_⟩) (by assumption) ?_
        rotate_left
        · intro w hSw
          (try dsimp only at hSw)
          go_simp
          (try with_reducible rfl)
        (try simp only [Act.put, List.setIfInBounds_toArray, List.set_cons_zero, List.set_cons_succ])
        refine wpAnyH_take (i := 8) (oi := { dst := some 61, op := Op.move (Operand.tmp 60), type := 4, pos := "laws.go:560", after := #[{ on := 7, ground := Ground.data }, { on := 6, ground := Ground.chain }], guard := none }) (v := ?_) rfl (by kernel_rfl) (by kernel_rfl) (by kernel_rfl) (fun _ _ _ h => h) (Or.inl ⟨by rfl, ?_⟩) (by assumption) ?_
        rotate_left
        · intro w hSw
          (try dsimp only at hSw)
          go_simp
          (try with_reducible rfl)
        (try simp only [Act.put, List.setIfInBounds_toArray, List.set_cons_zero, List.set_cons_succ])
        refine wpAnyH_take (i := 9) (oi := { dst := some 62, op := Op.move (Operand.tmp 7), type := 23, pos := "laws.go:560", after := #[{ on := 8, ground := Ground.guard }], guard := some (8, true) }) (v := ?_) rfl (by kernel_rfl) (by kernel_rfl) (by kernel_rfl) (fun _ _ _ h => h) (Or.inl ⟨by rfl, ?_⟩) (by assumption) ?_
        rotate_left
        · intro w hSw
          (try dsimp only at hSw)
          go_simp
          (try with_reducible rfl)
        (try simp only [Act.put, List.setIfInBounds_toArray, List.set_cons_zero, List.set_cons_succ])
        refine wpAnyH_take (i := 10) (oi := { dst := some 63, op := Op.call { callee := Callee.builtin Builtin.len, args := #[Operand.tmp 62], argTypes := #[23] }, type := 3, pos := "laws.go:560", after := #[{ on := 9, ground := Ground.data }, { on := 8, ground := Ground.guard }], guard := some (8, true) }) (v := ?_) rfl (by kernel_rfl) (by kernel_rfl) (by kernel_rfl) (fun _ _ _ h => h) (Or.inl ⟨by rfl, ?_⟩) (by assumption) ?_
        rotate_left
        · intro w hSw
          (try dsimp only at hSw)
          go_simp
          (try with_reducible rfl)
        (try simp only [Act.put, List.setIfInBounds_toArray, List.set_cons_zero, List.set_cons_succ])
        refine wpAnyH_take (i := 11) (oi := { dst := some 64, op := Op.binOp BinOp.eql 3 (Operand.tmp 63) (Operand.const (Value.int IntKind.i64 0)) 3, type := 4, pos := "laws.go:560", after := #[{ on := 10, ground := Ground.data }, { on := 8, ground := Ground.guard }], guard := some (8, true) }) (v := ?_) rfl (by kernel_rfl) (by kernel_rfl) (by kernel_rfl) (fun _ _ _ h => h) (Or.inl ⟨by rfl, ?_⟩) (by assumption) ?_
        rotate_left
        · intro w hSw
          (try dsimp only at hSw)
          go_simp
          (try with_reducible rfl)
        (try simp only [Act.put, List.setIfInBounds_toArray, List.set_cons_zero, List.set_cons_succ])
        refine wpAnyH_take (i := 12) (oi := { dst := some 65, op := Op.move (Operand.tmp 64), type := 4, pos := "laws.go:560", after := #[{ on := 11, ground := Ground.data }, { on := 8, ground := Ground.chain }, { on := 8, ground := Ground.guard }], guard := some (8, true) }) (v := ?_) rfl (by kernel_rfl) (by kernel_rfl) (by kernel_rfl) (fun _ _ _ h => h) (Or.inl ⟨by rfl, ?_⟩) (by assumption) ?_
        rotate_left
        · intro w hSw
          (try dsimp only at hSw)
          go_simp
          (try with_reducible rfl)
        (try simp only [Act.put, List.setIfInBounds_toArray, List.set_cons_zero, List.set_cons_succ])
        refine wpAnyH_take (i := 13) (oi := { dst := some 66, op := Op.move (Operand.tmp 7), type := 23, pos := "laws.go:560", after := #[{ on := 12, ground := Ground.guard }], guard := some (12, false) }) (v := undef) rfl (by kernel_rfl) (by kernel_rfl) (by kernel_rfl) (fun _ _ _ h => h) (Or.inr ⟨by rfl, rfl⟩) (by assumption) ?_
        (try simp only [Act.put, List.setIfInBounds_toArray, List.set_cons_zero, List.set_cons_succ])
        refine wpAnyH_take (i := 14) (oi := { dst := some 67, op := Op.move (Operand.tmp 3), type := 23, pos := "laws.go:560", after := #[{ on := 12, ground := Ground.guard }], guard := some (12, false) }) (v := undef) rfl (by kernel_rfl) (by kernel_rfl) (by kernel_rfl) (fun _ _ _ h => h) (Or.inr ⟨by rfl, rfl⟩) (by assumption) ?_
        (try simp only [Act.put, List.setIfInBounds_toArray, List.set_cons_zero, List.set_cons_succ])
        refine wpAnyH_take (i := 15) (oi := { dst := some 68, op := Op.call { callee := Callee.value (Operand.func 54), args := #[Operand.tmp 66, Operand.tmp 67], argTypes := #[23, 23] }, type := 4, pos := "laws.go:560", after := #[{ on := 13, ground := Ground.data }, { on := 14, ground := Ground.data }, { on := 12, ground := Ground.chain }, { on := 12, ground := Ground.guard }], guard := some (12, false) }) (v := undef) rfl (by kernel_rfl) (by kernel_rfl) (by kernel_rfl) (fun _ _ _ h => h) (Or.inr ⟨by rfl, rfl⟩) (by assumption) ?_
        (try simp only [Act.put, List.setIfInBounds_toArray, List.set_cons_zero, List.set_cons_succ])
        refine wpAnyH_take (i := 16) (oi := { dst := some 69, op := Op.pick (Operand.tmp 65) (Operand.const (Value.bool true)) (Operand.tmp 68), type := 4, pos := "laws.go:560", after := #[{ on := 12, ground := Ground.data }, { on := 15, ground := Ground.data }, { on := 8, ground := Ground.guard }], guard := some (8, true) }) (v := ?_) rfl (by kernel_rfl) (by kernel_rfl) (by kernel_rfl) (fun _ _ _ h => h) (Or.inl ⟨by rfl, ?_⟩) (by assumption) ?_
        rotate_left
        · intro w hSw
          (try dsimp only at hSw)
          go_simp
          (try with_reducible rfl)
        (try simp only [Act.put, List.setIfInBounds_toArray, List.set_cons_zero, List.set_cons_succ])
        refine wpAnyH_take (i := 17) (oi := { dst := some 70, op := Op.pick (Operand.tmp 61) (Operand.tmp 69) (Operand.const (Value.bool false)), type := 4, pos := "laws.go:560", after := #[{ on := 8, ground := Ground.data }, { on := 16, ground := Ground.data }], guard := none }) (v := ?_) rfl (by kernel_rfl) (by kernel_rfl) (by kernel_rfl) (fun _ _ _ h => h) (Or.inl ⟨by rfl, ?_⟩) (by assumption) ?_
        rotate_left
        · intro w hSw
          (try dsimp only at hSw)
          go_simp
          (try with_reducible rfl)
        (try simp only [Act.put, List.setIfInBounds_toArray, List.set_cons_zero, List.set_cons_succ])
        refine wpAnyH_take (i := 18) (oi := { dst := some 71, op := Op.move (Operand.tmp 70), type := 4, pos := "laws.go:560", after := #[{ on := 17, ground := Ground.data }, { on := 15, ground := Ground.chain }], guard := none }) (v := ?_) rfl (by kernel_rfl) (by kernel_rfl) (by kernel_rfl) (fun _ _ _ h => h) (Or.inl ⟨by rfl, ?_⟩) (by assumption) ?_
        rotate_left
        · intro w hSw
          (try dsimp only at hSw)
          go_simp
          (try with_reducible rfl)
        (try simp only [Act.put, List.setIfInBounds_toArray, List.set_cons_zero, List.set_cons_succ])
        refine wpAnyH_take (i := 19) (oi := { dst := some 72, op := Op.move (Operand.tmp 4), type := 23, pos := "laws.go:560", after := #[{ on := 18, ground := Ground.guard }], guard := some (18, true) }) (v := ?_) rfl (by kernel_rfl) (by kernel_rfl) (by kernel_rfl) (fun _ _ _ h => h) (Or.inl ⟨by rfl, ?_⟩) (by assumption) ?_
        rotate_left
        · intro w hSw
          (try dsimp only at hSw)
          go_simp
          (try with_reducible rfl)
        (try simp only [Act.put, List.setIfInBounds_toArray, List.set_cons_zero, List.set_cons_succ])
        refine wpAnyH_take (i := 20) (oi := { dst := some 73, op := Op.indexAddr 23 (Operand.tmp 72) (Operand.const (Value.int IntKind.i64 0)), type := 0, pos := "laws.go:560", after := #[{ on := 19, ground := Ground.data }, { on := 18, ground := Ground.guard }], guard := some (18, true) }) (v := ?_) rfl (by kernel_rfl) (by kernel_rfl) (by kernel_rfl) (fun _ _ _ h => h) (Or.inl ⟨by rfl, ?_⟩) (by assumption) ?_
        rotate_left
        · intro w hSw
          (try dsimp only at hSw)
          go_simp
          (try with_reducible rfl)
        (try simp only [Act.put, List.setIfInBounds_toArray, List.set_cons_zero, List.set_cons_succ])
        refine wpAnyH_take (i := 21) (oi := { dst := some 74, op := Op.load 3 (Operand.tmp 73), type := 3, pos := "laws.go:560", after := #[{ on := 20, ground := Ground.data }, { on := 18, ground := Ground.guard }], guard := some (18, true) }) (v := ?_) rfl (by kernel_rfl) (by kernel_rfl) (by kernel_rfl) (fun _ _ _ h => h) (Or.inl ⟨by rfl, ?_⟩) (by assumption) ?_
        rotate_left
        · intro w hSw
          (try dsimp only at hSw)
          go_simp
          (try with_reducible rfl)
        (try simp only [Act.put, List.setIfInBounds_toArray, List.set_cons_zero, List.set_cons_succ])
        refine wpAnyH_take (i := 22) (oi := { dst := some 75, op := Op.move (Operand.tmp 3), type := 23, pos := "laws.go:560", after := #[{ on := 18, ground := Ground.guard }], guard := some (18, true) }) (v := ?_) rfl (by kernel_rfl) (by kernel_rfl) (by kernel_rfl) (fun _ _ _ h => h) (Or.inl ⟨by rfl, ?_⟩) (by assumption) ?_
        rotate_left
        · intro w hSw
          (try dsimp only at hSw)
          go_simp
          (try with_reducible rfl)
        (try simp only [Act.put, List.setIfInBounds_toArray, List.set_cons_zero, List.set_cons_succ])
        refine wpAnyH_take (i := 23) (oi := { dst := some 76, op := Op.indexAddr 23 (Operand.tmp 75) (Operand.const (Value.int IntKind.i64 0)), type := 0, pos := "laws.go:560", after := #[{ on := 22, ground := Ground.data }, { on := 18, ground := Ground.guard }], guard := some (18, true) }) (v := ?_) rfl (by kernel_rfl) (by kernel_rfl) (by kernel_rfl) (fun _ _ _ h => h) (Or.inl ⟨by rfl, ?_⟩) (by assumption) ?_
        rotate_left
        · intro w hSw
          (try dsimp only at hSw)
          go_simp
          (try with_reducible rfl)
        (try simp only [Act.put, List.setIfInBounds_toArray, List.set_cons_zero, List.set_cons_succ])
        refine wpAnyH_take (i := 24) (oi := { dst := some 77, op := Op.load 3 (Operand.tmp 76), type := 3, pos := "laws.go:560", after := #[{ on := 23, ground := Ground.data }, { on := 18, ground := Ground.guard }], guard := some (18, true) }) (v := ?_) rfl (by kernel_rfl) (by kernel_rfl) (by kernel_rfl) (fun _ _ _ h => h) (Or.inl ⟨by rfl, ?_⟩) (by assumption) ?_
        rotate_left
        · intro w hSw
          (try dsimp only at hSw)
          go_simp
          (try with_reducible rfl)
        (try simp only [Act.put, List.setIfInBounds_toArray, List.set_cons_zero, List.set_cons_succ])
        refine wpAnyH_take (i := 25) (oi := { dst := some 78, op := Op.binOp BinOp.eql 3 (Operand.tmp 74) (Operand.tmp 77) 3, type := 4, pos := "laws.go:560", after := #[{ on := 21, ground := Ground.data }, { on := 24, ground := Ground.data }, { on := 18, ground := Ground.guard }], guard := some (18, true) }) (v := ?_) rfl (by kernel_rfl) (by kernel_rfl) (by kernel_rfl) (fun _ _ _ h => h) (Or.inl ⟨by rfl, ?_⟩) (by assumption) ?_
        rotate_left
        · intro w hSw
          (try dsimp only at hSw)
          go_simp
          (try with_reducible rfl)
        (try simp only [Act.put, List.setIfInBounds_toArray, List.set_cons_zero, List.set_cons_succ])
        refine wpAnyH_take (i := 26) (oi := { dst := some 79, op := Op.pick (Operand.tmp 71) (Operand.tmp 78) (Operand.const (Value.bool false)), type := 4, pos := "laws.go:560", after := #[{ on := 18, ground := Ground.data }, { on := 25, ground := Ground.data }], guard := none }) (v := ?_) rfl (by kernel_rfl) (by kernel_rfl) (by kernel_rfl) (fun _ _ _ h => h) (Or.inl ⟨by rfl, ?_⟩) (by assumption) ?_
        rotate_left
        · intro w hSw
          (try dsimp only at hSw)
          go_simp
          (try with_reducible rfl)
        (try simp only [Act.put, List.setIfInBounds_toArray, List.set_cons_zero, List.set_cons_succ])
        refine wpAnyH_take (i := 27) (oi := { dst := some 80, op := Op.move (Operand.tmp 79), type := 4, pos := "laws.go:560", after := #[{ on := 26, ground := Ground.data }, { on := 18, ground := Ground.chain }], guard := none }) (v := ?_) rfl (by kernel_rfl) (by kernel_rfl) (by kernel_rfl) (fun _ _ _ h => h) (Or.inl ⟨by rfl, ?_⟩) (by assumption) ?_
        rotate_left
        · intro w hSw
          (try dsimp only at hSw)
          go_simp
          (try with_reducible rfl)
        (try simp only [Act.put, List.setIfInBounds_toArray, List.set_cons_zero, List.set_cons_succ])
        refine wpAnyH_take (i := 28) (oi := { dst := some 81, op := Op.move (Operand.tmp 5), type := 23, pos := "laws.go:560", after := #[{ on := 27, ground := Ground.guard }], guard := some (27, true) }) (v := ?_) rfl (by kernel_rfl) (by kernel_rfl) (by kernel_rfl) (fun _ _ _ h => h) (Or.inl ⟨by rfl, ?_⟩) (by assumption) ?_
        rotate_left
        · intro w hSw
          (try dsimp only at hSw)
          go_simp
          (try with_reducible rfl)
        (try simp only [Act.put, List.setIfInBounds_toArray, List.set_cons_zero, List.set_cons_succ])
        refine wpAnyH_take (i := 29) (oi := { dst := some 82, op := Op.move (Operand.tmp 5), type := 23, pos := "laws.go:560", after := #[{ on := 27, ground := Ground.guard }], guard := some (27, true) }) (v := ?_) rfl (by kernel_rfl) (by kernel_rfl) (by kernel_rfl) (fun _ _ _ h => h) (Or.inl ⟨by rfl, ?_⟩) (by assumption) ?_
        rotate_left
        · intro w hSw
          (try dsimp only at hSw)
          go_simp
          (try with_reducible rfl)
        (try simp only [Act.put, List.setIfInBounds_toArray, List.set_cons_zero, List.set_cons_succ])
        refine wpAnyH_take (i := 30) (oi := { dst := some 83, op := Op.call { callee := Callee.builtin Builtin.len, args := #[Operand.tmp 82], argTypes := #[23] }, type := 3, pos := "laws.go:560", after := #[{ on := 29, ground := Ground.data }, { on := 27, ground := Ground.guard }], guard := some (27, true) }) (v := ?_) rfl (by kernel_rfl) (by kernel_rfl) (by kernel_rfl) (fun _ _ _ h => h) (Or.inl ⟨by rfl, ?_⟩) (by assumption) ?_
        rotate_left
        · intro w hSw
          (try dsimp only at hSw)
          go_simp
          (try with_reducible rfl)
        (try simp only [Act.put, List.setIfInBounds_toArray, List.set_cons_zero, List.set_cons_succ])
        refine wpAnyH_take (i := 31) (oi := { dst := some 84, op := Op.binOp BinOp.sub 3 (Operand.tmp 83) (Operand.const (Value.int IntKind.i64 1)) 3, type := 3, pos := "laws.go:560", after := #[{ on := 30, ground := Ground.data }, { on := 27, ground := Ground.guard }], guard := some (27, true) }) (v := ?_) rfl (by kernel_rfl) (by kernel_rfl) (by kernel_rfl) (fun _ _ _ h => h) (Or.inl ⟨by rfl, ?_⟩) (by assumption) ?_
        rotate_left
        · intro w hSw
          (try dsimp only at hSw)
          go_simp
          (try with_reducible rfl)
        (try simp only [Act.put, List.setIfInBounds_toArray, List.set_cons_zero, List.set_cons_succ])
        refine wpAnyH_take (i := 32) (oi := { dst := some 85, op := Op.indexAddr 23 (Operand.tmp 81) (Operand.tmp 84), type := 0, pos := "laws.go:560", after := #[{ on := 28, ground := Ground.data }, { on := 31, ground := Ground.data }, { on := 27, ground := Ground.guard }], guard := some (27, true) }) (v := ?_) rfl (by kernel_rfl) (by kernel_rfl) (by kernel_rfl) (fun _ _ _ h => h) (Or.inl ⟨by rfl, ?_⟩) (by assumption) ?_
        rotate_left
        · intro w hSw
          (try dsimp only at hSw)
          go_simp
          (try with_reducible rfl)
        (try simp only [Act.put, List.setIfInBounds_toArray, List.set_cons_zero, List.set_cons_succ])
        refine wpAnyH_take (i := 33) (oi := { dst := some 86, op := Op.load 3 (Operand.tmp 85), type := 3, pos := "laws.go:560", after := #[{ on := 32, ground := Ground.data }, { on := 27, ground := Ground.guard }], guard := some (27, true) }) (v := ?_) rfl (by kernel_rfl) (by kernel_rfl) (by kernel_rfl) (fun _ _ _ h => h) (Or.inl ⟨by rfl, ?_⟩) (by assumption) ?_
        rotate_left
        · intro w hSw
          (try dsimp only at hSw)
          go_simp
          (try with_reducible rfl)
        (try simp only [Act.put, List.setIfInBounds_toArray, List.set_cons_zero, List.set_cons_succ])
        refine wpAnyH_take (i := 34) (oi := { dst := some 87, op := Op.move (Operand.tmp 3), type := 23, pos := "laws.go:560", after := #[{ on := 27, ground := Ground.guard }], guard := some (27, true) }) (v := ?_) rfl (by kernel_rfl) (by kernel_rfl) (by kernel_rfl) (fun _ _ _ h => h) (Or.inl ⟨by rfl, ?_⟩) (by assumption) ?_
        rotate_left
        · intro w hSw
          (try dsimp only at hSw)
          go_simp
          (try with_reducible rfl)
        (try simp only [Act.put, List.setIfInBounds_toArray, List.set_cons_zero, List.set_cons_succ])
        refine wpAnyH_take (i := 35) (oi := { dst := some 88, op := Op.move (Operand.tmp 3), type := 23, pos := "laws.go:560", after := #[{ on := 27, ground := Ground.guard }], guard := some (27, true) }) (v := ?_) rfl (by kernel_rfl) (by kernel_rfl) (by kernel_rfl) (fun _ _ _ h => h) (Or.inl ⟨by rfl, ?_⟩) (by assumption) ?_
        rotate_left
        · intro w hSw
          (try dsimp only at hSw)
          go_simp
          (try with_reducible rfl)
        (try simp only [Act.put, List.setIfInBounds_toArray, List.set_cons_zero, List.set_cons_succ])
        refine wpAnyH_take (i := 36) (oi := { dst := some 89, op := Op.call { callee := Callee.builtin Builtin.len, args := #[Operand.tmp 88], argTypes := #[23] }, type := 3, pos := "laws.go:560", after := #[{ on := 35, ground := Ground.data }, { on := 27, ground := Ground.guard }], guard := some (27, true) }) (v := ?_) rfl (by kernel_rfl) (by kernel_rfl) (by kernel_rfl) (fun _ _ _ h => h) (Or.inl ⟨by rfl, ?_⟩) (by assumption) ?_
        rotate_left
        · intro w hSw
          (try dsimp only at hSw)
          go_simp
          (try with_reducible rfl)
        (try simp only [Act.put, List.setIfInBounds_toArray, List.set_cons_zero, List.set_cons_succ])
        refine wpAnyH_take (i := 37) (oi := { dst := some 90, op := Op.binOp BinOp.sub 3 (Operand.tmp 89) (Operand.const (Value.int IntKind.i64 1)) 3, type := 3, pos := "laws.go:560", after := #[{ on := 36, ground := Ground.data }, { on := 27, ground := Ground.guard }], guard := some (27, true) }) (v := ?_) rfl (by kernel_rfl) (by kernel_rfl) (by kernel_rfl) (fun _ _ _ h => h) (Or.inl ⟨by rfl, ?_⟩) (by assumption) ?_
        rotate_left
        · intro w hSw
          (try dsimp only at hSw)
          go_simp
          (try with_reducible rfl)
        (try simp only [Act.put, List.setIfInBounds_toArray, List.set_cons_zero, List.set_cons_succ])
        refine wpAnyH_take (i := 38) (oi := { dst := some 91, op := Op.indexAddr 23 (Operand.tmp 87) (Operand.tmp 90), type := 0, pos := "laws.go:560", after := #[{ on := 34, ground := Ground.data }, { on := 37, ground := Ground.data }, { on := 27, ground := Ground.guard }], guard := some (27, true) }) (v := ?_) rfl (by kernel_rfl) (by kernel_rfl) (by kernel_rfl) (fun _ _ _ h => h) (Or.inl ⟨by rfl, ?_⟩) (by assumption) ?_
        rotate_left
        · intro w hSw
          (try dsimp only at hSw)
          go_simp
          (try with_reducible rfl)
        (try simp only [Act.put, List.setIfInBounds_toArray, List.set_cons_zero, List.set_cons_succ])
        refine wpAnyH_take (i := 39) (oi := { dst := some 92, op := Op.load 3 (Operand.tmp 91), type := 3, pos := "laws.go:560", after := #[{ on := 38, ground := Ground.data }, { on := 27, ground := Ground.guard }], guard := some (27, true) }) (v := ?_) rfl (by kernel_rfl) (by kernel_rfl) (by kernel_rfl) (fun _ _ _ h => h) (Or.inl ⟨by rfl, ?_⟩) (by assumption) ?_
        rotate_left
        · intro w hSw
          (try dsimp only at hSw)
          go_simp
          (try with_reducible rfl)
        (try simp only [Act.put, List.setIfInBounds_toArray, List.set_cons_zero, List.set_cons_succ])
        refine wpAnyH_take (i := 40) (oi := { dst := some 93, op := Op.binOp BinOp.eql 3 (Operand.tmp 86) (Operand.tmp 92) 3, type := 4, pos := "laws.go:560", after := #[{ on := 33, ground := Ground.data }, { on := 39, ground := Ground.data }, { on := 27, ground := Ground.guard }], guard := some (27, true) }) (v := ?_) rfl (by kernel_rfl) (by kernel_rfl) (by kernel_rfl) (fun _ _ _ h => h) (Or.inl ⟨by rfl, ?_⟩) (by assumption) ?_
        rotate_left
        · intro w hSw
          (try dsimp only at hSw)
          go_simp
          (try with_reducible rfl)
        (try simp only [Act.put, List.setIfInBounds_toArray, List.set_cons_zero, List.set_cons_succ])
        refine wpAnyH_take (i := 41) (oi := { dst := some 94, op := Op.pick (Operand.tmp 80) (Operand.tmp 93) (Operand.const (Value.bool false)), type := 4, pos := "laws.go:560", after := #[{ on := 27, ground := Ground.data }, { on := 40, ground := Ground.data }], guard := none }) (v := ?_) rfl (by kernel_rfl) (by kernel_rfl) (by kernel_rfl) (fun _ _ _ h => h) (Or.inl ⟨by rfl, ?_⟩) (by assumption) ?_
        rotate_left
        · intro w hSw
          (try dsimp only at hSw)
          go_simp
          (try with_reducible rfl)
        (try simp only [Act.put, List.setIfInBounds_toArray, List.set_cons_zero, List.set_cons_succ])
        refine wpAnyH_take (i := 42) (oi := { dst := some 2, op := Op.assign (Operand.tmp 94), type := 4, pos := "laws.go:560", after := #[{ on := 41, ground := Ground.data }, { on := 27, ground := Ground.chain }, { on := 0, ground := Ground.phase }, { on := 1, ground := Ground.phase }, { on := 2, ground := Ground.phase }, { on := 3, ground := Ground.phase }, { on := 4, ground := Ground.phase }, { on := 5, ground := Ground.phase }, { on := 6, ground := Ground.phase }, { on := 7, ground := Ground.phase }, { on := 8, ground := Ground.phase }, { on := 9, ground := Ground.phase }, { on := 10, ground := Ground.phase }, { on := 11, ground := Ground.phase }, { on := 12, ground := Ground.phase }, { on := 13, ground := Ground.phase }, { on := 14, ground := Ground.phase }, { on := 15, ground := Ground.phase }, { on := 16, ground := Ground.phase }, { on := 17, ground := Ground.phase }, { on := 18, ground := Ground.phase }, { on := 19, ground := Ground.phase }, { on := 20, ground := Ground.phase }, { on := 21, ground := Ground.phase }, { on := 22, ground := Ground.phase }, { on := 23, ground := Ground.phase }, { on := 24, ground := Ground.phase }, { on := 25, ground := Ground.phase }, { on := 26, ground := Ground.phase }, { on := 27, ground := Ground.phase }, { on := 28, ground := Ground.phase }, { on := 29, ground := Ground.phase }, { on := 30, ground := Ground.phase }, { on := 31, ground := Ground.phase }, { on := 32, ground := Ground.phase }, { on := 33, ground := Ground.phase }, { on := 34, ground := Ground.phase }, { on := 35, ground := Ground.phase }, { on := 36, ground := Ground.phase }, { on := 37, ground := Ground.phase }, { on := 38, ground := Ground.phase }, { on := 39, ground := Ground.phase }, { on := 40, ground := Ground.phase }, { on := 41, ground := Ground.phase }], guard := none }) (v := ?_) rfl (by kernel_rfl) (by kernel_rfl) (by kernel_rfl) (fun _ _ _ h => h) (Or.inl ⟨by rfl, ?_⟩) (by assumption) ?_
        rotate_left
        · intro w hSw
          (try dsimp only at hSw)
          go_simp
          (try with_reducible rfl)
        (try simp only [Act.put, List.setIfInBounds_toArray, List.set_cons_zero, List.set_cons_succ])
        refine wpAnyH_done (by kernel_rfl) ?_ _
        clear HS0
        go_wp2_with fail
        go_ret
        exact ⟨by simp, HBB.out.trans (Below.mono (And.left (by assumption)) HBB.out.size)⟩
  · have HT := Lib.hid (show tableB xs = false by simpa using ht)
    clear ht
    have HXa := Lib.hid (fun W (h : Row W A n xs) => iPartsBelow_any A n C xs W h (by omega))
    rw [toldN_no HT.out, told_no HT.out] at HXa
    go_wp2_with fail
    refine (HXa.out _ Rl).mono ?_
    rintro e w2 ⟨Aa, Ca, rfl, Oa, b2⟩
    replace Rl := Rl.below b2
    replace BB := BB.trans (b2.mono BB.size)
    have Ra := Oa.row
    clear Oa HXa
    have HXb := Lib.hid (fun W (h : Row W A n xs) => iPartsAbove_any A n C xs W h (by omega))
    rw [toldN_no HT.out, told_no HT.out] at HXb
    go_wp2_with fail
    refine (HXb.out _ Rl).mono ?_
    rintro e w3 ⟨Ab, Cb, rfl, Ob, b3⟩
    replace Rl := Rl.below b3
    replace Ra := Ra.below b3
    replace BB := BB.trans (b3.mono BB.size)
    have Rb := Ob.row
    clear Ob HXb
    have HXs := Lib.hid (fun W (h : Row W A n xs) => sPartsBelow_any A n C xs W h (by omega))
    rw [toldN_no HT.out, told_no HT.out] at HXs
    go_wp2_with fail
    refine (HXs.out _ Rl).mono ?_
    rintro e w4 ⟨As, Cs, rfl, Os, b4⟩
    replace Rl := Rl.below b4
    replace Ra := Ra.below b4
    replace Rb := Rb.below b4
    replace BB := BB.trans (b4.mono BB.size)
    have Rs := Os.row
    clear Os HXs
    have HE := Lib.hid (weSame_any Aa As 0 Ca 0 Cs [] [] w4 Ra Rs (by omega) (by omega))
    rw [eqB_self] at HE
    go_wp2_with fail
    refine (HE.out).mono ?_
    rintro e w5 ⟨rfl, b5⟩
    replace Rl := Rl.below b5
    replace Ra := Ra.below b5
    replace Rb := Rb.below b5
    replace Rs := Rs.below b5
    replace BB := BB.trans (b5.mono BB.size)
    clear HE
    clear Rs
    have HXu := Lib.hid (fun W (h : Row W A n xs) => sPartsAbove_any A n C xs W h (by omega))
    rw [toldN_no HT.out, told_no HT.out] at HXu
    go_wp2_with fail
    refine (HXu.out _ Rl).mono ?_
    rintro e w6 ⟨Au, Cu, rfl, Ou, b6⟩
    replace Rl := Rl.below b6
    replace Ra := Ra.below b6
    replace Rb := Rb.below b6
    replace BB := BB.trans (b6.mono BB.size)
    have Ru := Ou.row
    clear Ou HXu
    have HE := Lib.hid (weSame_any Ab Au 0 Cb 0 Cu [] [] w6 Rb Ru (by omega) (by omega))
    rw [eqB_self] at HE
    go_wp2_with fail
    refine (HE.out).mono ?_
    rintro e w7 ⟨rfl, b7⟩
    replace Rl := Rl.below b7
    replace Ra := Ra.below b7
    replace Rb := Rb.below b7
    replace Ru := Ru.below b7
    replace BB := BB.trans (b7.mono BB.size)
    clear HE
    clear Ru
    have HXs := Lib.hid (fun W (h : Row W A n xs) => sPartsBelow_any A n C xs W h (by omega))
    rw [toldN_no HT.out, told_no HT.out] at HXs
    go_wp2_with fail
    refine (HXs.out _ Rl).mono ?_
    rintro e w8 ⟨As, Cs, rfl, Os, b8⟩
    replace Rl := Rl.below b8
    replace Ra := Ra.below b8
    replace Rb := Rb.below b8
    replace BB := BB.trans (b8.mono BB.size)
    have Rs := Os.row
    clear Os HXs
    have HE := Lib.hid (weSame_any Aa As 0 Ca 0 Cs [] [] w8 Ra Rs (by omega) (by omega))
    rw [eqB_self] at HE
    go_wp2_with fail
    refine (HE.out).mono ?_
    rintro e w9 ⟨rfl, b9⟩
    replace Rl := Rl.below b9
    replace Ra := Ra.below b9
    replace Rb := Rb.below b9
    replace Rs := Rs.below b9
    replace BB := BB.trans (b9.mono BB.size)
    clear HE
    clear Rs
    have HXu := Lib.hid (fun W (h : Row W A n xs) => sPartsAbove_any A n C xs W h (by omega))
    rw [toldN_no HT.out, told_no HT.out] at HXu
    go_wp2_with fail
    refine (HXu.out _ Rl).mono ?_
    rintro e w10 ⟨Au, Cu, rfl, Ou, b10⟩
    replace Rl := Rl.below b10
    replace Ra := Ra.below b10
    replace Rb := Rb.below b10
    replace BB := BB.trans (b10.mono BB.size)
    have Ru := Ou.row
    clear Ou HXu
    have HE := Lib.hid (weSame_any Ab Au 0 Cb 0 Cu [] [] w10 Rb Ru (by omega) (by omega))
    rw [eqB_self] at HE
    go_wp2_with fail
    refine (HE.out).mono ?_
    rintro e w11 ⟨rfl, b11⟩
    replace Rl := Rl.below b11
    replace Ra := Ra.below b11
    replace Rb := Rb.below b11
    replace Ru := Ru.below b11
    replace BB := BB.trans (b11.mono BB.size)
    clear HE
    clear Ru
    go_wp2_with fail
    go_ret
    exact ⟨by simp, BB⟩
end Go.Proofs.Ytffkpmmgfgcngaa
