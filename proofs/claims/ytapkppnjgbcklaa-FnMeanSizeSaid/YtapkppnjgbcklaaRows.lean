/-
  No cell of these rows narrows 'for every input' (looked for: loops, veiled, ifaces, maps, wideKeys, modest, calm, conditions, laid).
  DERIVED. THE GIVEN ROWS OF THIS SEAT. 10 by the template 'for every input the law returns true; each argument reads behind the call as it read before'; 0 by the template 'total and deterministic' (their statements: YtapkppnjgbcklaaTotals.lean).
  GIVEN WITH THE SEED: the statements are not yours to turn. If you find one false, say at which input.
  Laid BY PROGRAM, IN A SANDBOX (cutbox-rows.mjs): the forced cells as the released guide's own fill.sh prints them over the translation c9d78f7993f2eb62… (all of the seat's roots in one cut). By AI agents, Wed Nov 11 2026. No macro, syntax, notation, axiom, sorry.
-/
import Derived.Test.YtapkppnjgbcklaaChecked
import GoSem.Claim
import GoSem.ClaimJoined
import GoSem.ClaimMapViews
import Derived.JoinedTies
import Derived.KernelRfl
namespace Go.Proofs.Ytapkppnjgbcklaa
/- THE CELL 'sum', in the pinned program and in every row, IS THE sha256 OF THE DUMP (.gsa) THAT YtapkppnjgbcklaaProg.lean LOADS. Nothing in Lean hashes anything: it is a label: what it is worth is what the hold of that sum in a sandbox is worth. -/
noncomputable def Try.pinned : Pinned := { name := "ytapkppnjgbcklaa", sum := "c9d78f7993f2eb62fdf36a18265bd708a769cab3f32c87d120b72e11b1458c3a", checked := Try.checked }
namespace Rows
def none {H : Type} : Left H := { results := [], args := [] }

/-- 'laws.FnExactChanceOf': WHATEVER THE INPUT: true; the input reads as it did. -/
def fnExactChanceOfSpec : ChangeSpec := { name := "fnExactChanceOf", fn := fun _ => fun
  | [d1, d2] => { results := [.lit (.bool true)], args := [d1, d2] }
  | _ => none }
def fnExactChanceOfRow : OpenClaim := { program := "ytapkppnjgbcklaa", sum := "c9d78f7993f2eb62fdf36a18265bd708a769cab3f32c87d120b72e11b1458c3a", func := "loop.example/weighedevidence/laws.FnExactChanceOf", spec := "fnExactChanceOf", apart := false }
def FnExactChanceOfSaid : Prop := fnExactChanceOfRow.holds Try.pinned (OpenSpec.ofChange fnExactChanceOfSpec)

/-- ITS FALSE NEIGHBOUR: 'it returns false'. Refute it at one input. -/
def fnExactChanceOfWrong : ChangeSpec := { name := "fnExactChanceOf", fn := fun _ => fun
  | [d1, d2] => { results := [.lit (.bool false)], args := [d1, d2] }
  | _ => none }
def FnExactChanceOfWrongFalsely : Prop := fnExactChanceOfRow.holds Try.pinned (OpenSpec.ofChange fnExactChanceOfWrong)

/-- 'laws.FnExactDiscountMass': WHATEVER THE INPUT: true; the input reads as it did. -/
def fnExactDiscountMassSpec : ChangeSpec := { name := "fnExactDiscountMass", fn := fun _ => fun
  | [d1, d2] => { results := [.lit (.bool true)], args := [d1, d2] }
  | _ => none }
def fnExactDiscountMassRow : OpenClaim := { program := "ytapkppnjgbcklaa", sum := "c9d78f7993f2eb62fdf36a18265bd708a769cab3f32c87d120b72e11b1458c3a", func := "loop.example/weighedevidence/laws.FnExactDiscountMass", spec := "fnExactDiscountMass", apart := false }
def FnExactDiscountMassSaid : Prop := fnExactDiscountMassRow.holds Try.pinned (OpenSpec.ofChange fnExactDiscountMassSpec)

/-- ITS FALSE NEIGHBOUR: 'it returns false'. Refute it at one input. -/
def fnExactDiscountMassWrong : ChangeSpec := { name := "fnExactDiscountMass", fn := fun _ => fun
  | [d1, d2] => { results := [.lit (.bool false)], args := [d1, d2] }
  | _ => none }
def FnExactDiscountMassWrongFalsely : Prop := fnExactDiscountMassRow.holds Try.pinned (OpenSpec.ofChange fnExactDiscountMassWrong)

/-- 'laws.FnExactReliableMass': WHATEVER THE INPUT: true; the input reads as it did. -/
def fnExactReliableMassSpec : ChangeSpec := { name := "fnExactReliableMass", fn := fun _ => fun
  | [d1, d2] => { results := [.lit (.bool true)], args := [d1, d2] }
  | _ => none }
def fnExactReliableMassRow : OpenClaim := { program := "ytapkppnjgbcklaa", sum := "c9d78f7993f2eb62fdf36a18265bd708a769cab3f32c87d120b72e11b1458c3a", func := "loop.example/weighedevidence/laws.FnExactReliableMass", spec := "fnExactReliableMass", apart := false }
def FnExactReliableMassSaid : Prop := fnExactReliableMassRow.holds Try.pinned (OpenSpec.ofChange fnExactReliableMassSpec)

/-- ITS FALSE NEIGHBOUR: 'it returns false'. Refute it at one input. -/
def fnExactReliableMassWrong : ChangeSpec := { name := "fnExactReliableMass", fn := fun _ => fun
  | [d1, d2] => { results := [.lit (.bool false)], args := [d1, d2] }
  | _ => none }
def FnExactReliableMassWrongFalsely : Prop := fnExactReliableMassRow.holds Try.pinned (OpenSpec.ofChange fnExactReliableMassWrong)

/-- 'laws.FnExactTableOf': WHATEVER THE INPUT: true; the input reads as it did. -/
def fnExactTableOfSpec : ChangeSpec := { name := "fnExactTableOf", fn := fun _ => fun
  | [d1, d2] => { results := [.lit (.bool true)], args := [d1, d2] }
  | _ => none }
def fnExactTableOfRow : OpenClaim := { program := "ytapkppnjgbcklaa", sum := "c9d78f7993f2eb62fdf36a18265bd708a769cab3f32c87d120b72e11b1458c3a", func := "loop.example/weighedevidence/laws.FnExactTableOf", spec := "fnExactTableOf", unfollowed := true, recurses := true, apart := false }
def FnExactTableOfSaid : Prop := fnExactTableOfRow.holds Try.pinned (OpenSpec.ofChange fnExactTableOfSpec)

/-- ITS FALSE NEIGHBOUR: 'it returns false'. Refute it at one input. -/
def fnExactTableOfWrong : ChangeSpec := { name := "fnExactTableOf", fn := fun _ => fun
  | [d1, d2] => { results := [.lit (.bool false)], args := [d1, d2] }
  | _ => none }
def FnExactTableOfWrongFalsely : Prop := fnExactTableOfRow.holds Try.pinned (OpenSpec.ofChange fnExactTableOfWrong)

/-- 'laws.FnExactMassOfTable': WHATEVER THE INPUT: true; the input reads as it did. -/
def fnExactMassOfTableSpec : ChangeSpec := { name := "fnExactMassOfTable", fn := fun _ => fun
  | [d1, d2, d3] => { results := [.lit (.bool true)], args := [d1, d2, d3] }
  | _ => none }
def fnExactMassOfTableRow : OpenClaim := { program := "ytapkppnjgbcklaa", sum := "c9d78f7993f2eb62fdf36a18265bd708a769cab3f32c87d120b72e11b1458c3a", func := "loop.example/weighedevidence/laws.FnExactMassOfTable", spec := "fnExactMassOfTable", unfollowed := true, recurses := true, apart := false }
def FnExactMassOfTableSaid : Prop := fnExactMassOfTableRow.holds Try.pinned (OpenSpec.ofChange fnExactMassOfTableSpec)

/-- ITS FALSE NEIGHBOUR: 'it returns false'. Refute it at one input. -/
def fnExactMassOfTableWrong : ChangeSpec := { name := "fnExactMassOfTable", fn := fun _ => fun
  | [d1, d2, d3] => { results := [.lit (.bool false)], args := [d1, d2, d3] }
  | _ => none }
def FnExactMassOfTableWrongFalsely : Prop := fnExactMassOfTableRow.holds Try.pinned (OpenSpec.ofChange fnExactMassOfTableWrong)

/-- 'laws.FnSuper': WHATEVER THE INPUT: true; the input reads as it did. -/
def fnSuperSpec : ChangeSpec := { name := "fnSuper", fn := fun _ => fun
  | [d] => { results := [.lit (.bool true)], args := [d] }
  | _ => none }
def fnSuperRow : OpenClaim := { program := "ytapkppnjgbcklaa", sum := "c9d78f7993f2eb62fdf36a18265bd708a769cab3f32c87d120b72e11b1458c3a", func := "loop.example/weighedevidence/laws.FnSuper", spec := "fnSuper", unfollowed := true, recurses := true, apart := false }
def FnSuperSaid : Prop := fnSuperRow.holds Try.pinned (OpenSpec.ofChange fnSuperSpec)

/-- ITS FALSE NEIGHBOUR: 'it returns false'. Refute it at one input. -/
def fnSuperWrong : ChangeSpec := { name := "fnSuper", fn := fun _ => fun
  | [d] => { results := [.lit (.bool false)], args := [d] }
  | _ => none }
def FnSuperWrongFalsely : Prop := fnSuperRow.holds Try.pinned (OpenSpec.ofChange fnSuperWrong)

/-- 'laws.FnNormalMass': WHATEVER THE INPUT: true; the input reads as it did. -/
def fnNormalMassSpec : ChangeSpec := { name := "fnNormalMass", fn := fun _ => fun
  | [d] => { results := [.lit (.bool true)], args := [d] }
  | _ => none }
def fnNormalMassRow : OpenClaim := { program := "ytapkppnjgbcklaa", sum := "c9d78f7993f2eb62fdf36a18265bd708a769cab3f32c87d120b72e11b1458c3a", func := "loop.example/weighedevidence/laws.FnNormalMass", spec := "fnNormalMass", apart := false }
def FnNormalMassSaid : Prop := fnNormalMassRow.holds Try.pinned (OpenSpec.ofChange fnNormalMassSpec)

/-- ITS FALSE NEIGHBOUR: 'it returns false'. Refute it at one input. -/
def fnNormalMassWrong : ChangeSpec := { name := "fnNormalMass", fn := fun _ => fun
  | [d] => { results := [.lit (.bool false)], args := [d] }
  | _ => none }
def FnNormalMassWrongFalsely : Prop := fnNormalMassRow.holds Try.pinned (OpenSpec.ofChange fnNormalMassWrong)

/-- 'laws.FnNegate': WHATEVER THE INPUT: true; the input reads as it did. -/
def fnNegateSpec : ChangeSpec := { name := "fnNegate", fn := fun _ => fun
  | [d] => { results := [.lit (.bool true)], args := [d] }
  | _ => none }
def fnNegateRow : OpenClaim := { program := "ytapkppnjgbcklaa", sum := "c9d78f7993f2eb62fdf36a18265bd708a769cab3f32c87d120b72e11b1458c3a", func := "loop.example/weighedevidence/laws.FnNegate", spec := "fnNegate", unfollowed := true, recurses := true, apart := false }
def FnNegateSaid : Prop := fnNegateRow.holds Try.pinned (OpenSpec.ofChange fnNegateSpec)

/-- ITS FALSE NEIGHBOUR: 'it returns false'. Refute it at one input. -/
def fnNegateWrong : ChangeSpec := { name := "fnNegate", fn := fun _ => fun
  | [d] => { results := [.lit (.bool false)], args := [d] }
  | _ => none }
def FnNegateWrongFalsely : Prop := fnNegateRow.holds Try.pinned (OpenSpec.ofChange fnNegateWrong)

/-- 'laws.FnMostBelieved': WHATEVER THE INPUT: true; the input reads as it did. -/
def fnMostBelievedSpec : ChangeSpec := { name := "fnMostBelieved", fn := fun _ => fun
  | [d] => { results := [.lit (.bool true)], args := [d] }
  | _ => none }
def fnMostBelievedRow : OpenClaim := { program := "ytapkppnjgbcklaa", sum := "c9d78f7993f2eb62fdf36a18265bd708a769cab3f32c87d120b72e11b1458c3a", func := "loop.example/weighedevidence/laws.FnMostBelieved", spec := "fnMostBelieved", apart := false }
def FnMostBelievedSaid : Prop := fnMostBelievedRow.holds Try.pinned (OpenSpec.ofChange fnMostBelievedSpec)

/-- ITS FALSE NEIGHBOUR: 'it returns false'. Refute it at one input. -/
def fnMostBelievedWrong : ChangeSpec := { name := "fnMostBelieved", fn := fun _ => fun
  | [d] => { results := [.lit (.bool false)], args := [d] }
  | _ => none }
def FnMostBelievedWrongFalsely : Prop := fnMostBelievedRow.holds Try.pinned (OpenSpec.ofChange fnMostBelievedWrong)

/-- 'laws.FnMeanSize': WHATEVER THE INPUT: true; the input reads as it did. -/
def fnMeanSizeSpec : ChangeSpec := { name := "fnMeanSize", fn := fun _ => fun
  | [d] => { results := [.lit (.bool true)], args := [d] }
  | _ => none }
def fnMeanSizeRow : OpenClaim := { program := "ytapkppnjgbcklaa", sum := "c9d78f7993f2eb62fdf36a18265bd708a769cab3f32c87d120b72e11b1458c3a", func := "loop.example/weighedevidence/laws.FnMeanSize", spec := "fnMeanSize", unfollowed := true, recurses := true, apart := false }
def FnMeanSizeSaid : Prop := fnMeanSizeRow.holds Try.pinned (OpenSpec.ofChange fnMeanSizeSpec)

/-- ITS FALSE NEIGHBOUR: 'it returns false'. Refute it at one input. -/
def fnMeanSizeWrong : ChangeSpec := { name := "fnMeanSize", fn := fun _ => fun
  | [d] => { results := [.lit (.bool false)], args := [d] }
  | _ => none }
def FnMeanSizeWrongFalsely : Prop := fnMeanSizeRow.holds Try.pinned (OpenSpec.ofChange fnMeanSizeWrong)

/- THE SECOND FORM. 'bulk': how many values and letters a reading holds, each counted each time it is reached (what is shared counts as often as it is met; a slice's spare places count too). A statement '..UptoSaid' is the law's where the arguments, and the package variables that the reading takes, are together of bulk at most 1048576: NARROWER than '..Said'. Prove '..Said' where nothing that the law and all that it calls make is longer than what came in: it says more and counts as full. Else prove '..UptoSaid'. A law counts once. -/
mutual
def uptoBulk {H : Type} : DataW H → Nat
  | .lit (.string bytes) => bytes.length + 1
  | .lit _ => 1
  | .nil => 1
  | .ptr d => uptoBulk d + 1
  | .slice elems spare => uptoBulkAll elems + uptoBulkAll spare + 1
  | .agg parts => uptoBulkAll parts + 1
  | .iface _ d => uptoBulk d + 1
  | .map entries => uptoBulkEntries entries + 1
  | .held _ => 1
def uptoBulkAll {H : Type} : List (DataW H) → Nat
  | [] => 0
  | d :: r => uptoBulk d + uptoBulkAll r
def uptoBulkEntries {H : Type} : List (Lit × DataW H) → Nat
  | [] => 0
  | x :: r => uptoBulkEntry x + uptoBulkEntries r
def uptoBulkEntry {H : Type} : Lit × DataW H → Nat
  | (.string bytes, d) => bytes.length + uptoBulk d + 1
  | (_, d) => uptoBulk d + 1
 end
def uptoSmall : (H : Type) → List (DataW H) → Bool := fun _ ds => decide (uptoBulkAll ds ≤ 1048576)
def OpenSpec.upto (s : _root_.Go.ChangeSpec) : _root_.Go.OpenSpec := { _root_.Go.OpenSpec.ofChange s with cond := some uptoSmall }

/-- 'laws.FnExactChanceOf', WHERE WHAT IT READS IS OF BULK AT MOST 1048576: true; the input reads as it did. -/
def fnExactChanceOfUptoRow : OpenClaim := { program := "ytapkppnjgbcklaa", sum := "c9d78f7993f2eb62fdf36a18265bd708a769cab3f32c87d120b72e11b1458c3a", func := "loop.example/weighedevidence/laws.FnExactChanceOf", spec := "fnExactChanceOf", apart := false, narrowed := true }
def FnExactChanceOfUptoSaid : Prop := fnExactChanceOfUptoRow.holds Try.pinned (OpenSpec.upto fnExactChanceOfSpec)

/-- 'laws.FnExactDiscountMass', WHERE WHAT IT READS IS OF BULK AT MOST 1048576: true; the input reads as it did. -/
def fnExactDiscountMassUptoRow : OpenClaim := { program := "ytapkppnjgbcklaa", sum := "c9d78f7993f2eb62fdf36a18265bd708a769cab3f32c87d120b72e11b1458c3a", func := "loop.example/weighedevidence/laws.FnExactDiscountMass", spec := "fnExactDiscountMass", apart := false, narrowed := true }
def FnExactDiscountMassUptoSaid : Prop := fnExactDiscountMassUptoRow.holds Try.pinned (OpenSpec.upto fnExactDiscountMassSpec)

/-- 'laws.FnExactReliableMass', WHERE WHAT IT READS IS OF BULK AT MOST 1048576: true; the input reads as it did. -/
def fnExactReliableMassUptoRow : OpenClaim := { program := "ytapkppnjgbcklaa", sum := "c9d78f7993f2eb62fdf36a18265bd708a769cab3f32c87d120b72e11b1458c3a", func := "loop.example/weighedevidence/laws.FnExactReliableMass", spec := "fnExactReliableMass", apart := false, narrowed := true }
def FnExactReliableMassUptoSaid : Prop := fnExactReliableMassUptoRow.holds Try.pinned (OpenSpec.upto fnExactReliableMassSpec)

/-- 'laws.FnExactTableOf', WHERE WHAT IT READS IS OF BULK AT MOST 1048576: true; the input reads as it did. -/
def fnExactTableOfUptoRow : OpenClaim := { program := "ytapkppnjgbcklaa", sum := "c9d78f7993f2eb62fdf36a18265bd708a769cab3f32c87d120b72e11b1458c3a", func := "loop.example/weighedevidence/laws.FnExactTableOf", spec := "fnExactTableOf", unfollowed := true, recurses := true, apart := false, narrowed := true }
def FnExactTableOfUptoSaid : Prop := fnExactTableOfUptoRow.holds Try.pinned (OpenSpec.upto fnExactTableOfSpec)

/-- 'laws.FnExactMassOfTable', WHERE WHAT IT READS IS OF BULK AT MOST 1048576: true; the input reads as it did. -/
def fnExactMassOfTableUptoRow : OpenClaim := { program := "ytapkppnjgbcklaa", sum := "c9d78f7993f2eb62fdf36a18265bd708a769cab3f32c87d120b72e11b1458c3a", func := "loop.example/weighedevidence/laws.FnExactMassOfTable", spec := "fnExactMassOfTable", unfollowed := true, recurses := true, apart := false, narrowed := true }
def FnExactMassOfTableUptoSaid : Prop := fnExactMassOfTableUptoRow.holds Try.pinned (OpenSpec.upto fnExactMassOfTableSpec)

/-- 'laws.FnSuper', WHERE WHAT IT READS IS OF BULK AT MOST 1048576: true; the input reads as it did. -/
def fnSuperUptoRow : OpenClaim := { program := "ytapkppnjgbcklaa", sum := "c9d78f7993f2eb62fdf36a18265bd708a769cab3f32c87d120b72e11b1458c3a", func := "loop.example/weighedevidence/laws.FnSuper", spec := "fnSuper", unfollowed := true, recurses := true, apart := false, narrowed := true }
def FnSuperUptoSaid : Prop := fnSuperUptoRow.holds Try.pinned (OpenSpec.upto fnSuperSpec)

/-- 'laws.FnNormalMass', WHERE WHAT IT READS IS OF BULK AT MOST 1048576: true; the input reads as it did. -/
def fnNormalMassUptoRow : OpenClaim := { program := "ytapkppnjgbcklaa", sum := "c9d78f7993f2eb62fdf36a18265bd708a769cab3f32c87d120b72e11b1458c3a", func := "loop.example/weighedevidence/laws.FnNormalMass", spec := "fnNormalMass", apart := false, narrowed := true }
def FnNormalMassUptoSaid : Prop := fnNormalMassUptoRow.holds Try.pinned (OpenSpec.upto fnNormalMassSpec)

/-- 'laws.FnNegate', WHERE WHAT IT READS IS OF BULK AT MOST 1048576: true; the input reads as it did. -/
def fnNegateUptoRow : OpenClaim := { program := "ytapkppnjgbcklaa", sum := "c9d78f7993f2eb62fdf36a18265bd708a769cab3f32c87d120b72e11b1458c3a", func := "loop.example/weighedevidence/laws.FnNegate", spec := "fnNegate", unfollowed := true, recurses := true, apart := false, narrowed := true }
def FnNegateUptoSaid : Prop := fnNegateUptoRow.holds Try.pinned (OpenSpec.upto fnNegateSpec)

/-- 'laws.FnMostBelieved', WHERE WHAT IT READS IS OF BULK AT MOST 1048576: true; the input reads as it did. -/
def fnMostBelievedUptoRow : OpenClaim := { program := "ytapkppnjgbcklaa", sum := "c9d78f7993f2eb62fdf36a18265bd708a769cab3f32c87d120b72e11b1458c3a", func := "loop.example/weighedevidence/laws.FnMostBelieved", spec := "fnMostBelieved", apart := false, narrowed := true }
def FnMostBelievedUptoSaid : Prop := fnMostBelievedUptoRow.holds Try.pinned (OpenSpec.upto fnMostBelievedSpec)

/-- 'laws.FnMeanSize', WHERE WHAT IT READS IS OF BULK AT MOST 1048576: true; the input reads as it did. -/
def fnMeanSizeUptoRow : OpenClaim := { program := "ytapkppnjgbcklaa", sum := "c9d78f7993f2eb62fdf36a18265bd708a769cab3f32c87d120b72e11b1458c3a", func := "loop.example/weighedevidence/laws.FnMeanSize", spec := "fnMeanSize", unfollowed := true, recurses := true, apart := false, narrowed := true }
def FnMeanSizeUptoSaid : Prop := fnMeanSizeUptoRow.holds Try.pinned (OpenSpec.upto fnMeanSizeSpec)

end Rows
end Go.Proofs.Ytapkppnjgbcklaa
