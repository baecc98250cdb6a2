/-
  No cell of these rows narrows 'for every input' (looked for: loops, veiled, ifaces, maps, wideKeys, modest, calm, conditions, laid).
  DERIVED. THE GIVEN ROWS OF THIS SEAT. 12 by the template 'for every input the law returns true; each argument reads behind the call as it read before'; 0 by the template 'total and deterministic' (their statements: YtehlccnoalgliaaTotals.lean).
  GIVEN WITH THE SEED: the statements are not yours to turn. If you find one false, say at which input.
  Laid BY PROGRAM, IN A SANDBOX (cutbox-rows.mjs): the forced cells as the released guide's own fill.sh prints them over the translation 8423e6fa6efc60f4… (all of the seat's roots in one cut). By AI agents, Wed Nov 11 2026. No macro, syntax, notation, axiom, sorry.
-/
import Derived.Test.YtehlccnoalgliaaChecked
import GoSem.Claim
import GoSem.ClaimJoined
import GoSem.ClaimMapViews
import Derived.JoinedTies
import Derived.KernelRfl
namespace Go.Proofs.Ytehlccnoalgliaa
/- THE CELL 'sum', in the pinned program and in every row, IS THE sha256 OF THE DUMP (.gsa) THAT YtehlccnoalgliaaProg.lean LOADS. Nothing in Lean hashes anything: it is a label: what it is worth is what the hold of that sum in a sandbox is worth. -/
noncomputable def Try.pinned : Pinned := { name := "ytehlccnoalgliaa", sum := "8423e6fa6efc60f4f40cd4ba05ca3e34f205044e6570ad3729fb3e7e533ff5de", checked := Try.checked }
namespace Rows
def none {H : Type} : Left H := { results := [], args := [] }

/-- 'laws.FnExactIsPairwise': WHATEVER THE INPUT: true; the input reads as it did. -/
def fnExactIsPairwiseSpec : ChangeSpec := { name := "fnExactIsPairwise", fn := fun _ => fun
  | [d] => { results := [.lit (.bool true)], args := [d] }
  | _ => none }
def fnExactIsPairwiseRow : OpenClaim := { program := "ytehlccnoalgliaa", sum := "8423e6fa6efc60f4f40cd4ba05ca3e34f205044e6570ad3729fb3e7e533ff5de", func := "loop.example/weighedevidence/laws.FnExactIsPairwise", spec := "fnExactIsPairwise", apart := false }
def FnExactIsPairwiseSaid : Prop := fnExactIsPairwiseRow.holds Try.pinned (OpenSpec.ofChange fnExactIsPairwiseSpec)

/-- ITS FALSE NEIGHBOUR: 'it returns false'. Refute it at one input. -/
def fnExactIsPairwiseWrong : ChangeSpec := { name := "fnExactIsPairwise", fn := fun _ => fun
  | [d] => { results := [.lit (.bool false)], args := [d] }
  | _ => none }
def FnExactIsPairwiseWrongFalsely : Prop := fnExactIsPairwiseRow.holds Try.pinned (OpenSpec.ofChange fnExactIsPairwiseWrong)

/-- 'laws.FnExactIsAdditive': WHATEVER THE INPUT: true; the input reads as it did. -/
def fnExactIsAdditiveSpec : ChangeSpec := { name := "fnExactIsAdditive", fn := fun _ => fun
  | [d] => { results := [.lit (.bool true)], args := [d] }
  | _ => none }
def fnExactIsAdditiveRow : OpenClaim := { program := "ytehlccnoalgliaa", sum := "8423e6fa6efc60f4f40cd4ba05ca3e34f205044e6570ad3729fb3e7e533ff5de", func := "loop.example/weighedevidence/laws.FnExactIsAdditive", spec := "fnExactIsAdditive", apart := false }
def FnExactIsAdditiveSaid : Prop := fnExactIsAdditiveRow.holds Try.pinned (OpenSpec.ofChange fnExactIsAdditiveSpec)

/-- ITS FALSE NEIGHBOUR: 'it returns false'. Refute it at one input. -/
def fnExactIsAdditiveWrong : ChangeSpec := { name := "fnExactIsAdditive", fn := fun _ => fun
  | [d] => { results := [.lit (.bool false)], args := [d] }
  | _ => none }
def FnExactIsAdditiveWrongFalsely : Prop := fnExactIsAdditiveRow.holds Try.pinned (OpenSpec.ofChange fnExactIsAdditiveWrong)

/-- 'laws.FnExactSumsAbove': WHATEVER THE INPUT: true; the input reads as it did. -/
def fnExactSumsAboveSpec : ChangeSpec := { name := "fnExactSumsAbove", fn := fun _ => fun
  | [d] => { results := [.lit (.bool true)], args := [d] }
  | _ => none }
def fnExactSumsAboveRow : OpenClaim := { program := "ytehlccnoalgliaa", sum := "8423e6fa6efc60f4f40cd4ba05ca3e34f205044e6570ad3729fb3e7e533ff5de", func := "loop.example/weighedevidence/laws.FnExactSumsAbove", spec := "fnExactSumsAbove", unfollowed := true, recurses := true, apart := false }
def FnExactSumsAboveSaid : Prop := fnExactSumsAboveRow.holds Try.pinned (OpenSpec.ofChange fnExactSumsAboveSpec)

/-- ITS FALSE NEIGHBOUR: 'it returns false'. Refute it at one input. -/
def fnExactSumsAboveWrong : ChangeSpec := { name := "fnExactSumsAbove", fn := fun _ => fun
  | [d] => { results := [.lit (.bool false)], args := [d] }
  | _ => none }
def FnExactSumsAboveWrongFalsely : Prop := fnExactSumsAboveRow.holds Try.pinned (OpenSpec.ofChange fnExactSumsAboveWrong)

/-- 'laws.FnExactSumsBelow': WHATEVER THE INPUT: true; the input reads as it did. -/
def fnExactSumsBelowSpec : ChangeSpec := { name := "fnExactSumsBelow", fn := fun _ => fun
  | [d] => { results := [.lit (.bool true)], args := [d] }
  | _ => none }
def fnExactSumsBelowRow : OpenClaim := { program := "ytehlccnoalgliaa", sum := "8423e6fa6efc60f4f40cd4ba05ca3e34f205044e6570ad3729fb3e7e533ff5de", func := "loop.example/weighedevidence/laws.FnExactSumsBelow", spec := "fnExactSumsBelow", unfollowed := true, recurses := true, apart := false }
def FnExactSumsBelowSaid : Prop := fnExactSumsBelowRow.holds Try.pinned (OpenSpec.ofChange fnExactSumsBelowSpec)

/-- ITS FALSE NEIGHBOUR: 'it returns false'. Refute it at one input. -/
def fnExactSumsBelowWrong : ChangeSpec := { name := "fnExactSumsBelow", fn := fun _ => fun
  | [d] => { results := [.lit (.bool false)], args := [d] }
  | _ => none }
def FnExactSumsBelowWrongFalsely : Prop := fnExactSumsBelowRow.holds Try.pinned (OpenSpec.ofChange fnExactSumsBelowWrong)

/-- 'laws.FnExactCommonPart': WHATEVER THE INPUT: true; the input reads as it did. -/
def fnExactCommonPartSpec : ChangeSpec := { name := "fnExactCommonPart", fn := fun _ => fun
  | [d1, d2] => { results := [.lit (.bool true)], args := [d1, d2] }
  | _ => none }
def fnExactCommonPartRow : OpenClaim := { program := "ytehlccnoalgliaa", sum := "8423e6fa6efc60f4f40cd4ba05ca3e34f205044e6570ad3729fb3e7e533ff5de", func := "loop.example/weighedevidence/laws.FnExactCommonPart", spec := "fnExactCommonPart", unfollowed := true, recurses := true, apart := false }
def FnExactCommonPartSaid : Prop := fnExactCommonPartRow.holds Try.pinned (OpenSpec.ofChange fnExactCommonPartSpec)

/-- ITS FALSE NEIGHBOUR: 'it returns false'. Refute it at one input. -/
def fnExactCommonPartWrong : ChangeSpec := { name := "fnExactCommonPart", fn := fun _ => fun
  | [d1, d2] => { results := [.lit (.bool false)], args := [d1, d2] }
  | _ => none }
def FnExactCommonPartWrongFalsely : Prop := fnExactCommonPartRow.holds Try.pinned (OpenSpec.ofChange fnExactCommonPartWrong)

/-- 'laws.FnExactBelievedPart': WHATEVER THE INPUT: true; the input reads as it did. -/
def fnExactBelievedPartSpec : ChangeSpec := { name := "fnExactBelievedPart", fn := fun _ => fun
  | [d1, d2] => { results := [.lit (.bool true)], args := [d1, d2] }
  | _ => none }
def fnExactBelievedPartRow : OpenClaim := { program := "ytehlccnoalgliaa", sum := "8423e6fa6efc60f4f40cd4ba05ca3e34f205044e6570ad3729fb3e7e533ff5de", func := "loop.example/weighedevidence/laws.FnExactBelievedPart", spec := "fnExactBelievedPart", unfollowed := true, recurses := true, apart := false }
def FnExactBelievedPartSaid : Prop := fnExactBelievedPartRow.holds Try.pinned (OpenSpec.ofChange fnExactBelievedPartSpec)

/-- ITS FALSE NEIGHBOUR: 'it returns false'. Refute it at one input. -/
def fnExactBelievedPartWrong : ChangeSpec := { name := "fnExactBelievedPart", fn := fun _ => fun
  | [d1, d2] => { results := [.lit (.bool false)], args := [d1, d2] }
  | _ => none }
def FnExactBelievedPartWrongFalsely : Prop := fnExactBelievedPartRow.holds Try.pinned (OpenSpec.ofChange fnExactBelievedPartWrong)

/-- 'laws.FnExactImpliedPart': WHATEVER THE INPUT: true; the input reads as it did. -/
def fnExactImpliedPartSpec : ChangeSpec := { name := "fnExactImpliedPart", fn := fun _ => fun
  | [d1, d2] => { results := [.lit (.bool true)], args := [d1, d2] }
  | _ => none }
def fnExactImpliedPartRow : OpenClaim := { program := "ytehlccnoalgliaa", sum := "8423e6fa6efc60f4f40cd4ba05ca3e34f205044e6570ad3729fb3e7e533ff5de", func := "loop.example/weighedevidence/laws.FnExactImpliedPart", spec := "fnExactImpliedPart", unfollowed := true, recurses := true, apart := false }
def FnExactImpliedPartSaid : Prop := fnExactImpliedPartRow.holds Try.pinned (OpenSpec.ofChange fnExactImpliedPartSpec)

/-- ITS FALSE NEIGHBOUR: 'it returns false'. Refute it at one input. -/
def fnExactImpliedPartWrong : ChangeSpec := { name := "fnExactImpliedPart", fn := fun _ => fun
  | [d1, d2] => { results := [.lit (.bool false)], args := [d1, d2] }
  | _ => none }
def FnExactImpliedPartWrongFalsely : Prop := fnExactImpliedPartRow.holds Try.pinned (OpenSpec.ofChange fnExactImpliedPartWrong)

/-- 'laws.FnExactPossiblePart': WHATEVER THE INPUT: true; the input reads as it did. -/
def fnExactPossiblePartSpec : ChangeSpec := { name := "fnExactPossiblePart", fn := fun _ => fun
  | [d1, d2] => { results := [.lit (.bool true)], args := [d1, d2] }
  | _ => none }
def fnExactPossiblePartRow : OpenClaim := { program := "ytehlccnoalgliaa", sum := "8423e6fa6efc60f4f40cd4ba05ca3e34f205044e6570ad3729fb3e7e533ff5de", func := "loop.example/weighedevidence/laws.FnExactPossiblePart", spec := "fnExactPossiblePart", unfollowed := true, recurses := true, apart := false }
def FnExactPossiblePartSaid : Prop := fnExactPossiblePartRow.holds Try.pinned (OpenSpec.ofChange fnExactPossiblePartSpec)

/-- ITS FALSE NEIGHBOUR: 'it returns false'. Refute it at one input. -/
def fnExactPossiblePartWrong : ChangeSpec := { name := "fnExactPossiblePart", fn := fun _ => fun
  | [d1, d2] => { results := [.lit (.bool false)], args := [d1, d2] }
  | _ => none }
def FnExactPossiblePartWrongFalsely : Prop := fnExactPossiblePartRow.holds Try.pinned (OpenSpec.ofChange fnExactPossiblePartWrong)

/-- 'laws.FnExactIsBeliefTable': WHATEVER THE INPUT: true; the input reads as it did. -/
def fnExactIsBeliefTableSpec : ChangeSpec := { name := "fnExactIsBeliefTable", fn := fun _ => fun
  | [d] => { results := [.lit (.bool true)], args := [d] }
  | _ => none }
def fnExactIsBeliefTableRow : OpenClaim := { program := "ytehlccnoalgliaa", sum := "8423e6fa6efc60f4f40cd4ba05ca3e34f205044e6570ad3729fb3e7e533ff5de", func := "loop.example/weighedevidence/laws.FnExactIsBeliefTable", spec := "fnExactIsBeliefTable", unfollowed := true, recurses := true, apart := false }
def FnExactIsBeliefTableSaid : Prop := fnExactIsBeliefTableRow.holds Try.pinned (OpenSpec.ofChange fnExactIsBeliefTableSpec)

/-- ITS FALSE NEIGHBOUR: 'it returns false'. Refute it at one input. -/
def fnExactIsBeliefTableWrong : ChangeSpec := { name := "fnExactIsBeliefTable", fn := fun _ => fun
  | [d] => { results := [.lit (.bool false)], args := [d] }
  | _ => none }
def FnExactIsBeliefTableWrongFalsely : Prop := fnExactIsBeliefTableRow.holds Try.pinned (OpenSpec.ofChange fnExactIsBeliefTableWrong)

/-- 'laws.FnExactPartsAbove': WHATEVER THE INPUT: true; the input reads as it did. -/
def fnExactPartsAboveSpec : ChangeSpec := { name := "fnExactPartsAbove", fn := fun _ => fun
  | [d] => { results := [.lit (.bool true)], args := [d] }
  | _ => none }
def fnExactPartsAboveRow : OpenClaim := { program := "ytehlccnoalgliaa", sum := "8423e6fa6efc60f4f40cd4ba05ca3e34f205044e6570ad3729fb3e7e533ff5de", func := "loop.example/weighedevidence/laws.FnExactPartsAbove", spec := "fnExactPartsAbove", unfollowed := true, recurses := true, apart := false }
def FnExactPartsAboveSaid : Prop := fnExactPartsAboveRow.holds Try.pinned (OpenSpec.ofChange fnExactPartsAboveSpec)

/-- ITS FALSE NEIGHBOUR: 'it returns false'. Refute it at one input. -/
def fnExactPartsAboveWrong : ChangeSpec := { name := "fnExactPartsAbove", fn := fun _ => fun
  | [d] => { results := [.lit (.bool false)], args := [d] }
  | _ => none }
def FnExactPartsAboveWrongFalsely : Prop := fnExactPartsAboveRow.holds Try.pinned (OpenSpec.ofChange fnExactPartsAboveWrong)

/-- 'laws.FnExactPartsBelow': WHATEVER THE INPUT: true; the input reads as it did. -/
def fnExactPartsBelowSpec : ChangeSpec := { name := "fnExactPartsBelow", fn := fun _ => fun
  | [d] => { results := [.lit (.bool true)], args := [d] }
  | _ => none }
def fnExactPartsBelowRow : OpenClaim := { program := "ytehlccnoalgliaa", sum := "8423e6fa6efc60f4f40cd4ba05ca3e34f205044e6570ad3729fb3e7e533ff5de", func := "loop.example/weighedevidence/laws.FnExactPartsBelow", spec := "fnExactPartsBelow", unfollowed := true, recurses := true, apart := false }
def FnExactPartsBelowSaid : Prop := fnExactPartsBelowRow.holds Try.pinned (OpenSpec.ofChange fnExactPartsBelowSpec)

/-- ITS FALSE NEIGHBOUR: 'it returns false'. Refute it at one input. -/
def fnExactPartsBelowWrong : ChangeSpec := { name := "fnExactPartsBelow", fn := fun _ => fun
  | [d] => { results := [.lit (.bool false)], args := [d] }
  | _ => none }
def FnExactPartsBelowWrongFalsely : Prop := fnExactPartsBelowRow.holds Try.pinned (OpenSpec.ofChange fnExactPartsBelowWrong)

/-- 'laws.FnExactContourOf': WHATEVER THE INPUT: true; the input reads as it did. -/
def fnExactContourOfSpec : ChangeSpec := { name := "fnExactContourOf", fn := fun _ => fun
  | [d] => { results := [.lit (.bool true)], args := [d] }
  | _ => none }
def fnExactContourOfRow : OpenClaim := { program := "ytehlccnoalgliaa", sum := "8423e6fa6efc60f4f40cd4ba05ca3e34f205044e6570ad3729fb3e7e533ff5de", func := "loop.example/weighedevidence/laws.FnExactContourOf", spec := "fnExactContourOf", unfollowed := true, recurses := true, apart := false }
def FnExactContourOfSaid : Prop := fnExactContourOfRow.holds Try.pinned (OpenSpec.ofChange fnExactContourOfSpec)

/-- ITS FALSE NEIGHBOUR: 'it returns false'. Refute it at one input. -/
def fnExactContourOfWrong : ChangeSpec := { name := "fnExactContourOf", fn := fun _ => fun
  | [d] => { results := [.lit (.bool false)], args := [d] }
  | _ => none }
def FnExactContourOfWrongFalsely : Prop := fnExactContourOfRow.holds Try.pinned (OpenSpec.ofChange fnExactContourOfWrong)

/- THE SECOND FORM. 'bulk': how many values and letters a reading holds, each counted each time it is reached (what is shared counts as often as it is met; a slice's spare places count too). A statement '..UptoSaid' is the law's where the arguments, and the package variables that the reading takes, are together of bulk at most 1048576: NARROWER than '..Said'. Prove '..Said' where nothing that the law and all that it calls make is longer than what came in: it says more and counts as full. Else prove '..UptoSaid'. A law counts once. -/
mutual
def uptoBulk {H : Type} : DataW H → Nat
  | .lit (.string bytes) => bytes.length + 1
  | .lit _ => 1
  | .nil => 1
  | .ptr d => uptoBulk d + 1
  | .slice elems spare => uptoBulkAll elems + uptoBulkAll spare + 1
  | .agg parts => uptoBulkAll parts + 1
  | .iface _ d => uptoBulk d + 1
  | .map entries => uptoBulkEntries entries + 1
  | .held _ => 1
def uptoBulkAll {H : Type} : List (DataW H) → Nat
  | [] => 0
  | d :: r => uptoBulk d + uptoBulkAll r
def uptoBulkEntries {H : Type} : List (Lit × DataW H) → Nat
  | [] => 0
  | x :: r => uptoBulkEntry x + uptoBulkEntries r
def uptoBulkEntry {H : Type} : Lit × DataW H → Nat
  | (.string bytes, d) => bytes.length + uptoBulk d + 1
  | (_, d) => uptoBulk d + 1
 end
def uptoSmall : (H : Type) → List (DataW H) → Bool := fun _ ds => decide (uptoBulkAll ds ≤ 1048576)
def OpenSpec.upto (s : _root_.Go.ChangeSpec) : _root_.Go.OpenSpec := { _root_.Go.OpenSpec.ofChange s with cond := some uptoSmall }

/-- 'laws.FnExactIsPairwise', WHERE WHAT IT READS IS OF BULK AT MOST 1048576: true; the input reads as it did. -/
def fnExactIsPairwiseUptoRow : OpenClaim := { program := "ytehlccnoalgliaa", sum := "8423e6fa6efc60f4f40cd4ba05ca3e34f205044e6570ad3729fb3e7e533ff5de", func := "loop.example/weighedevidence/laws.FnExactIsPairwise", spec := "fnExactIsPairwise", apart := false, narrowed := true }
def FnExactIsPairwiseUptoSaid : Prop := fnExactIsPairwiseUptoRow.holds Try.pinned (OpenSpec.upto fnExactIsPairwiseSpec)

/-- 'laws.FnExactIsAdditive', WHERE WHAT IT READS IS OF BULK AT MOST 1048576: true; the input reads as it did. -/
def fnExactIsAdditiveUptoRow : OpenClaim := { program := "ytehlccnoalgliaa", sum := "8423e6fa6efc60f4f40cd4ba05ca3e34f205044e6570ad3729fb3e7e533ff5de", func := "loop.example/weighedevidence/laws.FnExactIsAdditive", spec := "fnExactIsAdditive", apart := false, narrowed := true }
def FnExactIsAdditiveUptoSaid : Prop := fnExactIsAdditiveUptoRow.holds Try.pinned (OpenSpec.upto fnExactIsAdditiveSpec)

/-- 'laws.FnExactSumsAbove', WHERE WHAT IT READS IS OF BULK AT MOST 1048576: true; the input reads as it did. -/
def fnExactSumsAboveUptoRow : OpenClaim := { program := "ytehlccnoalgliaa", sum := "8423e6fa6efc60f4f40cd4ba05ca3e34f205044e6570ad3729fb3e7e533ff5de", func := "loop.example/weighedevidence/laws.FnExactSumsAbove", spec := "fnExactSumsAbove", unfollowed := true, recurses := true, apart := false, narrowed := true }
def FnExactSumsAboveUptoSaid : Prop := fnExactSumsAboveUptoRow.holds Try.pinned (OpenSpec.upto fnExactSumsAboveSpec)

/-- 'laws.FnExactSumsBelow', WHERE WHAT IT READS IS OF BULK AT MOST 1048576: true; the input reads as it did. -/
def fnExactSumsBelowUptoRow : OpenClaim := { program := "ytehlccnoalgliaa", sum := "8423e6fa6efc60f4f40cd4ba05ca3e34f205044e6570ad3729fb3e7e533ff5de", func := "loop.example/weighedevidence/laws.FnExactSumsBelow", spec := "fnExactSumsBelow", unfollowed := true, recurses := true, apart := false, narrowed := true }
def FnExactSumsBelowUptoSaid : Prop := fnExactSumsBelowUptoRow.holds Try.pinned (OpenSpec.upto fnExactSumsBelowSpec)

/-- 'laws.FnExactCommonPart', WHERE WHAT IT READS IS OF BULK AT MOST 1048576: true; the input reads as it did. -/
def fnExactCommonPartUptoRow : OpenClaim := { program := "ytehlccnoalgliaa", sum := "8423e6fa6efc60f4f40cd4ba05ca3e34f205044e6570ad3729fb3e7e533ff5de", func := "loop.example/weighedevidence/laws.FnExactCommonPart", spec := "fnExactCommonPart", unfollowed := true, recurses := true, apart := false, narrowed := true }
def FnExactCommonPartUptoSaid : Prop := fnExactCommonPartUptoRow.holds Try.pinned (OpenSpec.upto fnExactCommonPartSpec)

/-- 'laws.FnExactBelievedPart', WHERE WHAT IT READS IS OF BULK AT MOST 1048576: true; the input reads as it did. -/
def fnExactBelievedPartUptoRow : OpenClaim := { program := "ytehlccnoalgliaa", sum := "8423e6fa6efc60f4f40cd4ba05ca3e34f205044e6570ad3729fb3e7e533ff5de", func := "loop.example/weighedevidence/laws.FnExactBelievedPart", spec := "fnExactBelievedPart", unfollowed := true, recurses := true, apart := false, narrowed := true }
def FnExactBelievedPartUptoSaid : Prop := fnExactBelievedPartUptoRow.holds Try.pinned (OpenSpec.upto fnExactBelievedPartSpec)

/-- 'laws.FnExactImpliedPart', WHERE WHAT IT READS IS OF BULK AT MOST 1048576: true; the input reads as it did. -/
def fnExactImpliedPartUptoRow : OpenClaim := { program := "ytehlccnoalgliaa", sum := "8423e6fa6efc60f4f40cd4ba05ca3e34f205044e6570ad3729fb3e7e533ff5de", func := "loop.example/weighedevidence/laws.FnExactImpliedPart", spec := "fnExactImpliedPart", unfollowed := true, recurses := true, apart := false, narrowed := true }
def FnExactImpliedPartUptoSaid : Prop := fnExactImpliedPartUptoRow.holds Try.pinned (OpenSpec.upto fnExactImpliedPartSpec)

/-- 'laws.FnExactPossiblePart', WHERE WHAT IT READS IS OF BULK AT MOST 1048576: true; the input reads as it did. -/
def fnExactPossiblePartUptoRow : OpenClaim := { program := "ytehlccnoalgliaa", sum := "8423e6fa6efc60f4f40cd4ba05ca3e34f205044e6570ad3729fb3e7e533ff5de", func := "loop.example/weighedevidence/laws.FnExactPossiblePart", spec := "fnExactPossiblePart", unfollowed := true, recurses := true, apart := false, narrowed := true }
def FnExactPossiblePartUptoSaid : Prop := fnExactPossiblePartUptoRow.holds Try.pinned (OpenSpec.upto fnExactPossiblePartSpec)

/-- 'laws.FnExactIsBeliefTable', WHERE WHAT IT READS IS OF BULK AT MOST 1048576: true; the input reads as it did. -/
def fnExactIsBeliefTableUptoRow : OpenClaim := { program := "ytehlccnoalgliaa", sum := "8423e6fa6efc60f4f40cd4ba05ca3e34f205044e6570ad3729fb3e7e533ff5de", func := "loop.example/weighedevidence/laws.FnExactIsBeliefTable", spec := "fnExactIsBeliefTable", unfollowed := true, recurses := true, apart := false, narrowed := true }
def FnExactIsBeliefTableUptoSaid : Prop := fnExactIsBeliefTableUptoRow.holds Try.pinned (OpenSpec.upto fnExactIsBeliefTableSpec)

/-- 'laws.FnExactPartsAbove', WHERE WHAT IT READS IS OF BULK AT MOST 1048576: true; the input reads as it did. -/
def fnExactPartsAboveUptoRow : OpenClaim := { program := "ytehlccnoalgliaa", sum := "8423e6fa6efc60f4f40cd4ba05ca3e34f205044e6570ad3729fb3e7e533ff5de", func := "loop.example/weighedevidence/laws.FnExactPartsAbove", spec := "fnExactPartsAbove", unfollowed := true, recurses := true, apart := false, narrowed := true }
def FnExactPartsAboveUptoSaid : Prop := fnExactPartsAboveUptoRow.holds Try.pinned (OpenSpec.upto fnExactPartsAboveSpec)

/-- 'laws.FnExactPartsBelow', WHERE WHAT IT READS IS OF BULK AT MOST 1048576: true; the input reads as it did. -/
def fnExactPartsBelowUptoRow : OpenClaim := { program := "ytehlccnoalgliaa", sum := "8423e6fa6efc60f4f40cd4ba05ca3e34f205044e6570ad3729fb3e7e533ff5de", func := "loop.example/weighedevidence/laws.FnExactPartsBelow", spec := "fnExactPartsBelow", unfollowed := true, recurses := true, apart := false, narrowed := true }
def FnExactPartsBelowUptoSaid : Prop := fnExactPartsBelowUptoRow.holds Try.pinned (OpenSpec.upto fnExactPartsBelowSpec)

/-- 'laws.FnExactContourOf', WHERE WHAT IT READS IS OF BULK AT MOST 1048576: true; the input reads as it did. -/
def fnExactContourOfUptoRow : OpenClaim := { program := "ytehlccnoalgliaa", sum := "8423e6fa6efc60f4f40cd4ba05ca3e34f205044e6570ad3729fb3e7e533ff5de", func := "loop.example/weighedevidence/laws.FnExactContourOf", spec := "fnExactContourOf", unfollowed := true, recurses := true, apart := false, narrowed := true }
def FnExactContourOfUptoSaid : Prop := fnExactContourOfUptoRow.holds Try.pinned (OpenSpec.upto fnExactContourOfSpec)

end Rows
end Go.Proofs.Ytehlccnoalgliaa
