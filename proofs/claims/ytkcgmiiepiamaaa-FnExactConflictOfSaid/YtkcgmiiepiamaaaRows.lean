/-
  No cell of these rows narrows 'for every input' (looked for: loops, veiled, ifaces, maps, wideKeys, modest, calm, conditions, laid).
  DERIVED. THE GIVEN ROWS OF THIS SEAT. 12 by the template 'for every input the law returns true; each argument reads behind the call as it read before'; 0 by the template 'total and deterministic' (their statements: YtkcgmiiepiamaaaTotals.lean).
  GIVEN WITH THE SEED: the statements are not yours to turn. If you find one false, say at which input.
  Laid BY PROGRAM, IN A SANDBOX (cutbox-rows.mjs): the forced cells as the released guide's own fill.sh prints them over the translation e02222c4de84239f… (all of the seat's roots in one cut). By AI agents, Wed Nov 11 2026. No macro, syntax, notation, axiom, sorry.
-/
import Derived.Test.YtkcgmiiepiamaaaChecked
import GoSem.Claim
import GoSem.ClaimJoined
import GoSem.ClaimMapViews
import Derived.JoinedTies
import Derived.KernelRfl
namespace Go.Proofs.Ytkcgmiiepiamaaa
/- THE CELL 'sum', in the pinned program and in every row, IS THE sha256 OF THE DUMP (.gsa) THAT YtkcgmiiepiamaaaProg.lean LOADS. Nothing in Lean hashes anything: it is a label: what it is worth is what the hold of that sum in a sandbox is worth. -/
noncomputable def Try.pinned : Pinned := { name := "ytkcgmiiepiamaaa", sum := "e02222c4de84239fca6bb9fcae191ed7a0e4d174dcfc2b5a3d1d89badfa5e4af", checked := Try.checked }
namespace Rows
def none {H : Type} : Left H := { results := [], args := [] }

/-- 'laws.FnExactNegateMass': WHATEVER THE INPUT: true; the input reads as it did. -/
def fnExactNegateMassSpec : ChangeSpec := { name := "fnExactNegateMass", fn := fun _ => fun
  | [d] => { results := [.lit (.bool true)], args := [d] }
  | _ => none }
def fnExactNegateMassRow : OpenClaim := { program := "ytkcgmiiepiamaaa", sum := "e02222c4de84239fca6bb9fcae191ed7a0e4d174dcfc2b5a3d1d89badfa5e4af", func := "loop.example/weighedevidence/laws.FnExactNegateMass", spec := "fnExactNegateMass", apart := false }
def FnExactNegateMassSaid : Prop := fnExactNegateMassRow.holds Try.pinned (OpenSpec.ofChange fnExactNegateMassSpec)

/-- ITS FALSE NEIGHBOUR: 'it returns false'. Refute it at one input. -/
def fnExactNegateMassWrong : ChangeSpec := { name := "fnExactNegateMass", fn := fun _ => fun
  | [d] => { results := [.lit (.bool false)], args := [d] }
  | _ => none }
def FnExactNegateMassWrongFalsely : Prop := fnExactNegateMassRow.holds Try.pinned (OpenSpec.ofChange fnExactNegateMassWrong)

/-- 'laws.FnExactNormalMass': WHATEVER THE INPUT: true; the input reads as it did. -/
def fnExactNormalMassSpec : ChangeSpec := { name := "fnExactNormalMass", fn := fun _ => fun
  | [d] => { results := [.lit (.bool true)], args := [d] }
  | _ => none }
def fnExactNormalMassRow : OpenClaim := { program := "ytkcgmiiepiamaaa", sum := "e02222c4de84239fca6bb9fcae191ed7a0e4d174dcfc2b5a3d1d89badfa5e4af", func := "loop.example/weighedevidence/laws.FnExactNormalMass", spec := "fnExactNormalMass", apart := false }
def FnExactNormalMassSaid : Prop := fnExactNormalMassRow.holds Try.pinned (OpenSpec.ofChange fnExactNormalMassSpec)

/-- ITS FALSE NEIGHBOUR: 'it returns false'. Refute it at one input. -/
def fnExactNormalMassWrong : ChangeSpec := { name := "fnExactNormalMass", fn := fun _ => fun
  | [d] => { results := [.lit (.bool false)], args := [d] }
  | _ => none }
def FnExactNormalMassWrongFalsely : Prop := fnExactNormalMassRow.holds Try.pinned (OpenSpec.ofChange fnExactNormalMassWrong)

/-- 'laws.FnExactConflictOf': WHATEVER THE INPUT: true; the input reads as it did. -/
def fnExactConflictOfSpec : ChangeSpec := { name := "fnExactConflictOf", fn := fun _ => fun
  | [d1, d2] => { results := [.lit (.bool true)], args := [d1, d2] }
  | _ => none }
def fnExactConflictOfRow : OpenClaim := { program := "ytkcgmiiepiamaaa", sum := "e02222c4de84239fca6bb9fcae191ed7a0e4d174dcfc2b5a3d1d89badfa5e4af", func := "loop.example/weighedevidence/laws.FnExactConflictOf", spec := "fnExactConflictOf", unfollowed := true, recurses := true, apart := false }
def FnExactConflictOfSaid : Prop := fnExactConflictOfRow.holds Try.pinned (OpenSpec.ofChange fnExactConflictOfSpec)

/-- ITS FALSE NEIGHBOUR: 'it returns false'. Refute it at one input. -/
def fnExactConflictOfWrong : ChangeSpec := { name := "fnExactConflictOf", fn := fun _ => fun
  | [d1, d2] => { results := [.lit (.bool false)], args := [d1, d2] }
  | _ => none }
def FnExactConflictOfWrongFalsely : Prop := fnExactConflictOfRow.holds Try.pinned (OpenSpec.ofChange fnExactConflictOfWrong)

/-- 'laws.FnExactBeliefOf': WHATEVER THE INPUT: true; the input reads as it did. -/
def fnExactBeliefOfSpec : ChangeSpec := { name := "fnExactBeliefOf", fn := fun _ => fun
  | [d1, d2] => { results := [.lit (.bool true)], args := [d1, d2] }
  | _ => none }
def fnExactBeliefOfRow : OpenClaim := { program := "ytkcgmiiepiamaaa", sum := "e02222c4de84239fca6bb9fcae191ed7a0e4d174dcfc2b5a3d1d89badfa5e4af", func := "loop.example/weighedevidence/laws.FnExactBeliefOf", spec := "fnExactBeliefOf", unfollowed := true, recurses := true, apart := false }
def FnExactBeliefOfSaid : Prop := fnExactBeliefOfRow.holds Try.pinned (OpenSpec.ofChange fnExactBeliefOfSpec)

/-- ITS FALSE NEIGHBOUR: 'it returns false'. Refute it at one input. -/
def fnExactBeliefOfWrong : ChangeSpec := { name := "fnExactBeliefOf", fn := fun _ => fun
  | [d1, d2] => { results := [.lit (.bool false)], args := [d1, d2] }
  | _ => none }
def FnExactBeliefOfWrongFalsely : Prop := fnExactBeliefOfRow.holds Try.pinned (OpenSpec.ofChange fnExactBeliefOfWrong)

/-- 'laws.FnExactPossibilityOf': WHATEVER THE INPUT: true; the input reads as it did. -/
def fnExactPossibilityOfSpec : ChangeSpec := { name := "fnExactPossibilityOf", fn := fun _ => fun
  | [d1, d2] => { results := [.lit (.bool true)], args := [d1, d2] }
  | _ => none }
def fnExactPossibilityOfRow : OpenClaim := { program := "ytkcgmiiepiamaaa", sum := "e02222c4de84239fca6bb9fcae191ed7a0e4d174dcfc2b5a3d1d89badfa5e4af", func := "loop.example/weighedevidence/laws.FnExactPossibilityOf", spec := "fnExactPossibilityOf", unfollowed := true, recurses := true, apart := false }
def FnExactPossibilityOfSaid : Prop := fnExactPossibilityOfRow.holds Try.pinned (OpenSpec.ofChange fnExactPossibilityOfSpec)

/-- ITS FALSE NEIGHBOUR: 'it returns false'. Refute it at one input. -/
def fnExactPossibilityOfWrong : ChangeSpec := { name := "fnExactPossibilityOf", fn := fun _ => fun
  | [d1, d2] => { results := [.lit (.bool false)], args := [d1, d2] }
  | _ => none }
def FnExactPossibilityOfWrongFalsely : Prop := fnExactPossibilityOfRow.holds Try.pinned (OpenSpec.ofChange fnExactPossibilityOfWrong)

/-- 'laws.FnExactMostBelieved': WHATEVER THE INPUT: true; the input reads as it did. -/
def fnExactMostBelievedSpec : ChangeSpec := { name := "fnExactMostBelieved", fn := fun _ => fun
  | [d] => { results := [.lit (.bool true)], args := [d] }
  | _ => none }
def fnExactMostBelievedRow : OpenClaim := { program := "ytkcgmiiepiamaaa", sum := "e02222c4de84239fca6bb9fcae191ed7a0e4d174dcfc2b5a3d1d89badfa5e4af", func := "loop.example/weighedevidence/laws.FnExactMostBelieved", spec := "fnExactMostBelieved", apart := false }
def FnExactMostBelievedSaid : Prop := fnExactMostBelievedRow.holds Try.pinned (OpenSpec.ofChange fnExactMostBelievedSpec)

/-- ITS FALSE NEIGHBOUR: 'it returns false'. Refute it at one input. -/
def fnExactMostBelievedWrong : ChangeSpec := { name := "fnExactMostBelieved", fn := fun _ => fun
  | [d] => { results := [.lit (.bool false)], args := [d] }
  | _ => none }
def FnExactMostBelievedWrongFalsely : Prop := fnExactMostBelievedRow.holds Try.pinned (OpenSpec.ofChange fnExactMostBelievedWrong)

/-- 'laws.FnExactDifferMasses': WHATEVER THE INPUT: true; the input reads as it did. -/
def fnExactDifferMassesSpec : ChangeSpec := { name := "fnExactDifferMasses", fn := fun _ => fun
  | [d1, d2] => { results := [.lit (.bool true)], args := [d1, d2] }
  | _ => none }
def fnExactDifferMassesRow : OpenClaim := { program := "ytkcgmiiepiamaaa", sum := "e02222c4de84239fca6bb9fcae191ed7a0e4d174dcfc2b5a3d1d89badfa5e4af", func := "loop.example/weighedevidence/laws.FnExactDifferMasses", spec := "fnExactDifferMasses", unfollowed := true, recurses := true, apart := false }
def FnExactDifferMassesSaid : Prop := fnExactDifferMassesRow.holds Try.pinned (OpenSpec.ofChange fnExactDifferMassesSpec)

/-- ITS FALSE NEIGHBOUR: 'it returns false'. Refute it at one input. -/
def fnExactDifferMassesWrong : ChangeSpec := { name := "fnExactDifferMasses", fn := fun _ => fun
  | [d1, d2] => { results := [.lit (.bool false)], args := [d1, d2] }
  | _ => none }
def FnExactDifferMassesWrongFalsely : Prop := fnExactDifferMassesRow.holds Try.pinned (OpenSpec.ofChange fnExactDifferMassesWrong)

/-- 'laws.FnExactDisjoinMasses': WHATEVER THE INPUT: true; the input reads as it did. -/
def fnExactDisjoinMassesSpec : ChangeSpec := { name := "fnExactDisjoinMasses", fn := fun _ => fun
  | [d1, d2] => { results := [.lit (.bool true)], args := [d1, d2] }
  | _ => none }
def fnExactDisjoinMassesRow : OpenClaim := { program := "ytkcgmiiepiamaaa", sum := "e02222c4de84239fca6bb9fcae191ed7a0e4d174dcfc2b5a3d1d89badfa5e4af", func := "loop.example/weighedevidence/laws.FnExactDisjoinMasses", spec := "fnExactDisjoinMasses", unfollowed := true, recurses := true, apart := false }
def FnExactDisjoinMassesSaid : Prop := fnExactDisjoinMassesRow.holds Try.pinned (OpenSpec.ofChange fnExactDisjoinMassesSpec)

/-- ITS FALSE NEIGHBOUR: 'it returns false'. Refute it at one input. -/
def fnExactDisjoinMassesWrong : ChangeSpec := { name := "fnExactDisjoinMasses", fn := fun _ => fun
  | [d1, d2] => { results := [.lit (.bool false)], args := [d1, d2] }
  | _ => none }
def FnExactDisjoinMassesWrongFalsely : Prop := fnExactDisjoinMassesRow.holds Try.pinned (OpenSpec.ofChange fnExactDisjoinMassesWrong)

/-- 'laws.FnExactConjoinMasses': WHATEVER THE INPUT: true; the input reads as it did. -/
def fnExactConjoinMassesSpec : ChangeSpec := { name := "fnExactConjoinMasses", fn := fun _ => fun
  | [d1, d2] => { results := [.lit (.bool true)], args := [d1, d2] }
  | _ => none }
def fnExactConjoinMassesRow : OpenClaim := { program := "ytkcgmiiepiamaaa", sum := "e02222c4de84239fca6bb9fcae191ed7a0e4d174dcfc2b5a3d1d89badfa5e4af", func := "loop.example/weighedevidence/laws.FnExactConjoinMasses", spec := "fnExactConjoinMasses", unfollowed := true, recurses := true, apart := false }
def FnExactConjoinMassesSaid : Prop := fnExactConjoinMassesRow.holds Try.pinned (OpenSpec.ofChange fnExactConjoinMassesSpec)

/-- ITS FALSE NEIGHBOUR: 'it returns false'. Refute it at one input. -/
def fnExactConjoinMassesWrong : ChangeSpec := { name := "fnExactConjoinMasses", fn := fun _ => fun
  | [d1, d2] => { results := [.lit (.bool false)], args := [d1, d2] }
  | _ => none }
def FnExactConjoinMassesWrongFalsely : Prop := fnExactConjoinMassesRow.holds Try.pinned (OpenSpec.ofChange fnExactConjoinMassesWrong)

/-- 'laws.FnExactYagerMass': WHATEVER THE INPUT: true; the input reads as it did. -/
def fnExactYagerMassSpec : ChangeSpec := { name := "fnExactYagerMass", fn := fun _ => fun
  | [d1, d2] => { results := [.lit (.bool true)], args := [d1, d2] }
  | _ => none }
def fnExactYagerMassRow : OpenClaim := { program := "ytkcgmiiepiamaaa", sum := "e02222c4de84239fca6bb9fcae191ed7a0e4d174dcfc2b5a3d1d89badfa5e4af", func := "loop.example/weighedevidence/laws.FnExactYagerMass", spec := "fnExactYagerMass", unfollowed := true, recurses := true, apart := false }
def FnExactYagerMassSaid : Prop := fnExactYagerMassRow.holds Try.pinned (OpenSpec.ofChange fnExactYagerMassSpec)

/-- ITS FALSE NEIGHBOUR: 'it returns false'. Refute it at one input. -/
def fnExactYagerMassWrong : ChangeSpec := { name := "fnExactYagerMass", fn := fun _ => fun
  | [d1, d2] => { results := [.lit (.bool false)], args := [d1, d2] }
  | _ => none }
def FnExactYagerMassWrongFalsely : Prop := fnExactYagerMassRow.holds Try.pinned (OpenSpec.ofChange fnExactYagerMassWrong)

/-- 'laws.FnExactJoinMasses': WHATEVER THE INPUT: true; the input reads as it did. -/
def fnExactJoinMassesSpec : ChangeSpec := { name := "fnExactJoinMasses", fn := fun _ => fun
  | [d1, d2] => { results := [.lit (.bool true)], args := [d1, d2] }
  | _ => none }
def fnExactJoinMassesRow : OpenClaim := { program := "ytkcgmiiepiamaaa", sum := "e02222c4de84239fca6bb9fcae191ed7a0e4d174dcfc2b5a3d1d89badfa5e4af", func := "loop.example/weighedevidence/laws.FnExactJoinMasses", spec := "fnExactJoinMasses", unfollowed := true, recurses := true, apart := false }
def FnExactJoinMassesSaid : Prop := fnExactJoinMassesRow.holds Try.pinned (OpenSpec.ofChange fnExactJoinMassesSpec)

/-- ITS FALSE NEIGHBOUR: 'it returns false'. Refute it at one input. -/
def fnExactJoinMassesWrong : ChangeSpec := { name := "fnExactJoinMasses", fn := fun _ => fun
  | [d1, d2] => { results := [.lit (.bool false)], args := [d1, d2] }
  | _ => none }
def FnExactJoinMassesWrongFalsely : Prop := fnExactJoinMassesRow.holds Try.pinned (OpenSpec.ofChange fnExactJoinMassesWrong)

/-- 'laws.FnExactMeanSize': WHATEVER THE INPUT: true; the input reads as it did. -/
def fnExactMeanSizeSpec : ChangeSpec := { name := "fnExactMeanSize", fn := fun _ => fun
  | [d] => { results := [.lit (.bool true)], args := [d] }
  | _ => none }
def fnExactMeanSizeRow : OpenClaim := { program := "ytkcgmiiepiamaaa", sum := "e02222c4de84239fca6bb9fcae191ed7a0e4d174dcfc2b5a3d1d89badfa5e4af", func := "loop.example/weighedevidence/laws.FnExactMeanSize", spec := "fnExactMeanSize", apart := false }
def FnExactMeanSizeSaid : Prop := fnExactMeanSizeRow.holds Try.pinned (OpenSpec.ofChange fnExactMeanSizeSpec)

/-- ITS FALSE NEIGHBOUR: 'it returns false'. Refute it at one input. -/
def fnExactMeanSizeWrong : ChangeSpec := { name := "fnExactMeanSize", fn := fun _ => fun
  | [d] => { results := [.lit (.bool false)], args := [d] }
  | _ => none }
def FnExactMeanSizeWrongFalsely : Prop := fnExactMeanSizeRow.holds Try.pinned (OpenSpec.ofChange fnExactMeanSizeWrong)

/- THE SECOND FORM. 'bulk': how many values and letters a reading holds, each counted each time it is reached (what is shared counts as often as it is met; a slice's spare places count too). A statement '..UptoSaid' is the law's where the arguments, and the package variables that the reading takes, are together of bulk at most 1048576: NARROWER than '..Said'. Prove '..Said' where nothing that the law and all that it calls make is longer than what came in: it says more and counts as full. Else prove '..UptoSaid'. A law counts once. -/
mutual
def uptoBulk {H : Type} : DataW H → Nat
  | .lit (.string bytes) => bytes.length + 1
  | .lit _ => 1
  | .nil => 1
  | .ptr d => uptoBulk d + 1
  | .slice elems spare => uptoBulkAll elems + uptoBulkAll spare + 1
  | .agg parts => uptoBulkAll parts + 1
  | .iface _ d => uptoBulk d + 1
  | .map entries => uptoBulkEntries entries + 1
  | .held _ => 1
def uptoBulkAll {H : Type} : List (DataW H) → Nat
  | [] => 0
  | d :: r => uptoBulk d + uptoBulkAll r
def uptoBulkEntries {H : Type} : List (Lit × DataW H) → Nat
  | [] => 0
  | x :: r => uptoBulkEntry x + uptoBulkEntries r
def uptoBulkEntry {H : Type} : Lit × DataW H → Nat
  | (.string bytes, d) => bytes.length + uptoBulk d + 1
  | (_, d) => uptoBulk d + 1
 end
def uptoSmall : (H : Type) → List (DataW H) → Bool := fun _ ds => decide (uptoBulkAll ds ≤ 1048576)
def OpenSpec.upto (s : _root_.Go.ChangeSpec) : _root_.Go.OpenSpec := { _root_.Go.OpenSpec.ofChange s with cond := some uptoSmall }

/-- 'laws.FnExactNegateMass', WHERE WHAT IT READS IS OF BULK AT MOST 1048576: true; the input reads as it did. -/
def fnExactNegateMassUptoRow : OpenClaim := { program := "ytkcgmiiepiamaaa", sum := "e02222c4de84239fca6bb9fcae191ed7a0e4d174dcfc2b5a3d1d89badfa5e4af", func := "loop.example/weighedevidence/laws.FnExactNegateMass", spec := "fnExactNegateMass", apart := false, narrowed := true }
def FnExactNegateMassUptoSaid : Prop := fnExactNegateMassUptoRow.holds Try.pinned (OpenSpec.upto fnExactNegateMassSpec)

/-- 'laws.FnExactNormalMass', WHERE WHAT IT READS IS OF BULK AT MOST 1048576: true; the input reads as it did. -/
def fnExactNormalMassUptoRow : OpenClaim := { program := "ytkcgmiiepiamaaa", sum := "e02222c4de84239fca6bb9fcae191ed7a0e4d174dcfc2b5a3d1d89badfa5e4af", func := "loop.example/weighedevidence/laws.FnExactNormalMass", spec := "fnExactNormalMass", apart := false, narrowed := true }
def FnExactNormalMassUptoSaid : Prop := fnExactNormalMassUptoRow.holds Try.pinned (OpenSpec.upto fnExactNormalMassSpec)

/-- 'laws.FnExactConflictOf', WHERE WHAT IT READS IS OF BULK AT MOST 1048576: true; the input reads as it did. -/
def fnExactConflictOfUptoRow : OpenClaim := { program := "ytkcgmiiepiamaaa", sum := "e02222c4de84239fca6bb9fcae191ed7a0e4d174dcfc2b5a3d1d89badfa5e4af", func := "loop.example/weighedevidence/laws.FnExactConflictOf", spec := "fnExactConflictOf", unfollowed := true, recurses := true, apart := false, narrowed := true }
def FnExactConflictOfUptoSaid : Prop := fnExactConflictOfUptoRow.holds Try.pinned (OpenSpec.upto fnExactConflictOfSpec)

/-- 'laws.FnExactBeliefOf', WHERE WHAT IT READS IS OF BULK AT MOST 1048576: true; the input reads as it did. -/
def fnExactBeliefOfUptoRow : OpenClaim := { program := "ytkcgmiiepiamaaa", sum := "e02222c4de84239fca6bb9fcae191ed7a0e4d174dcfc2b5a3d1d89badfa5e4af", func := "loop.example/weighedevidence/laws.FnExactBeliefOf", spec := "fnExactBeliefOf", unfollowed := true, recurses := true, apart := false, narrowed := true }
def FnExactBeliefOfUptoSaid : Prop := fnExactBeliefOfUptoRow.holds Try.pinned (OpenSpec.upto fnExactBeliefOfSpec)

/-- 'laws.FnExactPossibilityOf', WHERE WHAT IT READS IS OF BULK AT MOST 1048576: true; the input reads as it did. -/
def fnExactPossibilityOfUptoRow : OpenClaim := { program := "ytkcgmiiepiamaaa", sum := "e02222c4de84239fca6bb9fcae191ed7a0e4d174dcfc2b5a3d1d89badfa5e4af", func := "loop.example/weighedevidence/laws.FnExactPossibilityOf", spec := "fnExactPossibilityOf", unfollowed := true, recurses := true, apart := false, narrowed := true }
def FnExactPossibilityOfUptoSaid : Prop := fnExactPossibilityOfUptoRow.holds Try.pinned (OpenSpec.upto fnExactPossibilityOfSpec)

/-- 'laws.FnExactMostBelieved', WHERE WHAT IT READS IS OF BULK AT MOST 1048576: true; the input reads as it did. -/
def fnExactMostBelievedUptoRow : OpenClaim := { program := "ytkcgmiiepiamaaa", sum := "e02222c4de84239fca6bb9fcae191ed7a0e4d174dcfc2b5a3d1d89badfa5e4af", func := "loop.example/weighedevidence/laws.FnExactMostBelieved", spec := "fnExactMostBelieved", apart := false, narrowed := true }
def FnExactMostBelievedUptoSaid : Prop := fnExactMostBelievedUptoRow.holds Try.pinned (OpenSpec.upto fnExactMostBelievedSpec)

/-- 'laws.FnExactDifferMasses', WHERE WHAT IT READS IS OF BULK AT MOST 1048576: true; the input reads as it did. -/
def fnExactDifferMassesUptoRow : OpenClaim := { program := "ytkcgmiiepiamaaa", sum := "e02222c4de84239fca6bb9fcae191ed7a0e4d174dcfc2b5a3d1d89badfa5e4af", func := "loop.example/weighedevidence/laws.FnExactDifferMasses", spec := "fnExactDifferMasses", unfollowed := true, recurses := true, apart := false, narrowed := true }
def FnExactDifferMassesUptoSaid : Prop := fnExactDifferMassesUptoRow.holds Try.pinned (OpenSpec.upto fnExactDifferMassesSpec)

/-- 'laws.FnExactDisjoinMasses', WHERE WHAT IT READS IS OF BULK AT MOST 1048576: true; the input reads as it did. -/
def fnExactDisjoinMassesUptoRow : OpenClaim := { program := "ytkcgmiiepiamaaa", sum := "e02222c4de84239fca6bb9fcae191ed7a0e4d174dcfc2b5a3d1d89badfa5e4af", func := "loop.example/weighedevidence/laws.FnExactDisjoinMasses", spec := "fnExactDisjoinMasses", unfollowed := true, recurses := true, apart := false, narrowed := true }
def FnExactDisjoinMassesUptoSaid : Prop := fnExactDisjoinMassesUptoRow.holds Try.pinned (OpenSpec.upto fnExactDisjoinMassesSpec)

/-- 'laws.FnExactConjoinMasses', WHERE WHAT IT READS IS OF BULK AT MOST 1048576: true; the input reads as it did. -/
def fnExactConjoinMassesUptoRow : OpenClaim := { program := "ytkcgmiiepiamaaa", sum := "e02222c4de84239fca6bb9fcae191ed7a0e4d174dcfc2b5a3d1d89badfa5e4af", func := "loop.example/weighedevidence/laws.FnExactConjoinMasses", spec := "fnExactConjoinMasses", unfollowed := true, recurses := true, apart := false, narrowed := true }
def FnExactConjoinMassesUptoSaid : Prop := fnExactConjoinMassesUptoRow.holds Try.pinned (OpenSpec.upto fnExactConjoinMassesSpec)

/-- 'laws.FnExactYagerMass', WHERE WHAT IT READS IS OF BULK AT MOST 1048576: true; the input reads as it did. -/
def fnExactYagerMassUptoRow : OpenClaim := { program := "ytkcgmiiepiamaaa", sum := "e02222c4de84239fca6bb9fcae191ed7a0e4d174dcfc2b5a3d1d89badfa5e4af", func := "loop.example/weighedevidence/laws.FnExactYagerMass", spec := "fnExactYagerMass", unfollowed := true, recurses := true, apart := false, narrowed := true }
def FnExactYagerMassUptoSaid : Prop := fnExactYagerMassUptoRow.holds Try.pinned (OpenSpec.upto fnExactYagerMassSpec)

/-- 'laws.FnExactJoinMasses', WHERE WHAT IT READS IS OF BULK AT MOST 1048576: true; the input reads as it did. -/
def fnExactJoinMassesUptoRow : OpenClaim := { program := "ytkcgmiiepiamaaa", sum := "e02222c4de84239fca6bb9fcae191ed7a0e4d174dcfc2b5a3d1d89badfa5e4af", func := "loop.example/weighedevidence/laws.FnExactJoinMasses", spec := "fnExactJoinMasses", unfollowed := true, recurses := true, apart := false, narrowed := true }
def FnExactJoinMassesUptoSaid : Prop := fnExactJoinMassesUptoRow.holds Try.pinned (OpenSpec.upto fnExactJoinMassesSpec)

/-- 'laws.FnExactMeanSize', WHERE WHAT IT READS IS OF BULK AT MOST 1048576: true; the input reads as it did. -/
def fnExactMeanSizeUptoRow : OpenClaim := { program := "ytkcgmiiepiamaaa", sum := "e02222c4de84239fca6bb9fcae191ed7a0e4d174dcfc2b5a3d1d89badfa5e4af", func := "loop.example/weighedevidence/laws.FnExactMeanSize", spec := "fnExactMeanSize", apart := false, narrowed := true }
def FnExactMeanSizeUptoSaid : Prop := fnExactMeanSizeUptoRow.holds Try.pinned (OpenSpec.upto fnExactMeanSizeSpec)

end Rows
end Go.Proofs.Ytkcgmiiepiamaaa
