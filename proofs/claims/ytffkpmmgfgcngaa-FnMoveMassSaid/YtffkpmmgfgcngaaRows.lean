/-
  No cell of these rows narrows 'for every input' (looked for: loops, veiled, ifaces, maps, wideKeys, modest, calm, conditions, laid).
  DERIVED. THE GIVEN ROWS OF THIS SEAT. 12 by the template 'for every input the law returns true; each argument reads behind the call as it read before'; 0 by the template 'total and deterministic' (their statements: YtffkpmmgfgcngaaTotals.lean).
  GIVEN WITH THE SEED: the statements are not yours to turn. If you find one false, say at which input.
  Laid BY PROGRAM, IN A SANDBOX (cutbox-rows.mjs): the forced cells as the released guide's own fill.sh prints them over the translation fc70a0a613d9351c… (all of the seat's roots in one cut). By AI agents, Wed Nov 11 2026. No macro, syntax, notation, axiom, sorry.
-/
import Derived.Test.YtffkpmmgfgcngaaChecked
import GoSem.Claim
import GoSem.ClaimJoined
import GoSem.ClaimMapViews
import Derived.JoinedTies
import Derived.KernelRfl
namespace Go.Proofs.Ytffkpmmgfgcngaa
/- THE CELL 'sum', in the pinned program and in every row, IS THE sha256 OF THE DUMP (.gsa) THAT YtffkpmmgfgcngaaProg.lean LOADS. Nothing in Lean hashes anything: it is a label: what it is worth is what the hold of that sum in a sandbox is worth. -/
noncomputable def Try.pinned : Pinned := { name := "ytffkpmmgfgcngaa", sum := "fc70a0a613d9351c4b22958939a446d8ad265a2794edb11c43bd27a1723c2066", checked := Try.checked }
namespace Rows
def none {H : Type} : Left H := { results := [], args := [] }

/-- 'laws.FnConjoin': WHATEVER THE INPUT: true; the input reads as it did. -/
def fnConjoinSpec : ChangeSpec := { name := "fnConjoin", fn := fun _ => fun
  | [d1, d2] => { results := [.lit (.bool true)], args := [d1, d2] }
  | _ => none }
def fnConjoinRow : OpenClaim := { program := "ytffkpmmgfgcngaa", sum := "fc70a0a613d9351c4b22958939a446d8ad265a2794edb11c43bd27a1723c2066", func := "loop.example/weighedevidence/laws.FnConjoin", spec := "fnConjoin", unfollowed := true, recurses := true, apart := false }
def FnConjoinSaid : Prop := fnConjoinRow.holds Try.pinned (OpenSpec.ofChange fnConjoinSpec)

/-- ITS FALSE NEIGHBOUR: 'it returns false'. Refute it at one input. -/
def fnConjoinWrong : ChangeSpec := { name := "fnConjoin", fn := fun _ => fun
  | [d1, d2] => { results := [.lit (.bool false)], args := [d1, d2] }
  | _ => none }
def FnConjoinWrongFalsely : Prop := fnConjoinRow.holds Try.pinned (OpenSpec.ofChange fnConjoinWrong)

/-- 'laws.FnDisjoin': WHATEVER THE INPUT: true; the input reads as it did. -/
def fnDisjoinSpec : ChangeSpec := { name := "fnDisjoin", fn := fun _ => fun
  | [d] => { results := [.lit (.bool true)], args := [d] }
  | _ => none }
def fnDisjoinRow : OpenClaim := { program := "ytffkpmmgfgcngaa", sum := "fc70a0a613d9351c4b22958939a446d8ad265a2794edb11c43bd27a1723c2066", func := "loop.example/weighedevidence/laws.FnDisjoin", spec := "fnDisjoin", unfollowed := true, recurses := true, apart := false }
def FnDisjoinSaid : Prop := fnDisjoinRow.holds Try.pinned (OpenSpec.ofChange fnDisjoinSpec)

/-- ITS FALSE NEIGHBOUR: 'it returns false'. Refute it at one input. -/
def fnDisjoinWrong : ChangeSpec := { name := "fnDisjoin", fn := fun _ => fun
  | [d] => { results := [.lit (.bool false)], args := [d] }
  | _ => none }
def FnDisjoinWrongFalsely : Prop := fnDisjoinRow.holds Try.pinned (OpenSpec.ofChange fnDisjoinWrong)

/-- 'laws.FnDiffer': WHATEVER THE INPUT: true; the input reads as it did. -/
def fnDifferSpec : ChangeSpec := { name := "fnDiffer", fn := fun _ => fun
  | [d] => { results := [.lit (.bool true)], args := [d] }
  | _ => none }
def fnDifferRow : OpenClaim := { program := "ytffkpmmgfgcngaa", sum := "fc70a0a613d9351c4b22958939a446d8ad265a2794edb11c43bd27a1723c2066", func := "loop.example/weighedevidence/laws.FnDiffer", spec := "fnDiffer", unfollowed := true, recurses := true, apart := false }
def FnDifferSaid : Prop := fnDifferRow.holds Try.pinned (OpenSpec.ofChange fnDifferSpec)

/-- ITS FALSE NEIGHBOUR: 'it returns false'. Refute it at one input. -/
def fnDifferWrong : ChangeSpec := { name := "fnDiffer", fn := fun _ => fun
  | [d] => { results := [.lit (.bool false)], args := [d] }
  | _ => none }
def FnDifferWrongFalsely : Prop := fnDifferRow.holds Try.pinned (OpenSpec.ofChange fnDifferWrong)

/-- 'laws.FnYager': WHATEVER THE INPUT: true; the input reads as it did. -/
def fnYagerSpec : ChangeSpec := { name := "fnYager", fn := fun _ => fun
  | [d] => { results := [.lit (.bool true)], args := [d] }
  | _ => none }
def fnYagerRow : OpenClaim := { program := "ytffkpmmgfgcngaa", sum := "fc70a0a613d9351c4b22958939a446d8ad265a2794edb11c43bd27a1723c2066", func := "loop.example/weighedevidence/laws.FnYager", spec := "fnYager", unfollowed := true, recurses := true, apart := false }
def FnYagerSaid : Prop := fnYagerRow.holds Try.pinned (OpenSpec.ofChange fnYagerSpec)

/-- ITS FALSE NEIGHBOUR: 'it returns false'. Refute it at one input. -/
def fnYagerWrong : ChangeSpec := { name := "fnYager", fn := fun _ => fun
  | [d] => { results := [.lit (.bool false)], args := [d] }
  | _ => none }
def FnYagerWrongFalsely : Prop := fnYagerRow.holds Try.pinned (OpenSpec.ofChange fnYagerWrong)

/-- 'laws.FnJoin': WHATEVER THE INPUT: true; the input reads as it did. -/
def fnJoinSpec : ChangeSpec := { name := "fnJoin", fn := fun _ => fun
  | [d] => { results := [.lit (.bool true)], args := [d] }
  | _ => none }
def fnJoinRow : OpenClaim := { program := "ytffkpmmgfgcngaa", sum := "fc70a0a613d9351c4b22958939a446d8ad265a2794edb11c43bd27a1723c2066", func := "loop.example/weighedevidence/laws.FnJoin", spec := "fnJoin", unfollowed := true, recurses := true, apart := false }
def FnJoinSaid : Prop := fnJoinRow.holds Try.pinned (OpenSpec.ofChange fnJoinSpec)

/-- ITS FALSE NEIGHBOUR: 'it returns false'. Refute it at one input. -/
def fnJoinWrong : ChangeSpec := { name := "fnJoin", fn := fun _ => fun
  | [d] => { results := [.lit (.bool false)], args := [d] }
  | _ => none }
def FnJoinWrongFalsely : Prop := fnJoinRow.holds Try.pinned (OpenSpec.ofChange fnJoinWrong)

/-- 'laws.FnMoveMass': WHATEVER THE INPUT: true; the input reads as it did. -/
def fnMoveMassSpec : ChangeSpec := { name := "fnMoveMass", fn := fun _ => fun
  | [d] => { results := [.lit (.bool true)], args := [d] }
  | _ => none }
def fnMoveMassRow : OpenClaim := { program := "ytffkpmmgfgcngaa", sum := "fc70a0a613d9351c4b22958939a446d8ad265a2794edb11c43bd27a1723c2066", func := "loop.example/weighedevidence/laws.FnMoveMass", spec := "fnMoveMass", unfollowed := true, recurses := true, apart := false }
def FnMoveMassSaid : Prop := fnMoveMassRow.holds Try.pinned (OpenSpec.ofChange fnMoveMassSpec)

/-- ITS FALSE NEIGHBOUR: 'it returns false'. Refute it at one input. -/
def fnMoveMassWrong : ChangeSpec := { name := "fnMoveMass", fn := fun _ => fun
  | [d] => { results := [.lit (.bool false)], args := [d] }
  | _ => none }
def FnMoveMassWrongFalsely : Prop := fnMoveMassRow.holds Try.pinned (OpenSpec.ofChange fnMoveMassWrong)

/-- 'laws.FnCommon': WHATEVER THE INPUT: true; the input reads as it did. -/
def fnCommonSpec : ChangeSpec := { name := "fnCommon", fn := fun _ => fun
  | [d] => { results := [.lit (.bool true)], args := [d] }
  | _ => none }
def fnCommonRow : OpenClaim := { program := "ytffkpmmgfgcngaa", sum := "fc70a0a613d9351c4b22958939a446d8ad265a2794edb11c43bd27a1723c2066", func := "loop.example/weighedevidence/laws.FnCommon", spec := "fnCommon", unfollowed := true, recurses := true, apart := false }
def FnCommonSaid : Prop := fnCommonRow.holds Try.pinned (OpenSpec.ofChange fnCommonSpec)

/-- ITS FALSE NEIGHBOUR: 'it returns false'. Refute it at one input. -/
def fnCommonWrong : ChangeSpec := { name := "fnCommon", fn := fun _ => fun
  | [d] => { results := [.lit (.bool false)], args := [d] }
  | _ => none }
def FnCommonWrongFalsely : Prop := fnCommonRow.holds Try.pinned (OpenSpec.ofChange fnCommonWrong)

/-- 'laws.FnBelief': WHATEVER THE INPUT: true; the input reads as it did. -/
def fnBeliefSpec : ChangeSpec := { name := "fnBelief", fn := fun _ => fun
  | [d] => { results := [.lit (.bool true)], args := [d] }
  | _ => none }
def fnBeliefRow : OpenClaim := { program := "ytffkpmmgfgcngaa", sum := "fc70a0a613d9351c4b22958939a446d8ad265a2794edb11c43bd27a1723c2066", func := "loop.example/weighedevidence/laws.FnBelief", spec := "fnBelief", unfollowed := true, recurses := true, apart := false }
def FnBeliefSaid : Prop := fnBeliefRow.holds Try.pinned (OpenSpec.ofChange fnBeliefSpec)

/-- ITS FALSE NEIGHBOUR: 'it returns false'. Refute it at one input. -/
def fnBeliefWrong : ChangeSpec := { name := "fnBelief", fn := fun _ => fun
  | [d] => { results := [.lit (.bool false)], args := [d] }
  | _ => none }
def FnBeliefWrongFalsely : Prop := fnBeliefRow.holds Try.pinned (OpenSpec.ofChange fnBeliefWrong)

/-- 'laws.FnChance': WHATEVER THE INPUT: true; the input reads as it did. -/
def fnChanceSpec : ChangeSpec := { name := "fnChance", fn := fun _ => fun
  | [d] => { results := [.lit (.bool true)], args := [d] }
  | _ => none }
def fnChanceRow : OpenClaim := { program := "ytffkpmmgfgcngaa", sum := "fc70a0a613d9351c4b22958939a446d8ad265a2794edb11c43bd27a1723c2066", func := "loop.example/weighedevidence/laws.FnChance", spec := "fnChance", unfollowed := true, recurses := true, apart := false }
def FnChanceSaid : Prop := fnChanceRow.holds Try.pinned (OpenSpec.ofChange fnChanceSpec)

/-- ITS FALSE NEIGHBOUR: 'it returns false'. Refute it at one input. -/
def fnChanceWrong : ChangeSpec := { name := "fnChance", fn := fun _ => fun
  | [d] => { results := [.lit (.bool false)], args := [d] }
  | _ => none }
def FnChanceWrongFalsely : Prop := fnChanceRow.holds Try.pinned (OpenSpec.ofChange fnChanceWrong)

/-- 'laws.FnParts': WHATEVER THE INPUT: true; the input reads as it did. -/
def fnPartsSpec : ChangeSpec := { name := "fnParts", fn := fun _ => fun
  | [d] => { results := [.lit (.bool true)], args := [d] }
  | _ => none }
def fnPartsRow : OpenClaim := { program := "ytffkpmmgfgcngaa", sum := "fc70a0a613d9351c4b22958939a446d8ad265a2794edb11c43bd27a1723c2066", func := "loop.example/weighedevidence/laws.FnParts", spec := "fnParts", unfollowed := true, recurses := true, apart := false }
def FnPartsSaid : Prop := fnPartsRow.holds Try.pinned (OpenSpec.ofChange fnPartsSpec)

/-- ITS FALSE NEIGHBOUR: 'it returns false'. Refute it at one input. -/
def fnPartsWrong : ChangeSpec := { name := "fnParts", fn := fun _ => fun
  | [d] => { results := [.lit (.bool false)], args := [d] }
  | _ => none }
def FnPartsWrongFalsely : Prop := fnPartsRow.holds Try.pinned (OpenSpec.ofChange fnPartsWrong)

/-- 'laws.FnSums': WHATEVER THE INPUT: true; the input reads as it did. -/
def fnSumsSpec : ChangeSpec := { name := "fnSums", fn := fun _ => fun
  | [d] => { results := [.lit (.bool true)], args := [d] }
  | _ => none }
def fnSumsRow : OpenClaim := { program := "ytffkpmmgfgcngaa", sum := "fc70a0a613d9351c4b22958939a446d8ad265a2794edb11c43bd27a1723c2066", func := "loop.example/weighedevidence/laws.FnSums", spec := "fnSums", unfollowed := true, recurses := true, apart := false }
def FnSumsSaid : Prop := fnSumsRow.holds Try.pinned (OpenSpec.ofChange fnSumsSpec)

/-- ITS FALSE NEIGHBOUR: 'it returns false'. Refute it at one input. -/
def fnSumsWrong : ChangeSpec := { name := "fnSums", fn := fun _ => fun
  | [d] => { results := [.lit (.bool false)], args := [d] }
  | _ => none }
def FnSumsWrongFalsely : Prop := fnSumsRow.holds Try.pinned (OpenSpec.ofChange fnSumsWrong)

/-- 'laws.FnBeliefTable': WHATEVER THE INPUT: true; the input reads as it did. -/
def fnBeliefTableSpec : ChangeSpec := { name := "fnBeliefTable", fn := fun _ => fun
  | [d] => { results := [.lit (.bool true)], args := [d] }
  | _ => none }
def fnBeliefTableRow : OpenClaim := { program := "ytffkpmmgfgcngaa", sum := "fc70a0a613d9351c4b22958939a446d8ad265a2794edb11c43bd27a1723c2066", func := "loop.example/weighedevidence/laws.FnBeliefTable", spec := "fnBeliefTable", unfollowed := true, recurses := true, apart := false }
def FnBeliefTableSaid : Prop := fnBeliefTableRow.holds Try.pinned (OpenSpec.ofChange fnBeliefTableSpec)

/-- ITS FALSE NEIGHBOUR: 'it returns false'. Refute it at one input. -/
def fnBeliefTableWrong : ChangeSpec := { name := "fnBeliefTable", fn := fun _ => fun
  | [d] => { results := [.lit (.bool false)], args := [d] }
  | _ => none }
def FnBeliefTableWrongFalsely : Prop := fnBeliefTableRow.holds Try.pinned (OpenSpec.ofChange fnBeliefTableWrong)

/- THE SECOND FORM. 'bulk': how many values and letters a reading holds, each counted each time it is reached (what is shared counts as often as it is met; a slice's spare places count too). A statement '..UptoSaid' is the law's where the arguments, and the package variables that the reading takes, are together of bulk at most 1048576: NARROWER than '..Said'. Prove '..Said' where nothing that the law and all that it calls make is longer than what came in: it says more and counts as full. Else prove '..UptoSaid'. A law counts once. -/
mutual
def uptoBulk {H : Type} : DataW H → Nat
  | .lit (.string bytes) => bytes.length + 1
  | .lit _ => 1
  | .nil => 1
  | .ptr d => uptoBulk d + 1
  | .slice elems spare => uptoBulkAll elems + uptoBulkAll spare + 1
  | .agg parts => uptoBulkAll parts + 1
  | .iface _ d => uptoBulk d + 1
  | .map entries => uptoBulkEntries entries + 1
  | .held _ => 1
def uptoBulkAll {H : Type} : List (DataW H) → Nat
  | [] => 0
  | d :: r => uptoBulk d + uptoBulkAll r
def uptoBulkEntries {H : Type} : List (Lit × DataW H) → Nat
  | [] => 0
  | x :: r => uptoBulkEntry x + uptoBulkEntries r
def uptoBulkEntry {H : Type} : Lit × DataW H → Nat
  | (.string bytes, d) => bytes.length + uptoBulk d + 1
  | (_, d) => uptoBulk d + 1
 end
def uptoSmall : (H : Type) → List (DataW H) → Bool := fun _ ds => decide (uptoBulkAll ds ≤ 1048576)
def OpenSpec.upto (s : _root_.Go.ChangeSpec) : _root_.Go.OpenSpec := { _root_.Go.OpenSpec.ofChange s with cond := some uptoSmall }

/-- 'laws.FnConjoin', WHERE WHAT IT READS IS OF BULK AT MOST 1048576: true; the input reads as it did. -/
def fnConjoinUptoRow : OpenClaim := { program := "ytffkpmmgfgcngaa", sum := "fc70a0a613d9351c4b22958939a446d8ad265a2794edb11c43bd27a1723c2066", func := "loop.example/weighedevidence/laws.FnConjoin", spec := "fnConjoin", unfollowed := true, recurses := true, apart := false, narrowed := true }
def FnConjoinUptoSaid : Prop := fnConjoinUptoRow.holds Try.pinned (OpenSpec.upto fnConjoinSpec)

/-- 'laws.FnDisjoin', WHERE WHAT IT READS IS OF BULK AT MOST 1048576: true; the input reads as it did. -/
def fnDisjoinUptoRow : OpenClaim := { program := "ytffkpmmgfgcngaa", sum := "fc70a0a613d9351c4b22958939a446d8ad265a2794edb11c43bd27a1723c2066", func := "loop.example/weighedevidence/laws.FnDisjoin", spec := "fnDisjoin", unfollowed := true, recurses := true, apart := false, narrowed := true }
def FnDisjoinUptoSaid : Prop := fnDisjoinUptoRow.holds Try.pinned (OpenSpec.upto fnDisjoinSpec)

/-- 'laws.FnDiffer', WHERE WHAT IT READS IS OF BULK AT MOST 1048576: true; the input reads as it did. -/
def fnDifferUptoRow : OpenClaim := { program := "ytffkpmmgfgcngaa", sum := "fc70a0a613d9351c4b22958939a446d8ad265a2794edb11c43bd27a1723c2066", func := "loop.example/weighedevidence/laws.FnDiffer", spec := "fnDiffer", unfollowed := true, recurses := true, apart := false, narrowed := true }
def FnDifferUptoSaid : Prop := fnDifferUptoRow.holds Try.pinned (OpenSpec.upto fnDifferSpec)

/-- 'laws.FnYager', WHERE WHAT IT READS IS OF BULK AT MOST 1048576: true; the input reads as it did. -/
def fnYagerUptoRow : OpenClaim := { program := "ytffkpmmgfgcngaa", sum := "fc70a0a613d9351c4b22958939a446d8ad265a2794edb11c43bd27a1723c2066", func := "loop.example/weighedevidence/laws.FnYager", spec := "fnYager", unfollowed := true, recurses := true, apart := false, narrowed := true }
def FnYagerUptoSaid : Prop := fnYagerUptoRow.holds Try.pinned (OpenSpec.upto fnYagerSpec)

/-- 'laws.FnJoin', WHERE WHAT IT READS IS OF BULK AT MOST 1048576: true; the input reads as it did. -/
def fnJoinUptoRow : OpenClaim := { program := "ytffkpmmgfgcngaa", sum := "fc70a0a613d9351c4b22958939a446d8ad265a2794edb11c43bd27a1723c2066", func := "loop.example/weighedevidence/laws.FnJoin", spec := "fnJoin", unfollowed := true, recurses := true, apart := false, narrowed := true }
def FnJoinUptoSaid : Prop := fnJoinUptoRow.holds Try.pinned (OpenSpec.upto fnJoinSpec)

/-- 'laws.FnMoveMass', WHERE WHAT IT READS IS OF BULK AT MOST 1048576: true; the input reads as it did. -/
def fnMoveMassUptoRow : OpenClaim := { program := "ytffkpmmgfgcngaa", sum := "fc70a0a613d9351c4b22958939a446d8ad265a2794edb11c43bd27a1723c2066", func := "loop.example/weighedevidence/laws.FnMoveMass", spec := "fnMoveMass", unfollowed := true, recurses := true, apart := false, narrowed := true }
def FnMoveMassUptoSaid : Prop := fnMoveMassUptoRow.holds Try.pinned (OpenSpec.upto fnMoveMassSpec)

/-- 'laws.FnCommon', WHERE WHAT IT READS IS OF BULK AT MOST 1048576: true; the input reads as it did. -/
def fnCommonUptoRow : OpenClaim := { program := "ytffkpmmgfgcngaa", sum := "fc70a0a613d9351c4b22958939a446d8ad265a2794edb11c43bd27a1723c2066", func := "loop.example/weighedevidence/laws.FnCommon", spec := "fnCommon", unfollowed := true, recurses := true, apart := false, narrowed := true }
def FnCommonUptoSaid : Prop := fnCommonUptoRow.holds Try.pinned (OpenSpec.upto fnCommonSpec)

/-- 'laws.FnBelief', WHERE WHAT IT READS IS OF BULK AT MOST 1048576: true; the input reads as it did. -/
def fnBeliefUptoRow : OpenClaim := { program := "ytffkpmmgfgcngaa", sum := "fc70a0a613d9351c4b22958939a446d8ad265a2794edb11c43bd27a1723c2066", func := "loop.example/weighedevidence/laws.FnBelief", spec := "fnBelief", unfollowed := true, recurses := true, apart := false, narrowed := true }
def FnBeliefUptoSaid : Prop := fnBeliefUptoRow.holds Try.pinned (OpenSpec.upto fnBeliefSpec)

/-- 'laws.FnChance', WHERE WHAT IT READS IS OF BULK AT MOST 1048576: true; the input reads as it did. -/
def fnChanceUptoRow : OpenClaim := { program := "ytffkpmmgfgcngaa", sum := "fc70a0a613d9351c4b22958939a446d8ad265a2794edb11c43bd27a1723c2066", func := "loop.example/weighedevidence/laws.FnChance", spec := "fnChance", unfollowed := true, recurses := true, apart := false, narrowed := true }
def FnChanceUptoSaid : Prop := fnChanceUptoRow.holds Try.pinned (OpenSpec.upto fnChanceSpec)

/-- 'laws.FnParts', WHERE WHAT IT READS IS OF BULK AT MOST 1048576: true; the input reads as it did. -/
def fnPartsUptoRow : OpenClaim := { program := "ytffkpmmgfgcngaa", sum := "fc70a0a613d9351c4b22958939a446d8ad265a2794edb11c43bd27a1723c2066", func := "loop.example/weighedevidence/laws.FnParts", spec := "fnParts", unfollowed := true, recurses := true, apart := false, narrowed := true }
def FnPartsUptoSaid : Prop := fnPartsUptoRow.holds Try.pinned (OpenSpec.upto fnPartsSpec)

/-- 'laws.FnSums', WHERE WHAT IT READS IS OF BULK AT MOST 1048576: true; the input reads as it did. -/
def fnSumsUptoRow : OpenClaim := { program := "ytffkpmmgfgcngaa", sum := "fc70a0a613d9351c4b22958939a446d8ad265a2794edb11c43bd27a1723c2066", func := "loop.example/weighedevidence/laws.FnSums", spec := "fnSums", unfollowed := true, recurses := true, apart := false, narrowed := true }
def FnSumsUptoSaid : Prop := fnSumsUptoRow.holds Try.pinned (OpenSpec.upto fnSumsSpec)

/-- 'laws.FnBeliefTable', WHERE WHAT IT READS IS OF BULK AT MOST 1048576: true; the input reads as it did. -/
def fnBeliefTableUptoRow : OpenClaim := { program := "ytffkpmmgfgcngaa", sum := "fc70a0a613d9351c4b22958939a446d8ad265a2794edb11c43bd27a1723c2066", func := "loop.example/weighedevidence/laws.FnBeliefTable", spec := "fnBeliefTable", unfollowed := true, recurses := true, apart := false, narrowed := true }
def FnBeliefTableUptoSaid : Prop := fnBeliefTableUptoRow.holds Try.pinned (OpenSpec.upto fnBeliefTableSpec)

end Rows
end Go.Proofs.Ytffkpmmgfgcngaa
