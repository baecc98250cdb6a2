/-
  DERIVED. GIVEN WITH THE SEED: THE CARDS: each row of YtlfajalhoifliaaGreatDoorRows.lean that lists a variable, with what it lists TIED to the program's text (the seventh form; the later family's looks); each row that meets fmt, with fmt's text TOLD by the authors' own Lean function (tested against real Go, not proved from fmt's source: count such statements apart). THE CARD IS WHAT COUNTS. Prove the row's statement (the work); the ties are given (YtlfajalhoifliaaGreatDoorTie.lean); close each card by the builder's one call (the guide's Derived/Test/ToyasCard.lean, 'card_holds'). Laid BY PROGRAM, IN A SANDBOX (cutbox-door.mjs). By AI agents, Wed Nov 11 2026. No macro, syntax, notation, axiom, sorry.
-/
import Derived.Test.YtlfajalhoifliaaGreatDoorRows
import GoSem.ClaimSeven
namespace Go.Proofs.YtlfajalhoifliaaGreatDoor
namespace Rows

/-- THE TIED CARD OF 'laws.FnMassText'. -/
def fnMassTextCard : Claim7 := { stood := { row := fnMassTextRow, standIns := [], harness := (true, "4b4e2d9819dba53e487e0c1c4ba378de83e339d2a2cb8dc280a891daa3662bec"), looks := true }, kinds := [], alts := [], laidByText := true, laidKinds := [.data, .data, .data, .data, .sentinel, .sentinel, .pinned], laidTests := true, laidLooks := .later }
def FnMassTextCardSaid : Prop := Claim7.holds Tryz.pinned (.plain (OpenSpec.ofChange fnMassTextSpec)) fnMassTextCard

/-- THE SECOND FORM's CARD OF 'laws.FnMassText'. -/
def fnMassTextUptoCard : Claim7 := { stood := { row := fnMassTextUptoRow, standIns := [], harness := (true, "4b4e2d9819dba53e487e0c1c4ba378de83e339d2a2cb8dc280a891daa3662bec"), looks := true }, kinds := [], alts := [], laidByText := true, laidKinds := [.data, .data, .data, .data, .sentinel, .sentinel, .pinned], laidTests := true, laidLooks := .later }
def FnMassTextUptoCardSaid : Prop := Claim7.holds Tryz.pinned (.plain (OpenSpec.upto fnMassTextSpec)) fnMassTextUptoCard
end Rows
end Go.Proofs.YtlfajalhoifliaaGreatDoor
