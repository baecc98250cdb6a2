/-
  DERIVED. GIVEN WITH THE SEED: THE CARDS: each row of YtlfajalhoifliaaDoorRows.lean that lists a variable, with what it lists TIED to the program's text (the seventh form; the later family's looks); each row that meets fmt, with fmt's text TOLD by the authors' own Lean function (tested against real Go, not proved from fmt's source: count such statements apart). THE CARD IS WHAT COUNTS. Prove the row's statement (the work); the ties are given (YtlfajalhoifliaaDoorTie.lean); close each card by the builder's one call (the guide's Derived/Test/ToyasCard.lean, 'card_holds'). Laid BY PROGRAM, IN A SANDBOX (cutbox-door.mjs). By AI agents, Wed Nov 11 2026. No macro, syntax, notation, axiom, sorry.
-/
import Derived.Test.YtlfajalhoifliaaDoorRows
import GoSem.ClaimSeven
namespace Go.Proofs.YtlfajalhoifliaaDoor
namespace Rows

/-- THE TIED CARD OF 'laws.FnExactParseMass'. -/
def fnExactParseMassCard : Claim7 := { stood := { row := fnExactParseMassRow, standIns := [], harness := (true, "dbca7a0dfb8e9d0875922b010f6db1c4cc4c1ae5677128667b189da2040551f3"), looks := true }, kinds := [], alts := [], laidByText := true, laidKinds := [.data, .data, .data, .data, .sentinel, .sentinel, .pinned], laidTests := true, laidLooks := .later }
def FnExactParseMassCardSaid : Prop := Claim7.holds Tryd.pinned (.plain (OpenSpec.ofChange fnExactParseMassSpec)) fnExactParseMassCard

/-- THE TIED CARD OF 'laws.FnExactFormatMass'. -/
def fnExactFormatMassCard : Claim7 := { stood := { row := fnExactFormatMassRow, standIns := [], harness := (true, "dbca7a0dfb8e9d0875922b010f6db1c4cc4c1ae5677128667b189da2040551f3"), looks := true }, kinds := [], alts := [], laidByText := true, laidKinds := [.data, .data, .data], laidTests := true, laidLooks := .later }
def FnExactFormatMassCardSaid : Prop := Claim7.holds Tryd.pinned (.plain (OpenSpec.ofChange fnExactFormatMassSpec)) fnExactFormatMassCard

/-- THE SECOND FORM's CARD OF 'laws.FnExactParseMass'. -/
def fnExactParseMassUptoCard : Claim7 := { stood := { row := fnExactParseMassUptoRow, standIns := [], harness := (true, "dbca7a0dfb8e9d0875922b010f6db1c4cc4c1ae5677128667b189da2040551f3"), looks := true }, kinds := [], alts := [], laidByText := true, laidKinds := [.data, .data, .data, .data, .sentinel, .sentinel, .pinned], laidTests := true, laidLooks := .later }
def FnExactParseMassUptoCardSaid : Prop := Claim7.holds Tryd.pinned (.plain (OpenSpec.upto fnExactParseMassSpec)) fnExactParseMassUptoCard

/-- THE SECOND FORM's CARD OF 'laws.FnExactFormatMass'. -/
def fnExactFormatMassUptoCard : Claim7 := { stood := { row := fnExactFormatMassUptoRow, standIns := [], harness := (true, "dbca7a0dfb8e9d0875922b010f6db1c4cc4c1ae5677128667b189da2040551f3"), looks := true }, kinds := [], alts := [], laidByText := true, laidKinds := [.data, .data, .data], laidTests := true, laidLooks := .later }
def FnExactFormatMassUptoCardSaid : Prop := Claim7.holds Tryd.pinned (.plain (OpenSpec.upto fnExactFormatMassSpec)) fnExactFormatMassUptoCard
end Rows
end Go.Proofs.YtlfajalhoifliaaDoor
