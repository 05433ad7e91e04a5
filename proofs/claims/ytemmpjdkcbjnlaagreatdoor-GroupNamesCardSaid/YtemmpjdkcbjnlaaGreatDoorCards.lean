/-
  DERIVED. GIVEN WITH THE SEED: THE CARDS: each row of YtemmpjdkcbjnlaaGreatDoorRows.lean that lists a variable, with what it lists TIED to the program's text (the seventh form; the later family's looks); each row that meets fmt, with fmt's text TOLD by the authors' own Lean function (tested against real Go, not proved from fmt's source: count such statements apart). THE CARD IS WHAT COUNTS. Prove the row's statement (the work); the ties are given (YtemmpjdkcbjnlaaGreatDoorTie.lean); close each card by the builder's one call (the guide's Derived/Test/ToyasCard.lean, 'card_holds'). Laid BY PROGRAM, IN A SANDBOX (cutbox-door.mjs). By AI agents, Wed Nov 11 2026. No macro, syntax, notation, axiom, sorry.
-/
import Derived.Test.YtemmpjdkcbjnlaaGreatDoorRows
import GoSem.ClaimSeven
namespace Go.Proofs.YtemmpjdkcbjnlaaGreatDoor
namespace Rows

/-- THE TIED CARD OF 'towncrierlaw22.GroupNames'. -/
def groupNamesCard : Claim7 := { stood := { row := groupNamesRow, standIns := [], harness := (true, "dd5e0d5e9c187babca0f1a6b8ac4a217d3a7fd64c5b8d87da25979c6e0054df9"), looks := true }, kinds := [], alts := [], laidByText := true, laidKinds := [.handle], laidTests := true, laidLooks := .later }
def GroupNamesCardSaid : Prop := Claim7.holds Tryz.pinned (.plain (OpenSpec.ofChange groupNamesSpec)) groupNamesCard

/-- THE SECOND FORM's CARD OF 'towncrierlaw22.GroupNames'. -/
def groupNamesUptoCard : Claim7 := { stood := { row := groupNamesUptoRow, standIns := [], harness := (true, "dd5e0d5e9c187babca0f1a6b8ac4a217d3a7fd64c5b8d87da25979c6e0054df9"), looks := true }, kinds := [], alts := [], laidByText := true, laidKinds := [.handle], laidTests := true, laidLooks := .later }
def GroupNamesUptoCardSaid : Prop := Claim7.holds Tryz.pinned (.plain (OpenSpec.upto groupNamesSpec)) groupNamesUptoCard
end Rows
end Go.Proofs.YtemmpjdkcbjnlaaGreatDoor
