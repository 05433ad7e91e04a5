/-
  DERIVED. GIVEN WITH THE SEED: THE CARDS: each row of YtafdfmkjjhimaaaGreatDoorRows.lean that lists a variable, with what it lists TIED to the program's text (the seventh form; the later family's looks); each row that meets fmt, with fmt's text TOLD by the authors' own Lean function (tested against real Go, not proved from fmt's source: count such statements apart). THE CARD IS WHAT COUNTS. Prove the row's statement (the work); the ties are given (YtafdfmkjjhimaaaGreatDoorTie.lean); close each card by the builder's one call (the guide's Derived/Test/ToyasCard.lean, 'card_holds'). Laid BY PROGRAM, IN A SANDBOX (cutbox-door.mjs). By AI agents, Wed Nov 11 2026. No macro, syntax, notation, axiom, sorry.
-/
import Derived.Test.YtafdfmkjjhimaaaGreatDoorRows
import GoSem.ClaimSeven
namespace Go.Proofs.YtafdfmkjjhimaaaGreatDoor
namespace Rows

/-- THE TIED CARD OF 'towncrierlaw22.GroupApplies'. -/
def groupAppliesCard : Claim7 := { stood := { row := groupAppliesRow, standIns := [], harness := (true, "3809837a443c001cc53fc91b02c6401e99d8136f4d60eaac2d6a546bbfd90ac3"), looks := true }, kinds := [], alts := [], laidByText := true, laidKinds := [.handle], laidTests := true, laidLooks := .later }
def GroupAppliesCardSaid : Prop := Claim7.holds Tryz.pinned (.plain (OpenSpec.ofChange groupAppliesSpec)) groupAppliesCard

/-- THE TIED CARD OF 'towncrierlaw22.GroupOnce'. -/
def groupOnceCard : Claim7 := { stood := { row := groupOnceRow, standIns := [], harness := (true, "3809837a443c001cc53fc91b02c6401e99d8136f4d60eaac2d6a546bbfd90ac3"), looks := true }, kinds := [], alts := [], laidByText := true, laidKinds := [.handle], laidTests := true, laidLooks := .later }
def GroupOnceCardSaid : Prop := Claim7.holds Tryz.pinned (.plain (OpenSpec.ofChange groupOnceSpec)) groupOnceCard

/-- THE TIED CARD OF 'towncrierlaw22.GroupPlays'. -/
def groupPlaysCard : Claim7 := { stood := { row := groupPlaysRow, standIns := [], harness := (true, "3809837a443c001cc53fc91b02c6401e99d8136f4d60eaac2d6a546bbfd90ac3"), looks := true }, kinds := [], alts := [], laidByText := true, laidKinds := [.handle], laidTests := true, laidLooks := .later }
def GroupPlaysCardSaid : Prop := Claim7.holds Tryz.pinned (.plain (OpenSpec.ofChange groupPlaysSpec)) groupPlaysCard

/-- THE TIED CARD OF 'towncrierlaw22.GroupGoesOn'. -/
def groupGoesOnCard : Claim7 := { stood := { row := groupGoesOnRow, standIns := [], harness := (true, "3809837a443c001cc53fc91b02c6401e99d8136f4d60eaac2d6a546bbfd90ac3"), looks := true }, kinds := [], alts := [], laidByText := true, laidKinds := [.handle], laidTests := true, laidLooks := .later }
def GroupGoesOnCardSaid : Prop := Claim7.holds Tryz.pinned (.plain (OpenSpec.ofChange groupGoesOnSpec)) groupGoesOnCard

/-- THE TIED CARD OF 'towncrierlaw22.GroupPuts'. -/
def groupPutsCard : Claim7 := { stood := { row := groupPutsRow, standIns := [], harness := (true, "3809837a443c001cc53fc91b02c6401e99d8136f4d60eaac2d6a546bbfd90ac3"), looks := true }, kinds := [], alts := [], laidByText := true, laidKinds := [.handle], laidTests := true, laidLooks := .later }
def GroupPutsCardSaid : Prop := Claim7.holds Tryz.pinned (.plain (OpenSpec.ofChange groupPutsSpec)) groupPutsCard

/-- THE SECOND FORM's CARD OF 'towncrierlaw22.GroupApplies'. -/
def groupAppliesUptoCard : Claim7 := { stood := { row := groupAppliesUptoRow, standIns := [], harness := (true, "3809837a443c001cc53fc91b02c6401e99d8136f4d60eaac2d6a546bbfd90ac3"), looks := true }, kinds := [], alts := [], laidByText := true, laidKinds := [.handle], laidTests := true, laidLooks := .later }
def GroupAppliesUptoCardSaid : Prop := Claim7.holds Tryz.pinned (.plain (OpenSpec.upto groupAppliesSpec)) groupAppliesUptoCard

/-- THE SECOND FORM's CARD OF 'towncrierlaw22.GroupOnce'. -/
def groupOnceUptoCard : Claim7 := { stood := { row := groupOnceUptoRow, standIns := [], harness := (true, "3809837a443c001cc53fc91b02c6401e99d8136f4d60eaac2d6a546bbfd90ac3"), looks := true }, kinds := [], alts := [], laidByText := true, laidKinds := [.handle], laidTests := true, laidLooks := .later }
def GroupOnceUptoCardSaid : Prop := Claim7.holds Tryz.pinned (.plain (OpenSpec.upto groupOnceSpec)) groupOnceUptoCard

/-- THE SECOND FORM's CARD OF 'towncrierlaw22.GroupPlays'. -/
def groupPlaysUptoCard : Claim7 := { stood := { row := groupPlaysUptoRow, standIns := [], harness := (true, "3809837a443c001cc53fc91b02c6401e99d8136f4d60eaac2d6a546bbfd90ac3"), looks := true }, kinds := [], alts := [], laidByText := true, laidKinds := [.handle], laidTests := true, laidLooks := .later }
def GroupPlaysUptoCardSaid : Prop := Claim7.holds Tryz.pinned (.plain (OpenSpec.upto groupPlaysSpec)) groupPlaysUptoCard

/-- THE SECOND FORM's CARD OF 'towncrierlaw22.GroupGoesOn'. -/
def groupGoesOnUptoCard : Claim7 := { stood := { row := groupGoesOnUptoRow, standIns := [], harness := (true, "3809837a443c001cc53fc91b02c6401e99d8136f4d60eaac2d6a546bbfd90ac3"), looks := true }, kinds := [], alts := [], laidByText := true, laidKinds := [.handle], laidTests := true, laidLooks := .later }
def GroupGoesOnUptoCardSaid : Prop := Claim7.holds Tryz.pinned (.plain (OpenSpec.upto groupGoesOnSpec)) groupGoesOnUptoCard

/-- THE SECOND FORM's CARD OF 'towncrierlaw22.GroupPuts'. -/
def groupPutsUptoCard : Claim7 := { stood := { row := groupPutsUptoRow, standIns := [], harness := (true, "3809837a443c001cc53fc91b02c6401e99d8136f4d60eaac2d6a546bbfd90ac3"), looks := true }, kinds := [], alts := [], laidByText := true, laidKinds := [.handle], laidTests := true, laidLooks := .later }
def GroupPutsUptoCardSaid : Prop := Claim7.holds Tryz.pinned (.plain (OpenSpec.upto groupPutsSpec)) groupPutsUptoCard
end Rows
end Go.Proofs.YtafdfmkjjhimaaaGreatDoor
