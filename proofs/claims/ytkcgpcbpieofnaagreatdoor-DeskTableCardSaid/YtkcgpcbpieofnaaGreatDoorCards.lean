/-
  DERIVED. GIVEN WITH THE SEED: THE CARDS: each row of YtkcgpcbpieofnaaGreatDoorRows.lean that lists a variable, with what it lists TIED to the program's text (the seventh form; the later family's looks); each row that meets fmt, with fmt's text TOLD by the authors' own Lean function (tested against real Go, not proved from fmt's source: count such statements apart). THE CARD IS WHAT COUNTS. Prove the row's statement (the work); the ties are given (YtkcgpcbpieofnaaGreatDoorTie.lean); close each card by the builder's one call (the guide's Derived/Test/ToyasCard.lean, 'card_holds'). Laid BY PROGRAM, IN A SANDBOX (cutbox-door.mjs). By AI agents, Wed Nov 11 2026. No macro, syntax, notation, axiom, sorry.
-/
import Derived.Test.YtkcgpcbpieofnaaGreatDoorRows
import GoSem.ClaimSeven
namespace Go.Proofs.YtkcgpcbpieofnaaGreatDoor
namespace Rows

/-- THE TIED CARD OF 'ambrylaw22.ObjectsNil'. -/
def objectsNilCard : Claim7 := { stood := { row := objectsNilRow, standIns := [], harness := (true, "5036aa917606b818677c75daa8be99471153c419ca96dcb03ead1c721e88371e"), looks := false }, kinds := [], alts := [], laidByText := true, laidKinds := [.data, .data, .data], laidTests := true, laidLooks := .later }
def ObjectsNilCardSaid : Prop := Claim7.holds Tryz.pinned (.plain (OpenSpec.ofChange objectsNilSpec)) objectsNilCard

/-- THE TIED CARD OF 'ambrylaw23.UploadsNil'. -/
def uploadsNilCard : Claim7 := { stood := { row := uploadsNilRow, standIns := [], harness := (true, "5036aa917606b818677c75daa8be99471153c419ca96dcb03ead1c721e88371e"), looks := false }, kinds := [], alts := [], laidByText := true, laidKinds := [.data, .data, .data], laidTests := true, laidLooks := .later }
def UploadsNilCardSaid : Prop := Claim7.holds Tryz.pinned (.plain (OpenSpec.ofChange uploadsNilSpec)) uploadsNilCard

/-- THE TIED CARD OF 'ambrylaw25.DeskKinds'. -/
def deskKindsCard : Claim7 := { stood := { row := deskKindsRow, standIns := [], harness := (true, "5036aa917606b818677c75daa8be99471153c419ca96dcb03ead1c721e88371e"), looks := false }, kinds := [], alts := [], laidByText := true, laidKinds := [.data, .data, .data], laidTests := true, laidLooks := .later }
def DeskKindsCardSaid : Prop := Claim7.holds Tryz.pinned (.plain (OpenSpec.ofChange deskKindsSpec)) deskKindsCard

/-- THE TIED CARD OF 'ambrylaw25.DeskTable'. -/
def deskTableCard : Claim7 := { stood := { row := deskTableRow, standIns := [], harness := (true, "5036aa917606b818677c75daa8be99471153c419ca96dcb03ead1c721e88371e"), looks := false }, kinds := [], alts := [], laidByText := true, laidKinds := [.data, .data, .data], laidTests := true, laidLooks := .later }
def DeskTableCardSaid : Prop := Claim7.holds Tryz.pinned (.plain (OpenSpec.ofChange deskTableSpec)) deskTableCard

/-- THE TIED CARD OF 'ambrylaw25.DeskNil'. -/
def deskNilCard : Claim7 := { stood := { row := deskNilRow, standIns := [], harness := (true, "5036aa917606b818677c75daa8be99471153c419ca96dcb03ead1c721e88371e"), looks := false }, kinds := [], alts := [], laidByText := true, laidKinds := [.data, .data, .data], laidTests := true, laidLooks := .later }
def DeskNilCardSaid : Prop := Claim7.holds Tryz.pinned (.plain (OpenSpec.ofChange deskNilSpec)) deskNilCard

/-- THE SECOND FORM's CARD OF 'ambrylaw22.ObjectsNil'. -/
def objectsNilUptoCard : Claim7 := { stood := { row := objectsNilUptoRow, standIns := [], harness := (true, "5036aa917606b818677c75daa8be99471153c419ca96dcb03ead1c721e88371e"), looks := false }, kinds := [], alts := [], laidByText := true, laidKinds := [.data, .data, .data], laidTests := true, laidLooks := .later }
def ObjectsNilUptoCardSaid : Prop := Claim7.holds Tryz.pinned (.plain (OpenSpec.upto objectsNilSpec)) objectsNilUptoCard

/-- THE SECOND FORM's CARD OF 'ambrylaw23.UploadsNil'. -/
def uploadsNilUptoCard : Claim7 := { stood := { row := uploadsNilUptoRow, standIns := [], harness := (true, "5036aa917606b818677c75daa8be99471153c419ca96dcb03ead1c721e88371e"), looks := false }, kinds := [], alts := [], laidByText := true, laidKinds := [.data, .data, .data], laidTests := true, laidLooks := .later }
def UploadsNilUptoCardSaid : Prop := Claim7.holds Tryz.pinned (.plain (OpenSpec.upto uploadsNilSpec)) uploadsNilUptoCard

/-- THE SECOND FORM's CARD OF 'ambrylaw25.DeskKinds'. -/
def deskKindsUptoCard : Claim7 := { stood := { row := deskKindsUptoRow, standIns := [], harness := (true, "5036aa917606b818677c75daa8be99471153c419ca96dcb03ead1c721e88371e"), looks := false }, kinds := [], alts := [], laidByText := true, laidKinds := [.data, .data, .data], laidTests := true, laidLooks := .later }
def DeskKindsUptoCardSaid : Prop := Claim7.holds Tryz.pinned (.plain (OpenSpec.upto deskKindsSpec)) deskKindsUptoCard

/-- THE SECOND FORM's CARD OF 'ambrylaw25.DeskTable'. -/
def deskTableUptoCard : Claim7 := { stood := { row := deskTableUptoRow, standIns := [], harness := (true, "5036aa917606b818677c75daa8be99471153c419ca96dcb03ead1c721e88371e"), looks := false }, kinds := [], alts := [], laidByText := true, laidKinds := [.data, .data, .data], laidTests := true, laidLooks := .later }
def DeskTableUptoCardSaid : Prop := Claim7.holds Tryz.pinned (.plain (OpenSpec.upto deskTableSpec)) deskTableUptoCard

/-- THE SECOND FORM's CARD OF 'ambrylaw25.DeskNil'. -/
def deskNilUptoCard : Claim7 := { stood := { row := deskNilUptoRow, standIns := [], harness := (true, "5036aa917606b818677c75daa8be99471153c419ca96dcb03ead1c721e88371e"), looks := false }, kinds := [], alts := [], laidByText := true, laidKinds := [.data, .data, .data], laidTests := true, laidLooks := .later }
def DeskNilUptoCardSaid : Prop := Claim7.holds Tryz.pinned (.plain (OpenSpec.upto deskNilSpec)) deskNilUptoCard
end Rows
end Go.Proofs.YtkcgpcbpieofnaaGreatDoor
