/-
  DERIVED. GIVEN WITH THE SEED: THE CARDS: each row of YthagkijplklemaaGreatDoorRows.lean that lists a variable, with what it lists TIED to the program's text (the seventh form; the later family's looks); each row that meets fmt, with fmt's text TOLD by the authors' own Lean function (tested against real Go, not proved from fmt's source: count such statements apart). THE CARD IS WHAT COUNTS. Prove the row's statement (the work); the ties are given (YthagkijplklemaaGreatDoorTie.lean); close each card by the builder's one call (the guide's Derived/Test/ToyasCard.lean, 'card_holds'). Laid BY PROGRAM, IN A SANDBOX (cutbox-door.mjs). By AI agents, Wed Nov 11 2026. No macro, syntax, notation, axiom, sorry.
-/
import Derived.Test.YthagkijplklemaaGreatDoorRows
import GoSem.ClaimSeven
namespace Go.Proofs.YthagkijplklemaaGreatDoor
namespace Rows

/-- THE TIED CARD OF 'smartcardlaw28.LoadfileChecks'. -/
def loadfileChecksCard : Claim7 := { stood := { row := loadfileChecksRow, standIns := [], harness := (true, "520a2e10c49eb453a4b9a4406ff365efc2ed3b56a52ed956471d35d8d6cf1fe9"), looks := true }, kinds := [], alts := [], laidByText := true, laidKinds := [.data], laidTests := true, laidLooks := .later }
def LoadfileChecksCardSaid : Prop := Claim7.holds Tryz.pinned (.plain (OpenSpec.ofChange loadfileChecksSpec)) loadfileChecksCard

/-- THE TIED CARD OF 'smartcardlaw28.LoadfileEncodes'. -/
def loadfileEncodesCard : Claim7 := { stood := { row := loadfileEncodesRow, standIns := [], harness := (true, "520a2e10c49eb453a4b9a4406ff365efc2ed3b56a52ed956471d35d8d6cf1fe9"), looks := true }, kinds := [], alts := [], laidByText := true, laidKinds := [.data], laidTests := true, laidLooks := .later }
def LoadfileEncodesCardSaid : Prop := Claim7.holds Tryz.pinned (.plain (OpenSpec.ofChange loadfileEncodesSpec)) loadfileEncodesCard

/-- THE TIED CARD OF 'smartcardlaw28.LoadfileDecodes'. -/
def loadfileDecodesCard : Claim7 := { stood := { row := loadfileDecodesRow, standIns := [], harness := (true, "520a2e10c49eb453a4b9a4406ff365efc2ed3b56a52ed956471d35d8d6cf1fe9"), looks := true }, kinds := [], alts := [], laidByText := true, laidKinds := [.data], laidTests := true, laidLooks := .later }
def LoadfileDecodesCardSaid : Prop := Claim7.holds Tryz.pinned (.plain (OpenSpec.ofChange loadfileDecodesSpec)) loadfileDecodesCard

/-- THE TIED CARD OF 'smartcardlaw28.LoadfileRoundTrip'. -/
def loadfileRoundTripCard : Claim7 := { stood := { row := loadfileRoundTripRow, standIns := [], harness := (true, "520a2e10c49eb453a4b9a4406ff365efc2ed3b56a52ed956471d35d8d6cf1fe9"), looks := true }, kinds := [], alts := [], laidByText := true, laidKinds := [.data], laidTests := true, laidLooks := .later }
def LoadfileRoundTripCardSaid : Prop := Claim7.holds Tryz.pinned (.plain (OpenSpec.ofChange loadfileRoundTripSpec)) loadfileRoundTripCard

/-- THE TIED CARD OF 'smartcardlaw28.LoadfileSame'. -/
def loadfileSameCard : Claim7 := { stood := { row := loadfileSameRow, standIns := [], harness := (true, "520a2e10c49eb453a4b9a4406ff365efc2ed3b56a52ed956471d35d8d6cf1fe9"), looks := true }, kinds := [], alts := [], laidByText := true, laidKinds := [.data], laidTests := true, laidLooks := .later }
def LoadfileSameCardSaid : Prop := Claim7.holds Tryz.pinned (.plain (OpenSpec.ofChange loadfileSameSpec)) loadfileSameCard

/-- THE TIED CARD OF 'smartcardlaw28.LoadfileHash'. -/
def loadfileHashCard : Claim7 := { stood := { row := loadfileHashRow, standIns := [], harness := (true, "520a2e10c49eb453a4b9a4406ff365efc2ed3b56a52ed956471d35d8d6cf1fe9"), looks := true }, kinds := [], alts := [], laidByText := true, laidKinds := [.data], laidTests := true, laidLooks := .later }
def LoadfileHashCardSaid : Prop := Claim7.holds Tryz.pinned (.plain (OpenSpec.ofChange loadfileHashSpec)) loadfileHashCard

/-- THE TIED CARD OF 'smartcardlaw28.LoadfileOrder'. -/
def loadfileOrderCard : Claim7 := { stood := { row := loadfileOrderRow, standIns := [], harness := (true, "520a2e10c49eb453a4b9a4406ff365efc2ed3b56a52ed956471d35d8d6cf1fe9"), looks := true }, kinds := [], alts := [], laidByText := true, laidKinds := [.data], laidTests := true, laidLooks := .later }
def LoadfileOrderCardSaid : Prop := Claim7.holds Tryz.pinned (.plain (OpenSpec.ofChange loadfileOrderSpec)) loadfileOrderCard

/-- THE SECOND FORM's CARD OF 'smartcardlaw28.LoadfileChecks'. -/
def loadfileChecksUptoCard : Claim7 := { stood := { row := loadfileChecksUptoRow, standIns := [], harness := (true, "520a2e10c49eb453a4b9a4406ff365efc2ed3b56a52ed956471d35d8d6cf1fe9"), looks := true }, kinds := [], alts := [], laidByText := true, laidKinds := [.data], laidTests := true, laidLooks := .later }
def LoadfileChecksUptoCardSaid : Prop := Claim7.holds Tryz.pinned (.plain (OpenSpec.upto loadfileChecksSpec)) loadfileChecksUptoCard

/-- THE SECOND FORM's CARD OF 'smartcardlaw28.LoadfileEncodes'. -/
def loadfileEncodesUptoCard : Claim7 := { stood := { row := loadfileEncodesUptoRow, standIns := [], harness := (true, "520a2e10c49eb453a4b9a4406ff365efc2ed3b56a52ed956471d35d8d6cf1fe9"), looks := true }, kinds := [], alts := [], laidByText := true, laidKinds := [.data], laidTests := true, laidLooks := .later }
def LoadfileEncodesUptoCardSaid : Prop := Claim7.holds Tryz.pinned (.plain (OpenSpec.upto loadfileEncodesSpec)) loadfileEncodesUptoCard

/-- THE SECOND FORM's CARD OF 'smartcardlaw28.LoadfileDecodes'. -/
def loadfileDecodesUptoCard : Claim7 := { stood := { row := loadfileDecodesUptoRow, standIns := [], harness := (true, "520a2e10c49eb453a4b9a4406ff365efc2ed3b56a52ed956471d35d8d6cf1fe9"), looks := true }, kinds := [], alts := [], laidByText := true, laidKinds := [.data], laidTests := true, laidLooks := .later }
def LoadfileDecodesUptoCardSaid : Prop := Claim7.holds Tryz.pinned (.plain (OpenSpec.upto loadfileDecodesSpec)) loadfileDecodesUptoCard

/-- THE SECOND FORM's CARD OF 'smartcardlaw28.LoadfileRoundTrip'. -/
def loadfileRoundTripUptoCard : Claim7 := { stood := { row := loadfileRoundTripUptoRow, standIns := [], harness := (true, "520a2e10c49eb453a4b9a4406ff365efc2ed3b56a52ed956471d35d8d6cf1fe9"), looks := true }, kinds := [], alts := [], laidByText := true, laidKinds := [.data], laidTests := true, laidLooks := .later }
def LoadfileRoundTripUptoCardSaid : Prop := Claim7.holds Tryz.pinned (.plain (OpenSpec.upto loadfileRoundTripSpec)) loadfileRoundTripUptoCard

/-- THE SECOND FORM's CARD OF 'smartcardlaw28.LoadfileSame'. -/
def loadfileSameUptoCard : Claim7 := { stood := { row := loadfileSameUptoRow, standIns := [], harness := (true, "520a2e10c49eb453a4b9a4406ff365efc2ed3b56a52ed956471d35d8d6cf1fe9"), looks := true }, kinds := [], alts := [], laidByText := true, laidKinds := [.data], laidTests := true, laidLooks := .later }
def LoadfileSameUptoCardSaid : Prop := Claim7.holds Tryz.pinned (.plain (OpenSpec.upto loadfileSameSpec)) loadfileSameUptoCard

/-- THE SECOND FORM's CARD OF 'smartcardlaw28.LoadfileHash'. -/
def loadfileHashUptoCard : Claim7 := { stood := { row := loadfileHashUptoRow, standIns := [], harness := (true, "520a2e10c49eb453a4b9a4406ff365efc2ed3b56a52ed956471d35d8d6cf1fe9"), looks := true }, kinds := [], alts := [], laidByText := true, laidKinds := [.data], laidTests := true, laidLooks := .later }
def LoadfileHashUptoCardSaid : Prop := Claim7.holds Tryz.pinned (.plain (OpenSpec.upto loadfileHashSpec)) loadfileHashUptoCard

/-- THE SECOND FORM's CARD OF 'smartcardlaw28.LoadfileOrder'. -/
def loadfileOrderUptoCard : Claim7 := { stood := { row := loadfileOrderUptoRow, standIns := [], harness := (true, "520a2e10c49eb453a4b9a4406ff365efc2ed3b56a52ed956471d35d8d6cf1fe9"), looks := true }, kinds := [], alts := [], laidByText := true, laidKinds := [.data], laidTests := true, laidLooks := .later }
def LoadfileOrderUptoCardSaid : Prop := Claim7.holds Tryz.pinned (.plain (OpenSpec.upto loadfileOrderSpec)) loadfileOrderUptoCard
end Rows
end Go.Proofs.YthagkijplklemaaGreatDoor
