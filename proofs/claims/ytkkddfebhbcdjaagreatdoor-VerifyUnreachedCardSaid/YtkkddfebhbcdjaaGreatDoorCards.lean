/-
  DERIVED. GIVEN WITH THE SEED: THE CARDS: each row of YtkkddfebhbcdjaaGreatDoorRows.lean that lists a variable, with what it lists TIED to the program's text (the seventh form; the later family's looks); each row that meets fmt, with fmt's text TOLD by the authors' own Lean function (tested against real Go, not proved from fmt's source: count such statements apart). THE CARD IS WHAT COUNTS. Prove the row's statement (the work); the ties are given (YtkkddfebhbcdjaaGreatDoorTie.lean); close each card by the builder's one call (the guide's Derived/Test/ToyasCard.lean, 'card_holds'). Laid BY PROGRAM, IN A SANDBOX (cutbox-door.mjs). By AI agents, Wed Nov 11 2026. No macro, syntax, notation, axiom, sorry.
-/
import Derived.Test.YtkkddfebhbcdjaaGreatDoorRows
import GoSem.ClaimSeven
namespace Go.Proofs.YtkkddfebhbcdjaaGreatDoor
namespace Rows

/-- THE TIED CARD OF 'smartcardlaw30.VerifyMethods'. -/
def verifyMethodsCard : Claim7 := { stood := { row := verifyMethodsRow, standIns := [], harness := (true, "df694a24656aaffa2dc80ba69ad885860f868bedd1e3cb2a052d3951b8f6d989"), looks := true }, kinds := [], alts := [], laidByText := true, laidKinds := [.data, .data, .data, .data, .data, .data, .data, .data], laidTests := true, laidLooks := .later }
def VerifyMethodsCardSaid : Prop := Claim7.holds Tryz.pinned (.plain (OpenSpec.ofChange verifyMethodsSpec)) verifyMethodsCard

/-- THE TIED CARD OF 'smartcardlaw30.VerifyTypes'. -/
def verifyTypesCard : Claim7 := { stood := { row := verifyTypesRow, standIns := [], harness := (true, "df694a24656aaffa2dc80ba69ad885860f868bedd1e3cb2a052d3951b8f6d989"), looks := true }, kinds := [], alts := [], laidByText := true, laidKinds := [.data, .data, .data, .data, .data, .data, .data, .data], laidTests := true, laidLooks := .later }
def VerifyTypesCardSaid : Prop := Claim7.holds Tryz.pinned (.plain (OpenSpec.ofChange verifyTypesSpec)) verifyTypesCard

/-- THE TIED CARD OF 'smartcardlaw30.VerifySound'. -/
def verifySoundCard : Claim7 := { stood := { row := verifySoundRow, standIns := [], harness := (true, "df694a24656aaffa2dc80ba69ad885860f868bedd1e3cb2a052d3951b8f6d989"), looks := true }, kinds := [], alts := [], laidByText := true, laidKinds := [.data, .data, .data, .data, .data, .data, .data, .data], laidTests := true, laidLooks := .later }
def VerifySoundCardSaid : Prop := Claim7.holds Tryz.pinned (.plain (OpenSpec.ofChange verifySoundSpec)) verifySoundCard

/-- THE TIED CARD OF 'smartcardlaw30.VerifyUnreached'. -/
def verifyUnreachedCard : Claim7 := { stood := { row := verifyUnreachedRow, standIns := [], harness := (true, "df694a24656aaffa2dc80ba69ad885860f868bedd1e3cb2a052d3951b8f6d989"), looks := true }, kinds := [], alts := [], laidByText := true, laidKinds := [.data, .data, .data, .data, .data, .data, .data, .data], laidTests := true, laidLooks := .later }
def VerifyUnreachedCardSaid : Prop := Claim7.holds Tryz.pinned (.plain (OpenSpec.ofChange verifyUnreachedSpec)) verifyUnreachedCard

/-- THE TIED CARD OF 'smartcardlaw30.VerifyApart'. -/
def verifyApartCard : Claim7 := { stood := { row := verifyApartRow, standIns := [], harness := (true, "df694a24656aaffa2dc80ba69ad885860f868bedd1e3cb2a052d3951b8f6d989"), looks := true }, kinds := [], alts := [], laidByText := true, laidKinds := [.data, .data, .data, .data, .data, .data, .data, .data], laidTests := true, laidLooks := .later }
def VerifyApartCardSaid : Prop := Claim7.holds Tryz.pinned (.plain (OpenSpec.ofChange verifyApartSpec)) verifyApartCard

/-- THE TIED CARD OF 'smartcardlaw30.VerifyPackages'. -/
def verifyPackagesCard : Claim7 := { stood := { row := verifyPackagesRow, standIns := [], harness := (true, "df694a24656aaffa2dc80ba69ad885860f868bedd1e3cb2a052d3951b8f6d989"), looks := true }, kinds := [], alts := [], laidByText := true, laidKinds := [.data, .data, .data, .data, .data, .data, .data, .data], laidTests := true, laidLooks := .later }
def VerifyPackagesCardSaid : Prop := Claim7.holds Tryz.pinned (.plain (OpenSpec.ofChange verifyPackagesSpec)) verifyPackagesCard

/-- THE SECOND FORM's CARD OF 'smartcardlaw30.VerifyMethods'. -/
def verifyMethodsUptoCard : Claim7 := { stood := { row := verifyMethodsUptoRow, standIns := [], harness := (true, "df694a24656aaffa2dc80ba69ad885860f868bedd1e3cb2a052d3951b8f6d989"), looks := true }, kinds := [], alts := [], laidByText := true, laidKinds := [.data, .data, .data, .data, .data, .data, .data, .data], laidTests := true, laidLooks := .later }
def VerifyMethodsUptoCardSaid : Prop := Claim7.holds Tryz.pinned (.plain (OpenSpec.upto verifyMethodsSpec)) verifyMethodsUptoCard

/-- THE SECOND FORM's CARD OF 'smartcardlaw30.VerifyTypes'. -/
def verifyTypesUptoCard : Claim7 := { stood := { row := verifyTypesUptoRow, standIns := [], harness := (true, "df694a24656aaffa2dc80ba69ad885860f868bedd1e3cb2a052d3951b8f6d989"), looks := true }, kinds := [], alts := [], laidByText := true, laidKinds := [.data, .data, .data, .data, .data, .data, .data, .data], laidTests := true, laidLooks := .later }
def VerifyTypesUptoCardSaid : Prop := Claim7.holds Tryz.pinned (.plain (OpenSpec.upto verifyTypesSpec)) verifyTypesUptoCard

/-- THE SECOND FORM's CARD OF 'smartcardlaw30.VerifySound'. -/
def verifySoundUptoCard : Claim7 := { stood := { row := verifySoundUptoRow, standIns := [], harness := (true, "df694a24656aaffa2dc80ba69ad885860f868bedd1e3cb2a052d3951b8f6d989"), looks := true }, kinds := [], alts := [], laidByText := true, laidKinds := [.data, .data, .data, .data, .data, .data, .data, .data], laidTests := true, laidLooks := .later }
def VerifySoundUptoCardSaid : Prop := Claim7.holds Tryz.pinned (.plain (OpenSpec.upto verifySoundSpec)) verifySoundUptoCard

/-- THE SECOND FORM's CARD OF 'smartcardlaw30.VerifyUnreached'. -/
def verifyUnreachedUptoCard : Claim7 := { stood := { row := verifyUnreachedUptoRow, standIns := [], harness := (true, "df694a24656aaffa2dc80ba69ad885860f868bedd1e3cb2a052d3951b8f6d989"), looks := true }, kinds := [], alts := [], laidByText := true, laidKinds := [.data, .data, .data, .data, .data, .data, .data, .data], laidTests := true, laidLooks := .later }
def VerifyUnreachedUptoCardSaid : Prop := Claim7.holds Tryz.pinned (.plain (OpenSpec.upto verifyUnreachedSpec)) verifyUnreachedUptoCard

/-- THE SECOND FORM's CARD OF 'smartcardlaw30.VerifyApart'. -/
def verifyApartUptoCard : Claim7 := { stood := { row := verifyApartUptoRow, standIns := [], harness := (true, "df694a24656aaffa2dc80ba69ad885860f868bedd1e3cb2a052d3951b8f6d989"), looks := true }, kinds := [], alts := [], laidByText := true, laidKinds := [.data, .data, .data, .data, .data, .data, .data, .data], laidTests := true, laidLooks := .later }
def VerifyApartUptoCardSaid : Prop := Claim7.holds Tryz.pinned (.plain (OpenSpec.upto verifyApartSpec)) verifyApartUptoCard

/-- THE SECOND FORM's CARD OF 'smartcardlaw30.VerifyPackages'. -/
def verifyPackagesUptoCard : Claim7 := { stood := { row := verifyPackagesUptoRow, standIns := [], harness := (true, "df694a24656aaffa2dc80ba69ad885860f868bedd1e3cb2a052d3951b8f6d989"), looks := true }, kinds := [], alts := [], laidByText := true, laidKinds := [.data, .data, .data, .data, .data, .data, .data, .data], laidTests := true, laidLooks := .later }
def VerifyPackagesUptoCardSaid : Prop := Claim7.holds Tryz.pinned (.plain (OpenSpec.upto verifyPackagesSpec)) verifyPackagesUptoCard
end Rows
end Go.Proofs.YtkkddfebhbcdjaaGreatDoor
