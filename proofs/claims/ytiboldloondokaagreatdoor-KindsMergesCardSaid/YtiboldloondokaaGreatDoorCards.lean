/-
  DERIVED. GIVEN WITH THE SEED: THE CARDS: each row of YtiboldloondokaaGreatDoorRows.lean that lists a variable, with what it lists TIED to the program's text (the seventh form; the later family's looks); each row that meets fmt, with fmt's text TOLD by the authors' own Lean function (tested against real Go, not proved from fmt's source: count such statements apart). THE CARD IS WHAT COUNTS. Prove the row's statement (the work); the ties are given (YtiboldloondokaaGreatDoorTie.lean); close each card by the builder's one call (the guide's Derived/Test/ToyasCard.lean, 'card_holds'). Laid BY PROGRAM, IN A SANDBOX (cutbox-door.mjs). By AI agents, Wed Nov 11 2026. No macro, syntax, notation, axiom, sorry.
-/
import Derived.Test.YtiboldloondokaaGreatDoorRows
import GoSem.ClaimSeven
namespace Go.Proofs.YtiboldloondokaaGreatDoor
namespace Rows

/-- THE TIED CARD OF 'smartcardlaw29.KindsChecks'. -/
def kindsChecksCard : Claim7 := { stood := { row := kindsChecksRow, standIns := [], harness := (true, "696f296344e1efad92676a67572500d8b6efce5eb5ff8d6f17d33e9152a13ad4"), looks := false }, kinds := [], alts := [], laidByText := true, laidKinds := [.data, .data, .data, .data], laidTests := true, laidLooks := .later }
def KindsChecksCardSaid : Prop := Claim7.holds Tryz.pinned (.plain (OpenSpec.ofChange kindsChecksSpec)) kindsChecksCard

/-- THE TIED CARD OF 'smartcardlaw29.KindsSupers'. -/
def kindsSupersCard : Claim7 := { stood := { row := kindsSupersRow, standIns := [], harness := (true, "696f296344e1efad92676a67572500d8b6efce5eb5ff8d6f17d33e9152a13ad4"), looks := false }, kinds := [], alts := [], laidByText := true, laidKinds := [.data, .data, .data, .data], laidTests := true, laidLooks := .later }
def KindsSupersCardSaid : Prop := Claim7.holds Tryz.pinned (.plain (OpenSpec.ofChange kindsSupersSpec)) kindsSupersCard

/-- THE TIED CARD OF 'smartcardlaw29.KindsFields'. -/
def kindsFieldsCard : Claim7 := { stood := { row := kindsFieldsRow, standIns := [], harness := (true, "696f296344e1efad92676a67572500d8b6efce5eb5ff8d6f17d33e9152a13ad4"), looks := false }, kinds := [], alts := [], laidByText := true, laidKinds := [.data, .data, .data, .data], laidTests := true, laidLooks := .later }
def KindsFieldsCardSaid : Prop := Claim7.holds Tryz.pinned (.plain (OpenSpec.ofChange kindsFieldsSpec)) kindsFieldsCard

/-- THE TIED CARD OF 'smartcardlaw29.KindsFits'. -/
def kindsFitsCard : Claim7 := { stood := { row := kindsFitsRow, standIns := [], harness := (true, "696f296344e1efad92676a67572500d8b6efce5eb5ff8d6f17d33e9152a13ad4"), looks := false }, kinds := [], alts := [], laidByText := true, laidKinds := [.data, .data, .data, .data], laidTests := true, laidLooks := .later }
def KindsFitsCardSaid : Prop := Claim7.holds Tryz.pinned (.plain (OpenSpec.ofChange kindsFitsSpec)) kindsFitsCard

/-- THE TIED CARD OF 'smartcardlaw29.KindsMerges'. -/
def kindsMergesCard : Claim7 := { stood := { row := kindsMergesRow, standIns := [], harness := (true, "696f296344e1efad92676a67572500d8b6efce5eb5ff8d6f17d33e9152a13ad4"), looks := false }, kinds := [], alts := [], laidByText := true, laidKinds := [.data, .data, .data, .data], laidTests := true, laidLooks := .later }
def KindsMergesCardSaid : Prop := Claim7.holds Tryz.pinned (.plain (OpenSpec.ofChange kindsMergesSpec)) kindsMergesCard

/-- THE TIED CARD OF 'smartcardlaw29.KindsOrder'. -/
def kindsOrderCard : Claim7 := { stood := { row := kindsOrderRow, standIns := [], harness := (true, "696f296344e1efad92676a67572500d8b6efce5eb5ff8d6f17d33e9152a13ad4"), looks := false }, kinds := [], alts := [], laidByText := true, laidKinds := [.data, .data, .data, .data], laidTests := true, laidLooks := .later }
def KindsOrderCardSaid : Prop := Claim7.holds Tryz.pinned (.plain (OpenSpec.ofChange kindsOrderSpec)) kindsOrderCard

/-- THE TIED CARD OF 'smartcardlaw29.KindsInherits'. -/
def kindsInheritsCard : Claim7 := { stood := { row := kindsInheritsRow, standIns := [], harness := (true, "696f296344e1efad92676a67572500d8b6efce5eb5ff8d6f17d33e9152a13ad4"), looks := false }, kinds := [], alts := [], laidByText := true, laidKinds := [.data, .data, .data, .data], laidTests := true, laidLooks := .later }
def KindsInheritsCardSaid : Prop := Claim7.holds Tryz.pinned (.plain (OpenSpec.ofChange kindsInheritsSpec)) kindsInheritsCard

/-- THE TIED CARD OF 'smartcardlaw29.KindsExtends'. -/
def kindsExtendsCard : Claim7 := { stood := { row := kindsExtendsRow, standIns := [], harness := (true, "696f296344e1efad92676a67572500d8b6efce5eb5ff8d6f17d33e9152a13ad4"), looks := false }, kinds := [], alts := [], laidByText := true, laidKinds := [.data, .data, .data, .data], laidTests := true, laidLooks := .later }
def KindsExtendsCardSaid : Prop := Claim7.holds Tryz.pinned (.plain (OpenSpec.ofChange kindsExtendsSpec)) kindsExtendsCard

/-- THE TIED CARD OF 'smartcardlaw29.KindsMethods'. -/
def kindsMethodsCard : Claim7 := { stood := { row := kindsMethodsRow, standIns := [], harness := (true, "696f296344e1efad92676a67572500d8b6efce5eb5ff8d6f17d33e9152a13ad4"), looks := false }, kinds := [], alts := [], laidByText := true, laidKinds := [.data, .data, .data, .data], laidTests := true, laidLooks := .later }
def KindsMethodsCardSaid : Prop := Claim7.holds Tryz.pinned (.plain (OpenSpec.ofChange kindsMethodsSpec)) kindsMethodsCard

/-- THE SECOND FORM's CARD OF 'smartcardlaw29.KindsChecks'. -/
def kindsChecksUptoCard : Claim7 := { stood := { row := kindsChecksUptoRow, standIns := [], harness := (true, "696f296344e1efad92676a67572500d8b6efce5eb5ff8d6f17d33e9152a13ad4"), looks := false }, kinds := [], alts := [], laidByText := true, laidKinds := [.data, .data, .data, .data], laidTests := true, laidLooks := .later }
def KindsChecksUptoCardSaid : Prop := Claim7.holds Tryz.pinned (.plain (OpenSpec.upto kindsChecksSpec)) kindsChecksUptoCard

/-- THE SECOND FORM's CARD OF 'smartcardlaw29.KindsSupers'. -/
def kindsSupersUptoCard : Claim7 := { stood := { row := kindsSupersUptoRow, standIns := [], harness := (true, "696f296344e1efad92676a67572500d8b6efce5eb5ff8d6f17d33e9152a13ad4"), looks := false }, kinds := [], alts := [], laidByText := true, laidKinds := [.data, .data, .data, .data], laidTests := true, laidLooks := .later }
def KindsSupersUptoCardSaid : Prop := Claim7.holds Tryz.pinned (.plain (OpenSpec.upto kindsSupersSpec)) kindsSupersUptoCard

/-- THE SECOND FORM's CARD OF 'smartcardlaw29.KindsFields'. -/
def kindsFieldsUptoCard : Claim7 := { stood := { row := kindsFieldsUptoRow, standIns := [], harness := (true, "696f296344e1efad92676a67572500d8b6efce5eb5ff8d6f17d33e9152a13ad4"), looks := false }, kinds := [], alts := [], laidByText := true, laidKinds := [.data, .data, .data, .data], laidTests := true, laidLooks := .later }
def KindsFieldsUptoCardSaid : Prop := Claim7.holds Tryz.pinned (.plain (OpenSpec.upto kindsFieldsSpec)) kindsFieldsUptoCard

/-- THE SECOND FORM's CARD OF 'smartcardlaw29.KindsFits'. -/
def kindsFitsUptoCard : Claim7 := { stood := { row := kindsFitsUptoRow, standIns := [], harness := (true, "696f296344e1efad92676a67572500d8b6efce5eb5ff8d6f17d33e9152a13ad4"), looks := false }, kinds := [], alts := [], laidByText := true, laidKinds := [.data, .data, .data, .data], laidTests := true, laidLooks := .later }
def KindsFitsUptoCardSaid : Prop := Claim7.holds Tryz.pinned (.plain (OpenSpec.upto kindsFitsSpec)) kindsFitsUptoCard

/-- THE SECOND FORM's CARD OF 'smartcardlaw29.KindsMerges'. -/
def kindsMergesUptoCard : Claim7 := { stood := { row := kindsMergesUptoRow, standIns := [], harness := (true, "696f296344e1efad92676a67572500d8b6efce5eb5ff8d6f17d33e9152a13ad4"), looks := false }, kinds := [], alts := [], laidByText := true, laidKinds := [.data, .data, .data, .data], laidTests := true, laidLooks := .later }
def KindsMergesUptoCardSaid : Prop := Claim7.holds Tryz.pinned (.plain (OpenSpec.upto kindsMergesSpec)) kindsMergesUptoCard

/-- THE SECOND FORM's CARD OF 'smartcardlaw29.KindsOrder'. -/
def kindsOrderUptoCard : Claim7 := { stood := { row := kindsOrderUptoRow, standIns := [], harness := (true, "696f296344e1efad92676a67572500d8b6efce5eb5ff8d6f17d33e9152a13ad4"), looks := false }, kinds := [], alts := [], laidByText := true, laidKinds := [.data, .data, .data, .data], laidTests := true, laidLooks := .later }
def KindsOrderUptoCardSaid : Prop := Claim7.holds Tryz.pinned (.plain (OpenSpec.upto kindsOrderSpec)) kindsOrderUptoCard

/-- THE SECOND FORM's CARD OF 'smartcardlaw29.KindsInherits'. -/
def kindsInheritsUptoCard : Claim7 := { stood := { row := kindsInheritsUptoRow, standIns := [], harness := (true, "696f296344e1efad92676a67572500d8b6efce5eb5ff8d6f17d33e9152a13ad4"), looks := false }, kinds := [], alts := [], laidByText := true, laidKinds := [.data, .data, .data, .data], laidTests := true, laidLooks := .later }
def KindsInheritsUptoCardSaid : Prop := Claim7.holds Tryz.pinned (.plain (OpenSpec.upto kindsInheritsSpec)) kindsInheritsUptoCard

/-- THE SECOND FORM's CARD OF 'smartcardlaw29.KindsExtends'. -/
def kindsExtendsUptoCard : Claim7 := { stood := { row := kindsExtendsUptoRow, standIns := [], harness := (true, "696f296344e1efad92676a67572500d8b6efce5eb5ff8d6f17d33e9152a13ad4"), looks := false }, kinds := [], alts := [], laidByText := true, laidKinds := [.data, .data, .data, .data], laidTests := true, laidLooks := .later }
def KindsExtendsUptoCardSaid : Prop := Claim7.holds Tryz.pinned (.plain (OpenSpec.upto kindsExtendsSpec)) kindsExtendsUptoCard

/-- THE SECOND FORM's CARD OF 'smartcardlaw29.KindsMethods'. -/
def kindsMethodsUptoCard : Claim7 := { stood := { row := kindsMethodsUptoRow, standIns := [], harness := (true, "696f296344e1efad92676a67572500d8b6efce5eb5ff8d6f17d33e9152a13ad4"), looks := false }, kinds := [], alts := [], laidByText := true, laidKinds := [.data, .data, .data, .data], laidTests := true, laidLooks := .later }
def KindsMethodsUptoCardSaid : Prop := Claim7.holds Tryz.pinned (.plain (OpenSpec.upto kindsMethodsSpec)) kindsMethodsUptoCard
end Rows
end Go.Proofs.YtiboldloondokaaGreatDoor
