/-
  NARROWER THAN 'FOR EVERY INPUT', by the rows' own cells (each row's printed sentence says how): LoadfileChecks: laid · LoadfileEncodes: laid · LoadfileDecodes: laid · LoadfileRoundTrip: laid · LoadfileSame: laid · LoadfileHash: laid · LoadfileOrder: laid.
  DERIVED. THE GIVEN ROWS OF THIS SEAT. 7 by the template 'for every input the law returns true; each argument reads behind the call as it read before'; 0 by the template 'total and deterministic' (their statements: YthagkijplklemaaGreatDoorTotals.lean).
  GIVEN WITH THE SEED: the statements are not yours to turn. If you find one false, say at which input.
  Laid BY PROGRAM, IN A SANDBOX (cutbox-rows.mjs): the forced cells as the released guide's own fill.sh prints them over the translation f8d7cca4151e72b2… (all of the seat's roots in one cut). By AI agents, Wed Nov 11 2026. No macro, syntax, notation, axiom, sorry.
-/
import Derived.Test.YthagkijplklemaaGreatDoorChecked
import GoSem.Claim
import GoSem.ClaimJoined
import GoSem.ClaimMapViews
import Derived.JoinedTies
import Derived.KernelRfl
namespace Go.Proofs.YthagkijplklemaaGreatDoor
/- THE CELL 'sum', in the pinned program and in every row, IS THE sha256 OF THE DUMP (.gsa) THAT YthagkijplklemaaGreatDoorProg.lean LOADS. Nothing in Lean hashes anything: it is a label: what it is worth is what the hold of that sum in a sandbox is worth. -/
noncomputable def Tryz.pinned : Pinned := { name := "ythagkijplklemaagreatdoor", sum := "f8d7cca4151e72b22bcaaa73efce9d54c8ee260c4d34742208219b8819ce818e", checked := Tryz.checked }
namespace Rows
def none {H : Type} : Left H := { results := [], args := [] }

/- WHAT THE LISTED PACKAGE-LEVEL VARIABLES READ AS WHEN THE CALL BEGINS. Each datum BY PROGRAM (the guide's laid-datum.mjs) off the statement by which the dump's own 'gosem.cut.vars' lays the variable. In a bare row this is a premise. The card (YthagkijplklemaaGreatDoorCards.lean) ties it to the program's text. -/
def laid_smartcard_loadfile_object {H : Type} : DataW H := .agg [.lit (.int .i64 255), .lit (.int .i64 0)]

/-- 'smartcardlaw28.LoadfileChecks': WHATEVER THE INPUT: true; the input reads as it did. -/
def loadfileChecksSpec : ChangeSpec := { name := "loadfileChecks", fn := fun _ => fun
  | [d] => { results := [.lit (.bool true)], args := [d] }
  | _ => none }
def loadfileChecksRow : OpenClaim := { program := "ythagkijplklemaagreatdoor", sum := "f8d7cca4151e72b22bcaaa73efce9d54c8ee260c4d34742208219b8819ce818e", func := "smartcard/smartcardlaw28.LoadfileChecks", spec := "loadfileChecks", unfollowed := true, recurses := true, named := ["smartcard/loadfile.object"], apart := false, laid := [("smartcard/loadfile.object", laid_smartcard_loadfile_object)] }
def LoadfileChecksSaid : Prop := loadfileChecksRow.holds Tryz.pinned (OpenSpec.ofChange loadfileChecksSpec)

/-- ITS FALSE NEIGHBOUR: 'it returns false'. Refute it at one input. -/
def loadfileChecksWrong : ChangeSpec := { name := "loadfileChecks", fn := fun _ => fun
  | [d] => { results := [.lit (.bool false)], args := [d] }
  | _ => none }
def LoadfileChecksWrongFalsely : Prop := loadfileChecksRow.holds Tryz.pinned (OpenSpec.ofChange loadfileChecksWrong)

/-- 'smartcardlaw28.LoadfileEncodes': WHATEVER THE INPUT: true; the input reads as it did. -/
def loadfileEncodesSpec : ChangeSpec := { name := "loadfileEncodes", fn := fun _ => fun
  | [d] => { results := [.lit (.bool true)], args := [d] }
  | _ => none }
def loadfileEncodesRow : OpenClaim := { program := "ythagkijplklemaagreatdoor", sum := "f8d7cca4151e72b22bcaaa73efce9d54c8ee260c4d34742208219b8819ce818e", func := "smartcard/smartcardlaw28.LoadfileEncodes", spec := "loadfileEncodes", unfollowed := true, recurses := true, named := ["smartcard/loadfile.object"], apart := false, laid := [("smartcard/loadfile.object", laid_smartcard_loadfile_object)] }
def LoadfileEncodesSaid : Prop := loadfileEncodesRow.holds Tryz.pinned (OpenSpec.ofChange loadfileEncodesSpec)

/-- ITS FALSE NEIGHBOUR: 'it returns false'. Refute it at one input. -/
def loadfileEncodesWrong : ChangeSpec := { name := "loadfileEncodes", fn := fun _ => fun
  | [d] => { results := [.lit (.bool false)], args := [d] }
  | _ => none }
def LoadfileEncodesWrongFalsely : Prop := loadfileEncodesRow.holds Tryz.pinned (OpenSpec.ofChange loadfileEncodesWrong)

/-- 'smartcardlaw28.LoadfileDecodes': WHATEVER THE INPUT: true; the input reads as it did. -/
def loadfileDecodesSpec : ChangeSpec := { name := "loadfileDecodes", fn := fun _ => fun
  | [d] => { results := [.lit (.bool true)], args := [d] }
  | _ => none }
def loadfileDecodesRow : OpenClaim := { program := "ythagkijplklemaagreatdoor", sum := "f8d7cca4151e72b22bcaaa73efce9d54c8ee260c4d34742208219b8819ce818e", func := "smartcard/smartcardlaw28.LoadfileDecodes", spec := "loadfileDecodes", unfollowed := true, recurses := true, named := ["smartcard/loadfile.object"], apart := false, laid := [("smartcard/loadfile.object", laid_smartcard_loadfile_object)] }
def LoadfileDecodesSaid : Prop := loadfileDecodesRow.holds Tryz.pinned (OpenSpec.ofChange loadfileDecodesSpec)

/-- ITS FALSE NEIGHBOUR: 'it returns false'. Refute it at one input. -/
def loadfileDecodesWrong : ChangeSpec := { name := "loadfileDecodes", fn := fun _ => fun
  | [d] => { results := [.lit (.bool false)], args := [d] }
  | _ => none }
def LoadfileDecodesWrongFalsely : Prop := loadfileDecodesRow.holds Tryz.pinned (OpenSpec.ofChange loadfileDecodesWrong)

/-- 'smartcardlaw28.LoadfileRoundTrip': WHATEVER THE INPUT: true; the input reads as it did. -/
def loadfileRoundTripSpec : ChangeSpec := { name := "loadfileRoundTrip", fn := fun _ => fun
  | [d1, d2] => { results := [.lit (.bool true)], args := [d1, d2] }
  | _ => none }
def loadfileRoundTripRow : OpenClaim := { program := "ythagkijplklemaagreatdoor", sum := "f8d7cca4151e72b22bcaaa73efce9d54c8ee260c4d34742208219b8819ce818e", func := "smartcard/smartcardlaw28.LoadfileRoundTrip", spec := "loadfileRoundTrip", unfollowed := true, recurses := true, named := ["smartcard/loadfile.object"], apart := false, laid := [("smartcard/loadfile.object", laid_smartcard_loadfile_object)] }
def LoadfileRoundTripSaid : Prop := loadfileRoundTripRow.holds Tryz.pinned (OpenSpec.ofChange loadfileRoundTripSpec)

/-- ITS FALSE NEIGHBOUR: 'it returns false'. Refute it at one input. -/
def loadfileRoundTripWrong : ChangeSpec := { name := "loadfileRoundTrip", fn := fun _ => fun
  | [d1, d2] => { results := [.lit (.bool false)], args := [d1, d2] }
  | _ => none }
def LoadfileRoundTripWrongFalsely : Prop := loadfileRoundTripRow.holds Tryz.pinned (OpenSpec.ofChange loadfileRoundTripWrong)

/-- 'smartcardlaw28.LoadfileSame': WHATEVER THE INPUT: true; the input reads as it did. -/
def loadfileSameSpec : ChangeSpec := { name := "loadfileSame", fn := fun _ => fun
  | [d1, d2] => { results := [.lit (.bool true)], args := [d1, d2] }
  | _ => none }
def loadfileSameRow : OpenClaim := { program := "ythagkijplklemaagreatdoor", sum := "f8d7cca4151e72b22bcaaa73efce9d54c8ee260c4d34742208219b8819ce818e", func := "smartcard/smartcardlaw28.LoadfileSame", spec := "loadfileSame", unfollowed := true, recurses := true, named := ["smartcard/loadfile.object"], apart := false, laid := [("smartcard/loadfile.object", laid_smartcard_loadfile_object)] }
def LoadfileSameSaid : Prop := loadfileSameRow.holds Tryz.pinned (OpenSpec.ofChange loadfileSameSpec)

/-- ITS FALSE NEIGHBOUR: 'it returns false'. Refute it at one input. -/
def loadfileSameWrong : ChangeSpec := { name := "loadfileSame", fn := fun _ => fun
  | [d1, d2] => { results := [.lit (.bool false)], args := [d1, d2] }
  | _ => none }
def LoadfileSameWrongFalsely : Prop := loadfileSameRow.holds Tryz.pinned (OpenSpec.ofChange loadfileSameWrong)

/-- 'smartcardlaw28.LoadfileHash': WHATEVER THE INPUT: true; the input reads as it did. -/
def loadfileHashSpec : ChangeSpec := { name := "loadfileHash", fn := fun _ => fun
  | [d] => { results := [.lit (.bool true)], args := [d] }
  | _ => none }
def loadfileHashRow : OpenClaim := { program := "ythagkijplklemaagreatdoor", sum := "f8d7cca4151e72b22bcaaa73efce9d54c8ee260c4d34742208219b8819ce818e", func := "smartcard/smartcardlaw28.LoadfileHash", spec := "loadfileHash", unfollowed := true, recurses := true, named := ["smartcard/loadfile.object"], apart := false, laid := [("smartcard/loadfile.object", laid_smartcard_loadfile_object)] }
def LoadfileHashSaid : Prop := loadfileHashRow.holds Tryz.pinned (OpenSpec.ofChange loadfileHashSpec)

/-- ITS FALSE NEIGHBOUR: 'it returns false'. Refute it at one input. -/
def loadfileHashWrong : ChangeSpec := { name := "loadfileHash", fn := fun _ => fun
  | [d] => { results := [.lit (.bool false)], args := [d] }
  | _ => none }
def LoadfileHashWrongFalsely : Prop := loadfileHashRow.holds Tryz.pinned (OpenSpec.ofChange loadfileHashWrong)

/-- 'smartcardlaw28.LoadfileOrder': WHATEVER THE INPUT: true; the input reads as it did. -/
def loadfileOrderSpec : ChangeSpec := { name := "loadfileOrder", fn := fun _ => fun
  | [d] => { results := [.lit (.bool true)], args := [d] }
  | _ => none }
def loadfileOrderRow : OpenClaim := { program := "ythagkijplklemaagreatdoor", sum := "f8d7cca4151e72b22bcaaa73efce9d54c8ee260c4d34742208219b8819ce818e", func := "smartcard/smartcardlaw28.LoadfileOrder", spec := "loadfileOrder", unfollowed := true, recurses := true, named := ["smartcard/loadfile.object"], apart := false, laid := [("smartcard/loadfile.object", laid_smartcard_loadfile_object)] }
def LoadfileOrderSaid : Prop := loadfileOrderRow.holds Tryz.pinned (OpenSpec.ofChange loadfileOrderSpec)

/-- ITS FALSE NEIGHBOUR: 'it returns false'. Refute it at one input. -/
def loadfileOrderWrong : ChangeSpec := { name := "loadfileOrder", fn := fun _ => fun
  | [d] => { results := [.lit (.bool false)], args := [d] }
  | _ => none }
def LoadfileOrderWrongFalsely : Prop := loadfileOrderRow.holds Tryz.pinned (OpenSpec.ofChange loadfileOrderWrong)

/- THE SECOND FORM. 'bulk': how many values and letters a reading holds, each counted each time it is reached (what is shared counts as often as it is met; a slice's spare places count too). A statement '..UptoSaid' is the law's where the arguments, and the package variables that the reading takes, are together of bulk at most 1048576: NARROWER than '..Said'. Prove '..Said' where nothing that the law and all that it calls make is longer than what came in: it says more and counts as full. Else prove '..UptoSaid'. A law counts once. -/
mutual
def uptoBulk {H : Type} : DataW H → Nat
  | .lit (.string bytes) => bytes.length + 1
  | .lit _ => 1
  | .nil => 1
  | .ptr d => uptoBulk d + 1
  | .slice elems spare => uptoBulkAll elems + uptoBulkAll spare + 1
  | .agg parts => uptoBulkAll parts + 1
  | .iface _ d => uptoBulk d + 1
  | .map entries => uptoBulkEntries entries + 1
  | .held _ => 1
def uptoBulkAll {H : Type} : List (DataW H) → Nat
  | [] => 0
  | d :: r => uptoBulk d + uptoBulkAll r
def uptoBulkEntries {H : Type} : List (Lit × DataW H) → Nat
  | [] => 0
  | x :: r => uptoBulkEntry x + uptoBulkEntries r
def uptoBulkEntry {H : Type} : Lit × DataW H → Nat
  | (.string bytes, d) => bytes.length + uptoBulk d + 1
  | (_, d) => uptoBulk d + 1
 end
def uptoSmall : (H : Type) → List (DataW H) → Bool := fun _ ds => decide (uptoBulkAll ds ≤ 1048576)
def OpenSpec.upto (s : _root_.Go.ChangeSpec) : _root_.Go.OpenSpec := { _root_.Go.OpenSpec.ofChange s with cond := some uptoSmall }

/-- 'smartcardlaw28.LoadfileChecks', WHERE WHAT IT READS IS OF BULK AT MOST 1048576: true; the input reads as it did. -/
def loadfileChecksUptoRow : OpenClaim := { program := "ythagkijplklemaagreatdoor", sum := "f8d7cca4151e72b22bcaaa73efce9d54c8ee260c4d34742208219b8819ce818e", func := "smartcard/smartcardlaw28.LoadfileChecks", spec := "loadfileChecks", unfollowed := true, recurses := true, named := ["smartcard/loadfile.object"], apart := false, laid := [("smartcard/loadfile.object", laid_smartcard_loadfile_object)], narrowed := true }
def LoadfileChecksUptoSaid : Prop := loadfileChecksUptoRow.holds Tryz.pinned (OpenSpec.upto loadfileChecksSpec)

/-- 'smartcardlaw28.LoadfileEncodes', WHERE WHAT IT READS IS OF BULK AT MOST 1048576: true; the input reads as it did. -/
def loadfileEncodesUptoRow : OpenClaim := { program := "ythagkijplklemaagreatdoor", sum := "f8d7cca4151e72b22bcaaa73efce9d54c8ee260c4d34742208219b8819ce818e", func := "smartcard/smartcardlaw28.LoadfileEncodes", spec := "loadfileEncodes", unfollowed := true, recurses := true, named := ["smartcard/loadfile.object"], apart := false, laid := [("smartcard/loadfile.object", laid_smartcard_loadfile_object)], narrowed := true }
def LoadfileEncodesUptoSaid : Prop := loadfileEncodesUptoRow.holds Tryz.pinned (OpenSpec.upto loadfileEncodesSpec)

/-- 'smartcardlaw28.LoadfileDecodes', WHERE WHAT IT READS IS OF BULK AT MOST 1048576: true; the input reads as it did. -/
def loadfileDecodesUptoRow : OpenClaim := { program := "ythagkijplklemaagreatdoor", sum := "f8d7cca4151e72b22bcaaa73efce9d54c8ee260c4d34742208219b8819ce818e", func := "smartcard/smartcardlaw28.LoadfileDecodes", spec := "loadfileDecodes", unfollowed := true, recurses := true, named := ["smartcard/loadfile.object"], apart := false, laid := [("smartcard/loadfile.object", laid_smartcard_loadfile_object)], narrowed := true }
def LoadfileDecodesUptoSaid : Prop := loadfileDecodesUptoRow.holds Tryz.pinned (OpenSpec.upto loadfileDecodesSpec)

/-- 'smartcardlaw28.LoadfileRoundTrip', WHERE WHAT IT READS IS OF BULK AT MOST 1048576: true; the input reads as it did. -/
def loadfileRoundTripUptoRow : OpenClaim := { program := "ythagkijplklemaagreatdoor", sum := "f8d7cca4151e72b22bcaaa73efce9d54c8ee260c4d34742208219b8819ce818e", func := "smartcard/smartcardlaw28.LoadfileRoundTrip", spec := "loadfileRoundTrip", unfollowed := true, recurses := true, named := ["smartcard/loadfile.object"], apart := false, laid := [("smartcard/loadfile.object", laid_smartcard_loadfile_object)], narrowed := true }
def LoadfileRoundTripUptoSaid : Prop := loadfileRoundTripUptoRow.holds Tryz.pinned (OpenSpec.upto loadfileRoundTripSpec)

/-- 'smartcardlaw28.LoadfileSame', WHERE WHAT IT READS IS OF BULK AT MOST 1048576: true; the input reads as it did. -/
def loadfileSameUptoRow : OpenClaim := { program := "ythagkijplklemaagreatdoor", sum := "f8d7cca4151e72b22bcaaa73efce9d54c8ee260c4d34742208219b8819ce818e", func := "smartcard/smartcardlaw28.LoadfileSame", spec := "loadfileSame", unfollowed := true, recurses := true, named := ["smartcard/loadfile.object"], apart := false, laid := [("smartcard/loadfile.object", laid_smartcard_loadfile_object)], narrowed := true }
def LoadfileSameUptoSaid : Prop := loadfileSameUptoRow.holds Tryz.pinned (OpenSpec.upto loadfileSameSpec)

/-- 'smartcardlaw28.LoadfileHash', WHERE WHAT IT READS IS OF BULK AT MOST 1048576: true; the input reads as it did. -/
def loadfileHashUptoRow : OpenClaim := { program := "ythagkijplklemaagreatdoor", sum := "f8d7cca4151e72b22bcaaa73efce9d54c8ee260c4d34742208219b8819ce818e", func := "smartcard/smartcardlaw28.LoadfileHash", spec := "loadfileHash", unfollowed := true, recurses := true, named := ["smartcard/loadfile.object"], apart := false, laid := [("smartcard/loadfile.object", laid_smartcard_loadfile_object)], narrowed := true }
def LoadfileHashUptoSaid : Prop := loadfileHashUptoRow.holds Tryz.pinned (OpenSpec.upto loadfileHashSpec)

/-- 'smartcardlaw28.LoadfileOrder', WHERE WHAT IT READS IS OF BULK AT MOST 1048576: true; the input reads as it did. -/
def loadfileOrderUptoRow : OpenClaim := { program := "ythagkijplklemaagreatdoor", sum := "f8d7cca4151e72b22bcaaa73efce9d54c8ee260c4d34742208219b8819ce818e", func := "smartcard/smartcardlaw28.LoadfileOrder", spec := "loadfileOrder", unfollowed := true, recurses := true, named := ["smartcard/loadfile.object"], apart := false, laid := [("smartcard/loadfile.object", laid_smartcard_loadfile_object)], narrowed := true }
def LoadfileOrderUptoSaid : Prop := loadfileOrderUptoRow.holds Tryz.pinned (OpenSpec.upto loadfileOrderSpec)

end Rows
end Go.Proofs.YthagkijplklemaaGreatDoor
