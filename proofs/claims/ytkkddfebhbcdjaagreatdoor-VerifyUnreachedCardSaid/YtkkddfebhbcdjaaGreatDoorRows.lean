/-
  NARROWER THAN 'FOR EVERY INPUT', by the rows' own cells (each row's printed sentence says how): VerifyMethods: laid · VerifyTypes: laid · VerifySound: laid · VerifyUnreached: laid · VerifyApart: laid · VerifyPackages: laid.
  DERIVED. THE GIVEN ROWS OF THIS SEAT. 6 by the template 'for every input the law returns true; each argument reads behind the call as it read before'; 0 by the template 'total and deterministic' (their statements: YtkkddfebhbcdjaaGreatDoorTotals.lean).
  GIVEN WITH THE SEED: the statements are not yours to turn. If you find one false, say at which input.
  Laid BY PROGRAM, IN A SANDBOX (cutbox-rows.mjs): the forced cells as the released guide's own fill.sh prints them over the translation 5e65b80c5a9cb620… (all of the seat's roots in one cut). By AI agents, Wed Nov 11 2026. No macro, syntax, notation, axiom, sorry.
-/
import Derived.Test.YtkkddfebhbcdjaaGreatDoorChecked
import GoSem.Claim
import GoSem.ClaimJoined
import GoSem.ClaimMapViews
import Derived.JoinedTies
import Derived.KernelRfl
namespace Go.Proofs.YtkkddfebhbcdjaaGreatDoor
/- THE CELL 'sum', in the pinned program and in every row, IS THE sha256 OF THE DUMP (.gsa) THAT YtkkddfebhbcdjaaGreatDoorProg.lean LOADS. Nothing in Lean hashes anything: it is a label: what it is worth is what the hold of that sum in a sandbox is worth. -/
noncomputable def Tryz.pinned : Pinned := { name := "ytkkddfebhbcdjaagreatdoor", sum := "5e65b80c5a9cb620a4aa5076d0a893ae6979d2354de5be9140e4028c6c6b842e", checked := Tryz.checked }
namespace Rows
def none {H : Type} : Left H := { results := [], args := [] }

/- WHAT THE LISTED PACKAGE-LEVEL VARIABLES READ AS WHEN THE CALL BEGINS. Each datum BY PROGRAM (the guide's laid-datum.mjs) off the statement by which the dump's own 'gosem.cut.vars' lays the variable. In a bare row this is a premise. The card (YtkkddfebhbcdjaaGreatDoorCards.lean) ties it to the program's text. -/
def laid_smartcard_loadfile_object {H : Type} : DataW H := .agg [.lit (.int .i64 255), .lit (.int .i64 0)]
def laid_smartcard_kinds_object {H : Type} : DataW H := .agg [.lit (.int .i64 255), .lit (.int .i64 0)]
def laid_smartcard_kinds_shareable {H : Type} : DataW H := .agg [.lit (.int .i64 255), .lit (.int .i64 1)]
def laid_smartcard_kinds_whole {H : Type} : DataW H := .agg [.lit (.int .i64 5), .agg [.lit (.int .i64 255), .lit (.int .i64 0)]]
def laid_smartcard_verify_integer {H : Type} : DataW H := .agg [.lit (.int .i64 1), .agg [.lit (.int .i64 0), .lit (.int .i64 0)]]
def laid_smartcard_verify_null {H : Type} : DataW H := .agg [.lit (.int .i64 6), .agg [.lit (.int .i64 0), .lit (.int .i64 0)]]
def laid_smartcard_verify_unused {H : Type} : DataW H := .agg [.lit (.int .i64 7), .agg [.lit (.int .i64 0), .lit (.int .i64 0)]]
def laid_smartcard_verify_object {H : Type} : DataW H := .agg [.lit (.int .i64 5), .agg [.lit (.int .i64 255), .lit (.int .i64 0)]]

/-- 'smartcardlaw30.VerifyMethods': WHATEVER THE INPUT: true; the input reads as it did. -/
def verifyMethodsSpec : ChangeSpec := { name := "verifyMethods", fn := fun _ => fun
  | [d1, d2] => { results := [.lit (.bool true)], args := [d1, d2] }
  | _ => none }
def verifyMethodsRow : OpenClaim := { program := "ytkkddfebhbcdjaagreatdoor", sum := "5e65b80c5a9cb620a4aa5076d0a893ae6979d2354de5be9140e4028c6c6b842e", func := "smartcard/smartcardlaw30.VerifyMethods", spec := "verifyMethods", unfollowed := true, recurses := true, named := ["smartcard/loadfile.object", "smartcard/kinds.object", "smartcard/kinds.shareable", "smartcard/verify.unused", "smartcard/kinds.whole", "smartcard/verify.integer", "smartcard/verify.null", "smartcard/verify.object"], plainKeys := false, apart := false, laid := [("smartcard/loadfile.object", laid_smartcard_loadfile_object), ("smartcard/kinds.object", laid_smartcard_kinds_object), ("smartcard/kinds.shareable", laid_smartcard_kinds_shareable), ("smartcard/kinds.whole", laid_smartcard_kinds_whole), ("smartcard/verify.integer", laid_smartcard_verify_integer), ("smartcard/verify.null", laid_smartcard_verify_null), ("smartcard/verify.unused", laid_smartcard_verify_unused), ("smartcard/verify.object", laid_smartcard_verify_object)] }
def VerifyMethodsSaid : Prop := verifyMethodsRow.holds Tryz.pinned (OpenSpec.ofChange verifyMethodsSpec)

/-- ITS FALSE NEIGHBOUR: 'it returns false'. Refute it at one input. -/
def verifyMethodsWrong : ChangeSpec := { name := "verifyMethods", fn := fun _ => fun
  | [d1, d2] => { results := [.lit (.bool false)], args := [d1, d2] }
  | _ => none }
def VerifyMethodsWrongFalsely : Prop := verifyMethodsRow.holds Tryz.pinned (OpenSpec.ofChange verifyMethodsWrong)

/-- 'smartcardlaw30.VerifyTypes': WHATEVER THE INPUT: true; the input reads as it did. -/
def verifyTypesSpec : ChangeSpec := { name := "verifyTypes", fn := fun _ => fun
  | [d1, d2] => { results := [.lit (.bool true)], args := [d1, d2] }
  | _ => none }
def verifyTypesRow : OpenClaim := { program := "ytkkddfebhbcdjaagreatdoor", sum := "5e65b80c5a9cb620a4aa5076d0a893ae6979d2354de5be9140e4028c6c6b842e", func := "smartcard/smartcardlaw30.VerifyTypes", spec := "verifyTypes", unfollowed := true, recurses := true, named := ["smartcard/loadfile.object", "smartcard/kinds.object", "smartcard/kinds.shareable", "smartcard/verify.unused", "smartcard/kinds.whole", "smartcard/verify.integer", "smartcard/verify.null", "smartcard/verify.object"], plainKeys := false, apart := false, laid := [("smartcard/loadfile.object", laid_smartcard_loadfile_object), ("smartcard/kinds.object", laid_smartcard_kinds_object), ("smartcard/kinds.shareable", laid_smartcard_kinds_shareable), ("smartcard/kinds.whole", laid_smartcard_kinds_whole), ("smartcard/verify.integer", laid_smartcard_verify_integer), ("smartcard/verify.null", laid_smartcard_verify_null), ("smartcard/verify.unused", laid_smartcard_verify_unused), ("smartcard/verify.object", laid_smartcard_verify_object)] }
def VerifyTypesSaid : Prop := verifyTypesRow.holds Tryz.pinned (OpenSpec.ofChange verifyTypesSpec)

/-- ITS FALSE NEIGHBOUR: 'it returns false'. Refute it at one input. -/
def verifyTypesWrong : ChangeSpec := { name := "verifyTypes", fn := fun _ => fun
  | [d1, d2] => { results := [.lit (.bool false)], args := [d1, d2] }
  | _ => none }
def VerifyTypesWrongFalsely : Prop := verifyTypesRow.holds Tryz.pinned (OpenSpec.ofChange verifyTypesWrong)

/-- 'smartcardlaw30.VerifySound': WHATEVER THE INPUT: true; the input reads as it did. -/
def verifySoundSpec : ChangeSpec := { name := "verifySound", fn := fun _ => fun
  | [d1, d2] => { results := [.lit (.bool true)], args := [d1, d2] }
  | _ => none }
def verifySoundRow : OpenClaim := { program := "ytkkddfebhbcdjaagreatdoor", sum := "5e65b80c5a9cb620a4aa5076d0a893ae6979d2354de5be9140e4028c6c6b842e", func := "smartcard/smartcardlaw30.VerifySound", spec := "verifySound", unfollowed := true, recurses := true, named := ["smartcard/loadfile.object", "smartcard/kinds.object", "smartcard/kinds.shareable", "smartcard/verify.unused", "smartcard/kinds.whole", "smartcard/verify.integer", "smartcard/verify.null", "smartcard/verify.object"], plainKeys := false, apart := false, laid := [("smartcard/loadfile.object", laid_smartcard_loadfile_object), ("smartcard/kinds.object", laid_smartcard_kinds_object), ("smartcard/kinds.shareable", laid_smartcard_kinds_shareable), ("smartcard/kinds.whole", laid_smartcard_kinds_whole), ("smartcard/verify.integer", laid_smartcard_verify_integer), ("smartcard/verify.null", laid_smartcard_verify_null), ("smartcard/verify.unused", laid_smartcard_verify_unused), ("smartcard/verify.object", laid_smartcard_verify_object)] }
def VerifySoundSaid : Prop := verifySoundRow.holds Tryz.pinned (OpenSpec.ofChange verifySoundSpec)

/-- ITS FALSE NEIGHBOUR: 'it returns false'. Refute it at one input. -/
def verifySoundWrong : ChangeSpec := { name := "verifySound", fn := fun _ => fun
  | [d1, d2] => { results := [.lit (.bool false)], args := [d1, d2] }
  | _ => none }
def VerifySoundWrongFalsely : Prop := verifySoundRow.holds Tryz.pinned (OpenSpec.ofChange verifySoundWrong)

/-- 'smartcardlaw30.VerifyUnreached': WHATEVER THE INPUT: true; the input reads as it did. -/
def verifyUnreachedSpec : ChangeSpec := { name := "verifyUnreached", fn := fun _ => fun
  | [d1, d2, d3] => { results := [.lit (.bool true)], args := [d1, d2, d3] }
  | _ => none }
def verifyUnreachedRow : OpenClaim := { program := "ytkkddfebhbcdjaagreatdoor", sum := "5e65b80c5a9cb620a4aa5076d0a893ae6979d2354de5be9140e4028c6c6b842e", func := "smartcard/smartcardlaw30.VerifyUnreached", spec := "verifyUnreached", unfollowed := true, recurses := true, named := ["smartcard/loadfile.object", "smartcard/kinds.object", "smartcard/kinds.shareable", "smartcard/verify.unused", "smartcard/kinds.whole", "smartcard/verify.integer", "smartcard/verify.null", "smartcard/verify.object"], plainKeys := false, apart := false, laid := [("smartcard/loadfile.object", laid_smartcard_loadfile_object), ("smartcard/kinds.object", laid_smartcard_kinds_object), ("smartcard/kinds.shareable", laid_smartcard_kinds_shareable), ("smartcard/kinds.whole", laid_smartcard_kinds_whole), ("smartcard/verify.integer", laid_smartcard_verify_integer), ("smartcard/verify.null", laid_smartcard_verify_null), ("smartcard/verify.unused", laid_smartcard_verify_unused), ("smartcard/verify.object", laid_smartcard_verify_object)] }
def VerifyUnreachedSaid : Prop := verifyUnreachedRow.holds Tryz.pinned (OpenSpec.ofChange verifyUnreachedSpec)

/-- ITS FALSE NEIGHBOUR: 'it returns false'. Refute it at one input. -/
def verifyUnreachedWrong : ChangeSpec := { name := "verifyUnreached", fn := fun _ => fun
  | [d1, d2, d3] => { results := [.lit (.bool false)], args := [d1, d2, d3] }
  | _ => none }
def VerifyUnreachedWrongFalsely : Prop := verifyUnreachedRow.holds Tryz.pinned (OpenSpec.ofChange verifyUnreachedWrong)

/-- 'smartcardlaw30.VerifyApart': WHATEVER THE INPUT: true; the input reads as it did. -/
def verifyApartSpec : ChangeSpec := { name := "verifyApart", fn := fun _ => fun
  | [d1, d2, d3] => { results := [.lit (.bool true)], args := [d1, d2, d3] }
  | _ => none }
def verifyApartRow : OpenClaim := { program := "ytkkddfebhbcdjaagreatdoor", sum := "5e65b80c5a9cb620a4aa5076d0a893ae6979d2354de5be9140e4028c6c6b842e", func := "smartcard/smartcardlaw30.VerifyApart", spec := "verifyApart", unfollowed := true, recurses := true, named := ["smartcard/loadfile.object", "smartcard/kinds.object", "smartcard/kinds.shareable", "smartcard/verify.unused", "smartcard/kinds.whole", "smartcard/verify.integer", "smartcard/verify.null", "smartcard/verify.object"], plainKeys := false, apart := false, laid := [("smartcard/loadfile.object", laid_smartcard_loadfile_object), ("smartcard/kinds.object", laid_smartcard_kinds_object), ("smartcard/kinds.shareable", laid_smartcard_kinds_shareable), ("smartcard/kinds.whole", laid_smartcard_kinds_whole), ("smartcard/verify.integer", laid_smartcard_verify_integer), ("smartcard/verify.null", laid_smartcard_verify_null), ("smartcard/verify.unused", laid_smartcard_verify_unused), ("smartcard/verify.object", laid_smartcard_verify_object)] }
def VerifyApartSaid : Prop := verifyApartRow.holds Tryz.pinned (OpenSpec.ofChange verifyApartSpec)

/-- ITS FALSE NEIGHBOUR: 'it returns false'. Refute it at one input. -/
def verifyApartWrong : ChangeSpec := { name := "verifyApart", fn := fun _ => fun
  | [d1, d2, d3] => { results := [.lit (.bool false)], args := [d1, d2, d3] }
  | _ => none }
def VerifyApartWrongFalsely : Prop := verifyApartRow.holds Tryz.pinned (OpenSpec.ofChange verifyApartWrong)

/-- 'smartcardlaw30.VerifyPackages': WHATEVER THE INPUT: true; the input reads as it did. -/
def verifyPackagesSpec : ChangeSpec := { name := "verifyPackages", fn := fun _ => fun
  | [d] => { results := [.lit (.bool true)], args := [d] }
  | _ => none }
def verifyPackagesRow : OpenClaim := { program := "ytkkddfebhbcdjaagreatdoor", sum := "5e65b80c5a9cb620a4aa5076d0a893ae6979d2354de5be9140e4028c6c6b842e", func := "smartcard/smartcardlaw30.VerifyPackages", spec := "verifyPackages", unfollowed := true, recurses := true, named := ["smartcard/loadfile.object", "smartcard/kinds.object", "smartcard/kinds.shareable", "smartcard/verify.unused", "smartcard/kinds.whole", "smartcard/verify.integer", "smartcard/verify.null", "smartcard/verify.object"], plainKeys := false, apart := false, laid := [("smartcard/loadfile.object", laid_smartcard_loadfile_object), ("smartcard/kinds.object", laid_smartcard_kinds_object), ("smartcard/kinds.shareable", laid_smartcard_kinds_shareable), ("smartcard/kinds.whole", laid_smartcard_kinds_whole), ("smartcard/verify.integer", laid_smartcard_verify_integer), ("smartcard/verify.null", laid_smartcard_verify_null), ("smartcard/verify.unused", laid_smartcard_verify_unused), ("smartcard/verify.object", laid_smartcard_verify_object)] }
def VerifyPackagesSaid : Prop := verifyPackagesRow.holds Tryz.pinned (OpenSpec.ofChange verifyPackagesSpec)

/-- ITS FALSE NEIGHBOUR: 'it returns false'. Refute it at one input. -/
def verifyPackagesWrong : ChangeSpec := { name := "verifyPackages", fn := fun _ => fun
  | [d] => { results := [.lit (.bool false)], args := [d] }
  | _ => none }
def VerifyPackagesWrongFalsely : Prop := verifyPackagesRow.holds Tryz.pinned (OpenSpec.ofChange verifyPackagesWrong)

/- THE SECOND FORM. 'bulk': how many values and letters a reading holds, each counted each time it is reached (what is shared counts as often as it is met; a slice's spare places count too). A statement '..UptoSaid' is the law's where the arguments, and the package variables that the reading takes, are together of bulk at most 1048576: NARROWER than '..Said'. Prove '..Said' where nothing that the law and all that it calls make is longer than what came in: it says more and counts as full. Else prove '..UptoSaid'. A law counts once. -/
mutual
def uptoBulk {H : Type} : DataW H → Nat
  | .lit (.string bytes) => bytes.length + 1
  | .lit _ => 1
  | .nil => 1
  | .ptr d => uptoBulk d + 1
  | .slice elems spare => uptoBulkAll elems + uptoBulkAll spare + 1
  | .agg parts => uptoBulkAll parts + 1
  | .iface _ d => uptoBulk d + 1
  | .map entries => uptoBulkEntries entries + 1
  | .held _ => 1
def uptoBulkAll {H : Type} : List (DataW H) → Nat
  | [] => 0
  | d :: r => uptoBulk d + uptoBulkAll r
def uptoBulkEntries {H : Type} : List (Lit × DataW H) → Nat
  | [] => 0
  | x :: r => uptoBulkEntry x + uptoBulkEntries r
def uptoBulkEntry {H : Type} : Lit × DataW H → Nat
  | (.string bytes, d) => bytes.length + uptoBulk d + 1
  | (_, d) => uptoBulk d + 1
 end
def uptoSmall : (H : Type) → List (DataW H) → Bool := fun _ ds => decide (uptoBulkAll ds ≤ 1048576)
def OpenSpec.upto (s : _root_.Go.ChangeSpec) : _root_.Go.OpenSpec := { _root_.Go.OpenSpec.ofChange s with cond := some uptoSmall }

/-- 'smartcardlaw30.VerifyMethods', WHERE WHAT IT READS IS OF BULK AT MOST 1048576: true; the input reads as it did. -/
def verifyMethodsUptoRow : OpenClaim := { program := "ytkkddfebhbcdjaagreatdoor", sum := "5e65b80c5a9cb620a4aa5076d0a893ae6979d2354de5be9140e4028c6c6b842e", func := "smartcard/smartcardlaw30.VerifyMethods", spec := "verifyMethods", unfollowed := true, recurses := true, named := ["smartcard/loadfile.object", "smartcard/kinds.object", "smartcard/kinds.shareable", "smartcard/verify.unused", "smartcard/kinds.whole", "smartcard/verify.integer", "smartcard/verify.null", "smartcard/verify.object"], plainKeys := false, apart := false, laid := [("smartcard/loadfile.object", laid_smartcard_loadfile_object), ("smartcard/kinds.object", laid_smartcard_kinds_object), ("smartcard/kinds.shareable", laid_smartcard_kinds_shareable), ("smartcard/kinds.whole", laid_smartcard_kinds_whole), ("smartcard/verify.integer", laid_smartcard_verify_integer), ("smartcard/verify.null", laid_smartcard_verify_null), ("smartcard/verify.unused", laid_smartcard_verify_unused), ("smartcard/verify.object", laid_smartcard_verify_object)], narrowed := true }
def VerifyMethodsUptoSaid : Prop := verifyMethodsUptoRow.holds Tryz.pinned (OpenSpec.upto verifyMethodsSpec)

/-- 'smartcardlaw30.VerifyTypes', WHERE WHAT IT READS IS OF BULK AT MOST 1048576: true; the input reads as it did. -/
def verifyTypesUptoRow : OpenClaim := { program := "ytkkddfebhbcdjaagreatdoor", sum := "5e65b80c5a9cb620a4aa5076d0a893ae6979d2354de5be9140e4028c6c6b842e", func := "smartcard/smartcardlaw30.VerifyTypes", spec := "verifyTypes", unfollowed := true, recurses := true, named := ["smartcard/loadfile.object", "smartcard/kinds.object", "smartcard/kinds.shareable", "smartcard/verify.unused", "smartcard/kinds.whole", "smartcard/verify.integer", "smartcard/verify.null", "smartcard/verify.object"], plainKeys := false, apart := false, laid := [("smartcard/loadfile.object", laid_smartcard_loadfile_object), ("smartcard/kinds.object", laid_smartcard_kinds_object), ("smartcard/kinds.shareable", laid_smartcard_kinds_shareable), ("smartcard/kinds.whole", laid_smartcard_kinds_whole), ("smartcard/verify.integer", laid_smartcard_verify_integer), ("smartcard/verify.null", laid_smartcard_verify_null), ("smartcard/verify.unused", laid_smartcard_verify_unused), ("smartcard/verify.object", laid_smartcard_verify_object)], narrowed := true }
def VerifyTypesUptoSaid : Prop := verifyTypesUptoRow.holds Tryz.pinned (OpenSpec.upto verifyTypesSpec)

/-- 'smartcardlaw30.VerifySound', WHERE WHAT IT READS IS OF BULK AT MOST 1048576: true; the input reads as it did. -/
def verifySoundUptoRow : OpenClaim := { program := "ytkkddfebhbcdjaagreatdoor", sum := "5e65b80c5a9cb620a4aa5076d0a893ae6979d2354de5be9140e4028c6c6b842e", func := "smartcard/smartcardlaw30.VerifySound", spec := "verifySound", unfollowed := true, recurses := true, named := ["smartcard/loadfile.object", "smartcard/kinds.object", "smartcard/kinds.shareable", "smartcard/verify.unused", "smartcard/kinds.whole", "smartcard/verify.integer", "smartcard/verify.null", "smartcard/verify.object"], plainKeys := false, apart := false, laid := [("smartcard/loadfile.object", laid_smartcard_loadfile_object), ("smartcard/kinds.object", laid_smartcard_kinds_object), ("smartcard/kinds.shareable", laid_smartcard_kinds_shareable), ("smartcard/kinds.whole", laid_smartcard_kinds_whole), ("smartcard/verify.integer", laid_smartcard_verify_integer), ("smartcard/verify.null", laid_smartcard_verify_null), ("smartcard/verify.unused", laid_smartcard_verify_unused), ("smartcard/verify.object", laid_smartcard_verify_object)], narrowed := true }
def VerifySoundUptoSaid : Prop := verifySoundUptoRow.holds Tryz.pinned (OpenSpec.upto verifySoundSpec)

/-- 'smartcardlaw30.VerifyUnreached', WHERE WHAT IT READS IS OF BULK AT MOST 1048576: true; the input reads as it did. -/
def verifyUnreachedUptoRow : OpenClaim := { program := "ytkkddfebhbcdjaagreatdoor", sum := "5e65b80c5a9cb620a4aa5076d0a893ae6979d2354de5be9140e4028c6c6b842e", func := "smartcard/smartcardlaw30.VerifyUnreached", spec := "verifyUnreached", unfollowed := true, recurses := true, named := ["smartcard/loadfile.object", "smartcard/kinds.object", "smartcard/kinds.shareable", "smartcard/verify.unused", "smartcard/kinds.whole", "smartcard/verify.integer", "smartcard/verify.null", "smartcard/verify.object"], plainKeys := false, apart := false, laid := [("smartcard/loadfile.object", laid_smartcard_loadfile_object), ("smartcard/kinds.object", laid_smartcard_kinds_object), ("smartcard/kinds.shareable", laid_smartcard_kinds_shareable), ("smartcard/kinds.whole", laid_smartcard_kinds_whole), ("smartcard/verify.integer", laid_smartcard_verify_integer), ("smartcard/verify.null", laid_smartcard_verify_null), ("smartcard/verify.unused", laid_smartcard_verify_unused), ("smartcard/verify.object", laid_smartcard_verify_object)], narrowed := true }
def VerifyUnreachedUptoSaid : Prop := verifyUnreachedUptoRow.holds Tryz.pinned (OpenSpec.upto verifyUnreachedSpec)

/-- 'smartcardlaw30.VerifyApart', WHERE WHAT IT READS IS OF BULK AT MOST 1048576: true; the input reads as it did. -/
def verifyApartUptoRow : OpenClaim := { program := "ytkkddfebhbcdjaagreatdoor", sum := "5e65b80c5a9cb620a4aa5076d0a893ae6979d2354de5be9140e4028c6c6b842e", func := "smartcard/smartcardlaw30.VerifyApart", spec := "verifyApart", unfollowed := true, recurses := true, named := ["smartcard/loadfile.object", "smartcard/kinds.object", "smartcard/kinds.shareable", "smartcard/verify.unused", "smartcard/kinds.whole", "smartcard/verify.integer", "smartcard/verify.null", "smartcard/verify.object"], plainKeys := false, apart := false, laid := [("smartcard/loadfile.object", laid_smartcard_loadfile_object), ("smartcard/kinds.object", laid_smartcard_kinds_object), ("smartcard/kinds.shareable", laid_smartcard_kinds_shareable), ("smartcard/kinds.whole", laid_smartcard_kinds_whole), ("smartcard/verify.integer", laid_smartcard_verify_integer), ("smartcard/verify.null", laid_smartcard_verify_null), ("smartcard/verify.unused", laid_smartcard_verify_unused), ("smartcard/verify.object", laid_smartcard_verify_object)], narrowed := true }
def VerifyApartUptoSaid : Prop := verifyApartUptoRow.holds Tryz.pinned (OpenSpec.upto verifyApartSpec)

/-- 'smartcardlaw30.VerifyPackages', WHERE WHAT IT READS IS OF BULK AT MOST 1048576: true; the input reads as it did. -/
def verifyPackagesUptoRow : OpenClaim := { program := "ytkkddfebhbcdjaagreatdoor", sum := "5e65b80c5a9cb620a4aa5076d0a893ae6979d2354de5be9140e4028c6c6b842e", func := "smartcard/smartcardlaw30.VerifyPackages", spec := "verifyPackages", unfollowed := true, recurses := true, named := ["smartcard/loadfile.object", "smartcard/kinds.object", "smartcard/kinds.shareable", "smartcard/verify.unused", "smartcard/kinds.whole", "smartcard/verify.integer", "smartcard/verify.null", "smartcard/verify.object"], plainKeys := false, apart := false, laid := [("smartcard/loadfile.object", laid_smartcard_loadfile_object), ("smartcard/kinds.object", laid_smartcard_kinds_object), ("smartcard/kinds.shareable", laid_smartcard_kinds_shareable), ("smartcard/kinds.whole", laid_smartcard_kinds_whole), ("smartcard/verify.integer", laid_smartcard_verify_integer), ("smartcard/verify.null", laid_smartcard_verify_null), ("smartcard/verify.unused", laid_smartcard_verify_unused), ("smartcard/verify.object", laid_smartcard_verify_object)], narrowed := true }
def VerifyPackagesUptoSaid : Prop := verifyPackagesUptoRow.holds Tryz.pinned (OpenSpec.upto verifyPackagesSpec)

end Rows
end Go.Proofs.YtkkddfebhbcdjaaGreatDoor
