/-
  NARROWER THAN 'FOR EVERY INPUT', by the rows' own cells (each row's printed sentence says how): KindsChecks: laid · KindsSupers: laid · KindsFields: laid · KindsFits: laid · KindsMerges: laid · KindsOrder: laid · KindsInherits: laid · KindsExtends: laid · KindsMethods: laid.
  DERIVED. THE GIVEN ROWS OF THIS SEAT. 9 by the template 'for every input the law returns true; each argument reads behind the call as it read before'; 0 by the template 'total and deterministic' (their statements: YtiboldloondokaaGreatDoorTotals.lean).
  GIVEN WITH THE SEED: the statements are not yours to turn. If you find one false, say at which input.
  Laid BY PROGRAM, IN A SANDBOX (cutbox-rows.mjs): the forced cells as the released guide's own fill.sh prints them over the translation 71bf455e72fbe6d8… (all of the seat's roots in one cut). By AI agents, Wed Nov 11 2026. No macro, syntax, notation, axiom, sorry.
-/
import Derived.Test.YtiboldloondokaaGreatDoorChecked
import GoSem.Claim
import GoSem.ClaimJoined
import GoSem.ClaimMapViews
import Derived.JoinedTies
import Derived.KernelRfl
namespace Go.Proofs.YtiboldloondokaaGreatDoor
/- THE CELL 'sum', in the pinned program and in every row, IS THE sha256 OF THE DUMP (.gsa) THAT YtiboldloondokaaGreatDoorProg.lean LOADS. Nothing in Lean hashes anything: it is a label: what it is worth is what the hold of that sum in a sandbox is worth. -/
noncomputable def Tryz.pinned : Pinned := { name := "ytiboldloondokaagreatdoor", sum := "71bf455e72fbe6d83558ee8b65591fc042cb8673e552d96edf49bdb345bcb2e7", checked := Tryz.checked }
namespace Rows
def none {H : Type} : Left H := { results := [], args := [] }

/- WHAT THE LISTED PACKAGE-LEVEL VARIABLES READ AS WHEN THE CALL BEGINS. Each datum BY PROGRAM (the guide's laid-datum.mjs) off the statement by which the dump's own 'gosem.cut.vars' lays the variable. In a bare row this is a premise. The card (YtiboldloondokaaGreatDoorCards.lean) ties it to the program's text. -/
def laid_smartcard_loadfile_object {H : Type} : DataW H := .agg [.lit (.int .i64 255), .lit (.int .i64 0)]
def laid_smartcard_kinds_object {H : Type} : DataW H := .agg [.lit (.int .i64 255), .lit (.int .i64 0)]
def laid_smartcard_kinds_shareable {H : Type} : DataW H := .agg [.lit (.int .i64 255), .lit (.int .i64 1)]
def laid_smartcard_kinds_whole {H : Type} : DataW H := .agg [.lit (.int .i64 5), .agg [.lit (.int .i64 255), .lit (.int .i64 0)]]

/-- 'smartcardlaw29.KindsChecks': WHATEVER THE INPUT: true; the input reads as it did. -/
def kindsChecksSpec : ChangeSpec := { name := "kindsChecks", fn := fun _ => fun
  | [d] => { results := [.lit (.bool true)], args := [d] }
  | _ => none }
def kindsChecksRow : OpenClaim := { program := "ytiboldloondokaagreatdoor", sum := "71bf455e72fbe6d83558ee8b65591fc042cb8673e552d96edf49bdb345bcb2e7", func := "smartcard/smartcardlaw29.KindsChecks", spec := "kindsChecks", unfollowed := true, recurses := true, named := ["smartcard/kinds.object", "smartcard/kinds.shareable", "smartcard/loadfile.object", "smartcard/kinds.whole"], plainKeys := false, apart := false, laid := [("smartcard/loadfile.object", laid_smartcard_loadfile_object), ("smartcard/kinds.object", laid_smartcard_kinds_object), ("smartcard/kinds.shareable", laid_smartcard_kinds_shareable), ("smartcard/kinds.whole", laid_smartcard_kinds_whole)] }
def KindsChecksSaid : Prop := kindsChecksRow.holds Tryz.pinned (OpenSpec.ofChange kindsChecksSpec)

/-- ITS FALSE NEIGHBOUR: 'it returns false'. Refute it at one input. -/
def kindsChecksWrong : ChangeSpec := { name := "kindsChecks", fn := fun _ => fun
  | [d] => { results := [.lit (.bool false)], args := [d] }
  | _ => none }
def KindsChecksWrongFalsely : Prop := kindsChecksRow.holds Tryz.pinned (OpenSpec.ofChange kindsChecksWrong)

/-- 'smartcardlaw29.KindsSupers': WHATEVER THE INPUT: true; the input reads as it did. -/
def kindsSupersSpec : ChangeSpec := { name := "kindsSupers", fn := fun _ => fun
  | [d1, d2] => { results := [.lit (.bool true)], args := [d1, d2] }
  | _ => none }
def kindsSupersRow : OpenClaim := { program := "ytiboldloondokaagreatdoor", sum := "71bf455e72fbe6d83558ee8b65591fc042cb8673e552d96edf49bdb345bcb2e7", func := "smartcard/smartcardlaw29.KindsSupers", spec := "kindsSupers", unfollowed := true, recurses := true, named := ["smartcard/kinds.object", "smartcard/kinds.shareable", "smartcard/loadfile.object", "smartcard/kinds.whole"], plainKeys := false, apart := false, laid := [("smartcard/loadfile.object", laid_smartcard_loadfile_object), ("smartcard/kinds.object", laid_smartcard_kinds_object), ("smartcard/kinds.shareable", laid_smartcard_kinds_shareable), ("smartcard/kinds.whole", laid_smartcard_kinds_whole)] }
def KindsSupersSaid : Prop := kindsSupersRow.holds Tryz.pinned (OpenSpec.ofChange kindsSupersSpec)

/-- ITS FALSE NEIGHBOUR: 'it returns false'. Refute it at one input. -/
def kindsSupersWrong : ChangeSpec := { name := "kindsSupers", fn := fun _ => fun
  | [d1, d2] => { results := [.lit (.bool false)], args := [d1, d2] }
  | _ => none }
def KindsSupersWrongFalsely : Prop := kindsSupersRow.holds Tryz.pinned (OpenSpec.ofChange kindsSupersWrong)

/-- 'smartcardlaw29.KindsFields': WHATEVER THE INPUT: true; the input reads as it did. -/
def kindsFieldsSpec : ChangeSpec := { name := "kindsFields", fn := fun _ => fun
  | [d1, d2] => { results := [.lit (.bool true)], args := [d1, d2] }
  | _ => none }
def kindsFieldsRow : OpenClaim := { program := "ytiboldloondokaagreatdoor", sum := "71bf455e72fbe6d83558ee8b65591fc042cb8673e552d96edf49bdb345bcb2e7", func := "smartcard/smartcardlaw29.KindsFields", spec := "kindsFields", unfollowed := true, recurses := true, named := ["smartcard/kinds.object", "smartcard/kinds.shareable", "smartcard/loadfile.object", "smartcard/kinds.whole"], plainKeys := false, apart := false, laid := [("smartcard/loadfile.object", laid_smartcard_loadfile_object), ("smartcard/kinds.object", laid_smartcard_kinds_object), ("smartcard/kinds.shareable", laid_smartcard_kinds_shareable), ("smartcard/kinds.whole", laid_smartcard_kinds_whole)] }
def KindsFieldsSaid : Prop := kindsFieldsRow.holds Tryz.pinned (OpenSpec.ofChange kindsFieldsSpec)

/-- ITS FALSE NEIGHBOUR: 'it returns false'. Refute it at one input. -/
def kindsFieldsWrong : ChangeSpec := { name := "kindsFields", fn := fun _ => fun
  | [d1, d2] => { results := [.lit (.bool false)], args := [d1, d2] }
  | _ => none }
def KindsFieldsWrongFalsely : Prop := kindsFieldsRow.holds Tryz.pinned (OpenSpec.ofChange kindsFieldsWrong)

/-- 'smartcardlaw29.KindsFits': WHATEVER THE INPUT: true; the input reads as it did. -/
def kindsFitsSpec : ChangeSpec := { name := "kindsFits", fn := fun _ => fun
  | [d1, d2, d3] => { results := [.lit (.bool true)], args := [d1, d2, d3] }
  | _ => none }
def kindsFitsRow : OpenClaim := { program := "ytiboldloondokaagreatdoor", sum := "71bf455e72fbe6d83558ee8b65591fc042cb8673e552d96edf49bdb345bcb2e7", func := "smartcard/smartcardlaw29.KindsFits", spec := "kindsFits", unfollowed := true, recurses := true, named := ["smartcard/kinds.object", "smartcard/kinds.shareable", "smartcard/loadfile.object", "smartcard/kinds.whole"], plainKeys := false, apart := false, laid := [("smartcard/loadfile.object", laid_smartcard_loadfile_object), ("smartcard/kinds.object", laid_smartcard_kinds_object), ("smartcard/kinds.shareable", laid_smartcard_kinds_shareable), ("smartcard/kinds.whole", laid_smartcard_kinds_whole)] }
def KindsFitsSaid : Prop := kindsFitsRow.holds Tryz.pinned (OpenSpec.ofChange kindsFitsSpec)

/-- ITS FALSE NEIGHBOUR: 'it returns false'. Refute it at one input. -/
def kindsFitsWrong : ChangeSpec := { name := "kindsFits", fn := fun _ => fun
  | [d1, d2, d3] => { results := [.lit (.bool false)], args := [d1, d2, d3] }
  | _ => none }
def KindsFitsWrongFalsely : Prop := kindsFitsRow.holds Tryz.pinned (OpenSpec.ofChange kindsFitsWrong)

/-- 'smartcardlaw29.KindsMerges': WHATEVER THE INPUT: true; the input reads as it did. -/
def kindsMergesSpec : ChangeSpec := { name := "kindsMerges", fn := fun _ => fun
  | [d1, d2, d3, d4] => { results := [.lit (.bool true)], args := [d1, d2, d3, d4] }
  | _ => none }
def kindsMergesRow : OpenClaim := { program := "ytiboldloondokaagreatdoor", sum := "71bf455e72fbe6d83558ee8b65591fc042cb8673e552d96edf49bdb345bcb2e7", func := "smartcard/smartcardlaw29.KindsMerges", spec := "kindsMerges", unfollowed := true, recurses := true, named := ["smartcard/kinds.object", "smartcard/kinds.shareable", "smartcard/loadfile.object", "smartcard/kinds.whole"], plainKeys := false, apart := false, laid := [("smartcard/loadfile.object", laid_smartcard_loadfile_object), ("smartcard/kinds.object", laid_smartcard_kinds_object), ("smartcard/kinds.shareable", laid_smartcard_kinds_shareable), ("smartcard/kinds.whole", laid_smartcard_kinds_whole)] }
def KindsMergesSaid : Prop := kindsMergesRow.holds Tryz.pinned (OpenSpec.ofChange kindsMergesSpec)

/-- ITS FALSE NEIGHBOUR: 'it returns false'. Refute it at one input. -/
def kindsMergesWrong : ChangeSpec := { name := "kindsMerges", fn := fun _ => fun
  | [d1, d2, d3, d4] => { results := [.lit (.bool false)], args := [d1, d2, d3, d4] }
  | _ => none }
def KindsMergesWrongFalsely : Prop := kindsMergesRow.holds Tryz.pinned (OpenSpec.ofChange kindsMergesWrong)

/-- 'smartcardlaw29.KindsOrder': WHATEVER THE INPUT: true; the input reads as it did. -/
def kindsOrderSpec : ChangeSpec := { name := "kindsOrder", fn := fun _ => fun
  | [d1, d2, d3, d4] => { results := [.lit (.bool true)], args := [d1, d2, d3, d4] }
  | _ => none }
def kindsOrderRow : OpenClaim := { program := "ytiboldloondokaagreatdoor", sum := "71bf455e72fbe6d83558ee8b65591fc042cb8673e552d96edf49bdb345bcb2e7", func := "smartcard/smartcardlaw29.KindsOrder", spec := "kindsOrder", unfollowed := true, recurses := true, named := ["smartcard/kinds.object", "smartcard/kinds.shareable", "smartcard/loadfile.object", "smartcard/kinds.whole"], plainKeys := false, apart := false, laid := [("smartcard/loadfile.object", laid_smartcard_loadfile_object), ("smartcard/kinds.object", laid_smartcard_kinds_object), ("smartcard/kinds.shareable", laid_smartcard_kinds_shareable), ("smartcard/kinds.whole", laid_smartcard_kinds_whole)] }
def KindsOrderSaid : Prop := kindsOrderRow.holds Tryz.pinned (OpenSpec.ofChange kindsOrderSpec)

/-- ITS FALSE NEIGHBOUR: 'it returns false'. Refute it at one input. -/
def kindsOrderWrong : ChangeSpec := { name := "kindsOrder", fn := fun _ => fun
  | [d1, d2, d3, d4] => { results := [.lit (.bool false)], args := [d1, d2, d3, d4] }
  | _ => none }
def KindsOrderWrongFalsely : Prop := kindsOrderRow.holds Tryz.pinned (OpenSpec.ofChange kindsOrderWrong)

/-- 'smartcardlaw29.KindsInherits': WHATEVER THE INPUT: true; the input reads as it did. -/
def kindsInheritsSpec : ChangeSpec := { name := "kindsInherits", fn := fun _ => fun
  | [d1, d2] => { results := [.lit (.bool true)], args := [d1, d2] }
  | _ => none }
def kindsInheritsRow : OpenClaim := { program := "ytiboldloondokaagreatdoor", sum := "71bf455e72fbe6d83558ee8b65591fc042cb8673e552d96edf49bdb345bcb2e7", func := "smartcard/smartcardlaw29.KindsInherits", spec := "kindsInherits", unfollowed := true, recurses := true, named := ["smartcard/kinds.object", "smartcard/kinds.shareable", "smartcard/loadfile.object", "smartcard/kinds.whole"], plainKeys := false, apart := false, laid := [("smartcard/loadfile.object", laid_smartcard_loadfile_object), ("smartcard/kinds.object", laid_smartcard_kinds_object), ("smartcard/kinds.shareable", laid_smartcard_kinds_shareable), ("smartcard/kinds.whole", laid_smartcard_kinds_whole)] }
def KindsInheritsSaid : Prop := kindsInheritsRow.holds Tryz.pinned (OpenSpec.ofChange kindsInheritsSpec)

/-- ITS FALSE NEIGHBOUR: 'it returns false'. Refute it at one input. -/
def kindsInheritsWrong : ChangeSpec := { name := "kindsInherits", fn := fun _ => fun
  | [d1, d2] => { results := [.lit (.bool false)], args := [d1, d2] }
  | _ => none }
def KindsInheritsWrongFalsely : Prop := kindsInheritsRow.holds Tryz.pinned (OpenSpec.ofChange kindsInheritsWrong)

/-- 'smartcardlaw29.KindsExtends': WHATEVER THE INPUT: true; the input reads as it did. -/
def kindsExtendsSpec : ChangeSpec := { name := "kindsExtends", fn := fun _ => fun
  | [d1, d2, d3] => { results := [.lit (.bool true)], args := [d1, d2, d3] }
  | _ => none }
def kindsExtendsRow : OpenClaim := { program := "ytiboldloondokaagreatdoor", sum := "71bf455e72fbe6d83558ee8b65591fc042cb8673e552d96edf49bdb345bcb2e7", func := "smartcard/smartcardlaw29.KindsExtends", spec := "kindsExtends", unfollowed := true, recurses := true, named := ["smartcard/kinds.object", "smartcard/kinds.shareable", "smartcard/loadfile.object", "smartcard/kinds.whole"], plainKeys := false, apart := false, laid := [("smartcard/loadfile.object", laid_smartcard_loadfile_object), ("smartcard/kinds.object", laid_smartcard_kinds_object), ("smartcard/kinds.shareable", laid_smartcard_kinds_shareable), ("smartcard/kinds.whole", laid_smartcard_kinds_whole)] }
def KindsExtendsSaid : Prop := kindsExtendsRow.holds Tryz.pinned (OpenSpec.ofChange kindsExtendsSpec)

/-- ITS FALSE NEIGHBOUR: 'it returns false'. Refute it at one input. -/
def kindsExtendsWrong : ChangeSpec := { name := "kindsExtends", fn := fun _ => fun
  | [d1, d2, d3] => { results := [.lit (.bool false)], args := [d1, d2, d3] }
  | _ => none }
def KindsExtendsWrongFalsely : Prop := kindsExtendsRow.holds Tryz.pinned (OpenSpec.ofChange kindsExtendsWrong)

/-- 'smartcardlaw29.KindsMethods': WHATEVER THE INPUT: true; the input reads as it did. -/
def kindsMethodsSpec : ChangeSpec := { name := "kindsMethods", fn := fun _ => fun
  | [d1, d2, d3] => { results := [.lit (.bool true)], args := [d1, d2, d3] }
  | _ => none }
def kindsMethodsRow : OpenClaim := { program := "ytiboldloondokaagreatdoor", sum := "71bf455e72fbe6d83558ee8b65591fc042cb8673e552d96edf49bdb345bcb2e7", func := "smartcard/smartcardlaw29.KindsMethods", spec := "kindsMethods", unfollowed := true, recurses := true, named := ["smartcard/kinds.object", "smartcard/kinds.shareable", "smartcard/loadfile.object", "smartcard/kinds.whole"], plainKeys := false, apart := false, laid := [("smartcard/loadfile.object", laid_smartcard_loadfile_object), ("smartcard/kinds.object", laid_smartcard_kinds_object), ("smartcard/kinds.shareable", laid_smartcard_kinds_shareable), ("smartcard/kinds.whole", laid_smartcard_kinds_whole)] }
def KindsMethodsSaid : Prop := kindsMethodsRow.holds Tryz.pinned (OpenSpec.ofChange kindsMethodsSpec)

/-- ITS FALSE NEIGHBOUR: 'it returns false'. Refute it at one input. -/
def kindsMethodsWrong : ChangeSpec := { name := "kindsMethods", fn := fun _ => fun
  | [d1, d2, d3] => { results := [.lit (.bool false)], args := [d1, d2, d3] }
  | _ => none }
def KindsMethodsWrongFalsely : Prop := kindsMethodsRow.holds Tryz.pinned (OpenSpec.ofChange kindsMethodsWrong)

/- THE SECOND FORM. 'bulk': how many values and letters a reading holds, each counted each time it is reached (what is shared counts as often as it is met; a slice's spare places count too). A statement '..UptoSaid' is the law's where the arguments, and the package variables that the reading takes, are together of bulk at most 1048576: NARROWER than '..Said'. Prove '..Said' where nothing that the law and all that it calls make is longer than what came in: it says more and counts as full. Else prove '..UptoSaid'. A law counts once. -/
mutual
def uptoBulk {H : Type} : DataW H → Nat
  | .lit (.string bytes) => bytes.length + 1
  | .lit _ => 1
  | .nil => 1
  | .ptr d => uptoBulk d + 1
  | .slice elems spare => uptoBulkAll elems + uptoBulkAll spare + 1
  | .agg parts => uptoBulkAll parts + 1
  | .iface _ d => uptoBulk d + 1
  | .map entries => uptoBulkEntries entries + 1
  | .held _ => 1
def uptoBulkAll {H : Type} : List (DataW H) → Nat
  | [] => 0
  | d :: r => uptoBulk d + uptoBulkAll r
def uptoBulkEntries {H : Type} : List (Lit × DataW H) → Nat
  | [] => 0
  | x :: r => uptoBulkEntry x + uptoBulkEntries r
def uptoBulkEntry {H : Type} : Lit × DataW H → Nat
  | (.string bytes, d) => bytes.length + uptoBulk d + 1
  | (_, d) => uptoBulk d + 1
 end
def uptoSmall : (H : Type) → List (DataW H) → Bool := fun _ ds => decide (uptoBulkAll ds ≤ 1048576)
def OpenSpec.upto (s : _root_.Go.ChangeSpec) : _root_.Go.OpenSpec := { _root_.Go.OpenSpec.ofChange s with cond := some uptoSmall }

/-- 'smartcardlaw29.KindsChecks', WHERE WHAT IT READS IS OF BULK AT MOST 1048576: true; the input reads as it did. -/
def kindsChecksUptoRow : OpenClaim := { program := "ytiboldloondokaagreatdoor", sum := "71bf455e72fbe6d83558ee8b65591fc042cb8673e552d96edf49bdb345bcb2e7", func := "smartcard/smartcardlaw29.KindsChecks", spec := "kindsChecks", unfollowed := true, recurses := true, named := ["smartcard/kinds.object", "smartcard/kinds.shareable", "smartcard/loadfile.object", "smartcard/kinds.whole"], plainKeys := false, apart := false, laid := [("smartcard/loadfile.object", laid_smartcard_loadfile_object), ("smartcard/kinds.object", laid_smartcard_kinds_object), ("smartcard/kinds.shareable", laid_smartcard_kinds_shareable), ("smartcard/kinds.whole", laid_smartcard_kinds_whole)], narrowed := true }
def KindsChecksUptoSaid : Prop := kindsChecksUptoRow.holds Tryz.pinned (OpenSpec.upto kindsChecksSpec)

/-- 'smartcardlaw29.KindsSupers', WHERE WHAT IT READS IS OF BULK AT MOST 1048576: true; the input reads as it did. -/
def kindsSupersUptoRow : OpenClaim := { program := "ytiboldloondokaagreatdoor", sum := "71bf455e72fbe6d83558ee8b65591fc042cb8673e552d96edf49bdb345bcb2e7", func := "smartcard/smartcardlaw29.KindsSupers", spec := "kindsSupers", unfollowed := true, recurses := true, named := ["smartcard/kinds.object", "smartcard/kinds.shareable", "smartcard/loadfile.object", "smartcard/kinds.whole"], plainKeys := false, apart := false, laid := [("smartcard/loadfile.object", laid_smartcard_loadfile_object), ("smartcard/kinds.object", laid_smartcard_kinds_object), ("smartcard/kinds.shareable", laid_smartcard_kinds_shareable), ("smartcard/kinds.whole", laid_smartcard_kinds_whole)], narrowed := true }
def KindsSupersUptoSaid : Prop := kindsSupersUptoRow.holds Tryz.pinned (OpenSpec.upto kindsSupersSpec)

/-- 'smartcardlaw29.KindsFields', WHERE WHAT IT READS IS OF BULK AT MOST 1048576: true; the input reads as it did. -/
def kindsFieldsUptoRow : OpenClaim := { program := "ytiboldloondokaagreatdoor", sum := "71bf455e72fbe6d83558ee8b65591fc042cb8673e552d96edf49bdb345bcb2e7", func := "smartcard/smartcardlaw29.KindsFields", spec := "kindsFields", unfollowed := true, recurses := true, named := ["smartcard/kinds.object", "smartcard/kinds.shareable", "smartcard/loadfile.object", "smartcard/kinds.whole"], plainKeys := false, apart := false, laid := [("smartcard/loadfile.object", laid_smartcard_loadfile_object), ("smartcard/kinds.object", laid_smartcard_kinds_object), ("smartcard/kinds.shareable", laid_smartcard_kinds_shareable), ("smartcard/kinds.whole", laid_smartcard_kinds_whole)], narrowed := true }
def KindsFieldsUptoSaid : Prop := kindsFieldsUptoRow.holds Tryz.pinned (OpenSpec.upto kindsFieldsSpec)

/-- 'smartcardlaw29.KindsFits', WHERE WHAT IT READS IS OF BULK AT MOST 1048576: true; the input reads as it did. -/
def kindsFitsUptoRow : OpenClaim := { program := "ytiboldloondokaagreatdoor", sum := "71bf455e72fbe6d83558ee8b65591fc042cb8673e552d96edf49bdb345bcb2e7", func := "smartcard/smartcardlaw29.KindsFits", spec := "kindsFits", unfollowed := true, recurses := true, named := ["smartcard/kinds.object", "smartcard/kinds.shareable", "smartcard/loadfile.object", "smartcard/kinds.whole"], plainKeys := false, apart := false, laid := [("smartcard/loadfile.object", laid_smartcard_loadfile_object), ("smartcard/kinds.object", laid_smartcard_kinds_object), ("smartcard/kinds.shareable", laid_smartcard_kinds_shareable), ("smartcard/kinds.whole", laid_smartcard_kinds_whole)], narrowed := true }
def KindsFitsUptoSaid : Prop := kindsFitsUptoRow.holds Tryz.pinned (OpenSpec.upto kindsFitsSpec)

/-- 'smartcardlaw29.KindsMerges', WHERE WHAT IT READS IS OF BULK AT MOST 1048576: true; the input reads as it did. -/
def kindsMergesUptoRow : OpenClaim := { program := "ytiboldloondokaagreatdoor", sum := "71bf455e72fbe6d83558ee8b65591fc042cb8673e552d96edf49bdb345bcb2e7", func := "smartcard/smartcardlaw29.KindsMerges", spec := "kindsMerges", unfollowed := true, recurses := true, named := ["smartcard/kinds.object", "smartcard/kinds.shareable", "smartcard/loadfile.object", "smartcard/kinds.whole"], plainKeys := false, apart := false, laid := [("smartcard/loadfile.object", laid_smartcard_loadfile_object), ("smartcard/kinds.object", laid_smartcard_kinds_object), ("smartcard/kinds.shareable", laid_smartcard_kinds_shareable), ("smartcard/kinds.whole", laid_smartcard_kinds_whole)], narrowed := true }
def KindsMergesUptoSaid : Prop := kindsMergesUptoRow.holds Tryz.pinned (OpenSpec.upto kindsMergesSpec)

/-- 'smartcardlaw29.KindsOrder', WHERE WHAT IT READS IS OF BULK AT MOST 1048576: true; the input reads as it did. -/
def kindsOrderUptoRow : OpenClaim := { program := "ytiboldloondokaagreatdoor", sum := "71bf455e72fbe6d83558ee8b65591fc042cb8673e552d96edf49bdb345bcb2e7", func := "smartcard/smartcardlaw29.KindsOrder", spec := "kindsOrder", unfollowed := true, recurses := true, named := ["smartcard/kinds.object", "smartcard/kinds.shareable", "smartcard/loadfile.object", "smartcard/kinds.whole"], plainKeys := false, apart := false, laid := [("smartcard/loadfile.object", laid_smartcard_loadfile_object), ("smartcard/kinds.object", laid_smartcard_kinds_object), ("smartcard/kinds.shareable", laid_smartcard_kinds_shareable), ("smartcard/kinds.whole", laid_smartcard_kinds_whole)], narrowed := true }
def KindsOrderUptoSaid : Prop := kindsOrderUptoRow.holds Tryz.pinned (OpenSpec.upto kindsOrderSpec)

/-- 'smartcardlaw29.KindsInherits', WHERE WHAT IT READS IS OF BULK AT MOST 1048576: true; the input reads as it did. -/
def kindsInheritsUptoRow : OpenClaim := { program := "ytiboldloondokaagreatdoor", sum := "71bf455e72fbe6d83558ee8b65591fc042cb8673e552d96edf49bdb345bcb2e7", func := "smartcard/smartcardlaw29.KindsInherits", spec := "kindsInherits", unfollowed := true, recurses := true, named := ["smartcard/kinds.object", "smartcard/kinds.shareable", "smartcard/loadfile.object", "smartcard/kinds.whole"], plainKeys := false, apart := false, laid := [("smartcard/loadfile.object", laid_smartcard_loadfile_object), ("smartcard/kinds.object", laid_smartcard_kinds_object), ("smartcard/kinds.shareable", laid_smartcard_kinds_shareable), ("smartcard/kinds.whole", laid_smartcard_kinds_whole)], narrowed := true }
def KindsInheritsUptoSaid : Prop := kindsInheritsUptoRow.holds Tryz.pinned (OpenSpec.upto kindsInheritsSpec)

/-- 'smartcardlaw29.KindsExtends', WHERE WHAT IT READS IS OF BULK AT MOST 1048576: true; the input reads as it did. -/
def kindsExtendsUptoRow : OpenClaim := { program := "ytiboldloondokaagreatdoor", sum := "71bf455e72fbe6d83558ee8b65591fc042cb8673e552d96edf49bdb345bcb2e7", func := "smartcard/smartcardlaw29.KindsExtends", spec := "kindsExtends", unfollowed := true, recurses := true, named := ["smartcard/kinds.object", "smartcard/kinds.shareable", "smartcard/loadfile.object", "smartcard/kinds.whole"], plainKeys := false, apart := false, laid := [("smartcard/loadfile.object", laid_smartcard_loadfile_object), ("smartcard/kinds.object", laid_smartcard_kinds_object), ("smartcard/kinds.shareable", laid_smartcard_kinds_shareable), ("smartcard/kinds.whole", laid_smartcard_kinds_whole)], narrowed := true }
def KindsExtendsUptoSaid : Prop := kindsExtendsUptoRow.holds Tryz.pinned (OpenSpec.upto kindsExtendsSpec)

/-- 'smartcardlaw29.KindsMethods', WHERE WHAT IT READS IS OF BULK AT MOST 1048576: true; the input reads as it did. -/
def kindsMethodsUptoRow : OpenClaim := { program := "ytiboldloondokaagreatdoor", sum := "71bf455e72fbe6d83558ee8b65591fc042cb8673e552d96edf49bdb345bcb2e7", func := "smartcard/smartcardlaw29.KindsMethods", spec := "kindsMethods", unfollowed := true, recurses := true, named := ["smartcard/kinds.object", "smartcard/kinds.shareable", "smartcard/loadfile.object", "smartcard/kinds.whole"], plainKeys := false, apart := false, laid := [("smartcard/loadfile.object", laid_smartcard_loadfile_object), ("smartcard/kinds.object", laid_smartcard_kinds_object), ("smartcard/kinds.shareable", laid_smartcard_kinds_shareable), ("smartcard/kinds.whole", laid_smartcard_kinds_whole)], narrowed := true }
def KindsMethodsUptoSaid : Prop := kindsMethodsUptoRow.holds Tryz.pinned (OpenSpec.upto kindsMethodsSpec)

end Rows
end Go.Proofs.YtiboldloondokaaGreatDoor
