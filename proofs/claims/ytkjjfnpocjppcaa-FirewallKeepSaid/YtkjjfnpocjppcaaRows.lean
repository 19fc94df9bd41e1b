/-
  No cell of these rows narrows 'for every input' (looked for: loops, veiled, ifaces, maps, wideKeys, modest, calm, conditions, laid).
  DERIVED. THE GIVEN ROWS OF THIS SEAT. 5 by the template 'for every input the law returns true; each argument reads behind the call as it read before'; 0 by the template 'total and deterministic' (their statements: YtkjjfnpocjppcaaTotals.lean).
  GIVEN WITH THE SEED: the statements are not yours to turn. If you find one false, say at which input.
  Laid BY PROGRAM, IN A SANDBOX (cutbox-rows.mjs): the forced cells as the released guide's own fill.sh prints them over the translation c754fce9f4919d34… (all of the seat's roots in one cut). By AI agents, Wed Nov 11 2026. No macro, syntax, notation, axiom, sorry.
-/
import Derived.Test.YtkjjfnpocjppcaaChecked
import GoSem.Claim
import GoSem.ClaimJoined
import GoSem.ClaimMapViews
import Derived.JoinedTies
import Derived.KernelRfl
namespace Go.Proofs.Ytkjjfnpocjppcaa
/- THE CELL 'sum', in the pinned program and in every row, IS THE sha256 OF THE DUMP (.gsa) THAT YtkjjfnpocjppcaaProg.lean LOADS. Nothing in Lean hashes anything: it is a label: what it is worth is what the hold of that sum in a sandbox is worth. -/
noncomputable def Try.pinned : Pinned := { name := "ytkjjfnpocjppcaa", sum := "c754fce9f4919d3433969fd31109e2af755104ab0edd73d8e4a3248c6d6d26d7", checked := Try.checked }
namespace Rows
def none {H : Type} : Left H := { results := [], args := [] }

/-- 'smartcardlaw33.FirewallAccess': WHATEVER THE INPUT: true; the input reads as it did. -/
def firewallAccessSpec : ChangeSpec := { name := "firewallAccess", fn := fun _ => fun
  | [d1, d2, d3] => { results := [.lit (.bool true)], args := [d1, d2, d3] }
  | _ => none }
def firewallAccessRow : OpenClaim := { program := "ytkjjfnpocjppcaa", sum := "c754fce9f4919d3433969fd31109e2af755104ab0edd73d8e4a3248c6d6d26d7", func := "smartcard/smartcardlaw33.FirewallAccess", spec := "firewallAccess", unfollowed := true, recurses := true, apart := false }
def FirewallAccessSaid : Prop := firewallAccessRow.holds Try.pinned (OpenSpec.ofChange firewallAccessSpec)

/-- ITS FALSE NEIGHBOUR: 'it returns false'. Refute it at one input. -/
def firewallAccessWrong : ChangeSpec := { name := "firewallAccess", fn := fun _ => fun
  | [d1, d2, d3] => { results := [.lit (.bool false)], args := [d1, d2, d3] }
  | _ => none }
def FirewallAccessWrongFalsely : Prop := firewallAccessRow.holds Try.pinned (OpenSpec.ofChange firewallAccessWrong)

/-- 'smartcardlaw33.FirewallInvoke': WHATEVER THE INPUT: true; the input reads as it did. -/
def firewallInvokeSpec : ChangeSpec := { name := "firewallInvoke", fn := fun _ => fun
  | [d1, d2, d3] => { results := [.lit (.bool true)], args := [d1, d2, d3] }
  | _ => none }
def firewallInvokeRow : OpenClaim := { program := "ytkjjfnpocjppcaa", sum := "c754fce9f4919d3433969fd31109e2af755104ab0edd73d8e4a3248c6d6d26d7", func := "smartcard/smartcardlaw33.FirewallInvoke", spec := "firewallInvoke", unfollowed := true, recurses := true, apart := false }
def FirewallInvokeSaid : Prop := firewallInvokeRow.holds Try.pinned (OpenSpec.ofChange firewallInvokeSpec)

/-- ITS FALSE NEIGHBOUR: 'it returns false'. Refute it at one input. -/
def firewallInvokeWrong : ChangeSpec := { name := "firewallInvoke", fn := fun _ => fun
  | [d1, d2, d3] => { results := [.lit (.bool false)], args := [d1, d2, d3] }
  | _ => none }
def FirewallInvokeWrongFalsely : Prop := firewallInvokeRow.holds Try.pinned (OpenSpec.ofChange firewallInvokeWrong)

/-- 'smartcardlaw33.FirewallRules': WHATEVER THE INPUT: true; the input reads as it did. -/
def firewallRulesSpec : ChangeSpec := { name := "firewallRules", fn := fun _ => fun
  | [d1, d2, d3] => { results := [.lit (.bool true)], args := [d1, d2, d3] }
  | _ => none }
def firewallRulesRow : OpenClaim := { program := "ytkjjfnpocjppcaa", sum := "c754fce9f4919d3433969fd31109e2af755104ab0edd73d8e4a3248c6d6d26d7", func := "smartcard/smartcardlaw33.FirewallRules", spec := "firewallRules", unfollowed := true, recurses := true, apart := false }
def FirewallRulesSaid : Prop := firewallRulesRow.holds Try.pinned (OpenSpec.ofChange firewallRulesSpec)

/-- ITS FALSE NEIGHBOUR: 'it returns false'. Refute it at one input. -/
def firewallRulesWrong : ChangeSpec := { name := "firewallRules", fn := fun _ => fun
  | [d1, d2, d3] => { results := [.lit (.bool false)], args := [d1, d2, d3] }
  | _ => none }
def FirewallRulesWrongFalsely : Prop := firewallRulesRow.holds Try.pinned (OpenSpec.ofChange firewallRulesWrong)

/-- 'smartcardlaw33.FirewallValues': WHATEVER THE INPUT: true; the input reads as it did. -/
def firewallValuesSpec : ChangeSpec := { name := "firewallValues", fn := fun _ => fun
  | [d1, d2, d3] => { results := [.lit (.bool true)], args := [d1, d2, d3] }
  | _ => none }
def firewallValuesRow : OpenClaim := { program := "ytkjjfnpocjppcaa", sum := "c754fce9f4919d3433969fd31109e2af755104ab0edd73d8e4a3248c6d6d26d7", func := "smartcard/smartcardlaw33.FirewallValues", spec := "firewallValues", unfollowed := true, recurses := true, apart := false }
def FirewallValuesSaid : Prop := firewallValuesRow.holds Try.pinned (OpenSpec.ofChange firewallValuesSpec)

/-- ITS FALSE NEIGHBOUR: 'it returns false'. Refute it at one input. -/
def firewallValuesWrong : ChangeSpec := { name := "firewallValues", fn := fun _ => fun
  | [d1, d2, d3] => { results := [.lit (.bool false)], args := [d1, d2, d3] }
  | _ => none }
def FirewallValuesWrongFalsely : Prop := firewallValuesRow.holds Try.pinned (OpenSpec.ofChange firewallValuesWrong)

/-- 'smartcardlaw33.FirewallKeep': WHATEVER THE INPUT: true; the input reads as it did. -/
def firewallKeepSpec : ChangeSpec := { name := "firewallKeep", fn := fun _ => fun
  | [d] => { results := [.lit (.bool true)], args := [d] }
  | _ => none }
def firewallKeepRow : OpenClaim := { program := "ytkjjfnpocjppcaa", sum := "c754fce9f4919d3433969fd31109e2af755104ab0edd73d8e4a3248c6d6d26d7", func := "smartcard/smartcardlaw33.FirewallKeep", spec := "firewallKeep", unfollowed := true, recurses := true, apart := false }
def FirewallKeepSaid : Prop := firewallKeepRow.holds Try.pinned (OpenSpec.ofChange firewallKeepSpec)

/-- ITS FALSE NEIGHBOUR: 'it returns false'. Refute it at one input. -/
def firewallKeepWrong : ChangeSpec := { name := "firewallKeep", fn := fun _ => fun
  | [d] => { results := [.lit (.bool false)], args := [d] }
  | _ => none }
def FirewallKeepWrongFalsely : Prop := firewallKeepRow.holds Try.pinned (OpenSpec.ofChange firewallKeepWrong)

/- THE SECOND FORM. 'bulk': how many values and letters a reading holds, each counted each time it is reached (what is shared counts as often as it is met; a slice's spare places count too). A statement '..UptoSaid' is the law's where the arguments, and the package variables that the reading takes, are together of bulk at most 1048576: NARROWER than '..Said'. Prove '..Said' where nothing that the law and all that it calls make is longer than what came in: it says more and counts as full. Else prove '..UptoSaid'. A law counts once. -/
mutual
def uptoBulk {H : Type} : DataW H → Nat
  | .lit (.string bytes) => bytes.length + 1
  | .lit _ => 1
  | .nil => 1
  | .ptr d => uptoBulk d + 1
  | .slice elems spare => uptoBulkAll elems + uptoBulkAll spare + 1
  | .agg parts => uptoBulkAll parts + 1
  | .iface _ d => uptoBulk d + 1
  | .map entries => uptoBulkEntries entries + 1
  | .held _ => 1
def uptoBulkAll {H : Type} : List (DataW H) → Nat
  | [] => 0
  | d :: r => uptoBulk d + uptoBulkAll r
def uptoBulkEntries {H : Type} : List (Lit × DataW H) → Nat
  | [] => 0
  | x :: r => uptoBulkEntry x + uptoBulkEntries r
def uptoBulkEntry {H : Type} : Lit × DataW H → Nat
  | (.string bytes, d) => bytes.length + uptoBulk d + 1
  | (_, d) => uptoBulk d + 1
 end
def uptoSmall : (H : Type) → List (DataW H) → Bool := fun _ ds => decide (uptoBulkAll ds ≤ 1048576)
def OpenSpec.upto (s : _root_.Go.ChangeSpec) : _root_.Go.OpenSpec := { _root_.Go.OpenSpec.ofChange s with cond := some uptoSmall }

/-- 'smartcardlaw33.FirewallAccess', WHERE WHAT IT READS IS OF BULK AT MOST 1048576: true; the input reads as it did. -/
def firewallAccessUptoRow : OpenClaim := { program := "ytkjjfnpocjppcaa", sum := "c754fce9f4919d3433969fd31109e2af755104ab0edd73d8e4a3248c6d6d26d7", func := "smartcard/smartcardlaw33.FirewallAccess", spec := "firewallAccess", unfollowed := true, recurses := true, apart := false, narrowed := true }
def FirewallAccessUptoSaid : Prop := firewallAccessUptoRow.holds Try.pinned (OpenSpec.upto firewallAccessSpec)

/-- 'smartcardlaw33.FirewallInvoke', WHERE WHAT IT READS IS OF BULK AT MOST 1048576: true; the input reads as it did. -/
def firewallInvokeUptoRow : OpenClaim := { program := "ytkjjfnpocjppcaa", sum := "c754fce9f4919d3433969fd31109e2af755104ab0edd73d8e4a3248c6d6d26d7", func := "smartcard/smartcardlaw33.FirewallInvoke", spec := "firewallInvoke", unfollowed := true, recurses := true, apart := false, narrowed := true }
def FirewallInvokeUptoSaid : Prop := firewallInvokeUptoRow.holds Try.pinned (OpenSpec.upto firewallInvokeSpec)

/-- 'smartcardlaw33.FirewallRules', WHERE WHAT IT READS IS OF BULK AT MOST 1048576: true; the input reads as it did. -/
def firewallRulesUptoRow : OpenClaim := { program := "ytkjjfnpocjppcaa", sum := "c754fce9f4919d3433969fd31109e2af755104ab0edd73d8e4a3248c6d6d26d7", func := "smartcard/smartcardlaw33.FirewallRules", spec := "firewallRules", unfollowed := true, recurses := true, apart := false, narrowed := true }
def FirewallRulesUptoSaid : Prop := firewallRulesUptoRow.holds Try.pinned (OpenSpec.upto firewallRulesSpec)

/-- 'smartcardlaw33.FirewallValues', WHERE WHAT IT READS IS OF BULK AT MOST 1048576: true; the input reads as it did. -/
def firewallValuesUptoRow : OpenClaim := { program := "ytkjjfnpocjppcaa", sum := "c754fce9f4919d3433969fd31109e2af755104ab0edd73d8e4a3248c6d6d26d7", func := "smartcard/smartcardlaw33.FirewallValues", spec := "firewallValues", unfollowed := true, recurses := true, apart := false, narrowed := true }
def FirewallValuesUptoSaid : Prop := firewallValuesUptoRow.holds Try.pinned (OpenSpec.upto firewallValuesSpec)

/-- 'smartcardlaw33.FirewallKeep', WHERE WHAT IT READS IS OF BULK AT MOST 1048576: true; the input reads as it did. -/
def firewallKeepUptoRow : OpenClaim := { program := "ytkjjfnpocjppcaa", sum := "c754fce9f4919d3433969fd31109e2af755104ab0edd73d8e4a3248c6d6d26d7", func := "smartcard/smartcardlaw33.FirewallKeep", spec := "firewallKeep", unfollowed := true, recurses := true, apart := false, narrowed := true }
def FirewallKeepUptoSaid : Prop := firewallKeepUptoRow.holds Try.pinned (OpenSpec.upto firewallKeepSpec)

end Rows
end Go.Proofs.Ytkjjfnpocjppcaa
