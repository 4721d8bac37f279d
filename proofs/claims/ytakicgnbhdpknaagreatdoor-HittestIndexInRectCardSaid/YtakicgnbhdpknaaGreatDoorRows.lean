/-
  NARROWER THAN 'FOR EVERY INPUT', by the rows' own cells (each row's printed sentence says how): HittestNodesAt: laid · HittestTopNode: laid · HittestIndexAt: laid · HittestIndexInRect: laid.
  DERIVED. THE GIVEN ROWS OF THIS SEAT. 4 by the template 'for every input the law returns true; each argument reads behind the call as it read before'; 0 by the template 'total and deterministic' (their statements: YtakicgnbhdpknaaGreatDoorTotals.lean).
  GIVEN WITH THE SEED: the statements are not yours to turn. If you find one false, say at which input.
  Laid BY PROGRAM, IN A SANDBOX (cutbox-rows.mjs): the forced cells as the released guide's own fill.sh prints them over the translation 90bb71386f6bf7ec… (all of the seat's roots in one cut). By AI agents, Wed Nov 11 2026. No macro, syntax, notation, axiom, sorry.
-/
import Derived.Test.YtakicgnbhdpknaaGreatDoorChecked
import GoSem.Claim
import GoSem.ClaimJoined
import GoSem.ClaimMapViews
import Derived.JoinedTies
import Derived.KernelRfl
namespace Go.Proofs.YtakicgnbhdpknaaGreatDoor
/- THE CELL 'sum', in the pinned program and in every row, IS THE sha256 OF THE DUMP (.gsa) THAT YtakicgnbhdpknaaGreatDoorProg.lean LOADS. Nothing in Lean hashes anything: it is a label: what it is worth is what the hold of that sum in a sandbox is worth. -/
noncomputable def Tryz.pinned : Pinned := { name := "ytakicgnbhdpknaagreatdoor", sum := "90bb71386f6bf7ec2024732a678363724247e44a4211264307bf6dbfe6c98ba3", checked := Tryz.checked }
namespace Rows
def none {H : Type} : Left H := { results := [], args := [] }

/- WHAT THE LISTED PACKAGE-LEVEL VARIABLES READ AS WHEN THE CALL BEGINS. Each datum BY PROGRAM (the guide's laid-datum.mjs) off the statement by which the dump's own 'gosem.cut.vars' lays the variable. In a bare row this is a premise. The card (YtakicgnbhdpknaaGreatDoorCards.lean) ties it to the program's text. -/
def laid_errors_errorType {H : Type} : DataW H := .iface "internal/reflectlite.rtype" (.agg [.ptr (.lit (.string [101, 114, 114, 111, 114]))])

/-- 'grisaillelaw44.HittestNodesAt': WHATEVER THE INPUT: true; the input reads as it did. -/
def hittestNodesAtSpec : ChangeSpec := { name := "hittestNodesAt", fn := fun _ => fun
  | [d1, d2, d3] => { results := [.lit (.bool true)], args := [d1, d2, d3] }
  | _ => none }
def hittestNodesAtRow : OpenClaim := { program := "ytakicgnbhdpknaagreatdoor", sum := "90bb71386f6bf7ec2024732a678363724247e44a4211264307bf6dbfe6c98ba3", func := "grisaille/grisaillelaw44.HittestNodesAt", spec := "hittestNodesAt", inPlace := ["internal/reflectlite.ValueOf", "(internal/reflectlite.Value).Type", "(internal/reflectlite.Value).IsNil", "internal/reflectlite.TypeOf", "(internal/reflectlite.Value).Elem", "(internal/reflectlite.Value).Set"], unfollowed := true, recurses := true, named := ["errors.errorType", "math/bits.divideError", "math/bits.overflowError"], apart := false, laid := [("errors.errorType", laid_errors_errorType)] }
def HittestNodesAtSaid : Prop := hittestNodesAtRow.holds Tryz.pinned (OpenSpec.ofChange hittestNodesAtSpec)

/-- ITS FALSE NEIGHBOUR: 'it returns false'. Refute it at one input. -/
def hittestNodesAtWrong : ChangeSpec := { name := "hittestNodesAt", fn := fun _ => fun
  | [d1, d2, d3] => { results := [.lit (.bool false)], args := [d1, d2, d3] }
  | _ => none }
def HittestNodesAtWrongFalsely : Prop := hittestNodesAtRow.holds Tryz.pinned (OpenSpec.ofChange hittestNodesAtWrong)

/-- 'grisaillelaw44.HittestTopNode': WHATEVER THE INPUT: true; the input reads as it did. -/
def hittestTopNodeSpec : ChangeSpec := { name := "hittestTopNode", fn := fun _ => fun
  | [d1, d2] => { results := [.lit (.bool true)], args := [d1, d2] }
  | _ => none }
def hittestTopNodeRow : OpenClaim := { program := "ytakicgnbhdpknaagreatdoor", sum := "90bb71386f6bf7ec2024732a678363724247e44a4211264307bf6dbfe6c98ba3", func := "grisaille/grisaillelaw44.HittestTopNode", spec := "hittestTopNode", inPlace := ["internal/reflectlite.ValueOf", "(internal/reflectlite.Value).Type", "(internal/reflectlite.Value).IsNil", "internal/reflectlite.TypeOf", "(internal/reflectlite.Value).Elem", "(internal/reflectlite.Value).Set"], unfollowed := true, recurses := true, named := ["errors.errorType", "math/bits.divideError", "math/bits.overflowError"], apart := false, laid := [("errors.errorType", laid_errors_errorType)] }
def HittestTopNodeSaid : Prop := hittestTopNodeRow.holds Tryz.pinned (OpenSpec.ofChange hittestTopNodeSpec)

/-- ITS FALSE NEIGHBOUR: 'it returns false'. Refute it at one input. -/
def hittestTopNodeWrong : ChangeSpec := { name := "hittestTopNode", fn := fun _ => fun
  | [d1, d2] => { results := [.lit (.bool false)], args := [d1, d2] }
  | _ => none }
def HittestTopNodeWrongFalsely : Prop := hittestTopNodeRow.holds Tryz.pinned (OpenSpec.ofChange hittestTopNodeWrong)

/-- 'grisaillelaw44.HittestIndexAt': WHATEVER THE INPUT: true; the input reads as it did. -/
def hittestIndexAtSpec : ChangeSpec := { name := "hittestIndexAt", fn := fun _ => fun
  | [d1, d2] => { results := [.lit (.bool true)], args := [d1, d2] }
  | _ => none }
def hittestIndexAtRow : OpenClaim := { program := "ytakicgnbhdpknaagreatdoor", sum := "90bb71386f6bf7ec2024732a678363724247e44a4211264307bf6dbfe6c98ba3", func := "grisaille/grisaillelaw44.HittestIndexAt", spec := "hittestIndexAt", inPlace := ["internal/reflectlite.ValueOf", "(internal/reflectlite.Value).Type", "(internal/reflectlite.Value).IsNil", "internal/reflectlite.TypeOf", "(internal/reflectlite.Value).Elem", "(internal/reflectlite.Value).Set"], unfollowed := true, recurses := true, named := ["errors.errorType", "math/bits.divideError", "math/bits.overflowError"], apart := false, laid := [("errors.errorType", laid_errors_errorType)] }
def HittestIndexAtSaid : Prop := hittestIndexAtRow.holds Tryz.pinned (OpenSpec.ofChange hittestIndexAtSpec)

/-- ITS FALSE NEIGHBOUR: 'it returns false'. Refute it at one input. -/
def hittestIndexAtWrong : ChangeSpec := { name := "hittestIndexAt", fn := fun _ => fun
  | [d1, d2] => { results := [.lit (.bool false)], args := [d1, d2] }
  | _ => none }
def HittestIndexAtWrongFalsely : Prop := hittestIndexAtRow.holds Tryz.pinned (OpenSpec.ofChange hittestIndexAtWrong)

/-- 'grisaillelaw44.HittestIndexInRect': WHATEVER THE INPUT: true; the input reads as it did. -/
def hittestIndexInRectSpec : ChangeSpec := { name := "hittestIndexInRect", fn := fun _ => fun
  | [d1, d2] => { results := [.lit (.bool true)], args := [d1, d2] }
  | _ => none }
def hittestIndexInRectRow : OpenClaim := { program := "ytakicgnbhdpknaagreatdoor", sum := "90bb71386f6bf7ec2024732a678363724247e44a4211264307bf6dbfe6c98ba3", func := "grisaille/grisaillelaw44.HittestIndexInRect", spec := "hittestIndexInRect", inPlace := ["internal/reflectlite.ValueOf", "(internal/reflectlite.Value).Type", "(internal/reflectlite.Value).IsNil", "internal/reflectlite.TypeOf", "(internal/reflectlite.Value).Elem", "(internal/reflectlite.Value).Set"], unfollowed := true, recurses := true, named := ["errors.errorType", "math/bits.divideError", "math/bits.overflowError"], apart := false, laid := [("errors.errorType", laid_errors_errorType)] }
def HittestIndexInRectSaid : Prop := hittestIndexInRectRow.holds Tryz.pinned (OpenSpec.ofChange hittestIndexInRectSpec)

/-- ITS FALSE NEIGHBOUR: 'it returns false'. Refute it at one input. -/
def hittestIndexInRectWrong : ChangeSpec := { name := "hittestIndexInRect", fn := fun _ => fun
  | [d1, d2] => { results := [.lit (.bool false)], args := [d1, d2] }
  | _ => none }
def HittestIndexInRectWrongFalsely : Prop := hittestIndexInRectRow.holds Tryz.pinned (OpenSpec.ofChange hittestIndexInRectWrong)

/- THE SECOND FORM. 'bulk': how many values and letters a reading holds, each counted each time it is reached (what is shared counts as often as it is met; a slice's spare places count too). A statement '..UptoSaid' is the law's where the arguments, and the package variables that the reading takes, are together of bulk at most 1048576: NARROWER than '..Said'. Prove '..Said' where nothing that the law and all that it calls make is longer than what came in: it says more and counts as full. Else prove '..UptoSaid'. A law counts once. -/
mutual
def uptoBulk {H : Type} : DataW H → Nat
  | .lit (.string bytes) => bytes.length + 1
  | .lit _ => 1
  | .nil => 1
  | .ptr d => uptoBulk d + 1
  | .slice elems spare => uptoBulkAll elems + uptoBulkAll spare + 1
  | .agg parts => uptoBulkAll parts + 1
  | .iface _ d => uptoBulk d + 1
  | .map entries => uptoBulkEntries entries + 1
  | .held _ => 1
def uptoBulkAll {H : Type} : List (DataW H) → Nat
  | [] => 0
  | d :: r => uptoBulk d + uptoBulkAll r
def uptoBulkEntries {H : Type} : List (Lit × DataW H) → Nat
  | [] => 0
  | x :: r => uptoBulkEntry x + uptoBulkEntries r
def uptoBulkEntry {H : Type} : Lit × DataW H → Nat
  | (.string bytes, d) => bytes.length + uptoBulk d + 1
  | (_, d) => uptoBulk d + 1
 end
def uptoSmall : (H : Type) → List (DataW H) → Bool := fun _ ds => decide (uptoBulkAll ds ≤ 1048576)
def OpenSpec.upto (s : _root_.Go.ChangeSpec) : _root_.Go.OpenSpec := { _root_.Go.OpenSpec.ofChange s with cond := some uptoSmall }

/-- 'grisaillelaw44.HittestNodesAt', WHERE WHAT IT READS IS OF BULK AT MOST 1048576: true; the input reads as it did. -/
def hittestNodesAtUptoRow : OpenClaim := { program := "ytakicgnbhdpknaagreatdoor", sum := "90bb71386f6bf7ec2024732a678363724247e44a4211264307bf6dbfe6c98ba3", func := "grisaille/grisaillelaw44.HittestNodesAt", spec := "hittestNodesAt", inPlace := ["internal/reflectlite.ValueOf", "(internal/reflectlite.Value).Type", "(internal/reflectlite.Value).IsNil", "internal/reflectlite.TypeOf", "(internal/reflectlite.Value).Elem", "(internal/reflectlite.Value).Set"], unfollowed := true, recurses := true, named := ["errors.errorType", "math/bits.divideError", "math/bits.overflowError"], apart := false, laid := [("errors.errorType", laid_errors_errorType)], narrowed := true }
def HittestNodesAtUptoSaid : Prop := hittestNodesAtUptoRow.holds Tryz.pinned (OpenSpec.upto hittestNodesAtSpec)

/-- 'grisaillelaw44.HittestTopNode', WHERE WHAT IT READS IS OF BULK AT MOST 1048576: true; the input reads as it did. -/
def hittestTopNodeUptoRow : OpenClaim := { program := "ytakicgnbhdpknaagreatdoor", sum := "90bb71386f6bf7ec2024732a678363724247e44a4211264307bf6dbfe6c98ba3", func := "grisaille/grisaillelaw44.HittestTopNode", spec := "hittestTopNode", inPlace := ["internal/reflectlite.ValueOf", "(internal/reflectlite.Value).Type", "(internal/reflectlite.Value).IsNil", "internal/reflectlite.TypeOf", "(internal/reflectlite.Value).Elem", "(internal/reflectlite.Value).Set"], unfollowed := true, recurses := true, named := ["errors.errorType", "math/bits.divideError", "math/bits.overflowError"], apart := false, laid := [("errors.errorType", laid_errors_errorType)], narrowed := true }
def HittestTopNodeUptoSaid : Prop := hittestTopNodeUptoRow.holds Tryz.pinned (OpenSpec.upto hittestTopNodeSpec)

/-- 'grisaillelaw44.HittestIndexAt', WHERE WHAT IT READS IS OF BULK AT MOST 1048576: true; the input reads as it did. -/
def hittestIndexAtUptoRow : OpenClaim := { program := "ytakicgnbhdpknaagreatdoor", sum := "90bb71386f6bf7ec2024732a678363724247e44a4211264307bf6dbfe6c98ba3", func := "grisaille/grisaillelaw44.HittestIndexAt", spec := "hittestIndexAt", inPlace := ["internal/reflectlite.ValueOf", "(internal/reflectlite.Value).Type", "(internal/reflectlite.Value).IsNil", "internal/reflectlite.TypeOf", "(internal/reflectlite.Value).Elem", "(internal/reflectlite.Value).Set"], unfollowed := true, recurses := true, named := ["errors.errorType", "math/bits.divideError", "math/bits.overflowError"], apart := false, laid := [("errors.errorType", laid_errors_errorType)], narrowed := true }
def HittestIndexAtUptoSaid : Prop := hittestIndexAtUptoRow.holds Tryz.pinned (OpenSpec.upto hittestIndexAtSpec)

/-- 'grisaillelaw44.HittestIndexInRect', WHERE WHAT IT READS IS OF BULK AT MOST 1048576: true; the input reads as it did. -/
def hittestIndexInRectUptoRow : OpenClaim := { program := "ytakicgnbhdpknaagreatdoor", sum := "90bb71386f6bf7ec2024732a678363724247e44a4211264307bf6dbfe6c98ba3", func := "grisaille/grisaillelaw44.HittestIndexInRect", spec := "hittestIndexInRect", inPlace := ["internal/reflectlite.ValueOf", "(internal/reflectlite.Value).Type", "(internal/reflectlite.Value).IsNil", "internal/reflectlite.TypeOf", "(internal/reflectlite.Value).Elem", "(internal/reflectlite.Value).Set"], unfollowed := true, recurses := true, named := ["errors.errorType", "math/bits.divideError", "math/bits.overflowError"], apart := false, laid := [("errors.errorType", laid_errors_errorType)], narrowed := true }
def HittestIndexInRectUptoSaid : Prop := hittestIndexInRectUptoRow.holds Tryz.pinned (OpenSpec.upto hittestIndexInRectSpec)

end Rows
end Go.Proofs.YtakicgnbhdpknaaGreatDoor
