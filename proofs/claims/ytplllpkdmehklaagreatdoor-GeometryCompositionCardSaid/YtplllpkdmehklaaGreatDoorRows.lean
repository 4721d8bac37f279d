/-
  NARROWER THAN 'FOR EVERY INPUT', by the rows' own cells (each row's printed sentence says how): GeometryTranslation: laid · GeometryComposition: laid · GeometryAnchorTranslation: laid.
  DERIVED. THE GIVEN ROWS OF THIS SEAT. 3 by the template 'for every input the law returns true; each argument reads behind the call as it read before'; 0 by the template 'total and deterministic' (their statements: YtplllpkdmehklaaGreatDoorTotals.lean).
  GIVEN WITH THE SEED: the statements are not yours to turn. If you find one false, say at which input.
  Laid BY PROGRAM, IN A SANDBOX (cutbox-rows.mjs): the forced cells as the released guide's own fill.sh prints them over the translation 9588c270bde25afa… (all of the seat's roots in one cut). By AI agents, Wed Nov 11 2026. No macro, syntax, notation, axiom, sorry.
-/
import Derived.Test.YtplllpkdmehklaaGreatDoorChecked
import GoSem.Claim
import GoSem.ClaimJoined
import GoSem.ClaimMapViews
import Derived.JoinedTies
import Derived.KernelRfl
namespace Go.Proofs.YtplllpkdmehklaaGreatDoor
/- THE CELL 'sum', in the pinned program and in every row, IS THE sha256 OF THE DUMP (.gsa) THAT YtplllpkdmehklaaGreatDoorProg.lean LOADS. Nothing in Lean hashes anything: it is a label: what it is worth is what the hold of that sum in a sandbox is worth. -/
noncomputable def Tryz.pinned : Pinned := { name := "ytplllpkdmehklaagreatdoor", sum := "9588c270bde25afa40ec8b2ed3d3c9aa91c457f77b4588196568d9b75da14424", checked := Tryz.checked }
namespace Rows
def none {H : Type} : Left H := { results := [], args := [] }

/- WHAT THE LISTED PACKAGE-LEVEL VARIABLES READ AS WHEN THE CALL BEGINS. Each datum BY PROGRAM (the guide's laid-datum.mjs) off the statement by which the dump's own 'gosem.cut.vars' lays the variable. In a bare row this is a premise. The card (YtplllpkdmehklaaGreatDoorCards.lean) ties it to the program's text. -/
def laid_errors_errorType {H : Type} : DataW H := .iface "internal/reflectlite.rtype" (.agg [.ptr (.lit (.string [101, 114, 114, 111, 114]))])

/-- 'grisaillelaw38.GeometryTranslation': WHATEVER THE INPUT: true; the input reads as it did. -/
def geometryTranslationSpec : ChangeSpec := { name := "geometryTranslation", fn := fun _ => fun
  | [d1, d2, d3] => { results := [.lit (.bool true)], args := [d1, d2, d3] }
  | _ => none }
def geometryTranslationRow : OpenClaim := { program := "ytplllpkdmehklaagreatdoor", sum := "9588c270bde25afa40ec8b2ed3d3c9aa91c457f77b4588196568d9b75da14424", func := "grisaille/grisaillelaw38.GeometryTranslation", spec := "geometryTranslation", inPlace := ["internal/reflectlite.ValueOf", "(internal/reflectlite.Value).Type", "(internal/reflectlite.Value).IsNil", "internal/reflectlite.TypeOf", "(internal/reflectlite.Value).Elem", "(internal/reflectlite.Value).Set"], unfollowed := true, recurses := true, named := ["errors.errorType", "math/bits.divideError", "math/bits.overflowError"], apart := false, laid := [("errors.errorType", laid_errors_errorType)] }
def GeometryTranslationSaid : Prop := geometryTranslationRow.holds Tryz.pinned (OpenSpec.ofChange geometryTranslationSpec)

/-- ITS FALSE NEIGHBOUR: 'it returns false'. Refute it at one input. -/
def geometryTranslationWrong : ChangeSpec := { name := "geometryTranslation", fn := fun _ => fun
  | [d1, d2, d3] => { results := [.lit (.bool false)], args := [d1, d2, d3] }
  | _ => none }
def GeometryTranslationWrongFalsely : Prop := geometryTranslationRow.holds Tryz.pinned (OpenSpec.ofChange geometryTranslationWrong)

/-- 'grisaillelaw38.GeometryComposition': WHATEVER THE INPUT: true; the input reads as it did. -/
def geometryCompositionSpec : ChangeSpec := { name := "geometryComposition", fn := fun _ => fun
  | [d1, d2] => { results := [.lit (.bool true)], args := [d1, d2] }
  | _ => none }
def geometryCompositionRow : OpenClaim := { program := "ytplllpkdmehklaagreatdoor", sum := "9588c270bde25afa40ec8b2ed3d3c9aa91c457f77b4588196568d9b75da14424", func := "grisaille/grisaillelaw38.GeometryComposition", spec := "geometryComposition", inPlace := ["internal/reflectlite.ValueOf", "(internal/reflectlite.Value).Type", "(internal/reflectlite.Value).IsNil", "internal/reflectlite.TypeOf", "(internal/reflectlite.Value).Elem", "(internal/reflectlite.Value).Set"], unfollowed := true, recurses := true, named := ["errors.errorType", "math/bits.divideError", "math/bits.overflowError"], apart := false, laid := [("errors.errorType", laid_errors_errorType)] }
def GeometryCompositionSaid : Prop := geometryCompositionRow.holds Tryz.pinned (OpenSpec.ofChange geometryCompositionSpec)

/-- ITS FALSE NEIGHBOUR: 'it returns false'. Refute it at one input. -/
def geometryCompositionWrong : ChangeSpec := { name := "geometryComposition", fn := fun _ => fun
  | [d1, d2] => { results := [.lit (.bool false)], args := [d1, d2] }
  | _ => none }
def GeometryCompositionWrongFalsely : Prop := geometryCompositionRow.holds Tryz.pinned (OpenSpec.ofChange geometryCompositionWrong)

/-- 'grisaillelaw38.GeometryAnchorTranslation': WHATEVER THE INPUT: true; the input reads as it did. -/
def geometryAnchorTranslationSpec : ChangeSpec := { name := "geometryAnchorTranslation", fn := fun _ => fun
  | [d1, d2, d3] => { results := [.lit (.bool true)], args := [d1, d2, d3] }
  | _ => none }
def geometryAnchorTranslationRow : OpenClaim := { program := "ytplllpkdmehklaagreatdoor", sum := "9588c270bde25afa40ec8b2ed3d3c9aa91c457f77b4588196568d9b75da14424", func := "grisaille/grisaillelaw38.GeometryAnchorTranslation", spec := "geometryAnchorTranslation", inPlace := ["internal/reflectlite.ValueOf", "(internal/reflectlite.Value).Type", "(internal/reflectlite.Value).IsNil", "internal/reflectlite.TypeOf", "(internal/reflectlite.Value).Elem", "(internal/reflectlite.Value).Set"], unfollowed := true, recurses := true, named := ["errors.errorType", "math/bits.divideError", "math/bits.overflowError"], apart := false, laid := [("errors.errorType", laid_errors_errorType)] }
def GeometryAnchorTranslationSaid : Prop := geometryAnchorTranslationRow.holds Tryz.pinned (OpenSpec.ofChange geometryAnchorTranslationSpec)

/-- ITS FALSE NEIGHBOUR: 'it returns false'. Refute it at one input. -/
def geometryAnchorTranslationWrong : ChangeSpec := { name := "geometryAnchorTranslation", fn := fun _ => fun
  | [d1, d2, d3] => { results := [.lit (.bool false)], args := [d1, d2, d3] }
  | _ => none }
def GeometryAnchorTranslationWrongFalsely : Prop := geometryAnchorTranslationRow.holds Tryz.pinned (OpenSpec.ofChange geometryAnchorTranslationWrong)

/- THE SECOND FORM. 'bulk': how many values and letters a reading holds, each counted each time it is reached (what is shared counts as often as it is met; a slice's spare places count too). A statement '..UptoSaid' is the law's where the arguments, and the package variables that the reading takes, are together of bulk at most 1048576: NARROWER than '..Said'. Prove '..Said' where nothing that the law and all that it calls make is longer than what came in: it says more and counts as full. Else prove '..UptoSaid'. A law counts once. -/
mutual
def uptoBulk {H : Type} : DataW H → Nat
  | .lit (.string bytes) => bytes.length + 1
  | .lit _ => 1
  | .nil => 1
  | .ptr d => uptoBulk d + 1
  | .slice elems spare => uptoBulkAll elems + uptoBulkAll spare + 1
  | .agg parts => uptoBulkAll parts + 1
  | .iface _ d => uptoBulk d + 1
  | .map entries => uptoBulkEntries entries + 1
  | .held _ => 1
def uptoBulkAll {H : Type} : List (DataW H) → Nat
  | [] => 0
  | d :: r => uptoBulk d + uptoBulkAll r
def uptoBulkEntries {H : Type} : List (Lit × DataW H) → Nat
  | [] => 0
  | x :: r => uptoBulkEntry x + uptoBulkEntries r
def uptoBulkEntry {H : Type} : Lit × DataW H → Nat
  | (.string bytes, d) => bytes.length + uptoBulk d + 1
  | (_, d) => uptoBulk d + 1
 end
def uptoSmall : (H : Type) → List (DataW H) → Bool := fun _ ds => decide (uptoBulkAll ds ≤ 1048576)
def OpenSpec.upto (s : _root_.Go.ChangeSpec) : _root_.Go.OpenSpec := { _root_.Go.OpenSpec.ofChange s with cond := some uptoSmall }

/-- 'grisaillelaw38.GeometryTranslation', WHERE WHAT IT READS IS OF BULK AT MOST 1048576: true; the input reads as it did. -/
def geometryTranslationUptoRow : OpenClaim := { program := "ytplllpkdmehklaagreatdoor", sum := "9588c270bde25afa40ec8b2ed3d3c9aa91c457f77b4588196568d9b75da14424", func := "grisaille/grisaillelaw38.GeometryTranslation", spec := "geometryTranslation", inPlace := ["internal/reflectlite.ValueOf", "(internal/reflectlite.Value).Type", "(internal/reflectlite.Value).IsNil", "internal/reflectlite.TypeOf", "(internal/reflectlite.Value).Elem", "(internal/reflectlite.Value).Set"], unfollowed := true, recurses := true, named := ["errors.errorType", "math/bits.divideError", "math/bits.overflowError"], apart := false, laid := [("errors.errorType", laid_errors_errorType)], narrowed := true }
def GeometryTranslationUptoSaid : Prop := geometryTranslationUptoRow.holds Tryz.pinned (OpenSpec.upto geometryTranslationSpec)

/-- 'grisaillelaw38.GeometryComposition', WHERE WHAT IT READS IS OF BULK AT MOST 1048576: true; the input reads as it did. -/
def geometryCompositionUptoRow : OpenClaim := { program := "ytplllpkdmehklaagreatdoor", sum := "9588c270bde25afa40ec8b2ed3d3c9aa91c457f77b4588196568d9b75da14424", func := "grisaille/grisaillelaw38.GeometryComposition", spec := "geometryComposition", inPlace := ["internal/reflectlite.ValueOf", "(internal/reflectlite.Value).Type", "(internal/reflectlite.Value).IsNil", "internal/reflectlite.TypeOf", "(internal/reflectlite.Value).Elem", "(internal/reflectlite.Value).Set"], unfollowed := true, recurses := true, named := ["errors.errorType", "math/bits.divideError", "math/bits.overflowError"], apart := false, laid := [("errors.errorType", laid_errors_errorType)], narrowed := true }
def GeometryCompositionUptoSaid : Prop := geometryCompositionUptoRow.holds Tryz.pinned (OpenSpec.upto geometryCompositionSpec)

/-- 'grisaillelaw38.GeometryAnchorTranslation', WHERE WHAT IT READS IS OF BULK AT MOST 1048576: true; the input reads as it did. -/
def geometryAnchorTranslationUptoRow : OpenClaim := { program := "ytplllpkdmehklaagreatdoor", sum := "9588c270bde25afa40ec8b2ed3d3c9aa91c457f77b4588196568d9b75da14424", func := "grisaille/grisaillelaw38.GeometryAnchorTranslation", spec := "geometryAnchorTranslation", inPlace := ["internal/reflectlite.ValueOf", "(internal/reflectlite.Value).Type", "(internal/reflectlite.Value).IsNil", "internal/reflectlite.TypeOf", "(internal/reflectlite.Value).Elem", "(internal/reflectlite.Value).Set"], unfollowed := true, recurses := true, named := ["errors.errorType", "math/bits.divideError", "math/bits.overflowError"], apart := false, laid := [("errors.errorType", laid_errors_errorType)], narrowed := true }
def GeometryAnchorTranslationUptoSaid : Prop := geometryAnchorTranslationUptoRow.holds Tryz.pinned (OpenSpec.upto geometryAnchorTranslationSpec)

end Rows
end Go.Proofs.YtplllpkdmehklaaGreatDoor
