/-
  NARROWER THAN 'FOR EVERY INPUT', by the rows' own cells (each row's printed sentence says how): GeometryTransforms: laid · GeometryClips: laid · GeometryCoordinates: laid · GeometryRoundTrip: laid.
  DERIVED. THE GIVEN ROWS OF THIS SEAT. 4 by the template 'for every input the law returns true; each argument reads behind the call as it read before'; 0 by the template 'total and deterministic' (their statements: YtcjnhffjmonbeaaGreatDoorTotals.lean).
  GIVEN WITH THE SEED: the statements are not yours to turn. If you find one false, say at which input.
  Laid BY PROGRAM, IN A SANDBOX (cutbox-rows.mjs): the forced cells as the released guide's own fill.sh prints them over the translation 0d50faced2a60b18… (all of the seat's roots in one cut). By AI agents, Wed Nov 11 2026. No macro, syntax, notation, axiom, sorry.
-/
import Derived.Test.YtcjnhffjmonbeaaGreatDoorChecked
import GoSem.Claim
import GoSem.ClaimJoined
import GoSem.ClaimMapViews
import Derived.JoinedTies
import Derived.KernelRfl
namespace Go.Proofs.YtcjnhffjmonbeaaGreatDoor
/- THE CELL 'sum', in the pinned program and in every row, IS THE sha256 OF THE DUMP (.gsa) THAT YtcjnhffjmonbeaaGreatDoorProg.lean LOADS. Nothing in Lean hashes anything: it is a label: what it is worth is what the hold of that sum in a sandbox is worth. -/
noncomputable def Tryz.pinned : Pinned := { name := "ytcjnhffjmonbeaagreatdoor", sum := "0d50faced2a60b1880617c0e247d293132fdb4afe3b1b0f4bad8c4e62ef38acb", checked := Tryz.checked }
namespace Rows
def none {H : Type} : Left H := { results := [], args := [] }

/- WHAT THE LISTED PACKAGE-LEVEL VARIABLES READ AS WHEN THE CALL BEGINS. Each datum BY PROGRAM (the guide's laid-datum.mjs) off the statement by which the dump's own 'gosem.cut.vars' lays the variable. In a bare row this is a premise. The card (YtcjnhffjmonbeaaGreatDoorCards.lean) ties it to the program's text. -/
def laid_errors_errorType {H : Type} : DataW H := .iface "internal/reflectlite.rtype" (.agg [.ptr (.lit (.string [101, 114, 114, 111, 114]))])

/-- 'grisaillelaw38.GeometryTransforms': WHATEVER THE INPUT: true; the input reads as it did. -/
def geometryTransformsSpec : ChangeSpec := { name := "geometryTransforms", fn := fun _ => fun
  | [d1, d2] => { results := [.lit (.bool true)], args := [d1, d2] }
  | _ => none }
def geometryTransformsRow : OpenClaim := { program := "ytcjnhffjmonbeaagreatdoor", sum := "0d50faced2a60b1880617c0e247d293132fdb4afe3b1b0f4bad8c4e62ef38acb", func := "grisaille/grisaillelaw38.GeometryTransforms", spec := "geometryTransforms", inPlace := ["internal/reflectlite.ValueOf", "(internal/reflectlite.Value).Type", "(internal/reflectlite.Value).IsNil", "internal/reflectlite.TypeOf", "(internal/reflectlite.Value).Elem", "(internal/reflectlite.Value).Set"], unfollowed := true, recurses := true, named := ["errors.errorType", "math/bits.divideError", "math/bits.overflowError"], apart := false, laid := [("errors.errorType", laid_errors_errorType)] }
def GeometryTransformsSaid : Prop := geometryTransformsRow.holds Tryz.pinned (OpenSpec.ofChange geometryTransformsSpec)

/-- ITS FALSE NEIGHBOUR: 'it returns false'. Refute it at one input. -/
def geometryTransformsWrong : ChangeSpec := { name := "geometryTransforms", fn := fun _ => fun
  | [d1, d2] => { results := [.lit (.bool false)], args := [d1, d2] }
  | _ => none }
def GeometryTransformsWrongFalsely : Prop := geometryTransformsRow.holds Tryz.pinned (OpenSpec.ofChange geometryTransformsWrong)

/-- 'grisaillelaw38.GeometryClips': WHATEVER THE INPUT: true; the input reads as it did. -/
def geometryClipsSpec : ChangeSpec := { name := "geometryClips", fn := fun _ => fun
  | [d1, d2] => { results := [.lit (.bool true)], args := [d1, d2] }
  | _ => none }
def geometryClipsRow : OpenClaim := { program := "ytcjnhffjmonbeaagreatdoor", sum := "0d50faced2a60b1880617c0e247d293132fdb4afe3b1b0f4bad8c4e62ef38acb", func := "grisaille/grisaillelaw38.GeometryClips", spec := "geometryClips", inPlace := ["internal/reflectlite.ValueOf", "(internal/reflectlite.Value).Type", "(internal/reflectlite.Value).IsNil", "internal/reflectlite.TypeOf", "(internal/reflectlite.Value).Elem", "(internal/reflectlite.Value).Set"], unfollowed := true, recurses := true, named := ["errors.errorType", "math/bits.divideError", "math/bits.overflowError"], apart := false, laid := [("errors.errorType", laid_errors_errorType)] }
def GeometryClipsSaid : Prop := geometryClipsRow.holds Tryz.pinned (OpenSpec.ofChange geometryClipsSpec)

/-- ITS FALSE NEIGHBOUR: 'it returns false'. Refute it at one input. -/
def geometryClipsWrong : ChangeSpec := { name := "geometryClips", fn := fun _ => fun
  | [d1, d2] => { results := [.lit (.bool false)], args := [d1, d2] }
  | _ => none }
def GeometryClipsWrongFalsely : Prop := geometryClipsRow.holds Tryz.pinned (OpenSpec.ofChange geometryClipsWrong)

/-- 'grisaillelaw38.GeometryCoordinates': WHATEVER THE INPUT: true; the input reads as it did. -/
def geometryCoordinatesSpec : ChangeSpec := { name := "geometryCoordinates", fn := fun _ => fun
  | [d1, d2, d3] => { results := [.lit (.bool true)], args := [d1, d2, d3] }
  | _ => none }
def geometryCoordinatesRow : OpenClaim := { program := "ytcjnhffjmonbeaagreatdoor", sum := "0d50faced2a60b1880617c0e247d293132fdb4afe3b1b0f4bad8c4e62ef38acb", func := "grisaille/grisaillelaw38.GeometryCoordinates", spec := "geometryCoordinates", inPlace := ["internal/reflectlite.ValueOf", "(internal/reflectlite.Value).Type", "(internal/reflectlite.Value).IsNil", "internal/reflectlite.TypeOf", "(internal/reflectlite.Value).Elem", "(internal/reflectlite.Value).Set"], unfollowed := true, recurses := true, named := ["errors.errorType", "math/bits.divideError", "math/bits.overflowError"], apart := false, laid := [("errors.errorType", laid_errors_errorType)] }
def GeometryCoordinatesSaid : Prop := geometryCoordinatesRow.holds Tryz.pinned (OpenSpec.ofChange geometryCoordinatesSpec)

/-- ITS FALSE NEIGHBOUR: 'it returns false'. Refute it at one input. -/
def geometryCoordinatesWrong : ChangeSpec := { name := "geometryCoordinates", fn := fun _ => fun
  | [d1, d2, d3] => { results := [.lit (.bool false)], args := [d1, d2, d3] }
  | _ => none }
def GeometryCoordinatesWrongFalsely : Prop := geometryCoordinatesRow.holds Tryz.pinned (OpenSpec.ofChange geometryCoordinatesWrong)

/-- 'grisaillelaw38.GeometryRoundTrip': WHATEVER THE INPUT: true; the input reads as it did. -/
def geometryRoundTripSpec : ChangeSpec := { name := "geometryRoundTrip", fn := fun _ => fun
  | [d1, d2, d3] => { results := [.lit (.bool true)], args := [d1, d2, d3] }
  | _ => none }
def geometryRoundTripRow : OpenClaim := { program := "ytcjnhffjmonbeaagreatdoor", sum := "0d50faced2a60b1880617c0e247d293132fdb4afe3b1b0f4bad8c4e62ef38acb", func := "grisaille/grisaillelaw38.GeometryRoundTrip", spec := "geometryRoundTrip", inPlace := ["internal/reflectlite.ValueOf", "(internal/reflectlite.Value).Type", "(internal/reflectlite.Value).IsNil", "internal/reflectlite.TypeOf", "(internal/reflectlite.Value).Elem", "(internal/reflectlite.Value).Set"], unfollowed := true, recurses := true, named := ["errors.errorType", "math/bits.divideError", "math/bits.overflowError"], apart := false, laid := [("errors.errorType", laid_errors_errorType)] }
def GeometryRoundTripSaid : Prop := geometryRoundTripRow.holds Tryz.pinned (OpenSpec.ofChange geometryRoundTripSpec)

/-- ITS FALSE NEIGHBOUR: 'it returns false'. Refute it at one input. -/
def geometryRoundTripWrong : ChangeSpec := { name := "geometryRoundTrip", fn := fun _ => fun
  | [d1, d2, d3] => { results := [.lit (.bool false)], args := [d1, d2, d3] }
  | _ => none }
def GeometryRoundTripWrongFalsely : Prop := geometryRoundTripRow.holds Tryz.pinned (OpenSpec.ofChange geometryRoundTripWrong)

/- THE SECOND FORM. 'bulk': how many values and letters a reading holds, each counted each time it is reached (what is shared counts as often as it is met; a slice's spare places count too). A statement '..UptoSaid' is the law's where the arguments, and the package variables that the reading takes, are together of bulk at most 1048576: NARROWER than '..Said'. Prove '..Said' where nothing that the law and all that it calls make is longer than what came in: it says more and counts as full. Else prove '..UptoSaid'. A law counts once. -/
mutual
def uptoBulk {H : Type} : DataW H → Nat
  | .lit (.string bytes) => bytes.length + 1
  | .lit _ => 1
  | .nil => 1
  | .ptr d => uptoBulk d + 1
  | .slice elems spare => uptoBulkAll elems + uptoBulkAll spare + 1
  | .agg parts => uptoBulkAll parts + 1
  | .iface _ d => uptoBulk d + 1
  | .map entries => uptoBulkEntries entries + 1
  | .held _ => 1
def uptoBulkAll {H : Type} : List (DataW H) → Nat
  | [] => 0
  | d :: r => uptoBulk d + uptoBulkAll r
def uptoBulkEntries {H : Type} : List (Lit × DataW H) → Nat
  | [] => 0
  | x :: r => uptoBulkEntry x + uptoBulkEntries r
def uptoBulkEntry {H : Type} : Lit × DataW H → Nat
  | (.string bytes, d) => bytes.length + uptoBulk d + 1
  | (_, d) => uptoBulk d + 1
 end
def uptoSmall : (H : Type) → List (DataW H) → Bool := fun _ ds => decide (uptoBulkAll ds ≤ 1048576)
def OpenSpec.upto (s : _root_.Go.ChangeSpec) : _root_.Go.OpenSpec := { _root_.Go.OpenSpec.ofChange s with cond := some uptoSmall }

/-- 'grisaillelaw38.GeometryTransforms', WHERE WHAT IT READS IS OF BULK AT MOST 1048576: true; the input reads as it did. -/
def geometryTransformsUptoRow : OpenClaim := { program := "ytcjnhffjmonbeaagreatdoor", sum := "0d50faced2a60b1880617c0e247d293132fdb4afe3b1b0f4bad8c4e62ef38acb", func := "grisaille/grisaillelaw38.GeometryTransforms", spec := "geometryTransforms", inPlace := ["internal/reflectlite.ValueOf", "(internal/reflectlite.Value).Type", "(internal/reflectlite.Value).IsNil", "internal/reflectlite.TypeOf", "(internal/reflectlite.Value).Elem", "(internal/reflectlite.Value).Set"], unfollowed := true, recurses := true, named := ["errors.errorType", "math/bits.divideError", "math/bits.overflowError"], apart := false, laid := [("errors.errorType", laid_errors_errorType)], narrowed := true }
def GeometryTransformsUptoSaid : Prop := geometryTransformsUptoRow.holds Tryz.pinned (OpenSpec.upto geometryTransformsSpec)

/-- 'grisaillelaw38.GeometryClips', WHERE WHAT IT READS IS OF BULK AT MOST 1048576: true; the input reads as it did. -/
def geometryClipsUptoRow : OpenClaim := { program := "ytcjnhffjmonbeaagreatdoor", sum := "0d50faced2a60b1880617c0e247d293132fdb4afe3b1b0f4bad8c4e62ef38acb", func := "grisaille/grisaillelaw38.GeometryClips", spec := "geometryClips", inPlace := ["internal/reflectlite.ValueOf", "(internal/reflectlite.Value).Type", "(internal/reflectlite.Value).IsNil", "internal/reflectlite.TypeOf", "(internal/reflectlite.Value).Elem", "(internal/reflectlite.Value).Set"], unfollowed := true, recurses := true, named := ["errors.errorType", "math/bits.divideError", "math/bits.overflowError"], apart := false, laid := [("errors.errorType", laid_errors_errorType)], narrowed := true }
def GeometryClipsUptoSaid : Prop := geometryClipsUptoRow.holds Tryz.pinned (OpenSpec.upto geometryClipsSpec)

/-- 'grisaillelaw38.GeometryCoordinates', WHERE WHAT IT READS IS OF BULK AT MOST 1048576: true; the input reads as it did. -/
def geometryCoordinatesUptoRow : OpenClaim := { program := "ytcjnhffjmonbeaagreatdoor", sum := "0d50faced2a60b1880617c0e247d293132fdb4afe3b1b0f4bad8c4e62ef38acb", func := "grisaille/grisaillelaw38.GeometryCoordinates", spec := "geometryCoordinates", inPlace := ["internal/reflectlite.ValueOf", "(internal/reflectlite.Value).Type", "(internal/reflectlite.Value).IsNil", "internal/reflectlite.TypeOf", "(internal/reflectlite.Value).Elem", "(internal/reflectlite.Value).Set"], unfollowed := true, recurses := true, named := ["errors.errorType", "math/bits.divideError", "math/bits.overflowError"], apart := false, laid := [("errors.errorType", laid_errors_errorType)], narrowed := true }
def GeometryCoordinatesUptoSaid : Prop := geometryCoordinatesUptoRow.holds Tryz.pinned (OpenSpec.upto geometryCoordinatesSpec)

/-- 'grisaillelaw38.GeometryRoundTrip', WHERE WHAT IT READS IS OF BULK AT MOST 1048576: true; the input reads as it did. -/
def geometryRoundTripUptoRow : OpenClaim := { program := "ytcjnhffjmonbeaagreatdoor", sum := "0d50faced2a60b1880617c0e247d293132fdb4afe3b1b0f4bad8c4e62ef38acb", func := "grisaille/grisaillelaw38.GeometryRoundTrip", spec := "geometryRoundTrip", inPlace := ["internal/reflectlite.ValueOf", "(internal/reflectlite.Value).Type", "(internal/reflectlite.Value).IsNil", "internal/reflectlite.TypeOf", "(internal/reflectlite.Value).Elem", "(internal/reflectlite.Value).Set"], unfollowed := true, recurses := true, named := ["errors.errorType", "math/bits.divideError", "math/bits.overflowError"], apart := false, laid := [("errors.errorType", laid_errors_errorType)], narrowed := true }
def GeometryRoundTripUptoSaid : Prop := geometryRoundTripUptoRow.holds Tryz.pinned (OpenSpec.upto geometryRoundTripSpec)

end Rows
end Go.Proofs.YtcjnhffjmonbeaaGreatDoor
