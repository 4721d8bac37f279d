/-
  No cell of these rows narrows 'for every input' (looked for: loops, veiled, ifaces, maps, wideKeys, modest, calm, conditions, laid).
  DERIVED. THE GIVEN ROWS OF THIS SEAT. 9 by the template 'for every input the law returns true; each argument reads behind the call as it read before'; 0 by the template 'total and deterministic' (their statements: YtoggmkhegbfjfaaGreatTotals.lean).
  GIVEN WITH THE SEED: the statements are not yours to turn. If you find one false, say at which input.
  Laid BY PROGRAM, IN A SANDBOX (cutbox-rows.mjs): the forced cells as the released guide's own fill.sh prints them over the translation 605ce90695142a67… (all of the seat's roots in one cut). By AI agents, Wed Nov 11 2026. No macro, syntax, notation, axiom, sorry.
-/
import Derived.Test.YtoggmkhegbfjfaaGreatChecked
import GoSem.Claim
import GoSem.ClaimJoined
import GoSem.ClaimMapViews
import Derived.JoinedTies
import Derived.KernelRfl
namespace Go.Proofs.YtoggmkhegbfjfaaGreat
/- THE CELL 'sum', in the pinned program and in every row, IS THE sha256 OF THE DUMP (.gsa) THAT YtoggmkhegbfjfaaGreatProg.lean LOADS. Nothing in Lean hashes anything: it is a label: what it is worth is what the hold of that sum in a sandbox is worth. -/
noncomputable def Tryz.pinned : Pinned := { name := "ytoggmkhegbfjfaagreat", sum := "605ce90695142a6727dbe9ad5cc4a8e592f98647973464393b285d35313dccf4", checked := Tryz.checked }
namespace Rows
def none {H : Type} : Left H := { results := [], args := [] }

/-- 'grisaillelaw35.FillWithBrush': WHATEVER THE INPUT: true; the input reads as it did. -/
def fillWithBrushSpec : ChangeSpec := { name := "fillWithBrush", fn := fun _ => fun
  | [d] => { results := [.lit (.bool true)], args := [d] }
  | _ => none }
def fillWithBrushRow : OpenClaim := { program := "ytoggmkhegbfjfaagreat", sum := "605ce90695142a6727dbe9ad5cc4a8e592f98647973464393b285d35313dccf4", func := "grisaille/grisaillelaw35.FillWithBrush", spec := "fillWithBrush", unfollowed := true, recurses := true, named := ["math/bits.divideError", "math/bits.overflowError"], apart := false }
def FillWithBrushSaid : Prop := fillWithBrushRow.holds Tryz.pinned (OpenSpec.ofChange fillWithBrushSpec)

/-- ITS FALSE NEIGHBOUR: 'it returns false'. Refute it at one input. -/
def fillWithBrushWrong : ChangeSpec := { name := "fillWithBrush", fn := fun _ => fun
  | [d] => { results := [.lit (.bool false)], args := [d] }
  | _ => none }
def FillWithBrushWrongFalsely : Prop := fillWithBrushRow.holds Tryz.pinned (OpenSpec.ofChange fillWithBrushWrong)

/-- 'grisaillelaw35.FillWithColor': WHATEVER THE INPUT: true; the input reads as it did. -/
def fillWithColorSpec : ChangeSpec := { name := "fillWithColor", fn := fun _ => fun
  | [d1, d2, d3] => { results := [.lit (.bool true)], args := [d1, d2, d3] }
  | _ => none }
def fillWithColorRow : OpenClaim := { program := "ytoggmkhegbfjfaagreat", sum := "605ce90695142a6727dbe9ad5cc4a8e592f98647973464393b285d35313dccf4", func := "grisaille/grisaillelaw35.FillWithColor", spec := "fillWithColor", unfollowed := true, recurses := true, named := ["math/bits.divideError", "math/bits.overflowError"], apart := false }
def FillWithColorSaid : Prop := fillWithColorRow.holds Tryz.pinned (OpenSpec.ofChange fillWithColorSpec)

/-- ITS FALSE NEIGHBOUR: 'it returns false'. Refute it at one input. -/
def fillWithColorWrong : ChangeSpec := { name := "fillWithColor", fn := fun _ => fun
  | [d1, d2, d3] => { results := [.lit (.bool false)], args := [d1, d2, d3] }
  | _ => none }
def FillWithColorWrongFalsely : Prop := fillWithColorRow.holds Tryz.pinned (OpenSpec.ofChange fillWithColorWrong)

/-- 'grisaillelaw35.FillBrushBitmap': WHATEVER THE INPUT: true; the input reads as it did. -/
def fillBrushBitmapSpec : ChangeSpec := { name := "fillBrushBitmap", fn := fun _ => fun
  | [d1, d2] => { results := [.lit (.bool true)], args := [d1, d2] }
  | _ => none }
def fillBrushBitmapRow : OpenClaim := { program := "ytoggmkhegbfjfaagreat", sum := "605ce90695142a6727dbe9ad5cc4a8e592f98647973464393b285d35313dccf4", func := "grisaille/grisaillelaw35.FillBrushBitmap", spec := "fillBrushBitmap", unfollowed := true, recurses := true, named := ["math/bits.divideError", "math/bits.overflowError"], apart := false }
def FillBrushBitmapSaid : Prop := fillBrushBitmapRow.holds Tryz.pinned (OpenSpec.ofChange fillBrushBitmapSpec)

/-- ITS FALSE NEIGHBOUR: 'it returns false'. Refute it at one input. -/
def fillBrushBitmapWrong : ChangeSpec := { name := "fillBrushBitmap", fn := fun _ => fun
  | [d1, d2] => { results := [.lit (.bool false)], args := [d1, d2] }
  | _ => none }
def FillBrushBitmapWrongFalsely : Prop := fillBrushBitmapRow.holds Tryz.pinned (OpenSpec.ofChange fillBrushBitmapWrong)

/-- 'grisaillelaw35.FillBlendOver': WHATEVER THE INPUT: true; the input reads as it did. -/
def fillBlendOverSpec : ChangeSpec := { name := "fillBlendOver", fn := fun _ => fun
  | [d] => { results := [.lit (.bool true)], args := [d] }
  | _ => none }
def fillBlendOverRow : OpenClaim := { program := "ytoggmkhegbfjfaagreat", sum := "605ce90695142a6727dbe9ad5cc4a8e592f98647973464393b285d35313dccf4", func := "grisaille/grisaillelaw35.FillBlendOver", spec := "fillBlendOver", unfollowed := true, recurses := true, named := ["math/bits.divideError", "math/bits.overflowError"], apart := false }
def FillBlendOverSaid : Prop := fillBlendOverRow.holds Tryz.pinned (OpenSpec.ofChange fillBlendOverSpec)

/-- ITS FALSE NEIGHBOUR: 'it returns false'. Refute it at one input. -/
def fillBlendOverWrong : ChangeSpec := { name := "fillBlendOver", fn := fun _ => fun
  | [d] => { results := [.lit (.bool false)], args := [d] }
  | _ => none }
def FillBlendOverWrongFalsely : Prop := fillBlendOverRow.holds Tryz.pinned (OpenSpec.ofChange fillBlendOverWrong)

/-- 'grisaillelaw35.FillIndependence': WHATEVER THE INPUT: true; the input reads as it did. -/
def fillIndependenceSpec : ChangeSpec := { name := "fillIndependence", fn := fun _ => fun
  | [d1, d2] => { results := [.lit (.bool true)], args := [d1, d2] }
  | _ => none }
def fillIndependenceRow : OpenClaim := { program := "ytoggmkhegbfjfaagreat", sum := "605ce90695142a6727dbe9ad5cc4a8e592f98647973464393b285d35313dccf4", func := "grisaille/grisaillelaw35.FillIndependence", spec := "fillIndependence", unfollowed := true, recurses := true, named := ["math/bits.divideError", "math/bits.overflowError"], apart := false }
def FillIndependenceSaid : Prop := fillIndependenceRow.holds Tryz.pinned (OpenSpec.ofChange fillIndependenceSpec)

/-- ITS FALSE NEIGHBOUR: 'it returns false'. Refute it at one input. -/
def fillIndependenceWrong : ChangeSpec := { name := "fillIndependence", fn := fun _ => fun
  | [d1, d2] => { results := [.lit (.bool false)], args := [d1, d2] }
  | _ => none }
def FillIndependenceWrongFalsely : Prop := fillIndependenceRow.holds Tryz.pinned (OpenSpec.ofChange fillIndependenceWrong)

/-- 'grisaillelaw35.FillTiled': WHATEVER THE INPUT: true; the input reads as it did. -/
def fillTiledSpec : ChangeSpec := { name := "fillTiled", fn := fun _ => fun
  | [d1, d2, d3] => { results := [.lit (.bool true)], args := [d1, d2, d3] }
  | _ => none }
def fillTiledRow : OpenClaim := { program := "ytoggmkhegbfjfaagreat", sum := "605ce90695142a6727dbe9ad5cc4a8e592f98647973464393b285d35313dccf4", func := "grisaille/grisaillelaw35.FillTiled", spec := "fillTiled", unfollowed := true, recurses := true, named := ["math/bits.divideError", "math/bits.overflowError"], apart := false }
def FillTiledSaid : Prop := fillTiledRow.holds Tryz.pinned (OpenSpec.ofChange fillTiledSpec)

/-- ITS FALSE NEIGHBOUR: 'it returns false'. Refute it at one input. -/
def fillTiledWrong : ChangeSpec := { name := "fillTiled", fn := fun _ => fun
  | [d1, d2, d3] => { results := [.lit (.bool false)], args := [d1, d2, d3] }
  | _ => none }
def FillTiledWrongFalsely : Prop := fillTiledRow.holds Tryz.pinned (OpenSpec.ofChange fillTiledWrong)

/-- 'grisaillelaw35.FillCopyRect': WHATEVER THE INPUT: true; the input reads as it did. -/
def fillCopyRectSpec : ChangeSpec := { name := "fillCopyRect", fn := fun _ => fun
  | [d1, d2, d3] => { results := [.lit (.bool true)], args := [d1, d2, d3] }
  | _ => none }
def fillCopyRectRow : OpenClaim := { program := "ytoggmkhegbfjfaagreat", sum := "605ce90695142a6727dbe9ad5cc4a8e592f98647973464393b285d35313dccf4", func := "grisaille/grisaillelaw35.FillCopyRect", spec := "fillCopyRect", unfollowed := true, recurses := true, named := ["math/bits.divideError", "math/bits.overflowError"], apart := false }
def FillCopyRectSaid : Prop := fillCopyRectRow.holds Tryz.pinned (OpenSpec.ofChange fillCopyRectSpec)

/-- ITS FALSE NEIGHBOUR: 'it returns false'. Refute it at one input. -/
def fillCopyRectWrong : ChangeSpec := { name := "fillCopyRect", fn := fun _ => fun
  | [d1, d2, d3] => { results := [.lit (.bool false)], args := [d1, d2, d3] }
  | _ => none }
def FillCopyRectWrongFalsely : Prop := fillCopyRectRow.holds Tryz.pinned (OpenSpec.ofChange fillCopyRectWrong)

/-- 'grisaillelaw35.FillTiledPattern': WHATEVER THE INPUT: true; the input reads as it did. -/
def fillTiledPatternSpec : ChangeSpec := { name := "fillTiledPattern", fn := fun _ => fun
  | [d1, d2, d3] => { results := [.lit (.bool true)], args := [d1, d2, d3] }
  | _ => none }
def fillTiledPatternRow : OpenClaim := { program := "ytoggmkhegbfjfaagreat", sum := "605ce90695142a6727dbe9ad5cc4a8e592f98647973464393b285d35313dccf4", func := "grisaille/grisaillelaw35.FillTiledPattern", spec := "fillTiledPattern", unfollowed := true, recurses := true, named := ["math/bits.divideError", "math/bits.overflowError"], apart := false }
def FillTiledPatternSaid : Prop := fillTiledPatternRow.holds Tryz.pinned (OpenSpec.ofChange fillTiledPatternSpec)

/-- ITS FALSE NEIGHBOUR: 'it returns false'. Refute it at one input. -/
def fillTiledPatternWrong : ChangeSpec := { name := "fillTiledPattern", fn := fun _ => fun
  | [d1, d2, d3] => { results := [.lit (.bool false)], args := [d1, d2, d3] }
  | _ => none }
def FillTiledPatternWrongFalsely : Prop := fillTiledPatternRow.holds Tryz.pinned (OpenSpec.ofChange fillTiledPatternWrong)

/-- 'grisaillelaw35.FillCopyRectPaste': WHATEVER THE INPUT: true; the input reads as it did. -/
def fillCopyRectPasteSpec : ChangeSpec := { name := "fillCopyRectPaste", fn := fun _ => fun
  | [d1, d2] => { results := [.lit (.bool true)], args := [d1, d2] }
  | _ => none }
def fillCopyRectPasteRow : OpenClaim := { program := "ytoggmkhegbfjfaagreat", sum := "605ce90695142a6727dbe9ad5cc4a8e592f98647973464393b285d35313dccf4", func := "grisaille/grisaillelaw35.FillCopyRectPaste", spec := "fillCopyRectPaste", unfollowed := true, recurses := true, named := ["math/bits.divideError", "math/bits.overflowError"], apart := false }
def FillCopyRectPasteSaid : Prop := fillCopyRectPasteRow.holds Tryz.pinned (OpenSpec.ofChange fillCopyRectPasteSpec)

/-- ITS FALSE NEIGHBOUR: 'it returns false'. Refute it at one input. -/
def fillCopyRectPasteWrong : ChangeSpec := { name := "fillCopyRectPaste", fn := fun _ => fun
  | [d1, d2] => { results := [.lit (.bool false)], args := [d1, d2] }
  | _ => none }
def FillCopyRectPasteWrongFalsely : Prop := fillCopyRectPasteRow.holds Tryz.pinned (OpenSpec.ofChange fillCopyRectPasteWrong)

/- THE SECOND FORM. 'bulk': how many values and letters a reading holds, each counted each time it is reached (what is shared counts as often as it is met; a slice's spare places count too). A statement '..UptoSaid' is the law's where the arguments, and the package variables that the reading takes, are together of bulk at most 1048576: NARROWER than '..Said'. Prove '..Said' where nothing that the law and all that it calls make is longer than what came in: it says more and counts as full. Else prove '..UptoSaid'. A law counts once. -/
mutual
def uptoBulk {H : Type} : DataW H → Nat
  | .lit (.string bytes) => bytes.length + 1
  | .lit _ => 1
  | .nil => 1
  | .ptr d => uptoBulk d + 1
  | .slice elems spare => uptoBulkAll elems + uptoBulkAll spare + 1
  | .agg parts => uptoBulkAll parts + 1
  | .iface _ d => uptoBulk d + 1
  | .map entries => uptoBulkEntries entries + 1
  | .held _ => 1
def uptoBulkAll {H : Type} : List (DataW H) → Nat
  | [] => 0
  | d :: r => uptoBulk d + uptoBulkAll r
def uptoBulkEntries {H : Type} : List (Lit × DataW H) → Nat
  | [] => 0
  | x :: r => uptoBulkEntry x + uptoBulkEntries r
def uptoBulkEntry {H : Type} : Lit × DataW H → Nat
  | (.string bytes, d) => bytes.length + uptoBulk d + 1
  | (_, d) => uptoBulk d + 1
 end
def uptoSmall : (H : Type) → List (DataW H) → Bool := fun _ ds => decide (uptoBulkAll ds ≤ 1048576)
def OpenSpec.upto (s : _root_.Go.ChangeSpec) : _root_.Go.OpenSpec := { _root_.Go.OpenSpec.ofChange s with cond := some uptoSmall }

/-- 'grisaillelaw35.FillWithBrush', WHERE WHAT IT READS IS OF BULK AT MOST 1048576: true; the input reads as it did. -/
def fillWithBrushUptoRow : OpenClaim := { program := "ytoggmkhegbfjfaagreat", sum := "605ce90695142a6727dbe9ad5cc4a8e592f98647973464393b285d35313dccf4", func := "grisaille/grisaillelaw35.FillWithBrush", spec := "fillWithBrush", unfollowed := true, recurses := true, named := ["math/bits.divideError", "math/bits.overflowError"], apart := false, narrowed := true }
def FillWithBrushUptoSaid : Prop := fillWithBrushUptoRow.holds Tryz.pinned (OpenSpec.upto fillWithBrushSpec)

/-- 'grisaillelaw35.FillWithColor', WHERE WHAT IT READS IS OF BULK AT MOST 1048576: true; the input reads as it did. -/
def fillWithColorUptoRow : OpenClaim := { program := "ytoggmkhegbfjfaagreat", sum := "605ce90695142a6727dbe9ad5cc4a8e592f98647973464393b285d35313dccf4", func := "grisaille/grisaillelaw35.FillWithColor", spec := "fillWithColor", unfollowed := true, recurses := true, named := ["math/bits.divideError", "math/bits.overflowError"], apart := false, narrowed := true }
def FillWithColorUptoSaid : Prop := fillWithColorUptoRow.holds Tryz.pinned (OpenSpec.upto fillWithColorSpec)

/-- 'grisaillelaw35.FillBrushBitmap', WHERE WHAT IT READS IS OF BULK AT MOST 1048576: true; the input reads as it did. -/
def fillBrushBitmapUptoRow : OpenClaim := { program := "ytoggmkhegbfjfaagreat", sum := "605ce90695142a6727dbe9ad5cc4a8e592f98647973464393b285d35313dccf4", func := "grisaille/grisaillelaw35.FillBrushBitmap", spec := "fillBrushBitmap", unfollowed := true, recurses := true, named := ["math/bits.divideError", "math/bits.overflowError"], apart := false, narrowed := true }
def FillBrushBitmapUptoSaid : Prop := fillBrushBitmapUptoRow.holds Tryz.pinned (OpenSpec.upto fillBrushBitmapSpec)

/-- 'grisaillelaw35.FillBlendOver', WHERE WHAT IT READS IS OF BULK AT MOST 1048576: true; the input reads as it did. -/
def fillBlendOverUptoRow : OpenClaim := { program := "ytoggmkhegbfjfaagreat", sum := "605ce90695142a6727dbe9ad5cc4a8e592f98647973464393b285d35313dccf4", func := "grisaille/grisaillelaw35.FillBlendOver", spec := "fillBlendOver", unfollowed := true, recurses := true, named := ["math/bits.divideError", "math/bits.overflowError"], apart := false, narrowed := true }
def FillBlendOverUptoSaid : Prop := fillBlendOverUptoRow.holds Tryz.pinned (OpenSpec.upto fillBlendOverSpec)

/-- 'grisaillelaw35.FillIndependence', WHERE WHAT IT READS IS OF BULK AT MOST 1048576: true; the input reads as it did. -/
def fillIndependenceUptoRow : OpenClaim := { program := "ytoggmkhegbfjfaagreat", sum := "605ce90695142a6727dbe9ad5cc4a8e592f98647973464393b285d35313dccf4", func := "grisaille/grisaillelaw35.FillIndependence", spec := "fillIndependence", unfollowed := true, recurses := true, named := ["math/bits.divideError", "math/bits.overflowError"], apart := false, narrowed := true }
def FillIndependenceUptoSaid : Prop := fillIndependenceUptoRow.holds Tryz.pinned (OpenSpec.upto fillIndependenceSpec)

/-- 'grisaillelaw35.FillTiled', WHERE WHAT IT READS IS OF BULK AT MOST 1048576: true; the input reads as it did. -/
def fillTiledUptoRow : OpenClaim := { program := "ytoggmkhegbfjfaagreat", sum := "605ce90695142a6727dbe9ad5cc4a8e592f98647973464393b285d35313dccf4", func := "grisaille/grisaillelaw35.FillTiled", spec := "fillTiled", unfollowed := true, recurses := true, named := ["math/bits.divideError", "math/bits.overflowError"], apart := false, narrowed := true }
def FillTiledUptoSaid : Prop := fillTiledUptoRow.holds Tryz.pinned (OpenSpec.upto fillTiledSpec)

/-- 'grisaillelaw35.FillCopyRect', WHERE WHAT IT READS IS OF BULK AT MOST 1048576: true; the input reads as it did. -/
def fillCopyRectUptoRow : OpenClaim := { program := "ytoggmkhegbfjfaagreat", sum := "605ce90695142a6727dbe9ad5cc4a8e592f98647973464393b285d35313dccf4", func := "grisaille/grisaillelaw35.FillCopyRect", spec := "fillCopyRect", unfollowed := true, recurses := true, named := ["math/bits.divideError", "math/bits.overflowError"], apart := false, narrowed := true }
def FillCopyRectUptoSaid : Prop := fillCopyRectUptoRow.holds Tryz.pinned (OpenSpec.upto fillCopyRectSpec)

/-- 'grisaillelaw35.FillTiledPattern', WHERE WHAT IT READS IS OF BULK AT MOST 1048576: true; the input reads as it did. -/
def fillTiledPatternUptoRow : OpenClaim := { program := "ytoggmkhegbfjfaagreat", sum := "605ce90695142a6727dbe9ad5cc4a8e592f98647973464393b285d35313dccf4", func := "grisaille/grisaillelaw35.FillTiledPattern", spec := "fillTiledPattern", unfollowed := true, recurses := true, named := ["math/bits.divideError", "math/bits.overflowError"], apart := false, narrowed := true }
def FillTiledPatternUptoSaid : Prop := fillTiledPatternUptoRow.holds Tryz.pinned (OpenSpec.upto fillTiledPatternSpec)

/-- 'grisaillelaw35.FillCopyRectPaste', WHERE WHAT IT READS IS OF BULK AT MOST 1048576: true; the input reads as it did. -/
def fillCopyRectPasteUptoRow : OpenClaim := { program := "ytoggmkhegbfjfaagreat", sum := "605ce90695142a6727dbe9ad5cc4a8e592f98647973464393b285d35313dccf4", func := "grisaille/grisaillelaw35.FillCopyRectPaste", spec := "fillCopyRectPaste", unfollowed := true, recurses := true, named := ["math/bits.divideError", "math/bits.overflowError"], apart := false, narrowed := true }
def FillCopyRectPasteUptoSaid : Prop := fillCopyRectPasteUptoRow.holds Tryz.pinned (OpenSpec.upto fillCopyRectPasteSpec)

end Rows
end Go.Proofs.YtoggmkhegbfjfaaGreat
