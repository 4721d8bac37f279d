/-
  No cell of these rows narrows 'for every input' (looked for: loops, veiled, ifaces, maps, wideKeys, modest, calm, conditions, laid).
  DERIVED. THE GIVEN ROWS OF THIS SEAT. 7 by the template 'for every input the law returns true; each argument reads behind the call as it read before'; 0 by the template 'total and deterministic' (their statements: YteofppfcpbipdaaGreatTotals.lean).
  GIVEN WITH THE SEED: the statements are not yours to turn. If you find one false, say at which input.
  Laid BY PROGRAM, IN A SANDBOX (cutbox-rows.mjs): the forced cells as the released guide's own fill.sh prints them over the translation 5c02ab973e735f82… (all of the seat's roots in one cut). By AI agents, Wed Nov 11 2026. No macro, syntax, notation, axiom, sorry.
-/
import Derived.Test.YteofppfcpbipdaaGreatChecked
import GoSem.Claim
import GoSem.ClaimJoined
import GoSem.ClaimMapViews
import Derived.JoinedTies
import Derived.KernelRfl
namespace Go.Proofs.YteofppfcpbipdaaGreat
/- THE CELL 'sum', in the pinned program and in every row, IS THE sha256 OF THE DUMP (.gsa) THAT YteofppfcpbipdaaGreatProg.lean LOADS. Nothing in Lean hashes anything: it is a label: what it is worth is what the hold of that sum in a sandbox is worth. -/
noncomputable def Tryz.pinned : Pinned := { name := "yteofppfcpbipdaagreat", sum := "5c02ab973e735f820c8dddabef3833052243bbc55177bb20345a727b13da5a23", checked := Tryz.checked }
namespace Rows
def none {H : Type} : Left H := { results := [], args := [] }

/-- 'grisaillelaw34.PaintValidity': WHATEVER THE INPUT: true; the input reads as it did. -/
def paintValiditySpec : ChangeSpec := { name := "paintValidity", fn := fun _ => fun
  | [d1, d2] => { results := [.lit (.bool true)], args := [d1, d2] }
  | _ => none }
def paintValidityRow : OpenClaim := { program := "yteofppfcpbipdaagreat", sum := "5c02ab973e735f820c8dddabef3833052243bbc55177bb20345a727b13da5a23", func := "grisaille/grisaillelaw34.PaintValidity", spec := "paintValidity", unfollowed := true, recurses := true, named := ["math/bits.divideError", "math/bits.overflowError"], apart := false }
def PaintValiditySaid : Prop := paintValidityRow.holds Tryz.pinned (OpenSpec.ofChange paintValiditySpec)

/-- ITS FALSE NEIGHBOUR: 'it returns false'. Refute it at one input. -/
def paintValidityWrong : ChangeSpec := { name := "paintValidity", fn := fun _ => fun
  | [d1, d2] => { results := [.lit (.bool false)], args := [d1, d2] }
  | _ => none }
def PaintValidityWrongFalsely : Prop := paintValidityRow.holds Tryz.pinned (OpenSpec.ofChange paintValidityWrong)

/-- 'grisaillelaw34.PaintPixels': WHATEVER THE INPUT: true; the input reads as it did. -/
def paintPixelsSpec : ChangeSpec := { name := "paintPixels", fn := fun _ => fun
  | [d1, d2, d3, d4] => { results := [.lit (.bool true)], args := [d1, d2, d3, d4] }
  | _ => none }
def paintPixelsRow : OpenClaim := { program := "yteofppfcpbipdaagreat", sum := "5c02ab973e735f820c8dddabef3833052243bbc55177bb20345a727b13da5a23", func := "grisaille/grisaillelaw34.PaintPixels", spec := "paintPixels", unfollowed := true, recurses := true, named := ["math/bits.divideError", "math/bits.overflowError"], apart := false }
def PaintPixelsSaid : Prop := paintPixelsRow.holds Tryz.pinned (OpenSpec.ofChange paintPixelsSpec)

/-- ITS FALSE NEIGHBOUR: 'it returns false'. Refute it at one input. -/
def paintPixelsWrong : ChangeSpec := { name := "paintPixels", fn := fun _ => fun
  | [d1, d2, d3, d4] => { results := [.lit (.bool false)], args := [d1, d2, d3, d4] }
  | _ => none }
def PaintPixelsWrongFalsely : Prop := paintPixelsRow.holds Tryz.pinned (OpenSpec.ofChange paintPixelsWrong)

/-- 'grisaillelaw34.PaintIndependent': WHATEVER THE INPUT: true; the input reads as it did. -/
def paintIndependentSpec : ChangeSpec := { name := "paintIndependent", fn := fun _ => fun
  | [d1, d2, d3] => { results := [.lit (.bool true)], args := [d1, d2, d3] }
  | _ => none }
def paintIndependentRow : OpenClaim := { program := "yteofppfcpbipdaagreat", sum := "5c02ab973e735f820c8dddabef3833052243bbc55177bb20345a727b13da5a23", func := "grisaille/grisaillelaw34.PaintIndependent", spec := "paintIndependent", unfollowed := true, recurses := true, named := ["math/bits.divideError", "math/bits.overflowError"], apart := false }
def PaintIndependentSaid : Prop := paintIndependentRow.holds Tryz.pinned (OpenSpec.ofChange paintIndependentSpec)

/-- ITS FALSE NEIGHBOUR: 'it returns false'. Refute it at one input. -/
def paintIndependentWrong : ChangeSpec := { name := "paintIndependent", fn := fun _ => fun
  | [d1, d2, d3] => { results := [.lit (.bool false)], args := [d1, d2, d3] }
  | _ => none }
def PaintIndependentWrongFalsely : Prop := paintIndependentRow.holds Tryz.pinned (OpenSpec.ofChange paintIndependentWrong)

/-- 'grisaillelaw34.PaintSolidColor': WHATEVER THE INPUT: true; the input reads as it did. -/
def paintSolidColorSpec : ChangeSpec := { name := "paintSolidColor", fn := fun _ => fun
  | [d1, d2, d3, d4] => { results := [.lit (.bool true)], args := [d1, d2, d3, d4] }
  | _ => none }
def paintSolidColorRow : OpenClaim := { program := "yteofppfcpbipdaagreat", sum := "5c02ab973e735f820c8dddabef3833052243bbc55177bb20345a727b13da5a23", func := "grisaille/grisaillelaw34.PaintSolidColor", spec := "paintSolidColor", unfollowed := true, recurses := true, named := ["math/bits.divideError", "math/bits.overflowError"], apart := false }
def PaintSolidColorSaid : Prop := paintSolidColorRow.holds Tryz.pinned (OpenSpec.ofChange paintSolidColorSpec)

/-- ITS FALSE NEIGHBOUR: 'it returns false'. Refute it at one input. -/
def paintSolidColorWrong : ChangeSpec := { name := "paintSolidColor", fn := fun _ => fun
  | [d1, d2, d3, d4] => { results := [.lit (.bool false)], args := [d1, d2, d3, d4] }
  | _ => none }
def PaintSolidColorWrongFalsely : Prop := paintSolidColorRow.holds Tryz.pinned (OpenSpec.ofChange paintSolidColorWrong)

/-- 'grisaillelaw34.PaintTranslation': WHATEVER THE INPUT: true; the input reads as it did. -/
def paintTranslationSpec : ChangeSpec := { name := "paintTranslation", fn := fun _ => fun
  | [d1, d2, d3, d4, d5, d6] => { results := [.lit (.bool true)], args := [d1, d2, d3, d4, d5, d6] }
  | _ => none }
def paintTranslationRow : OpenClaim := { program := "yteofppfcpbipdaagreat", sum := "5c02ab973e735f820c8dddabef3833052243bbc55177bb20345a727b13da5a23", func := "grisaille/grisaillelaw34.PaintTranslation", spec := "paintTranslation", unfollowed := true, recurses := true, named := ["math/bits.divideError", "math/bits.overflowError"], apart := false }
def PaintTranslationSaid : Prop := paintTranslationRow.holds Tryz.pinned (OpenSpec.ofChange paintTranslationSpec)

/-- ITS FALSE NEIGHBOUR: 'it returns false'. Refute it at one input. -/
def paintTranslationWrong : ChangeSpec := { name := "paintTranslation", fn := fun _ => fun
  | [d1, d2, d3, d4, d5, d6] => { results := [.lit (.bool false)], args := [d1, d2, d3, d4, d5, d6] }
  | _ => none }
def PaintTranslationWrongFalsely : Prop := paintTranslationRow.holds Tryz.pinned (OpenSpec.ofChange paintTranslationWrong)

/-- 'grisaillelaw34.PaintRows': WHATEVER THE INPUT: true; the input reads as it did. -/
def paintRowsSpec : ChangeSpec := { name := "paintRows", fn := fun _ => fun
  | [d1, d2, d3, d4, d5] => { results := [.lit (.bool true)], args := [d1, d2, d3, d4, d5] }
  | _ => none }
def paintRowsRow : OpenClaim := { program := "yteofppfcpbipdaagreat", sum := "5c02ab973e735f820c8dddabef3833052243bbc55177bb20345a727b13da5a23", func := "grisaille/grisaillelaw34.PaintRows", spec := "paintRows", unfollowed := true, recurses := true, named := ["math/bits.divideError", "math/bits.overflowError"], apart := false }
def PaintRowsSaid : Prop := paintRowsRow.holds Tryz.pinned (OpenSpec.ofChange paintRowsSpec)

/-- ITS FALSE NEIGHBOUR: 'it returns false'. Refute it at one input. -/
def paintRowsWrong : ChangeSpec := { name := "paintRows", fn := fun _ => fun
  | [d1, d2, d3, d4, d5] => { results := [.lit (.bool false)], args := [d1, d2, d3, d4, d5] }
  | _ => none }
def PaintRowsWrongFalsely : Prop := paintRowsRow.holds Tryz.pinned (OpenSpec.ofChange paintRowsWrong)

/-- 'grisaillelaw34.PaintNilBrush': WHATEVER THE INPUT: true; the input reads as it did. -/
def paintNilBrushSpec : ChangeSpec := { name := "paintNilBrush", fn := fun _ => fun
  | [d1, d2, d3] => { results := [.lit (.bool true)], args := [d1, d2, d3] }
  | _ => none }
def paintNilBrushRow : OpenClaim := { program := "yteofppfcpbipdaagreat", sum := "5c02ab973e735f820c8dddabef3833052243bbc55177bb20345a727b13da5a23", func := "grisaille/grisaillelaw34.PaintNilBrush", spec := "paintNilBrush", unfollowed := true, recurses := true, named := ["math/bits.divideError", "math/bits.overflowError"], apart := false }
def PaintNilBrushSaid : Prop := paintNilBrushRow.holds Tryz.pinned (OpenSpec.ofChange paintNilBrushSpec)

/-- ITS FALSE NEIGHBOUR: 'it returns false'. Refute it at one input. -/
def paintNilBrushWrong : ChangeSpec := { name := "paintNilBrush", fn := fun _ => fun
  | [d1, d2, d3] => { results := [.lit (.bool false)], args := [d1, d2, d3] }
  | _ => none }
def PaintNilBrushWrongFalsely : Prop := paintNilBrushRow.holds Tryz.pinned (OpenSpec.ofChange paintNilBrushWrong)

/- THE SECOND FORM. 'bulk': how many values and letters a reading holds, each counted each time it is reached (what is shared counts as often as it is met; a slice's spare places count too). A statement '..UptoSaid' is the law's where the arguments, and the package variables that the reading takes, are together of bulk at most 1048576: NARROWER than '..Said'. Prove '..Said' where nothing that the law and all that it calls make is longer than what came in: it says more and counts as full. Else prove '..UptoSaid'. A law counts once. -/
mutual
def uptoBulk {H : Type} : DataW H → Nat
  | .lit (.string bytes) => bytes.length + 1
  | .lit _ => 1
  | .nil => 1
  | .ptr d => uptoBulk d + 1
  | .slice elems spare => uptoBulkAll elems + uptoBulkAll spare + 1
  | .agg parts => uptoBulkAll parts + 1
  | .iface _ d => uptoBulk d + 1
  | .map entries => uptoBulkEntries entries + 1
  | .held _ => 1
def uptoBulkAll {H : Type} : List (DataW H) → Nat
  | [] => 0
  | d :: r => uptoBulk d + uptoBulkAll r
def uptoBulkEntries {H : Type} : List (Lit × DataW H) → Nat
  | [] => 0
  | x :: r => uptoBulkEntry x + uptoBulkEntries r
def uptoBulkEntry {H : Type} : Lit × DataW H → Nat
  | (.string bytes, d) => bytes.length + uptoBulk d + 1
  | (_, d) => uptoBulk d + 1
 end
def uptoSmall : (H : Type) → List (DataW H) → Bool := fun _ ds => decide (uptoBulkAll ds ≤ 1048576)
def OpenSpec.upto (s : _root_.Go.ChangeSpec) : _root_.Go.OpenSpec := { _root_.Go.OpenSpec.ofChange s with cond := some uptoSmall }

/-- 'grisaillelaw34.PaintValidity', WHERE WHAT IT READS IS OF BULK AT MOST 1048576: true; the input reads as it did. -/
def paintValidityUptoRow : OpenClaim := { program := "yteofppfcpbipdaagreat", sum := "5c02ab973e735f820c8dddabef3833052243bbc55177bb20345a727b13da5a23", func := "grisaille/grisaillelaw34.PaintValidity", spec := "paintValidity", unfollowed := true, recurses := true, named := ["math/bits.divideError", "math/bits.overflowError"], apart := false, narrowed := true }
def PaintValidityUptoSaid : Prop := paintValidityUptoRow.holds Tryz.pinned (OpenSpec.upto paintValiditySpec)

/-- 'grisaillelaw34.PaintPixels', WHERE WHAT IT READS IS OF BULK AT MOST 1048576: true; the input reads as it did. -/
def paintPixelsUptoRow : OpenClaim := { program := "yteofppfcpbipdaagreat", sum := "5c02ab973e735f820c8dddabef3833052243bbc55177bb20345a727b13da5a23", func := "grisaille/grisaillelaw34.PaintPixels", spec := "paintPixels", unfollowed := true, recurses := true, named := ["math/bits.divideError", "math/bits.overflowError"], apart := false, narrowed := true }
def PaintPixelsUptoSaid : Prop := paintPixelsUptoRow.holds Tryz.pinned (OpenSpec.upto paintPixelsSpec)

/-- 'grisaillelaw34.PaintIndependent', WHERE WHAT IT READS IS OF BULK AT MOST 1048576: true; the input reads as it did. -/
def paintIndependentUptoRow : OpenClaim := { program := "yteofppfcpbipdaagreat", sum := "5c02ab973e735f820c8dddabef3833052243bbc55177bb20345a727b13da5a23", func := "grisaille/grisaillelaw34.PaintIndependent", spec := "paintIndependent", unfollowed := true, recurses := true, named := ["math/bits.divideError", "math/bits.overflowError"], apart := false, narrowed := true }
def PaintIndependentUptoSaid : Prop := paintIndependentUptoRow.holds Tryz.pinned (OpenSpec.upto paintIndependentSpec)

/-- 'grisaillelaw34.PaintSolidColor', WHERE WHAT IT READS IS OF BULK AT MOST 1048576: true; the input reads as it did. -/
def paintSolidColorUptoRow : OpenClaim := { program := "yteofppfcpbipdaagreat", sum := "5c02ab973e735f820c8dddabef3833052243bbc55177bb20345a727b13da5a23", func := "grisaille/grisaillelaw34.PaintSolidColor", spec := "paintSolidColor", unfollowed := true, recurses := true, named := ["math/bits.divideError", "math/bits.overflowError"], apart := false, narrowed := true }
def PaintSolidColorUptoSaid : Prop := paintSolidColorUptoRow.holds Tryz.pinned (OpenSpec.upto paintSolidColorSpec)

/-- 'grisaillelaw34.PaintTranslation', WHERE WHAT IT READS IS OF BULK AT MOST 1048576: true; the input reads as it did. -/
def paintTranslationUptoRow : OpenClaim := { program := "yteofppfcpbipdaagreat", sum := "5c02ab973e735f820c8dddabef3833052243bbc55177bb20345a727b13da5a23", func := "grisaille/grisaillelaw34.PaintTranslation", spec := "paintTranslation", unfollowed := true, recurses := true, named := ["math/bits.divideError", "math/bits.overflowError"], apart := false, narrowed := true }
def PaintTranslationUptoSaid : Prop := paintTranslationUptoRow.holds Tryz.pinned (OpenSpec.upto paintTranslationSpec)

/-- 'grisaillelaw34.PaintRows', WHERE WHAT IT READS IS OF BULK AT MOST 1048576: true; the input reads as it did. -/
def paintRowsUptoRow : OpenClaim := { program := "yteofppfcpbipdaagreat", sum := "5c02ab973e735f820c8dddabef3833052243bbc55177bb20345a727b13da5a23", func := "grisaille/grisaillelaw34.PaintRows", spec := "paintRows", unfollowed := true, recurses := true, named := ["math/bits.divideError", "math/bits.overflowError"], apart := false, narrowed := true }
def PaintRowsUptoSaid : Prop := paintRowsUptoRow.holds Tryz.pinned (OpenSpec.upto paintRowsSpec)

/-- 'grisaillelaw34.PaintNilBrush', WHERE WHAT IT READS IS OF BULK AT MOST 1048576: true; the input reads as it did. -/
def paintNilBrushUptoRow : OpenClaim := { program := "yteofppfcpbipdaagreat", sum := "5c02ab973e735f820c8dddabef3833052243bbc55177bb20345a727b13da5a23", func := "grisaille/grisaillelaw34.PaintNilBrush", spec := "paintNilBrush", unfollowed := true, recurses := true, named := ["math/bits.divideError", "math/bits.overflowError"], apart := false, narrowed := true }
def PaintNilBrushUptoSaid : Prop := paintNilBrushUptoRow.holds Tryz.pinned (OpenSpec.upto paintNilBrushSpec)

end Rows
end Go.Proofs.YteofppfcpbipdaaGreat
