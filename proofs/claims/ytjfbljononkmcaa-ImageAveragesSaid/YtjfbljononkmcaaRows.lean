/-
  No cell of these rows narrows 'for every input' (looked for: loops, veiled, ifaces, maps, wideKeys, modest, calm, conditions, laid).
  DERIVED. THE GIVEN ROWS OF THIS SEAT. 8 by the template 'for every input the law returns true; each argument reads behind the call as it read before'; 0 by the template 'total and deterministic' (their statements: YtjfbljononkmcaaTotals.lean).
  GIVEN WITH THE SEED: the statements are not yours to turn. If you find one false, say at which input.
  Laid BY PROGRAM, IN A SANDBOX (cutbox-rows.mjs): the forced cells as the released guide's own fill.sh prints them over the translation e3331b9e60690725… (all of the seat's roots in one cut). By AI agents, Wed Nov 11 2026. No macro, syntax, notation, axiom, sorry.
-/
import Derived.Test.YtjfbljononkmcaaChecked
import GoSem.Claim
import GoSem.ClaimJoined
import GoSem.ClaimMapViews
import Derived.JoinedTies
import Derived.KernelRfl
namespace Go.Proofs.Ytjfbljononkmcaa
/- THE CELL 'sum', in the pinned program and in every row, IS THE sha256 OF THE DUMP (.gsa) THAT YtjfbljononkmcaaProg.lean LOADS. Nothing in Lean hashes anything: it is a label: what it is worth is what the hold of that sum in a sandbox is worth. -/
noncomputable def Try.pinned : Pinned := { name := "ytjfbljononkmcaa", sum := "e3331b9e60690725aed364629b721b2fc4fb4dd3582b10a95e64f2d235b1520f", checked := Try.checked }
namespace Rows
def none {H : Type} : Left H := { results := [], args := [] }

/-- 'grisaillelaw33.ImageWrapIndex': WHATEVER THE INPUT: true; the input reads as it did. -/
def imageWrapIndexSpec : ChangeSpec := { name := "imageWrapIndex", fn := fun _ => fun
  | [d1, d2, d3] => { results := [.lit (.bool true)], args := [d1, d2, d3] }
  | _ => none }
def imageWrapIndexRow : OpenClaim := { program := "ytjfbljononkmcaa", sum := "e3331b9e60690725aed364629b721b2fc4fb4dd3582b10a95e64f2d235b1520f", func := "grisaille/grisaillelaw33.ImageWrapIndex", spec := "imageWrapIndex", unfollowed := true, recurses := true, apart := false }
def ImageWrapIndexSaid : Prop := imageWrapIndexRow.holds Try.pinned (OpenSpec.ofChange imageWrapIndexSpec)

/-- ITS FALSE NEIGHBOUR: 'it returns false'. Refute it at one input. -/
def imageWrapIndexWrong : ChangeSpec := { name := "imageWrapIndex", fn := fun _ => fun
  | [d1, d2, d3] => { results := [.lit (.bool false)], args := [d1, d2, d3] }
  | _ => none }
def ImageWrapIndexWrongFalsely : Prop := imageWrapIndexRow.holds Try.pinned (OpenSpec.ofChange imageWrapIndexWrong)

/-- 'grisaillelaw33.ImageCrop': WHATEVER THE INPUT: true; the input reads as it did. -/
def imageCropSpec : ChangeSpec := { name := "imageCrop", fn := fun _ => fun
  | [d1, d2] => { results := [.lit (.bool true)], args := [d1, d2] }
  | _ => none }
def imageCropRow : OpenClaim := { program := "ytjfbljononkmcaa", sum := "e3331b9e60690725aed364629b721b2fc4fb4dd3582b10a95e64f2d235b1520f", func := "grisaille/grisaillelaw33.ImageCrop", spec := "imageCrop", unfollowed := true, recurses := true, apart := false }
def ImageCropSaid : Prop := imageCropRow.holds Try.pinned (OpenSpec.ofChange imageCropSpec)

/-- ITS FALSE NEIGHBOUR: 'it returns false'. Refute it at one input. -/
def imageCropWrong : ChangeSpec := { name := "imageCrop", fn := fun _ => fun
  | [d1, d2] => { results := [.lit (.bool false)], args := [d1, d2] }
  | _ => none }
def ImageCropWrongFalsely : Prop := imageCropRow.holds Try.pinned (OpenSpec.ofChange imageCropWrong)

/-- 'grisaillelaw33.ImageTexel': WHATEVER THE INPUT: true; the input reads as it did. -/
def imageTexelSpec : ChangeSpec := { name := "imageTexel", fn := fun _ => fun
  | [d1, d2, d3] => { results := [.lit (.bool true)], args := [d1, d2, d3] }
  | _ => none }
def imageTexelRow : OpenClaim := { program := "ytjfbljononkmcaa", sum := "e3331b9e60690725aed364629b721b2fc4fb4dd3582b10a95e64f2d235b1520f", func := "grisaille/grisaillelaw33.ImageTexel", spec := "imageTexel", unfollowed := true, recurses := true, apart := false }
def ImageTexelSaid : Prop := imageTexelRow.holds Try.pinned (OpenSpec.ofChange imageTexelSpec)

/-- ITS FALSE NEIGHBOUR: 'it returns false'. Refute it at one input. -/
def imageTexelWrong : ChangeSpec := { name := "imageTexel", fn := fun _ => fun
  | [d1, d2, d3] => { results := [.lit (.bool false)], args := [d1, d2, d3] }
  | _ => none }
def ImageTexelWrongFalsely : Prop := imageTexelRow.holds Try.pinned (OpenSpec.ofChange imageTexelWrong)

/-- 'grisaillelaw33.ImageCropTexels': WHATEVER THE INPUT: true; the input reads as it did. -/
def imageCropTexelsSpec : ChangeSpec := { name := "imageCropTexels", fn := fun _ => fun
  | [d1, d2, d3] => { results := [.lit (.bool true)], args := [d1, d2, d3] }
  | _ => none }
def imageCropTexelsRow : OpenClaim := { program := "ytjfbljononkmcaa", sum := "e3331b9e60690725aed364629b721b2fc4fb4dd3582b10a95e64f2d235b1520f", func := "grisaille/grisaillelaw33.ImageCropTexels", spec := "imageCropTexels", unfollowed := true, recurses := true, apart := false }
def ImageCropTexelsSaid : Prop := imageCropTexelsRow.holds Try.pinned (OpenSpec.ofChange imageCropTexelsSpec)

/-- ITS FALSE NEIGHBOUR: 'it returns false'. Refute it at one input. -/
def imageCropTexelsWrong : ChangeSpec := { name := "imageCropTexels", fn := fun _ => fun
  | [d1, d2, d3] => { results := [.lit (.bool false)], args := [d1, d2, d3] }
  | _ => none }
def ImageCropTexelsWrongFalsely : Prop := imageCropTexelsRow.holds Try.pinned (OpenSpec.ofChange imageCropTexelsWrong)

/-- 'grisaillelaw33.ImageDither': WHATEVER THE INPUT: true; the input reads as it did. -/
def imageDitherSpec : ChangeSpec := { name := "imageDither", fn := fun _ => fun
  | [d1, d2] => { results := [.lit (.bool true)], args := [d1, d2] }
  | _ => none }
def imageDitherRow : OpenClaim := { program := "ytjfbljononkmcaa", sum := "e3331b9e60690725aed364629b721b2fc4fb4dd3582b10a95e64f2d235b1520f", func := "grisaille/grisaillelaw33.ImageDither", spec := "imageDither", unfollowed := true, recurses := true, named := ["math/bits.divideError", "math/bits.overflowError"], apart := false }
def ImageDitherSaid : Prop := imageDitherRow.holds Try.pinned (OpenSpec.ofChange imageDitherSpec)

/-- ITS FALSE NEIGHBOUR: 'it returns false'. Refute it at one input. -/
def imageDitherWrong : ChangeSpec := { name := "imageDither", fn := fun _ => fun
  | [d1, d2] => { results := [.lit (.bool false)], args := [d1, d2] }
  | _ => none }
def ImageDitherWrongFalsely : Prop := imageDitherRow.holds Try.pinned (OpenSpec.ofChange imageDitherWrong)

/-- 'grisaillelaw33.ImageResize': WHATEVER THE INPUT: true; the input reads as it did. -/
def imageResizeSpec : ChangeSpec := { name := "imageResize", fn := fun _ => fun
  | [d1, d2, d3] => { results := [.lit (.bool true)], args := [d1, d2, d3] }
  | _ => none }
def imageResizeRow : OpenClaim := { program := "ytjfbljononkmcaa", sum := "e3331b9e60690725aed364629b721b2fc4fb4dd3582b10a95e64f2d235b1520f", func := "grisaille/grisaillelaw33.ImageResize", spec := "imageResize", unfollowed := true, recurses := true, named := ["math/bits.divideError", "math/bits.overflowError"], apart := false }
def ImageResizeSaid : Prop := imageResizeRow.holds Try.pinned (OpenSpec.ofChange imageResizeSpec)

/-- ITS FALSE NEIGHBOUR: 'it returns false'. Refute it at one input. -/
def imageResizeWrong : ChangeSpec := { name := "imageResize", fn := fun _ => fun
  | [d1, d2, d3] => { results := [.lit (.bool false)], args := [d1, d2, d3] }
  | _ => none }
def ImageResizeWrongFalsely : Prop := imageResizeRow.holds Try.pinned (OpenSpec.ofChange imageResizeWrong)

/-- 'grisaillelaw33.ImageQuantize': WHATEVER THE INPUT: true; the input reads as it did. -/
def imageQuantizeSpec : ChangeSpec := { name := "imageQuantize", fn := fun _ => fun
  | [d1, d2] => { results := [.lit (.bool true)], args := [d1, d2] }
  | _ => none }
def imageQuantizeRow : OpenClaim := { program := "ytjfbljononkmcaa", sum := "e3331b9e60690725aed364629b721b2fc4fb4dd3582b10a95e64f2d235b1520f", func := "grisaille/grisaillelaw33.ImageQuantize", spec := "imageQuantize", unfollowed := true, recurses := true, named := ["math/bits.divideError", "math/bits.overflowError"], apart := false }
def ImageQuantizeSaid : Prop := imageQuantizeRow.holds Try.pinned (OpenSpec.ofChange imageQuantizeSpec)

/-- ITS FALSE NEIGHBOUR: 'it returns false'. Refute it at one input. -/
def imageQuantizeWrong : ChangeSpec := { name := "imageQuantize", fn := fun _ => fun
  | [d1, d2] => { results := [.lit (.bool false)], args := [d1, d2] }
  | _ => none }
def ImageQuantizeWrongFalsely : Prop := imageQuantizeRow.holds Try.pinned (OpenSpec.ofChange imageQuantizeWrong)

/-- 'grisaillelaw33.ImageAverages': WHATEVER THE INPUT: true; the input reads as it did. -/
def imageAveragesSpec : ChangeSpec := { name := "imageAverages", fn := fun _ => fun
  | [d1, d2, d3] => { results := [.lit (.bool true)], args := [d1, d2, d3] }
  | _ => none }
def imageAveragesRow : OpenClaim := { program := "ytjfbljononkmcaa", sum := "e3331b9e60690725aed364629b721b2fc4fb4dd3582b10a95e64f2d235b1520f", func := "grisaille/grisaillelaw33.ImageAverages", spec := "imageAverages", unfollowed := true, recurses := true, named := ["math/bits.divideError", "math/bits.overflowError"], apart := false }
def ImageAveragesSaid : Prop := imageAveragesRow.holds Try.pinned (OpenSpec.ofChange imageAveragesSpec)

/-- ITS FALSE NEIGHBOUR: 'it returns false'. Refute it at one input. -/
def imageAveragesWrong : ChangeSpec := { name := "imageAverages", fn := fun _ => fun
  | [d1, d2, d3] => { results := [.lit (.bool false)], args := [d1, d2, d3] }
  | _ => none }
def ImageAveragesWrongFalsely : Prop := imageAveragesRow.holds Try.pinned (OpenSpec.ofChange imageAveragesWrong)

/- THE SECOND FORM. 'bulk': how many values and letters a reading holds, each counted each time it is reached (what is shared counts as often as it is met; a slice's spare places count too). A statement '..UptoSaid' is the law's where the arguments, and the package variables that the reading takes, are together of bulk at most 1048576: NARROWER than '..Said'. Prove '..Said' where nothing that the law and all that it calls make is longer than what came in: it says more and counts as full. Else prove '..UptoSaid'. A law counts once. -/
mutual
def uptoBulk {H : Type} : DataW H → Nat
  | .lit (.string bytes) => bytes.length + 1
  | .lit _ => 1
  | .nil => 1
  | .ptr d => uptoBulk d + 1
  | .slice elems spare => uptoBulkAll elems + uptoBulkAll spare + 1
  | .agg parts => uptoBulkAll parts + 1
  | .iface _ d => uptoBulk d + 1
  | .map entries => uptoBulkEntries entries + 1
  | .held _ => 1
def uptoBulkAll {H : Type} : List (DataW H) → Nat
  | [] => 0
  | d :: r => uptoBulk d + uptoBulkAll r
def uptoBulkEntries {H : Type} : List (Lit × DataW H) → Nat
  | [] => 0
  | x :: r => uptoBulkEntry x + uptoBulkEntries r
def uptoBulkEntry {H : Type} : Lit × DataW H → Nat
  | (.string bytes, d) => bytes.length + uptoBulk d + 1
  | (_, d) => uptoBulk d + 1
 end
def uptoSmall : (H : Type) → List (DataW H) → Bool := fun _ ds => decide (uptoBulkAll ds ≤ 1048576)
def OpenSpec.upto (s : _root_.Go.ChangeSpec) : _root_.Go.OpenSpec := { _root_.Go.OpenSpec.ofChange s with cond := some uptoSmall }

/-- 'grisaillelaw33.ImageWrapIndex', WHERE WHAT IT READS IS OF BULK AT MOST 1048576: true; the input reads as it did. -/
def imageWrapIndexUptoRow : OpenClaim := { program := "ytjfbljononkmcaa", sum := "e3331b9e60690725aed364629b721b2fc4fb4dd3582b10a95e64f2d235b1520f", func := "grisaille/grisaillelaw33.ImageWrapIndex", spec := "imageWrapIndex", unfollowed := true, recurses := true, apart := false, narrowed := true }
def ImageWrapIndexUptoSaid : Prop := imageWrapIndexUptoRow.holds Try.pinned (OpenSpec.upto imageWrapIndexSpec)

/-- 'grisaillelaw33.ImageCrop', WHERE WHAT IT READS IS OF BULK AT MOST 1048576: true; the input reads as it did. -/
def imageCropUptoRow : OpenClaim := { program := "ytjfbljononkmcaa", sum := "e3331b9e60690725aed364629b721b2fc4fb4dd3582b10a95e64f2d235b1520f", func := "grisaille/grisaillelaw33.ImageCrop", spec := "imageCrop", unfollowed := true, recurses := true, apart := false, narrowed := true }
def ImageCropUptoSaid : Prop := imageCropUptoRow.holds Try.pinned (OpenSpec.upto imageCropSpec)

/-- 'grisaillelaw33.ImageTexel', WHERE WHAT IT READS IS OF BULK AT MOST 1048576: true; the input reads as it did. -/
def imageTexelUptoRow : OpenClaim := { program := "ytjfbljononkmcaa", sum := "e3331b9e60690725aed364629b721b2fc4fb4dd3582b10a95e64f2d235b1520f", func := "grisaille/grisaillelaw33.ImageTexel", spec := "imageTexel", unfollowed := true, recurses := true, apart := false, narrowed := true }
def ImageTexelUptoSaid : Prop := imageTexelUptoRow.holds Try.pinned (OpenSpec.upto imageTexelSpec)

/-- 'grisaillelaw33.ImageCropTexels', WHERE WHAT IT READS IS OF BULK AT MOST 1048576: true; the input reads as it did. -/
def imageCropTexelsUptoRow : OpenClaim := { program := "ytjfbljononkmcaa", sum := "e3331b9e60690725aed364629b721b2fc4fb4dd3582b10a95e64f2d235b1520f", func := "grisaille/grisaillelaw33.ImageCropTexels", spec := "imageCropTexels", unfollowed := true, recurses := true, apart := false, narrowed := true }
def ImageCropTexelsUptoSaid : Prop := imageCropTexelsUptoRow.holds Try.pinned (OpenSpec.upto imageCropTexelsSpec)

/-- 'grisaillelaw33.ImageDither', WHERE WHAT IT READS IS OF BULK AT MOST 1048576: true; the input reads as it did. -/
def imageDitherUptoRow : OpenClaim := { program := "ytjfbljononkmcaa", sum := "e3331b9e60690725aed364629b721b2fc4fb4dd3582b10a95e64f2d235b1520f", func := "grisaille/grisaillelaw33.ImageDither", spec := "imageDither", unfollowed := true, recurses := true, named := ["math/bits.divideError", "math/bits.overflowError"], apart := false, narrowed := true }
def ImageDitherUptoSaid : Prop := imageDitherUptoRow.holds Try.pinned (OpenSpec.upto imageDitherSpec)

/-- 'grisaillelaw33.ImageResize', WHERE WHAT IT READS IS OF BULK AT MOST 1048576: true; the input reads as it did. -/
def imageResizeUptoRow : OpenClaim := { program := "ytjfbljononkmcaa", sum := "e3331b9e60690725aed364629b721b2fc4fb4dd3582b10a95e64f2d235b1520f", func := "grisaille/grisaillelaw33.ImageResize", spec := "imageResize", unfollowed := true, recurses := true, named := ["math/bits.divideError", "math/bits.overflowError"], apart := false, narrowed := true }
def ImageResizeUptoSaid : Prop := imageResizeUptoRow.holds Try.pinned (OpenSpec.upto imageResizeSpec)

/-- 'grisaillelaw33.ImageQuantize', WHERE WHAT IT READS IS OF BULK AT MOST 1048576: true; the input reads as it did. -/
def imageQuantizeUptoRow : OpenClaim := { program := "ytjfbljononkmcaa", sum := "e3331b9e60690725aed364629b721b2fc4fb4dd3582b10a95e64f2d235b1520f", func := "grisaille/grisaillelaw33.ImageQuantize", spec := "imageQuantize", unfollowed := true, recurses := true, named := ["math/bits.divideError", "math/bits.overflowError"], apart := false, narrowed := true }
def ImageQuantizeUptoSaid : Prop := imageQuantizeUptoRow.holds Try.pinned (OpenSpec.upto imageQuantizeSpec)

/-- 'grisaillelaw33.ImageAverages', WHERE WHAT IT READS IS OF BULK AT MOST 1048576: true; the input reads as it did. -/
def imageAveragesUptoRow : OpenClaim := { program := "ytjfbljononkmcaa", sum := "e3331b9e60690725aed364629b721b2fc4fb4dd3582b10a95e64f2d235b1520f", func := "grisaille/grisaillelaw33.ImageAverages", spec := "imageAverages", unfollowed := true, recurses := true, named := ["math/bits.divideError", "math/bits.overflowError"], apart := false, narrowed := true }
def ImageAveragesUptoSaid : Prop := imageAveragesUptoRow.holds Try.pinned (OpenSpec.upto imageAveragesSpec)

end Rows
end Go.Proofs.Ytjfbljononkmcaa
