/-
  No cell of these rows narrows 'for every input' (looked for: loops, veiled, ifaces, maps, wideKeys, modest, calm, conditions, laid).
  DERIVED. THE GIVEN ROWS OF THIS SEAT. 9 by the template 'for every input the law returns true; each argument reads behind the call as it read before'; 0 by the template 'total and deterministic' (their statements: YtlhelkkfjniioaaTotals.lean).
  GIVEN WITH THE SEED: the statements are not yours to turn. If you find one false, say at which input.
  Laid BY PROGRAM, IN A SANDBOX (cutbox-rows.mjs): the forced cells as the released guide's own fill.sh prints them over the translation 9dc2802002e2070d… (all of the seat's roots in one cut). By AI agents, Wed Nov 11 2026. No macro, syntax, notation, axiom, sorry.
-/
import Derived.Test.YtlhelkkfjniioaaChecked
import GoSem.Claim
import GoSem.ClaimJoined
import GoSem.ClaimMapViews
import Derived.JoinedTies
import Derived.KernelRfl
namespace Go.Proofs.Ytlhelkkfjniioaa
/- THE CELL 'sum', in the pinned program and in every row, IS THE sha256 OF THE DUMP (.gsa) THAT YtlhelkkfjniioaaProg.lean LOADS. Nothing in Lean hashes anything: it is a label: what it is worth is what the hold of that sum in a sandbox is worth. -/
noncomputable def Try.pinned : Pinned := { name := "ytlhelkkfjniioaa", sum := "9dc2802002e2070d589aac51dbbacdc02889761c862b4738a0f14ef40966b400", checked := Try.checked }
namespace Rows
def none {H : Type} : Left H := { results := [], args := [] }

/-- 'grisaillelaw13.PathBounds': WHATEVER THE INPUT: true; the input reads as it did. -/
def pathBoundsSpec : ChangeSpec := { name := "pathBounds", fn := fun _ => fun
  | [d] => { results := [.lit (.bool true)], args := [d] }
  | _ => none }
def pathBoundsRow : OpenClaim := { program := "ytlhelkkfjniioaa", sum := "9dc2802002e2070d589aac51dbbacdc02889761c862b4738a0f14ef40966b400", func := "grisaille/grisaillelaw13.PathBounds", spec := "pathBounds", unfollowed := true, recurses := true, apart := false }
def PathBoundsSaid : Prop := pathBoundsRow.holds Try.pinned (OpenSpec.ofChange pathBoundsSpec)

/-- ITS FALSE NEIGHBOUR: 'it returns false'. Refute it at one input. -/
def pathBoundsWrong : ChangeSpec := { name := "pathBounds", fn := fun _ => fun
  | [d] => { results := [.lit (.bool false)], args := [d] }
  | _ => none }
def PathBoundsWrongFalsely : Prop := pathBoundsRow.holds Try.pinned (OpenSpec.ofChange pathBoundsWrong)

/-- 'grisaillelaw13.PathValidity': WHATEVER THE INPUT: true; the input reads as it did. -/
def pathValiditySpec : ChangeSpec := { name := "pathValidity", fn := fun _ => fun
  | [d1, d2] => { results := [.lit (.bool true)], args := [d1, d2] }
  | _ => none }
def pathValidityRow : OpenClaim := { program := "ytlhelkkfjniioaa", sum := "9dc2802002e2070d589aac51dbbacdc02889761c862b4738a0f14ef40966b400", func := "grisaille/grisaillelaw13.PathValidity", spec := "pathValidity", unfollowed := true, recurses := true, apart := false }
def PathValiditySaid : Prop := pathValidityRow.holds Try.pinned (OpenSpec.ofChange pathValiditySpec)

/-- ITS FALSE NEIGHBOUR: 'it returns false'. Refute it at one input. -/
def pathValidityWrong : ChangeSpec := { name := "pathValidity", fn := fun _ => fun
  | [d1, d2] => { results := [.lit (.bool false)], args := [d1, d2] }
  | _ => none }
def PathValidityWrongFalsely : Prop := pathValidityRow.holds Try.pinned (OpenSpec.ofChange pathValidityWrong)

/-- 'grisaillelaw13.PathReverse': WHATEVER THE INPUT: true; the input reads as it did. -/
def pathReverseSpec : ChangeSpec := { name := "pathReverse", fn := fun _ => fun
  | [d] => { results := [.lit (.bool true)], args := [d] }
  | _ => none }
def pathReverseRow : OpenClaim := { program := "ytlhelkkfjniioaa", sum := "9dc2802002e2070d589aac51dbbacdc02889761c862b4738a0f14ef40966b400", func := "grisaille/grisaillelaw13.PathReverse", spec := "pathReverse", unfollowed := true, recurses := true, apart := false }
def PathReverseSaid : Prop := pathReverseRow.holds Try.pinned (OpenSpec.ofChange pathReverseSpec)

/-- ITS FALSE NEIGHBOUR: 'it returns false'. Refute it at one input. -/
def pathReverseWrong : ChangeSpec := { name := "pathReverse", fn := fun _ => fun
  | [d] => { results := [.lit (.bool false)], args := [d] }
  | _ => none }
def PathReverseWrongFalsely : Prop := pathReverseRow.holds Try.pinned (OpenSpec.ofChange pathReverseWrong)

/-- 'grisaillelaw13.PathReverseAndRect': WHATEVER THE INPUT: true; the input reads as it did. -/
def pathReverseAndRectSpec : ChangeSpec := { name := "pathReverseAndRect", fn := fun _ => fun
  | [d1, d2] => { results := [.lit (.bool true)], args := [d1, d2] }
  | _ => none }
def pathReverseAndRectRow : OpenClaim := { program := "ytlhelkkfjniioaa", sum := "9dc2802002e2070d589aac51dbbacdc02889761c862b4738a0f14ef40966b400", func := "grisaille/grisaillelaw13.PathReverseAndRect", spec := "pathReverseAndRect", unfollowed := true, recurses := true, apart := false }
def PathReverseAndRectSaid : Prop := pathReverseAndRectRow.holds Try.pinned (OpenSpec.ofChange pathReverseAndRectSpec)

/-- ITS FALSE NEIGHBOUR: 'it returns false'. Refute it at one input. -/
def pathReverseAndRectWrong : ChangeSpec := { name := "pathReverseAndRect", fn := fun _ => fun
  | [d1, d2] => { results := [.lit (.bool false)], args := [d1, d2] }
  | _ => none }
def PathReverseAndRectWrongFalsely : Prop := pathReverseAndRectRow.holds Try.pinned (OpenSpec.ofChange pathReverseAndRectWrong)

/-- 'grisaillelaw13.PathFlip': WHATEVER THE INPUT: true; the input reads as it did. -/
def pathFlipSpec : ChangeSpec := { name := "pathFlip", fn := fun _ => fun
  | [d1, d2] => { results := [.lit (.bool true)], args := [d1, d2] }
  | _ => none }
def pathFlipRow : OpenClaim := { program := "ytlhelkkfjniioaa", sum := "9dc2802002e2070d589aac51dbbacdc02889761c862b4738a0f14ef40966b400", func := "grisaille/grisaillelaw13.PathFlip", spec := "pathFlip", unfollowed := true, recurses := true, apart := false }
def PathFlipSaid : Prop := pathFlipRow.holds Try.pinned (OpenSpec.ofChange pathFlipSpec)

/-- ITS FALSE NEIGHBOUR: 'it returns false'. Refute it at one input. -/
def pathFlipWrong : ChangeSpec := { name := "pathFlip", fn := fun _ => fun
  | [d1, d2] => { results := [.lit (.bool false)], args := [d1, d2] }
  | _ => none }
def PathFlipWrongFalsely : Prop := pathFlipRow.holds Try.pinned (OpenSpec.ofChange pathFlipWrong)

/-- 'grisaillelaw13.PathAppend': WHATEVER THE INPUT: true; the input reads as it did. -/
def pathAppendSpec : ChangeSpec := { name := "pathAppend", fn := fun _ => fun
  | [d1, d2, d3] => { results := [.lit (.bool true)], args := [d1, d2, d3] }
  | _ => none }
def pathAppendRow : OpenClaim := { program := "ytlhelkkfjniioaa", sum := "9dc2802002e2070d589aac51dbbacdc02889761c862b4738a0f14ef40966b400", func := "grisaille/grisaillelaw13.PathAppend", spec := "pathAppend", unfollowed := true, recurses := true, apart := false }
def PathAppendSaid : Prop := pathAppendRow.holds Try.pinned (OpenSpec.ofChange pathAppendSpec)

/-- ITS FALSE NEIGHBOUR: 'it returns false'. Refute it at one input. -/
def pathAppendWrong : ChangeSpec := { name := "pathAppend", fn := fun _ => fun
  | [d1, d2, d3] => { results := [.lit (.bool false)], args := [d1, d2, d3] }
  | _ => none }
def PathAppendWrongFalsely : Prop := pathAppendRow.holds Try.pinned (OpenSpec.ofChange pathAppendWrong)

/-- 'grisaillelaw13.PathSubpaths': WHATEVER THE INPUT: true; the input reads as it did. -/
def pathSubpathsSpec : ChangeSpec := { name := "pathSubpaths", fn := fun _ => fun
  | [d] => { results := [.lit (.bool true)], args := [d] }
  | _ => none }
def pathSubpathsRow : OpenClaim := { program := "ytlhelkkfjniioaa", sum := "9dc2802002e2070d589aac51dbbacdc02889761c862b4738a0f14ef40966b400", func := "grisaille/grisaillelaw13.PathSubpaths", spec := "pathSubpaths", unfollowed := true, recurses := true, apart := false }
def PathSubpathsSaid : Prop := pathSubpathsRow.holds Try.pinned (OpenSpec.ofChange pathSubpathsSpec)

/-- ITS FALSE NEIGHBOUR: 'it returns false'. Refute it at one input. -/
def pathSubpathsWrong : ChangeSpec := { name := "pathSubpaths", fn := fun _ => fun
  | [d] => { results := [.lit (.bool false)], args := [d] }
  | _ => none }
def PathSubpathsWrongFalsely : Prop := pathSubpathsRow.holds Try.pinned (OpenSpec.ofChange pathSubpathsWrong)

/-- 'grisaillelaw13.PathRoundRect': WHATEVER THE INPUT: true; the input reads as it did. -/
def pathRoundRectSpec : ChangeSpec := { name := "pathRoundRect", fn := fun _ => fun
  | [d1, d2] => { results := [.lit (.bool true)], args := [d1, d2] }
  | _ => none }
def pathRoundRectRow : OpenClaim := { program := "ytlhelkkfjniioaa", sum := "9dc2802002e2070d589aac51dbbacdc02889761c862b4738a0f14ef40966b400", func := "grisaille/grisaillelaw13.PathRoundRect", spec := "pathRoundRect", unfollowed := true, recurses := true, named := ["math/bits.divideError", "math/bits.overflowError"], apart := false }
def PathRoundRectSaid : Prop := pathRoundRectRow.holds Try.pinned (OpenSpec.ofChange pathRoundRectSpec)

/-- ITS FALSE NEIGHBOUR: 'it returns false'. Refute it at one input. -/
def pathRoundRectWrong : ChangeSpec := { name := "pathRoundRect", fn := fun _ => fun
  | [d1, d2] => { results := [.lit (.bool false)], args := [d1, d2] }
  | _ => none }
def PathRoundRectWrongFalsely : Prop := pathRoundRectRow.holds Try.pinned (OpenSpec.ofChange pathRoundRectWrong)

/-- 'grisaillelaw13.PathTranslation': WHATEVER THE INPUT: true; the input reads as it did. -/
def pathTranslationSpec : ChangeSpec := { name := "pathTranslation", fn := fun _ => fun
  | [d1, d2, d3] => { results := [.lit (.bool true)], args := [d1, d2, d3] }
  | _ => none }
def pathTranslationRow : OpenClaim := { program := "ytlhelkkfjniioaa", sum := "9dc2802002e2070d589aac51dbbacdc02889761c862b4738a0f14ef40966b400", func := "grisaille/grisaillelaw13.PathTranslation", spec := "pathTranslation", unfollowed := true, recurses := true, apart := false }
def PathTranslationSaid : Prop := pathTranslationRow.holds Try.pinned (OpenSpec.ofChange pathTranslationSpec)

/-- ITS FALSE NEIGHBOUR: 'it returns false'. Refute it at one input. -/
def pathTranslationWrong : ChangeSpec := { name := "pathTranslation", fn := fun _ => fun
  | [d1, d2, d3] => { results := [.lit (.bool false)], args := [d1, d2, d3] }
  | _ => none }
def PathTranslationWrongFalsely : Prop := pathTranslationRow.holds Try.pinned (OpenSpec.ofChange pathTranslationWrong)

/- THE SECOND FORM. 'bulk': how many values and letters a reading holds, each counted each time it is reached (what is shared counts as often as it is met; a slice's spare places count too). A statement '..UptoSaid' is the law's where the arguments, and the package variables that the reading takes, are together of bulk at most 1048576: NARROWER than '..Said'. Prove '..Said' where nothing that the law and all that it calls make is longer than what came in: it says more and counts as full. Else prove '..UptoSaid'. A law counts once. -/
mutual
def uptoBulk {H : Type} : DataW H → Nat
  | .lit (.string bytes) => bytes.length + 1
  | .lit _ => 1
  | .nil => 1
  | .ptr d => uptoBulk d + 1
  | .slice elems spare => uptoBulkAll elems + uptoBulkAll spare + 1
  | .agg parts => uptoBulkAll parts + 1
  | .iface _ d => uptoBulk d + 1
  | .map entries => uptoBulkEntries entries + 1
  | .held _ => 1
def uptoBulkAll {H : Type} : List (DataW H) → Nat
  | [] => 0
  | d :: r => uptoBulk d + uptoBulkAll r
def uptoBulkEntries {H : Type} : List (Lit × DataW H) → Nat
  | [] => 0
  | x :: r => uptoBulkEntry x + uptoBulkEntries r
def uptoBulkEntry {H : Type} : Lit × DataW H → Nat
  | (.string bytes, d) => bytes.length + uptoBulk d + 1
  | (_, d) => uptoBulk d + 1
 end
def uptoSmall : (H : Type) → List (DataW H) → Bool := fun _ ds => decide (uptoBulkAll ds ≤ 1048576)
def OpenSpec.upto (s : _root_.Go.ChangeSpec) : _root_.Go.OpenSpec := { _root_.Go.OpenSpec.ofChange s with cond := some uptoSmall }

/-- 'grisaillelaw13.PathBounds', WHERE WHAT IT READS IS OF BULK AT MOST 1048576: true; the input reads as it did. -/
def pathBoundsUptoRow : OpenClaim := { program := "ytlhelkkfjniioaa", sum := "9dc2802002e2070d589aac51dbbacdc02889761c862b4738a0f14ef40966b400", func := "grisaille/grisaillelaw13.PathBounds", spec := "pathBounds", unfollowed := true, recurses := true, apart := false, narrowed := true }
def PathBoundsUptoSaid : Prop := pathBoundsUptoRow.holds Try.pinned (OpenSpec.upto pathBoundsSpec)

/-- 'grisaillelaw13.PathValidity', WHERE WHAT IT READS IS OF BULK AT MOST 1048576: true; the input reads as it did. -/
def pathValidityUptoRow : OpenClaim := { program := "ytlhelkkfjniioaa", sum := "9dc2802002e2070d589aac51dbbacdc02889761c862b4738a0f14ef40966b400", func := "grisaille/grisaillelaw13.PathValidity", spec := "pathValidity", unfollowed := true, recurses := true, apart := false, narrowed := true }
def PathValidityUptoSaid : Prop := pathValidityUptoRow.holds Try.pinned (OpenSpec.upto pathValiditySpec)

/-- 'grisaillelaw13.PathReverse', WHERE WHAT IT READS IS OF BULK AT MOST 1048576: true; the input reads as it did. -/
def pathReverseUptoRow : OpenClaim := { program := "ytlhelkkfjniioaa", sum := "9dc2802002e2070d589aac51dbbacdc02889761c862b4738a0f14ef40966b400", func := "grisaille/grisaillelaw13.PathReverse", spec := "pathReverse", unfollowed := true, recurses := true, apart := false, narrowed := true }
def PathReverseUptoSaid : Prop := pathReverseUptoRow.holds Try.pinned (OpenSpec.upto pathReverseSpec)

/-- 'grisaillelaw13.PathReverseAndRect', WHERE WHAT IT READS IS OF BULK AT MOST 1048576: true; the input reads as it did. -/
def pathReverseAndRectUptoRow : OpenClaim := { program := "ytlhelkkfjniioaa", sum := "9dc2802002e2070d589aac51dbbacdc02889761c862b4738a0f14ef40966b400", func := "grisaille/grisaillelaw13.PathReverseAndRect", spec := "pathReverseAndRect", unfollowed := true, recurses := true, apart := false, narrowed := true }
def PathReverseAndRectUptoSaid : Prop := pathReverseAndRectUptoRow.holds Try.pinned (OpenSpec.upto pathReverseAndRectSpec)

/-- 'grisaillelaw13.PathFlip', WHERE WHAT IT READS IS OF BULK AT MOST 1048576: true; the input reads as it did. -/
def pathFlipUptoRow : OpenClaim := { program := "ytlhelkkfjniioaa", sum := "9dc2802002e2070d589aac51dbbacdc02889761c862b4738a0f14ef40966b400", func := "grisaille/grisaillelaw13.PathFlip", spec := "pathFlip", unfollowed := true, recurses := true, apart := false, narrowed := true }
def PathFlipUptoSaid : Prop := pathFlipUptoRow.holds Try.pinned (OpenSpec.upto pathFlipSpec)

/-- 'grisaillelaw13.PathAppend', WHERE WHAT IT READS IS OF BULK AT MOST 1048576: true; the input reads as it did. -/
def pathAppendUptoRow : OpenClaim := { program := "ytlhelkkfjniioaa", sum := "9dc2802002e2070d589aac51dbbacdc02889761c862b4738a0f14ef40966b400", func := "grisaille/grisaillelaw13.PathAppend", spec := "pathAppend", unfollowed := true, recurses := true, apart := false, narrowed := true }
def PathAppendUptoSaid : Prop := pathAppendUptoRow.holds Try.pinned (OpenSpec.upto pathAppendSpec)

/-- 'grisaillelaw13.PathSubpaths', WHERE WHAT IT READS IS OF BULK AT MOST 1048576: true; the input reads as it did. -/
def pathSubpathsUptoRow : OpenClaim := { program := "ytlhelkkfjniioaa", sum := "9dc2802002e2070d589aac51dbbacdc02889761c862b4738a0f14ef40966b400", func := "grisaille/grisaillelaw13.PathSubpaths", spec := "pathSubpaths", unfollowed := true, recurses := true, apart := false, narrowed := true }
def PathSubpathsUptoSaid : Prop := pathSubpathsUptoRow.holds Try.pinned (OpenSpec.upto pathSubpathsSpec)

/-- 'grisaillelaw13.PathRoundRect', WHERE WHAT IT READS IS OF BULK AT MOST 1048576: true; the input reads as it did. -/
def pathRoundRectUptoRow : OpenClaim := { program := "ytlhelkkfjniioaa", sum := "9dc2802002e2070d589aac51dbbacdc02889761c862b4738a0f14ef40966b400", func := "grisaille/grisaillelaw13.PathRoundRect", spec := "pathRoundRect", unfollowed := true, recurses := true, named := ["math/bits.divideError", "math/bits.overflowError"], apart := false, narrowed := true }
def PathRoundRectUptoSaid : Prop := pathRoundRectUptoRow.holds Try.pinned (OpenSpec.upto pathRoundRectSpec)

/-- 'grisaillelaw13.PathTranslation', WHERE WHAT IT READS IS OF BULK AT MOST 1048576: true; the input reads as it did. -/
def pathTranslationUptoRow : OpenClaim := { program := "ytlhelkkfjniioaa", sum := "9dc2802002e2070d589aac51dbbacdc02889761c862b4738a0f14ef40966b400", func := "grisaille/grisaillelaw13.PathTranslation", spec := "pathTranslation", unfollowed := true, recurses := true, apart := false, narrowed := true }
def PathTranslationUptoSaid : Prop := pathTranslationUptoRow.holds Try.pinned (OpenSpec.upto pathTranslationSpec)

end Rows
end Go.Proofs.Ytlhelkkfjniioaa
