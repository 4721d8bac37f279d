/-
  No cell of these rows narrows 'for every input' (looked for: loops, veiled, ifaces, maps, wideKeys, modest, calm, conditions, laid).
  DERIVED. THE GIVEN ROWS OF THIS SEAT. 8 by the template 'for every input the law returns true; each argument reads behind the call as it read before'; 0 by the template 'total and deterministic' (their statements: YtbgnkgoiocjbnaaGreatTotals.lean).
  GIVEN WITH THE SEED: the statements are not yours to turn. If you find one false, say at which input.
  Laid BY PROGRAM, IN A SANDBOX (cutbox-rows.mjs): the forced cells as the released guide's own fill.sh prints them over the translation 4aef0481509bcc7f… (all of the seat's roots in one cut). By AI agents, Wed Nov 11 2026. No macro, syntax, notation, axiom, sorry.
-/
import Derived.Test.YtbgnkgoiocjbnaaGreatChecked
import GoSem.Claim
import GoSem.ClaimJoined
import GoSem.ClaimMapViews
import Derived.JoinedTies
import Derived.KernelRfl
namespace Go.Proofs.YtbgnkgoiocjbnaaGreat
/- THE CELL 'sum', in the pinned program and in every row, IS THE sha256 OF THE DUMP (.gsa) THAT YtbgnkgoiocjbnaaGreatProg.lean LOADS. Nothing in Lean hashes anything: it is a label: what it is worth is what the hold of that sum in a sandbox is worth. -/
noncomputable def Tryz.pinned : Pinned := { name := "ytbgnkgoiocjbnaagreat", sum := "4aef0481509bcc7f519b0f1365cf943f2567e1471661bd05822b2d44f047e5f5", checked := Tryz.checked }
namespace Rows
def none {H : Type} : Left H := { results := [], args := [] }

/-- 'grisaillelaw26.OutlineFill': WHATEVER THE INPUT: true; the input reads as it did. -/
def outlineFillSpec : ChangeSpec := { name := "outlineFill", fn := fun _ => fun
  | [d1, d2] => { results := [.lit (.bool true)], args := [d1, d2] }
  | _ => none }
def outlineFillRow : OpenClaim := { program := "ytbgnkgoiocjbnaagreat", sum := "4aef0481509bcc7f519b0f1365cf943f2567e1471661bd05822b2d44f047e5f5", func := "grisaille/grisaillelaw26.OutlineFill", spec := "outlineFill", unfollowed := true, recurses := true, named := ["math/bits.divideError", "math/bits.overflowError"], apart := false }
def OutlineFillSaid : Prop := outlineFillRow.holds Tryz.pinned (OpenSpec.ofChange outlineFillSpec)

/-- ITS FALSE NEIGHBOUR: 'it returns false'. Refute it at one input. -/
def outlineFillWrong : ChangeSpec := { name := "outlineFill", fn := fun _ => fun
  | [d1, d2] => { results := [.lit (.bool false)], args := [d1, d2] }
  | _ => none }
def OutlineFillWrongFalsely : Prop := outlineFillRow.holds Tryz.pinned (OpenSpec.ofChange outlineFillWrong)

/-- 'grisaillelaw26.OutlineStroke': WHATEVER THE INPUT: true; the input reads as it did. -/
def outlineStrokeSpec : ChangeSpec := { name := "outlineStroke", fn := fun _ => fun
  | [d1, d2, d3] => { results := [.lit (.bool true)], args := [d1, d2, d3] }
  | _ => none }
def outlineStrokeRow : OpenClaim := { program := "ytbgnkgoiocjbnaagreat", sum := "4aef0481509bcc7f519b0f1365cf943f2567e1471661bd05822b2d44f047e5f5", func := "grisaille/grisaillelaw26.OutlineStroke", spec := "outlineStroke", unfollowed := true, recurses := true, named := ["math/bits.divideError", "math/bits.overflowError"], apart := false }
def OutlineStrokeSaid : Prop := outlineStrokeRow.holds Tryz.pinned (OpenSpec.ofChange outlineStrokeSpec)

/-- ITS FALSE NEIGHBOUR: 'it returns false'. Refute it at one input. -/
def outlineStrokeWrong : ChangeSpec := { name := "outlineStroke", fn := fun _ => fun
  | [d1, d2, d3] => { results := [.lit (.bool false)], args := [d1, d2, d3] }
  | _ => none }
def OutlineStrokeWrongFalsely : Prop := outlineStrokeRow.holds Tryz.pinned (OpenSpec.ofChange outlineStrokeWrong)

/-- 'grisaillelaw26.OutlineTransform': WHATEVER THE INPUT: true; the input reads as it did. -/
def outlineTransformSpec : ChangeSpec := { name := "outlineTransform", fn := fun _ => fun
  | [d1, d2] => { results := [.lit (.bool true)], args := [d1, d2] }
  | _ => none }
def outlineTransformRow : OpenClaim := { program := "ytbgnkgoiocjbnaagreat", sum := "4aef0481509bcc7f519b0f1365cf943f2567e1471661bd05822b2d44f047e5f5", func := "grisaille/grisaillelaw26.OutlineTransform", spec := "outlineTransform", unfollowed := true, recurses := true, named := ["math/bits.divideError", "math/bits.overflowError"], apart := false }
def OutlineTransformSaid : Prop := outlineTransformRow.holds Tryz.pinned (OpenSpec.ofChange outlineTransformSpec)

/-- ITS FALSE NEIGHBOUR: 'it returns false'. Refute it at one input. -/
def outlineTransformWrong : ChangeSpec := { name := "outlineTransform", fn := fun _ => fun
  | [d1, d2] => { results := [.lit (.bool false)], args := [d1, d2] }
  | _ => none }
def OutlineTransformWrongFalsely : Prop := outlineTransformRow.holds Tryz.pinned (OpenSpec.ofChange outlineTransformWrong)

/-- 'grisaillelaw26.OutlineTranslation': WHATEVER THE INPUT: true; the input reads as it did. -/
def outlineTranslationSpec : ChangeSpec := { name := "outlineTranslation", fn := fun _ => fun
  | [d1, d2, d3] => { results := [.lit (.bool true)], args := [d1, d2, d3] }
  | _ => none }
def outlineTranslationRow : OpenClaim := { program := "ytbgnkgoiocjbnaagreat", sum := "4aef0481509bcc7f519b0f1365cf943f2567e1471661bd05822b2d44f047e5f5", func := "grisaille/grisaillelaw26.OutlineTranslation", spec := "outlineTranslation", unfollowed := true, recurses := true, named := ["math/bits.divideError", "math/bits.overflowError"], apart := false }
def OutlineTranslationSaid : Prop := outlineTranslationRow.holds Tryz.pinned (OpenSpec.ofChange outlineTranslationSpec)

/-- ITS FALSE NEIGHBOUR: 'it returns false'. Refute it at one input. -/
def outlineTranslationWrong : ChangeSpec := { name := "outlineTranslation", fn := fun _ => fun
  | [d1, d2, d3] => { results := [.lit (.bool false)], args := [d1, d2, d3] }
  | _ => none }
def OutlineTranslationWrongFalsely : Prop := outlineTranslationRow.holds Tryz.pinned (OpenSpec.ofChange outlineTranslationWrong)

/-- 'grisaillelaw26.OutlineIdentity': WHATEVER THE INPUT: true; the input reads as it did. -/
def outlineIdentitySpec : ChangeSpec := { name := "outlineIdentity", fn := fun _ => fun
  | [d1, d2] => { results := [.lit (.bool true)], args := [d1, d2] }
  | _ => none }
def outlineIdentityRow : OpenClaim := { program := "ytbgnkgoiocjbnaagreat", sum := "4aef0481509bcc7f519b0f1365cf943f2567e1471661bd05822b2d44f047e5f5", func := "grisaille/grisaillelaw26.OutlineIdentity", spec := "outlineIdentity", unfollowed := true, recurses := true, named := ["math/bits.divideError", "math/bits.overflowError"], apart := false }
def OutlineIdentitySaid : Prop := outlineIdentityRow.holds Tryz.pinned (OpenSpec.ofChange outlineIdentitySpec)

/-- ITS FALSE NEIGHBOUR: 'it returns false'. Refute it at one input. -/
def outlineIdentityWrong : ChangeSpec := { name := "outlineIdentity", fn := fun _ => fun
  | [d1, d2] => { results := [.lit (.bool false)], args := [d1, d2] }
  | _ => none }
def OutlineIdentityWrongFalsely : Prop := outlineIdentityRow.holds Tryz.pinned (OpenSpec.ofChange outlineIdentityWrong)

/-- 'grisaillelaw26.OutlineStrokeBounds': WHATEVER THE INPUT: true; the input reads as it did. -/
def outlineStrokeBoundsSpec : ChangeSpec := { name := "outlineStrokeBounds", fn := fun _ => fun
  | [d1, d2] => { results := [.lit (.bool true)], args := [d1, d2] }
  | _ => none }
def outlineStrokeBoundsRow : OpenClaim := { program := "ytbgnkgoiocjbnaagreat", sum := "4aef0481509bcc7f519b0f1365cf943f2567e1471661bd05822b2d44f047e5f5", func := "grisaille/grisaillelaw26.OutlineStrokeBounds", spec := "outlineStrokeBounds", unfollowed := true, recurses := true, named := ["math/bits.divideError", "math/bits.overflowError"], apart := false }
def OutlineStrokeBoundsSaid : Prop := outlineStrokeBoundsRow.holds Tryz.pinned (OpenSpec.ofChange outlineStrokeBoundsSpec)

/-- ITS FALSE NEIGHBOUR: 'it returns false'. Refute it at one input. -/
def outlineStrokeBoundsWrong : ChangeSpec := { name := "outlineStrokeBounds", fn := fun _ => fun
  | [d1, d2] => { results := [.lit (.bool false)], args := [d1, d2] }
  | _ => none }
def OutlineStrokeBoundsWrongFalsely : Prop := outlineStrokeBoundsRow.holds Tryz.pinned (OpenSpec.ofChange outlineStrokeBoundsWrong)

/-- 'grisaillelaw26.OutlineInside': WHATEVER THE INPUT: true; the input reads as it did. -/
def outlineInsideSpec : ChangeSpec := { name := "outlineInside", fn := fun _ => fun
  | [d1, d2, d3] => { results := [.lit (.bool true)], args := [d1, d2, d3] }
  | _ => none }
def outlineInsideRow : OpenClaim := { program := "ytbgnkgoiocjbnaagreat", sum := "4aef0481509bcc7f519b0f1365cf943f2567e1471661bd05822b2d44f047e5f5", func := "grisaille/grisaillelaw26.OutlineInside", spec := "outlineInside", unfollowed := true, recurses := true, named := ["math/bits.divideError", "math/bits.overflowError"], apart := false }
def OutlineInsideSaid : Prop := outlineInsideRow.holds Tryz.pinned (OpenSpec.ofChange outlineInsideSpec)

/-- ITS FALSE NEIGHBOUR: 'it returns false'. Refute it at one input. -/
def outlineInsideWrong : ChangeSpec := { name := "outlineInside", fn := fun _ => fun
  | [d1, d2, d3] => { results := [.lit (.bool false)], args := [d1, d2, d3] }
  | _ => none }
def OutlineInsideWrongFalsely : Prop := outlineInsideRow.holds Tryz.pinned (OpenSpec.ofChange outlineInsideWrong)

/-- 'grisaillelaw26.OutlineOffset': WHATEVER THE INPUT: true; the input reads as it did. -/
def outlineOffsetSpec : ChangeSpec := { name := "outlineOffset", fn := fun _ => fun
  | [d1, d2] => { results := [.lit (.bool true)], args := [d1, d2] }
  | _ => none }
def outlineOffsetRow : OpenClaim := { program := "ytbgnkgoiocjbnaagreat", sum := "4aef0481509bcc7f519b0f1365cf943f2567e1471661bd05822b2d44f047e5f5", func := "grisaille/grisaillelaw26.OutlineOffset", spec := "outlineOffset", unfollowed := true, recurses := true, named := ["math/bits.divideError", "math/bits.overflowError"], apart := false }
def OutlineOffsetSaid : Prop := outlineOffsetRow.holds Tryz.pinned (OpenSpec.ofChange outlineOffsetSpec)

/-- ITS FALSE NEIGHBOUR: 'it returns false'. Refute it at one input. -/
def outlineOffsetWrong : ChangeSpec := { name := "outlineOffset", fn := fun _ => fun
  | [d1, d2] => { results := [.lit (.bool false)], args := [d1, d2] }
  | _ => none }
def OutlineOffsetWrongFalsely : Prop := outlineOffsetRow.holds Tryz.pinned (OpenSpec.ofChange outlineOffsetWrong)

/- THE SECOND FORM. 'bulk': how many values and letters a reading holds, each counted each time it is reached (what is shared counts as often as it is met; a slice's spare places count too). A statement '..UptoSaid' is the law's where the arguments, and the package variables that the reading takes, are together of bulk at most 1048576: NARROWER than '..Said'. Prove '..Said' where nothing that the law and all that it calls make is longer than what came in: it says more and counts as full. Else prove '..UptoSaid'. A law counts once. -/
mutual
def uptoBulk {H : Type} : DataW H → Nat
  | .lit (.string bytes) => bytes.length + 1
  | .lit _ => 1
  | .nil => 1
  | .ptr d => uptoBulk d + 1
  | .slice elems spare => uptoBulkAll elems + uptoBulkAll spare + 1
  | .agg parts => uptoBulkAll parts + 1
  | .iface _ d => uptoBulk d + 1
  | .map entries => uptoBulkEntries entries + 1
  | .held _ => 1
def uptoBulkAll {H : Type} : List (DataW H) → Nat
  | [] => 0
  | d :: r => uptoBulk d + uptoBulkAll r
def uptoBulkEntries {H : Type} : List (Lit × DataW H) → Nat
  | [] => 0
  | x :: r => uptoBulkEntry x + uptoBulkEntries r
def uptoBulkEntry {H : Type} : Lit × DataW H → Nat
  | (.string bytes, d) => bytes.length + uptoBulk d + 1
  | (_, d) => uptoBulk d + 1
 end
def uptoSmall : (H : Type) → List (DataW H) → Bool := fun _ ds => decide (uptoBulkAll ds ≤ 1048576)
def OpenSpec.upto (s : _root_.Go.ChangeSpec) : _root_.Go.OpenSpec := { _root_.Go.OpenSpec.ofChange s with cond := some uptoSmall }

/-- 'grisaillelaw26.OutlineFill', WHERE WHAT IT READS IS OF BULK AT MOST 1048576: true; the input reads as it did. -/
def outlineFillUptoRow : OpenClaim := { program := "ytbgnkgoiocjbnaagreat", sum := "4aef0481509bcc7f519b0f1365cf943f2567e1471661bd05822b2d44f047e5f5", func := "grisaille/grisaillelaw26.OutlineFill", spec := "outlineFill", unfollowed := true, recurses := true, named := ["math/bits.divideError", "math/bits.overflowError"], apart := false, narrowed := true }
def OutlineFillUptoSaid : Prop := outlineFillUptoRow.holds Tryz.pinned (OpenSpec.upto outlineFillSpec)

/-- 'grisaillelaw26.OutlineStroke', WHERE WHAT IT READS IS OF BULK AT MOST 1048576: true; the input reads as it did. -/
def outlineStrokeUptoRow : OpenClaim := { program := "ytbgnkgoiocjbnaagreat", sum := "4aef0481509bcc7f519b0f1365cf943f2567e1471661bd05822b2d44f047e5f5", func := "grisaille/grisaillelaw26.OutlineStroke", spec := "outlineStroke", unfollowed := true, recurses := true, named := ["math/bits.divideError", "math/bits.overflowError"], apart := false, narrowed := true }
def OutlineStrokeUptoSaid : Prop := outlineStrokeUptoRow.holds Tryz.pinned (OpenSpec.upto outlineStrokeSpec)

/-- 'grisaillelaw26.OutlineTransform', WHERE WHAT IT READS IS OF BULK AT MOST 1048576: true; the input reads as it did. -/
def outlineTransformUptoRow : OpenClaim := { program := "ytbgnkgoiocjbnaagreat", sum := "4aef0481509bcc7f519b0f1365cf943f2567e1471661bd05822b2d44f047e5f5", func := "grisaille/grisaillelaw26.OutlineTransform", spec := "outlineTransform", unfollowed := true, recurses := true, named := ["math/bits.divideError", "math/bits.overflowError"], apart := false, narrowed := true }
def OutlineTransformUptoSaid : Prop := outlineTransformUptoRow.holds Tryz.pinned (OpenSpec.upto outlineTransformSpec)

/-- 'grisaillelaw26.OutlineTranslation', WHERE WHAT IT READS IS OF BULK AT MOST 1048576: true; the input reads as it did. -/
def outlineTranslationUptoRow : OpenClaim := { program := "ytbgnkgoiocjbnaagreat", sum := "4aef0481509bcc7f519b0f1365cf943f2567e1471661bd05822b2d44f047e5f5", func := "grisaille/grisaillelaw26.OutlineTranslation", spec := "outlineTranslation", unfollowed := true, recurses := true, named := ["math/bits.divideError", "math/bits.overflowError"], apart := false, narrowed := true }
def OutlineTranslationUptoSaid : Prop := outlineTranslationUptoRow.holds Tryz.pinned (OpenSpec.upto outlineTranslationSpec)

/-- 'grisaillelaw26.OutlineIdentity', WHERE WHAT IT READS IS OF BULK AT MOST 1048576: true; the input reads as it did. -/
def outlineIdentityUptoRow : OpenClaim := { program := "ytbgnkgoiocjbnaagreat", sum := "4aef0481509bcc7f519b0f1365cf943f2567e1471661bd05822b2d44f047e5f5", func := "grisaille/grisaillelaw26.OutlineIdentity", spec := "outlineIdentity", unfollowed := true, recurses := true, named := ["math/bits.divideError", "math/bits.overflowError"], apart := false, narrowed := true }
def OutlineIdentityUptoSaid : Prop := outlineIdentityUptoRow.holds Tryz.pinned (OpenSpec.upto outlineIdentitySpec)

/-- 'grisaillelaw26.OutlineStrokeBounds', WHERE WHAT IT READS IS OF BULK AT MOST 1048576: true; the input reads as it did. -/
def outlineStrokeBoundsUptoRow : OpenClaim := { program := "ytbgnkgoiocjbnaagreat", sum := "4aef0481509bcc7f519b0f1365cf943f2567e1471661bd05822b2d44f047e5f5", func := "grisaille/grisaillelaw26.OutlineStrokeBounds", spec := "outlineStrokeBounds", unfollowed := true, recurses := true, named := ["math/bits.divideError", "math/bits.overflowError"], apart := false, narrowed := true }
def OutlineStrokeBoundsUptoSaid : Prop := outlineStrokeBoundsUptoRow.holds Tryz.pinned (OpenSpec.upto outlineStrokeBoundsSpec)

/-- 'grisaillelaw26.OutlineInside', WHERE WHAT IT READS IS OF BULK AT MOST 1048576: true; the input reads as it did. -/
def outlineInsideUptoRow : OpenClaim := { program := "ytbgnkgoiocjbnaagreat", sum := "4aef0481509bcc7f519b0f1365cf943f2567e1471661bd05822b2d44f047e5f5", func := "grisaille/grisaillelaw26.OutlineInside", spec := "outlineInside", unfollowed := true, recurses := true, named := ["math/bits.divideError", "math/bits.overflowError"], apart := false, narrowed := true }
def OutlineInsideUptoSaid : Prop := outlineInsideUptoRow.holds Tryz.pinned (OpenSpec.upto outlineInsideSpec)

/-- 'grisaillelaw26.OutlineOffset', WHERE WHAT IT READS IS OF BULK AT MOST 1048576: true; the input reads as it did. -/
def outlineOffsetUptoRow : OpenClaim := { program := "ytbgnkgoiocjbnaagreat", sum := "4aef0481509bcc7f519b0f1365cf943f2567e1471661bd05822b2d44f047e5f5", func := "grisaille/grisaillelaw26.OutlineOffset", spec := "outlineOffset", unfollowed := true, recurses := true, named := ["math/bits.divideError", "math/bits.overflowError"], apart := false, narrowed := true }
def OutlineOffsetUptoSaid : Prop := outlineOffsetUptoRow.holds Tryz.pinned (OpenSpec.upto outlineOffsetSpec)

end Rows
end Go.Proofs.YtbgnkgoiocjbnaaGreat
