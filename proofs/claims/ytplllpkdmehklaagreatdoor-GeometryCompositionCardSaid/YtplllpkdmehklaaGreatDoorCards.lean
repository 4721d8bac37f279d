/-
  DERIVED. GIVEN WITH THE SEED: THE CARDS: each row of YtplllpkdmehklaaGreatDoorRows.lean that lists a variable, with what it lists TIED to the program's text (the seventh form; the later family's looks); each row that meets fmt, with fmt's text TOLD by the authors' own Lean function (tested against real Go, not proved from fmt's source: count such statements apart). THE CARD IS WHAT COUNTS. Prove the row's statement (the work); the ties are given (YtplllpkdmehklaaGreatDoorTie.lean); close each card by the builder's one call (the guide's Derived/Test/ToyasCard.lean, 'card_holds'). Laid BY PROGRAM, IN A SANDBOX (cutbox-door.mjs). By AI agents, Wed Nov 11 2026. No macro, syntax, notation, axiom, sorry.
-/
import Derived.Test.YtplllpkdmehklaaGreatDoorRows
import GoSem.ClaimSeven
namespace Go.Proofs.YtplllpkdmehklaaGreatDoor
namespace Rows

/-- THE TIED CARD OF 'grisaillelaw38.GeometryTranslation'. -/
def geometryTranslationCard : Claim7 := { stood := { row := geometryTranslationRow, standIns := [], harness := (true, "52a4e0b7a1725ba1da8d14bc7c4910b0597527bfbe3c5c9e553ba68e80b5c446"), looks := true }, kinds := [], alts := [], laidByText := true, laidKinds := [.handle], laidTests := true, laidLooks := .later }
def GeometryTranslationCardSaid : Prop := Claim7.holds Tryz.pinned (.plain (OpenSpec.ofChange geometryTranslationSpec)) geometryTranslationCard

/-- THE TIED CARD OF 'grisaillelaw38.GeometryComposition'. -/
def geometryCompositionCard : Claim7 := { stood := { row := geometryCompositionRow, standIns := [], harness := (true, "52a4e0b7a1725ba1da8d14bc7c4910b0597527bfbe3c5c9e553ba68e80b5c446"), looks := true }, kinds := [], alts := [], laidByText := true, laidKinds := [.handle], laidTests := true, laidLooks := .later }
def GeometryCompositionCardSaid : Prop := Claim7.holds Tryz.pinned (.plain (OpenSpec.ofChange geometryCompositionSpec)) geometryCompositionCard

/-- THE TIED CARD OF 'grisaillelaw38.GeometryAnchorTranslation'. -/
def geometryAnchorTranslationCard : Claim7 := { stood := { row := geometryAnchorTranslationRow, standIns := [], harness := (true, "52a4e0b7a1725ba1da8d14bc7c4910b0597527bfbe3c5c9e553ba68e80b5c446"), looks := true }, kinds := [], alts := [], laidByText := true, laidKinds := [.handle], laidTests := true, laidLooks := .later }
def GeometryAnchorTranslationCardSaid : Prop := Claim7.holds Tryz.pinned (.plain (OpenSpec.ofChange geometryAnchorTranslationSpec)) geometryAnchorTranslationCard

/-- THE SECOND FORM's CARD OF 'grisaillelaw38.GeometryTranslation'. -/
def geometryTranslationUptoCard : Claim7 := { stood := { row := geometryTranslationUptoRow, standIns := [], harness := (true, "52a4e0b7a1725ba1da8d14bc7c4910b0597527bfbe3c5c9e553ba68e80b5c446"), looks := true }, kinds := [], alts := [], laidByText := true, laidKinds := [.handle], laidTests := true, laidLooks := .later }
def GeometryTranslationUptoCardSaid : Prop := Claim7.holds Tryz.pinned (.plain (OpenSpec.upto geometryTranslationSpec)) geometryTranslationUptoCard

/-- THE SECOND FORM's CARD OF 'grisaillelaw38.GeometryComposition'. -/
def geometryCompositionUptoCard : Claim7 := { stood := { row := geometryCompositionUptoRow, standIns := [], harness := (true, "52a4e0b7a1725ba1da8d14bc7c4910b0597527bfbe3c5c9e553ba68e80b5c446"), looks := true }, kinds := [], alts := [], laidByText := true, laidKinds := [.handle], laidTests := true, laidLooks := .later }
def GeometryCompositionUptoCardSaid : Prop := Claim7.holds Tryz.pinned (.plain (OpenSpec.upto geometryCompositionSpec)) geometryCompositionUptoCard

/-- THE SECOND FORM's CARD OF 'grisaillelaw38.GeometryAnchorTranslation'. -/
def geometryAnchorTranslationUptoCard : Claim7 := { stood := { row := geometryAnchorTranslationUptoRow, standIns := [], harness := (true, "52a4e0b7a1725ba1da8d14bc7c4910b0597527bfbe3c5c9e553ba68e80b5c446"), looks := true }, kinds := [], alts := [], laidByText := true, laidKinds := [.handle], laidTests := true, laidLooks := .later }
def GeometryAnchorTranslationUptoCardSaid : Prop := Claim7.holds Tryz.pinned (.plain (OpenSpec.upto geometryAnchorTranslationSpec)) geometryAnchorTranslationUptoCard
end Rows
end Go.Proofs.YtplllpkdmehklaaGreatDoor
