/-
  DERIVED. GIVEN WITH THE SEED: THE CARDS: each row of YtcjnhffjmonbeaaGreatDoorRows.lean that lists a variable, with what it lists TIED to the program's text (the seventh form; the later family's looks); each row that meets fmt, with fmt's text TOLD by the authors' own Lean function (tested against real Go, not proved from fmt's source: count such statements apart). THE CARD IS WHAT COUNTS. Prove the row's statement (the work); the ties are given (YtcjnhffjmonbeaaGreatDoorTie.lean); close each card by the builder's one call (the guide's Derived/Test/ToyasCard.lean, 'card_holds'). Laid BY PROGRAM, IN A SANDBOX (cutbox-door.mjs). By AI agents, Wed Nov 11 2026. No macro, syntax, notation, axiom, sorry.
-/
import Derived.Test.YtcjnhffjmonbeaaGreatDoorRows
import GoSem.ClaimSeven
namespace Go.Proofs.YtcjnhffjmonbeaaGreatDoor
namespace Rows

/-- THE TIED CARD OF 'grisaillelaw38.GeometryTransforms'. -/
def geometryTransformsCard : Claim7 := { stood := { row := geometryTransformsRow, standIns := [], harness := (true, "f6a8d015b0373e1a460db4768d7d24580880a9b699f4176b4ef01d874d8352e6"), looks := true }, kinds := [], alts := [], laidByText := true, laidKinds := [.handle], laidTests := true, laidLooks := .later }
def GeometryTransformsCardSaid : Prop := Claim7.holds Tryz.pinned (.plain (OpenSpec.ofChange geometryTransformsSpec)) geometryTransformsCard

/-- THE TIED CARD OF 'grisaillelaw38.GeometryClips'. -/
def geometryClipsCard : Claim7 := { stood := { row := geometryClipsRow, standIns := [], harness := (true, "f6a8d015b0373e1a460db4768d7d24580880a9b699f4176b4ef01d874d8352e6"), looks := true }, kinds := [], alts := [], laidByText := true, laidKinds := [.handle], laidTests := true, laidLooks := .later }
def GeometryClipsCardSaid : Prop := Claim7.holds Tryz.pinned (.plain (OpenSpec.ofChange geometryClipsSpec)) geometryClipsCard

/-- THE TIED CARD OF 'grisaillelaw38.GeometryCoordinates'. -/
def geometryCoordinatesCard : Claim7 := { stood := { row := geometryCoordinatesRow, standIns := [], harness := (true, "f6a8d015b0373e1a460db4768d7d24580880a9b699f4176b4ef01d874d8352e6"), looks := true }, kinds := [], alts := [], laidByText := true, laidKinds := [.handle], laidTests := true, laidLooks := .later }
def GeometryCoordinatesCardSaid : Prop := Claim7.holds Tryz.pinned (.plain (OpenSpec.ofChange geometryCoordinatesSpec)) geometryCoordinatesCard

/-- THE TIED CARD OF 'grisaillelaw38.GeometryRoundTrip'. -/
def geometryRoundTripCard : Claim7 := { stood := { row := geometryRoundTripRow, standIns := [], harness := (true, "f6a8d015b0373e1a460db4768d7d24580880a9b699f4176b4ef01d874d8352e6"), looks := true }, kinds := [], alts := [], laidByText := true, laidKinds := [.handle], laidTests := true, laidLooks := .later }
def GeometryRoundTripCardSaid : Prop := Claim7.holds Tryz.pinned (.plain (OpenSpec.ofChange geometryRoundTripSpec)) geometryRoundTripCard

/-- THE SECOND FORM's CARD OF 'grisaillelaw38.GeometryTransforms'. -/
def geometryTransformsUptoCard : Claim7 := { stood := { row := geometryTransformsUptoRow, standIns := [], harness := (true, "f6a8d015b0373e1a460db4768d7d24580880a9b699f4176b4ef01d874d8352e6"), looks := true }, kinds := [], alts := [], laidByText := true, laidKinds := [.handle], laidTests := true, laidLooks := .later }
def GeometryTransformsUptoCardSaid : Prop := Claim7.holds Tryz.pinned (.plain (OpenSpec.upto geometryTransformsSpec)) geometryTransformsUptoCard

/-- THE SECOND FORM's CARD OF 'grisaillelaw38.GeometryClips'. -/
def geometryClipsUptoCard : Claim7 := { stood := { row := geometryClipsUptoRow, standIns := [], harness := (true, "f6a8d015b0373e1a460db4768d7d24580880a9b699f4176b4ef01d874d8352e6"), looks := true }, kinds := [], alts := [], laidByText := true, laidKinds := [.handle], laidTests := true, laidLooks := .later }
def GeometryClipsUptoCardSaid : Prop := Claim7.holds Tryz.pinned (.plain (OpenSpec.upto geometryClipsSpec)) geometryClipsUptoCard

/-- THE SECOND FORM's CARD OF 'grisaillelaw38.GeometryCoordinates'. -/
def geometryCoordinatesUptoCard : Claim7 := { stood := { row := geometryCoordinatesUptoRow, standIns := [], harness := (true, "f6a8d015b0373e1a460db4768d7d24580880a9b699f4176b4ef01d874d8352e6"), looks := true }, kinds := [], alts := [], laidByText := true, laidKinds := [.handle], laidTests := true, laidLooks := .later }
def GeometryCoordinatesUptoCardSaid : Prop := Claim7.holds Tryz.pinned (.plain (OpenSpec.upto geometryCoordinatesSpec)) geometryCoordinatesUptoCard

/-- THE SECOND FORM's CARD OF 'grisaillelaw38.GeometryRoundTrip'. -/
def geometryRoundTripUptoCard : Claim7 := { stood := { row := geometryRoundTripUptoRow, standIns := [], harness := (true, "f6a8d015b0373e1a460db4768d7d24580880a9b699f4176b4ef01d874d8352e6"), looks := true }, kinds := [], alts := [], laidByText := true, laidKinds := [.handle], laidTests := true, laidLooks := .later }
def GeometryRoundTripUptoCardSaid : Prop := Claim7.holds Tryz.pinned (.plain (OpenSpec.upto geometryRoundTripSpec)) geometryRoundTripUptoCard
end Rows
end Go.Proofs.YtcjnhffjmonbeaaGreatDoor
