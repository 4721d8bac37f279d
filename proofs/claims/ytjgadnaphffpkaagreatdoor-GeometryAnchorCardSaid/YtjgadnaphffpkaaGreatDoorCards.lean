/-
  DERIVED. GIVEN WITH THE SEED: THE CARDS: each row of YtjgadnaphffpkaaGreatDoorRows.lean that lists a variable, with what it lists TIED to the program's text (the seventh form; the later family's looks); each row that meets fmt, with fmt's text TOLD by the authors' own Lean function (tested against real Go, not proved from fmt's source: count such statements apart). THE CARD IS WHAT COUNTS. Prove the row's statement (the work); the ties are given (YtjgadnaphffpkaaGreatDoorTie.lean); close each card by the builder's one call (the guide's Derived/Test/ToyasCard.lean, 'card_holds'). Laid BY PROGRAM, IN A SANDBOX (cutbox-door.mjs). By AI agents, Wed Nov 11 2026. No macro, syntax, notation, axiom, sorry.
-/
import Derived.Test.YtjgadnaphffpkaaGreatDoorRows
import GoSem.ClaimSeven
namespace Go.Proofs.YtjgadnaphffpkaaGreatDoor
namespace Rows

/-- THE TIED CARD OF 'grisaillelaw38.GeometryPolygons'. -/
def geometryPolygonsCard : Claim7 := { stood := { row := geometryPolygonsRow, standIns := [], harness := (true, "103deabf8241b161086f068bf57938a8956dea4c3b7e24a6fafa4be4d975468a"), looks := true }, kinds := [], alts := [], laidByText := true, laidKinds := [.handle], laidTests := true, laidLooks := .later }
def GeometryPolygonsCardSaid : Prop := Claim7.holds Tryz.pinned (.plain (OpenSpec.ofChange geometryPolygonsSpec)) geometryPolygonsCard

/-- THE TIED CARD OF 'grisaillelaw38.GeometryAnchor'. -/
def geometryAnchorCard : Claim7 := { stood := { row := geometryAnchorRow, standIns := [], harness := (true, "103deabf8241b161086f068bf57938a8956dea4c3b7e24a6fafa4be4d975468a"), looks := true }, kinds := [], alts := [], laidByText := true, laidKinds := [.handle], laidTests := true, laidLooks := .later }
def GeometryAnchorCardSaid : Prop := Claim7.holds Tryz.pinned (.plain (OpenSpec.ofChange geometryAnchorSpec)) geometryAnchorCard

/-- THE SECOND FORM's CARD OF 'grisaillelaw38.GeometryPolygons'. -/
def geometryPolygonsUptoCard : Claim7 := { stood := { row := geometryPolygonsUptoRow, standIns := [], harness := (true, "103deabf8241b161086f068bf57938a8956dea4c3b7e24a6fafa4be4d975468a"), looks := true }, kinds := [], alts := [], laidByText := true, laidKinds := [.handle], laidTests := true, laidLooks := .later }
def GeometryPolygonsUptoCardSaid : Prop := Claim7.holds Tryz.pinned (.plain (OpenSpec.upto geometryPolygonsSpec)) geometryPolygonsUptoCard

/-- THE SECOND FORM's CARD OF 'grisaillelaw38.GeometryAnchor'. -/
def geometryAnchorUptoCard : Claim7 := { stood := { row := geometryAnchorUptoRow, standIns := [], harness := (true, "103deabf8241b161086f068bf57938a8956dea4c3b7e24a6fafa4be4d975468a"), looks := true }, kinds := [], alts := [], laidByText := true, laidKinds := [.handle], laidTests := true, laidLooks := .later }
def GeometryAnchorUptoCardSaid : Prop := Claim7.holds Tryz.pinned (.plain (OpenSpec.upto geometryAnchorSpec)) geometryAnchorUptoCard
end Rows
end Go.Proofs.YtjgadnaphffpkaaGreatDoor
