/-
  DERIVED. GIVEN WITH THE SEED: THE CARDS: each row of YtakicgnbhdpknaaGreatDoorRows.lean that lists a variable, with what it lists TIED to the program's text (the seventh form; the later family's looks); each row that meets fmt, with fmt's text TOLD by the authors' own Lean function (tested against real Go, not proved from fmt's source: count such statements apart). THE CARD IS WHAT COUNTS. Prove the row's statement (the work); the ties are given (YtakicgnbhdpknaaGreatDoorTie.lean); close each card by the builder's one call (the guide's Derived/Test/ToyasCard.lean, 'card_holds'). Laid BY PROGRAM, IN A SANDBOX (cutbox-door.mjs). By AI agents, Wed Nov 11 2026. No macro, syntax, notation, axiom, sorry.
-/
import Derived.Test.YtakicgnbhdpknaaGreatDoorRows
import GoSem.ClaimSeven
namespace Go.Proofs.YtakicgnbhdpknaaGreatDoor
namespace Rows

/-- THE TIED CARD OF 'grisaillelaw44.HittestNodesAt'. -/
def hittestNodesAtCard : Claim7 := { stood := { row := hittestNodesAtRow, standIns := [], harness := (true, "84ce59e76cac890de5ff8fbc03a2d1eb39c964bcca6f25b173658246189fd49f"), looks := true }, kinds := [], alts := [], laidByText := true, laidKinds := [.handle], laidTests := true, laidLooks := .later }
def HittestNodesAtCardSaid : Prop := Claim7.holds Tryz.pinned (.plain (OpenSpec.ofChange hittestNodesAtSpec)) hittestNodesAtCard

/-- THE TIED CARD OF 'grisaillelaw44.HittestTopNode'. -/
def hittestTopNodeCard : Claim7 := { stood := { row := hittestTopNodeRow, standIns := [], harness := (true, "84ce59e76cac890de5ff8fbc03a2d1eb39c964bcca6f25b173658246189fd49f"), looks := true }, kinds := [], alts := [], laidByText := true, laidKinds := [.handle], laidTests := true, laidLooks := .later }
def HittestTopNodeCardSaid : Prop := Claim7.holds Tryz.pinned (.plain (OpenSpec.ofChange hittestTopNodeSpec)) hittestTopNodeCard

/-- THE TIED CARD OF 'grisaillelaw44.HittestIndexAt'. -/
def hittestIndexAtCard : Claim7 := { stood := { row := hittestIndexAtRow, standIns := [], harness := (true, "84ce59e76cac890de5ff8fbc03a2d1eb39c964bcca6f25b173658246189fd49f"), looks := true }, kinds := [], alts := [], laidByText := true, laidKinds := [.handle], laidTests := true, laidLooks := .later }
def HittestIndexAtCardSaid : Prop := Claim7.holds Tryz.pinned (.plain (OpenSpec.ofChange hittestIndexAtSpec)) hittestIndexAtCard

/-- THE TIED CARD OF 'grisaillelaw44.HittestIndexInRect'. -/
def hittestIndexInRectCard : Claim7 := { stood := { row := hittestIndexInRectRow, standIns := [], harness := (true, "84ce59e76cac890de5ff8fbc03a2d1eb39c964bcca6f25b173658246189fd49f"), looks := true }, kinds := [], alts := [], laidByText := true, laidKinds := [.handle], laidTests := true, laidLooks := .later }
def HittestIndexInRectCardSaid : Prop := Claim7.holds Tryz.pinned (.plain (OpenSpec.ofChange hittestIndexInRectSpec)) hittestIndexInRectCard

/-- THE SECOND FORM's CARD OF 'grisaillelaw44.HittestNodesAt'. -/
def hittestNodesAtUptoCard : Claim7 := { stood := { row := hittestNodesAtUptoRow, standIns := [], harness := (true, "84ce59e76cac890de5ff8fbc03a2d1eb39c964bcca6f25b173658246189fd49f"), looks := true }, kinds := [], alts := [], laidByText := true, laidKinds := [.handle], laidTests := true, laidLooks := .later }
def HittestNodesAtUptoCardSaid : Prop := Claim7.holds Tryz.pinned (.plain (OpenSpec.upto hittestNodesAtSpec)) hittestNodesAtUptoCard

/-- THE SECOND FORM's CARD OF 'grisaillelaw44.HittestTopNode'. -/
def hittestTopNodeUptoCard : Claim7 := { stood := { row := hittestTopNodeUptoRow, standIns := [], harness := (true, "84ce59e76cac890de5ff8fbc03a2d1eb39c964bcca6f25b173658246189fd49f"), looks := true }, kinds := [], alts := [], laidByText := true, laidKinds := [.handle], laidTests := true, laidLooks := .later }
def HittestTopNodeUptoCardSaid : Prop := Claim7.holds Tryz.pinned (.plain (OpenSpec.upto hittestTopNodeSpec)) hittestTopNodeUptoCard

/-- THE SECOND FORM's CARD OF 'grisaillelaw44.HittestIndexAt'. -/
def hittestIndexAtUptoCard : Claim7 := { stood := { row := hittestIndexAtUptoRow, standIns := [], harness := (true, "84ce59e76cac890de5ff8fbc03a2d1eb39c964bcca6f25b173658246189fd49f"), looks := true }, kinds := [], alts := [], laidByText := true, laidKinds := [.handle], laidTests := true, laidLooks := .later }
def HittestIndexAtUptoCardSaid : Prop := Claim7.holds Tryz.pinned (.plain (OpenSpec.upto hittestIndexAtSpec)) hittestIndexAtUptoCard

/-- THE SECOND FORM's CARD OF 'grisaillelaw44.HittestIndexInRect'. -/
def hittestIndexInRectUptoCard : Claim7 := { stood := { row := hittestIndexInRectUptoRow, standIns := [], harness := (true, "84ce59e76cac890de5ff8fbc03a2d1eb39c964bcca6f25b173658246189fd49f"), looks := true }, kinds := [], alts := [], laidByText := true, laidKinds := [.handle], laidTests := true, laidLooks := .later }
def HittestIndexInRectUptoCardSaid : Prop := Claim7.holds Tryz.pinned (.plain (OpenSpec.upto hittestIndexInRectSpec)) hittestIndexInRectUptoCard
end Rows
end Go.Proofs.YtakicgnbhdpknaaGreatDoor
