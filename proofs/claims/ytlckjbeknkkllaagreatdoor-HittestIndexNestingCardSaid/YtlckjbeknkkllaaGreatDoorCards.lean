/-
  DERIVED. GIVEN WITH THE SEED: THE CARDS: each row of YtlckjbeknkkllaaGreatDoorRows.lean that lists a variable, with what it lists TIED to the program's text (the seventh form; the later family's looks); each row that meets fmt, with fmt's text TOLD by the authors' own Lean function (tested against real Go, not proved from fmt's source: count such statements apart). THE CARD IS WHAT COUNTS. Prove the row's statement (the work); the ties are given (YtlckjbeknkkllaaGreatDoorTie.lean); close each card by the builder's one call (the guide's Derived/Test/ToyasCard.lean, 'card_holds'). Laid BY PROGRAM, IN A SANDBOX (cutbox-door.mjs). By AI agents, Wed Nov 11 2026. No macro, syntax, notation, axiom, sorry.
-/
import Derived.Test.YtlckjbeknkkllaaGreatDoorRows
import GoSem.ClaimSeven
namespace Go.Proofs.YtlckjbeknkkllaaGreatDoor
namespace Rows

/-- THE TIED CARD OF 'grisaillelaw44.HittestNodesAt'. -/
def hittestNodesAtCard : Claim7 := { stood := { row := hittestNodesAtRow, standIns := [], harness := (true, "90e68456de70eaed77e3516f25e8393b11600bdc2c5c4f251b212dcb74eaf223"), looks := true }, kinds := [], alts := [], laidByText := true, laidKinds := [.handle], laidTests := true, laidLooks := .later }
def HittestNodesAtCardSaid : Prop := Claim7.holds Tryz.pinned (.plain (OpenSpec.ofChange hittestNodesAtSpec)) hittestNodesAtCard

/-- THE TIED CARD OF 'grisaillelaw44.HittestTopNode'. -/
def hittestTopNodeCard : Claim7 := { stood := { row := hittestTopNodeRow, standIns := [], harness := (true, "90e68456de70eaed77e3516f25e8393b11600bdc2c5c4f251b212dcb74eaf223"), looks := true }, kinds := [], alts := [], laidByText := true, laidKinds := [.handle], laidTests := true, laidLooks := .later }
def HittestTopNodeCardSaid : Prop := Claim7.holds Tryz.pinned (.plain (OpenSpec.ofChange hittestTopNodeSpec)) hittestTopNodeCard

/-- THE TIED CARD OF 'grisaillelaw44.HittestAddedShape'. -/
def hittestAddedShapeCard : Claim7 := { stood := { row := hittestAddedShapeRow, standIns := [], harness := (true, "90e68456de70eaed77e3516f25e8393b11600bdc2c5c4f251b212dcb74eaf223"), looks := true }, kinds := [], alts := [], laidByText := true, laidKinds := [.handle], laidTests := true, laidLooks := .later }
def HittestAddedShapeCardSaid : Prop := Claim7.holds Tryz.pinned (.plain (OpenSpec.ofChange hittestAddedShapeSpec)) hittestAddedShapeCard

/-- THE TIED CARD OF 'grisaillelaw44.HittestIndexAt'. -/
def hittestIndexAtCard : Claim7 := { stood := { row := hittestIndexAtRow, standIns := [], harness := (true, "90e68456de70eaed77e3516f25e8393b11600bdc2c5c4f251b212dcb74eaf223"), looks := true }, kinds := [], alts := [], laidByText := true, laidKinds := [.handle], laidTests := true, laidLooks := .later }
def HittestIndexAtCardSaid : Prop := Claim7.holds Tryz.pinned (.plain (OpenSpec.ofChange hittestIndexAtSpec)) hittestIndexAtCard

/-- THE TIED CARD OF 'grisaillelaw44.HittestIndexInRect'. -/
def hittestIndexInRectCard : Claim7 := { stood := { row := hittestIndexInRectRow, standIns := [], harness := (true, "90e68456de70eaed77e3516f25e8393b11600bdc2c5c4f251b212dcb74eaf223"), looks := true }, kinds := [], alts := [], laidByText := true, laidKinds := [.handle], laidTests := true, laidLooks := .later }
def HittestIndexInRectCardSaid : Prop := Claim7.holds Tryz.pinned (.plain (OpenSpec.ofChange hittestIndexInRectSpec)) hittestIndexInRectCard

/-- THE TIED CARD OF 'grisaillelaw44.HittestIndexNesting'. -/
def hittestIndexNestingCard : Claim7 := { stood := { row := hittestIndexNestingRow, standIns := [], harness := (true, "90e68456de70eaed77e3516f25e8393b11600bdc2c5c4f251b212dcb74eaf223"), looks := true }, kinds := [], alts := [], laidByText := true, laidKinds := [.handle], laidTests := true, laidLooks := .later }
def HittestIndexNestingCardSaid : Prop := Claim7.holds Tryz.pinned (.plain (OpenSpec.ofChange hittestIndexNestingSpec)) hittestIndexNestingCard

/-- THE TIED CARD OF 'grisaillelaw44.HittestIndexIsolation'. -/
def hittestIndexIsolationCard : Claim7 := { stood := { row := hittestIndexIsolationRow, standIns := [], harness := (true, "90e68456de70eaed77e3516f25e8393b11600bdc2c5c4f251b212dcb74eaf223"), looks := true }, kinds := [], alts := [], laidByText := true, laidKinds := [.handle], laidTests := true, laidLooks := .later }
def HittestIndexIsolationCardSaid : Prop := Claim7.holds Tryz.pinned (.plain (OpenSpec.ofChange hittestIndexIsolationSpec)) hittestIndexIsolationCard

/-- THE SECOND FORM's CARD OF 'grisaillelaw44.HittestNodesAt'. -/
def hittestNodesAtUptoCard : Claim7 := { stood := { row := hittestNodesAtUptoRow, standIns := [], harness := (true, "90e68456de70eaed77e3516f25e8393b11600bdc2c5c4f251b212dcb74eaf223"), looks := true }, kinds := [], alts := [], laidByText := true, laidKinds := [.handle], laidTests := true, laidLooks := .later }
def HittestNodesAtUptoCardSaid : Prop := Claim7.holds Tryz.pinned (.plain (OpenSpec.upto hittestNodesAtSpec)) hittestNodesAtUptoCard

/-- THE SECOND FORM's CARD OF 'grisaillelaw44.HittestTopNode'. -/
def hittestTopNodeUptoCard : Claim7 := { stood := { row := hittestTopNodeUptoRow, standIns := [], harness := (true, "90e68456de70eaed77e3516f25e8393b11600bdc2c5c4f251b212dcb74eaf223"), looks := true }, kinds := [], alts := [], laidByText := true, laidKinds := [.handle], laidTests := true, laidLooks := .later }
def HittestTopNodeUptoCardSaid : Prop := Claim7.holds Tryz.pinned (.plain (OpenSpec.upto hittestTopNodeSpec)) hittestTopNodeUptoCard

/-- THE SECOND FORM's CARD OF 'grisaillelaw44.HittestAddedShape'. -/
def hittestAddedShapeUptoCard : Claim7 := { stood := { row := hittestAddedShapeUptoRow, standIns := [], harness := (true, "90e68456de70eaed77e3516f25e8393b11600bdc2c5c4f251b212dcb74eaf223"), looks := true }, kinds := [], alts := [], laidByText := true, laidKinds := [.handle], laidTests := true, laidLooks := .later }
def HittestAddedShapeUptoCardSaid : Prop := Claim7.holds Tryz.pinned (.plain (OpenSpec.upto hittestAddedShapeSpec)) hittestAddedShapeUptoCard

/-- THE SECOND FORM's CARD OF 'grisaillelaw44.HittestIndexAt'. -/
def hittestIndexAtUptoCard : Claim7 := { stood := { row := hittestIndexAtUptoRow, standIns := [], harness := (true, "90e68456de70eaed77e3516f25e8393b11600bdc2c5c4f251b212dcb74eaf223"), looks := true }, kinds := [], alts := [], laidByText := true, laidKinds := [.handle], laidTests := true, laidLooks := .later }
def HittestIndexAtUptoCardSaid : Prop := Claim7.holds Tryz.pinned (.plain (OpenSpec.upto hittestIndexAtSpec)) hittestIndexAtUptoCard

/-- THE SECOND FORM's CARD OF 'grisaillelaw44.HittestIndexInRect'. -/
def hittestIndexInRectUptoCard : Claim7 := { stood := { row := hittestIndexInRectUptoRow, standIns := [], harness := (true, "90e68456de70eaed77e3516f25e8393b11600bdc2c5c4f251b212dcb74eaf223"), looks := true }, kinds := [], alts := [], laidByText := true, laidKinds := [.handle], laidTests := true, laidLooks := .later }
def HittestIndexInRectUptoCardSaid : Prop := Claim7.holds Tryz.pinned (.plain (OpenSpec.upto hittestIndexInRectSpec)) hittestIndexInRectUptoCard

/-- THE SECOND FORM's CARD OF 'grisaillelaw44.HittestIndexNesting'. -/
def hittestIndexNestingUptoCard : Claim7 := { stood := { row := hittestIndexNestingUptoRow, standIns := [], harness := (true, "90e68456de70eaed77e3516f25e8393b11600bdc2c5c4f251b212dcb74eaf223"), looks := true }, kinds := [], alts := [], laidByText := true, laidKinds := [.handle], laidTests := true, laidLooks := .later }
def HittestIndexNestingUptoCardSaid : Prop := Claim7.holds Tryz.pinned (.plain (OpenSpec.upto hittestIndexNestingSpec)) hittestIndexNestingUptoCard

/-- THE SECOND FORM's CARD OF 'grisaillelaw44.HittestIndexIsolation'. -/
def hittestIndexIsolationUptoCard : Claim7 := { stood := { row := hittestIndexIsolationUptoRow, standIns := [], harness := (true, "90e68456de70eaed77e3516f25e8393b11600bdc2c5c4f251b212dcb74eaf223"), looks := true }, kinds := [], alts := [], laidByText := true, laidKinds := [.handle], laidTests := true, laidLooks := .later }
def HittestIndexIsolationUptoCardSaid : Prop := Claim7.holds Tryz.pinned (.plain (OpenSpec.upto hittestIndexIsolationSpec)) hittestIndexIsolationUptoCard
end Rows
end Go.Proofs.YtlckjbeknkkllaaGreatDoor
