/-
  DERIVED. GIVEN WITH THE SEED: THE CARDS: each row of YtdkomlilfdbahaaGreatDoorRows.lean that lists a variable, with what it lists TIED to the program's text (the seventh form; the later family's looks); each row that meets fmt, with fmt's text TOLD by the authors' own Lean function (tested against real Go, not proved from fmt's source: count such statements apart). THE CARD IS WHAT COUNTS. Prove the row's statement (the work); the ties are given (YtdkomlilfdbahaaGreatDoorTie.lean); close each card by the builder's one call (the guide's Derived/Test/ToyasCard.lean, 'card_holds'). Laid BY PROGRAM, IN A SANDBOX (cutbox-door.mjs). By AI agents, Wed Nov 11 2026. No macro, syntax, notation, axiom, sorry.
-/
import Derived.Test.YtdkomlilfdbahaaGreatDoorRows
import GoSem.ClaimSeven
namespace Go.Proofs.YtdkomlilfdbahaaGreatDoor
namespace Rows

/-- THE TIED CARD OF 'grisaillelaw44.HittestIndexIsolation'. -/
def hittestIndexIsolationCard : Claim7 := { stood := { row := hittestIndexIsolationRow, standIns := [], harness := (true, "783c68674e04c5e622ea6aea7512e41ea799413feaf633b6b8360d01d76f891b"), looks := true }, kinds := [], alts := [], laidByText := true, laidKinds := [.handle], laidTests := true, laidLooks := .later }
def HittestIndexIsolationCardSaid : Prop := Claim7.holds Tryz.pinned (.plain (OpenSpec.ofChange hittestIndexIsolationSpec)) hittestIndexIsolationCard

/-- THE SECOND FORM's CARD OF 'grisaillelaw44.HittestIndexIsolation'. -/
def hittestIndexIsolationUptoCard : Claim7 := { stood := { row := hittestIndexIsolationUptoRow, standIns := [], harness := (true, "783c68674e04c5e622ea6aea7512e41ea799413feaf633b6b8360d01d76f891b"), looks := true }, kinds := [], alts := [], laidByText := true, laidKinds := [.handle], laidTests := true, laidLooks := .later }
def HittestIndexIsolationUptoCardSaid : Prop := Claim7.holds Tryz.pinned (.plain (OpenSpec.upto hittestIndexIsolationSpec)) hittestIndexIsolationUptoCard
end Rows
end Go.Proofs.YtdkomlilfdbahaaGreatDoor
