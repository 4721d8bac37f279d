/-
  DERIVED. GIVEN WITH THE SEED: THE CARDS: each row of YtkngjacccoklaaaGreatDoorRows.lean that lists a variable, with what it lists TIED to the program's text (the seventh form; the later family's looks); each row that meets fmt, with fmt's text TOLD by the authors' own Lean function (tested against real Go, not proved from fmt's source: count such statements apart). THE CARD IS WHAT COUNTS. Prove the row's statement (the work); the ties are given (YtkngjacccoklaaaGreatDoorTie.lean); close each card by the builder's one call (the guide's Derived/Test/ToyasCard.lean, 'card_holds'). Laid BY PROGRAM, IN A SANDBOX (cutbox-door.mjs). By AI agents, Wed Nov 11 2026. No macro, syntax, notation, axiom, sorry.
-/
import Derived.Test.YtkngjacccoklaaaGreatDoorRows
import GoSem.ClaimSeven
namespace Go.Proofs.YtkngjacccoklaaaGreatDoor
namespace Rows

/-- THE TIED CARD OF 'grisaillelaw44.HittestContains'. -/
def hittestContainsCard : Claim7 := { stood := { row := hittestContainsRow, standIns := [], harness := (true, "db539a1798d147f41d84a57a67bf5006682dafd5b4d74454854c80b21e256686"), looks := true }, kinds := [], alts := [], laidByText := true, laidKinds := [.handle], laidTests := true, laidLooks := .later }
def HittestContainsCardSaid : Prop := Claim7.holds Tryz.pinned (.plain (OpenSpec.ofChange hittestContainsSpec)) hittestContainsCard

/-- THE SECOND FORM's CARD OF 'grisaillelaw44.HittestContains'. -/
def hittestContainsUptoCard : Claim7 := { stood := { row := hittestContainsUptoRow, standIns := [], harness := (true, "db539a1798d147f41d84a57a67bf5006682dafd5b4d74454854c80b21e256686"), looks := true }, kinds := [], alts := [], laidByText := true, laidKinds := [.handle], laidTests := true, laidLooks := .later }
def HittestContainsUptoCardSaid : Prop := Claim7.holds Tryz.pinned (.plain (OpenSpec.upto hittestContainsSpec)) hittestContainsUptoCard
end Rows
end Go.Proofs.YtkngjacccoklaaaGreatDoor
