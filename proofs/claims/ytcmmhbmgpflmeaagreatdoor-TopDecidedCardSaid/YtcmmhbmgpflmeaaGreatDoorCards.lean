/-
  DERIVED. GIVEN WITH THE SEED: THE CARDS: each row of YtcmmhbmgpflmeaaGreatDoorRows.lean that lists a variable, with what it lists TIED to the program's text (the seventh form; the later family's looks); each row that meets fmt, with fmt's text TOLD by the authors' own Lean function (tested against real Go, not proved from fmt's source: count such statements apart). THE CARD IS WHAT COUNTS. Prove the row's statement (the work); the ties are given (YtcmmhbmgpflmeaaGreatDoorTie.lean); close each card by the builder's one call (the guide's Derived/Test/ToyasCard.lean, 'card_holds'). Laid BY PROGRAM, IN A SANDBOX (cutbox-door.mjs). By AI agents, Wed Nov 11 2026. No macro, syntax, notation, axiom, sorry.
-/
import Derived.Test.YtcmmhbmgpflmeaaGreatDoorRows
import GoSem.ClaimSeven
namespace Go.Proofs.YtcmmhbmgpflmeaaGreatDoor
namespace Rows

/-- THE TIED CARD OF 'estoppeltop.TopDecided'. -/
def topDecidedCard : Claim7 := { stood := { row := topDecidedRow, standIns := [], harness := (true, "8bd5698f10dcb61da21205c18483184976c2d1ccbcc39f1ba920db4c6a81be3b"), looks := false }, kinds := [], alts := [], laidByText := true, laidKinds := [.data, .data, .data], laidTests := true, laidLooks := .later }
def TopDecidedCardSaid : Prop := Claim7.holds Tryz.pinned (.plain (OpenSpec.ofChange topDecidedSpec)) topDecidedCard

/-- THE SECOND FORM's CARD OF 'estoppeltop.TopDecided'. -/
def topDecidedUptoCard : Claim7 := { stood := { row := topDecidedUptoRow, standIns := [], harness := (true, "8bd5698f10dcb61da21205c18483184976c2d1ccbcc39f1ba920db4c6a81be3b"), looks := false }, kinds := [], alts := [], laidByText := true, laidKinds := [.data, .data, .data], laidTests := true, laidLooks := .later }
def TopDecidedUptoCardSaid : Prop := Claim7.holds Tryz.pinned (.plain (OpenSpec.upto topDecidedSpec)) topDecidedUptoCard
end Rows
end Go.Proofs.YtcmmhbmgpflmeaaGreatDoor
