/-
  DERIVED. GIVEN WITH THE SEED: THE CARDS: each row of YtgpojcfkanjabaaGreatDoorRows.lean that lists a variable, with what it lists TIED to the program's text (the seventh form; the later family's looks); each row that meets fmt, with fmt's text TOLD by the authors' own Lean function (tested against real Go, not proved from fmt's source: count such statements apart). THE CARD IS WHAT COUNTS. Prove the row's statement (the work); the ties are given (YtgpojcfkanjabaaGreatDoorTie.lean); close each card by the builder's one call (the guide's Derived/Test/ToyasCard.lean, 'card_holds'). Laid BY PROGRAM, IN A SANDBOX (cutbox-door.mjs). By AI agents, Wed Nov 11 2026. No macro, syntax, notation, axiom, sorry.
-/
import Derived.Test.YtgpojcfkanjabaaGreatDoorRows
import GoSem.ClaimSeven
namespace Go.Proofs.YtgpojcfkanjabaaGreatDoor
namespace Rows

/-- THE TIED CARD OF 'estoppeltop.TopAdvisedSeen'. -/
def topAdvisedSeenCard : Claim7 := { stood := { row := topAdvisedSeenRow, standIns := [], harness := (true, "2c1ec6f21508cbd86f0f5eb6a274bc90cbc6a4bca5a63915098fcad2f35d0032"), looks := false }, kinds := [], alts := [], laidByText := true, laidKinds := [.data, .data, .data], laidTests := true, laidLooks := .later }
def TopAdvisedSeenCardSaid : Prop := Claim7.holds Tryz.pinned (.plain (OpenSpec.ofChange topAdvisedSeenSpec)) topAdvisedSeenCard

/-- THE SECOND FORM's CARD OF 'estoppeltop.TopAdvisedSeen'. -/
def topAdvisedSeenUptoCard : Claim7 := { stood := { row := topAdvisedSeenUptoRow, standIns := [], harness := (true, "2c1ec6f21508cbd86f0f5eb6a274bc90cbc6a4bca5a63915098fcad2f35d0032"), looks := false }, kinds := [], alts := [], laidByText := true, laidKinds := [.data, .data, .data], laidTests := true, laidLooks := .later }
def TopAdvisedSeenUptoCardSaid : Prop := Claim7.holds Tryz.pinned (.plain (OpenSpec.upto topAdvisedSeenSpec)) topAdvisedSeenUptoCard
end Rows
end Go.Proofs.YtgpojcfkanjabaaGreatDoor
