/-
  DERIVED. GIVEN WITH THE SEED: THE CARDS: each row of YtjkljacdbljkpaaDoorRows.lean that lists a variable, with what it lists TIED to the program's text (the seventh form; the later family's looks); each row that meets fmt, with fmt's text TOLD by the authors' own Lean function (tested against real Go, not proved from fmt's source: count such statements apart). THE CARD IS WHAT COUNTS. Prove the row's statement (the work); the ties are given (YtjkljacdbljkpaaDoorTie.lean); close each card by the builder's one call (the guide's Derived/Test/ToyasCard.lean, 'card_holds'). Laid BY PROGRAM, IN A SANDBOX (cutbox-door.mjs). By AI agents, Wed Nov 11 2026. No macro, syntax, notation, axiom, sorry.
-/
import Derived.Test.YtjkljacdbljkpaaDoorRows
import GoSem.ClaimSeven
namespace Go.Proofs.YtjkljacdbljkpaaDoor
namespace Rows

/-- THE TIED CARD OF 'estoppellaw20.StrategyAgain'. -/
def strategyAgainCard : Claim7 := { stood := { row := strategyAgainRow, standIns := [], harness := (true, "94758beab3a224d1d04748c404db287718d4095c7f830e28774aac0f29ec07c5"), looks := false }, kinds := [], alts := [], laidByText := true, laidKinds := [.data, .data, .data], laidTests := true, laidLooks := .later }
def StrategyAgainCardSaid : Prop := Claim7.holds Tryd.pinned (.plain (OpenSpec.ofChange strategyAgainSpec)) strategyAgainCard

/-- THE TIED CARD OF 'estoppellaw20.StrategyOthers'. -/
def strategyOthersCard : Claim7 := { stood := { row := strategyOthersRow, standIns := [], harness := (true, "94758beab3a224d1d04748c404db287718d4095c7f830e28774aac0f29ec07c5"), looks := false }, kinds := [], alts := [], laidByText := true, laidKinds := [.data, .data, .data], laidTests := true, laidLooks := .later }
def StrategyOthersCardSaid : Prop := Claim7.holds Tryd.pinned (.plain (OpenSpec.ofChange strategyOthersSpec)) strategyOthersCard

/-- THE SECOND FORM's CARD OF 'estoppellaw20.StrategyAgain'. -/
def strategyAgainUptoCard : Claim7 := { stood := { row := strategyAgainUptoRow, standIns := [], harness := (true, "94758beab3a224d1d04748c404db287718d4095c7f830e28774aac0f29ec07c5"), looks := false }, kinds := [], alts := [], laidByText := true, laidKinds := [.data, .data, .data], laidTests := true, laidLooks := .later }
def StrategyAgainUptoCardSaid : Prop := Claim7.holds Tryd.pinned (.plain (OpenSpec.upto strategyAgainSpec)) strategyAgainUptoCard

/-- THE SECOND FORM's CARD OF 'estoppellaw20.StrategyOthers'. -/
def strategyOthersUptoCard : Claim7 := { stood := { row := strategyOthersUptoRow, standIns := [], harness := (true, "94758beab3a224d1d04748c404db287718d4095c7f830e28774aac0f29ec07c5"), looks := false }, kinds := [], alts := [], laidByText := true, laidKinds := [.data, .data, .data], laidTests := true, laidLooks := .later }
def StrategyOthersUptoCardSaid : Prop := Claim7.holds Tryd.pinned (.plain (OpenSpec.upto strategyOthersSpec)) strategyOthersUptoCard
end Rows
end Go.Proofs.YtjkljacdbljkpaaDoor
