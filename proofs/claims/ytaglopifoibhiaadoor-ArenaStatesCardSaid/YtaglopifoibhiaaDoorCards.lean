/-
  DERIVED. GIVEN WITH THE SEED: THE CARDS: each row of YtaglopifoibhiaaDoorRows.lean that lists a variable, with what it lists TIED to the program's text (the seventh form; the later family's looks); each row that meets fmt, with fmt's text TOLD by the authors' own Lean function (tested against real Go, not proved from fmt's source: count such statements apart). THE CARD IS WHAT COUNTS. Prove the row's statement (the work); the ties are given (YtaglopifoibhiaaDoorTie.lean); close each card by the builder's one call (the guide's Derived/Test/ToyasCard.lean, 'card_holds'). Laid BY PROGRAM, IN A SANDBOX (cutbox-door.mjs). By AI agents, Wed Nov 11 2026. No macro, syntax, notation, axiom, sorry.
-/
import Derived.Test.YtaglopifoibhiaaDoorRows
import GoSem.ClaimSeven
namespace Go.Proofs.YtaglopifoibhiaaDoor
namespace Rows

/-- THE TIED CARD OF 'estoppellaw18.ArenaTraces'. -/
def arenaTracesCard : Claim7 := { stood := { row := arenaTracesRow, standIns := [], harness := (true, "276c8cf82d196e2d8316e5c16c6d7497c86e68577096c1d2bdbeadf6ee6e74e2"), looks := false }, kinds := [], alts := [], laidByText := true, laidKinds := [.data, .data, .data], laidTests := true, laidLooks := .later }
def ArenaTracesCardSaid : Prop := Claim7.holds Tryd.pinned (.plain (OpenSpec.ofChange arenaTracesSpec)) arenaTracesCard

/-- THE TIED CARD OF 'estoppellaw18.ArenaStates'. -/
def arenaStatesCard : Claim7 := { stood := { row := arenaStatesRow, standIns := [], harness := (true, "276c8cf82d196e2d8316e5c16c6d7497c86e68577096c1d2bdbeadf6ee6e74e2"), looks := false }, kinds := [], alts := [], laidByText := true, laidKinds := [.data, .data, .data], laidTests := true, laidLooks := .later }
def ArenaStatesCardSaid : Prop := Claim7.holds Tryd.pinned (.plain (OpenSpec.ofChange arenaStatesSpec)) arenaStatesCard

/-- THE TIED CARD OF 'estoppellaw18.ArenaParts'. -/
def arenaPartsCard : Claim7 := { stood := { row := arenaPartsRow, standIns := [], harness := (true, "276c8cf82d196e2d8316e5c16c6d7497c86e68577096c1d2bdbeadf6ee6e74e2"), looks := false }, kinds := [], alts := [], laidByText := true, laidKinds := [.data, .data, .data], laidTests := true, laidLooks := .later }
def ArenaPartsCardSaid : Prop := Claim7.holds Tryd.pinned (.plain (OpenSpec.ofChange arenaPartsSpec)) arenaPartsCard

/-- THE TIED CARD OF 'estoppellaw18.ArenaGraph'. -/
def arenaGraphCard : Claim7 := { stood := { row := arenaGraphRow, standIns := [], harness := (true, "276c8cf82d196e2d8316e5c16c6d7497c86e68577096c1d2bdbeadf6ee6e74e2"), looks := false }, kinds := [], alts := [], laidByText := true, laidKinds := [.data, .data, .data], laidTests := true, laidLooks := .later }
def ArenaGraphCardSaid : Prop := Claim7.holds Tryd.pinned (.plain (OpenSpec.ofChange arenaGraphSpec)) arenaGraphCard

/-- THE TIED CARD OF 'estoppellaw18.ArenaProgress'. -/
def arenaProgressCard : Claim7 := { stood := { row := arenaProgressRow, standIns := [], harness := (true, "276c8cf82d196e2d8316e5c16c6d7497c86e68577096c1d2bdbeadf6ee6e74e2"), looks := false }, kinds := [], alts := [], laidByText := true, laidKinds := [.data, .data, .data], laidTests := true, laidLooks := .later }
def ArenaProgressCardSaid : Prop := Claim7.holds Tryd.pinned (.plain (OpenSpec.ofChange arenaProgressSpec)) arenaProgressCard

/-- THE TIED CARD OF 'estoppellaw18.ArenaTurns'. -/
def arenaTurnsCard : Claim7 := { stood := { row := arenaTurnsRow, standIns := [], harness := (true, "276c8cf82d196e2d8316e5c16c6d7497c86e68577096c1d2bdbeadf6ee6e74e2"), looks := false }, kinds := [], alts := [], laidByText := true, laidKinds := [.data, .data, .data], laidTests := true, laidLooks := .later }
def ArenaTurnsCardSaid : Prop := Claim7.holds Tryd.pinned (.plain (OpenSpec.ofChange arenaTurnsSpec)) arenaTurnsCard

/-- THE SECOND FORM's CARD OF 'estoppellaw18.ArenaTraces'. -/
def arenaTracesUptoCard : Claim7 := { stood := { row := arenaTracesUptoRow, standIns := [], harness := (true, "276c8cf82d196e2d8316e5c16c6d7497c86e68577096c1d2bdbeadf6ee6e74e2"), looks := false }, kinds := [], alts := [], laidByText := true, laidKinds := [.data, .data, .data], laidTests := true, laidLooks := .later }
def ArenaTracesUptoCardSaid : Prop := Claim7.holds Tryd.pinned (.plain (OpenSpec.upto arenaTracesSpec)) arenaTracesUptoCard

/-- THE SECOND FORM's CARD OF 'estoppellaw18.ArenaStates'. -/
def arenaStatesUptoCard : Claim7 := { stood := { row := arenaStatesUptoRow, standIns := [], harness := (true, "276c8cf82d196e2d8316e5c16c6d7497c86e68577096c1d2bdbeadf6ee6e74e2"), looks := false }, kinds := [], alts := [], laidByText := true, laidKinds := [.data, .data, .data], laidTests := true, laidLooks := .later }
def ArenaStatesUptoCardSaid : Prop := Claim7.holds Tryd.pinned (.plain (OpenSpec.upto arenaStatesSpec)) arenaStatesUptoCard

/-- THE SECOND FORM's CARD OF 'estoppellaw18.ArenaParts'. -/
def arenaPartsUptoCard : Claim7 := { stood := { row := arenaPartsUptoRow, standIns := [], harness := (true, "276c8cf82d196e2d8316e5c16c6d7497c86e68577096c1d2bdbeadf6ee6e74e2"), looks := false }, kinds := [], alts := [], laidByText := true, laidKinds := [.data, .data, .data], laidTests := true, laidLooks := .later }
def ArenaPartsUptoCardSaid : Prop := Claim7.holds Tryd.pinned (.plain (OpenSpec.upto arenaPartsSpec)) arenaPartsUptoCard

/-- THE SECOND FORM's CARD OF 'estoppellaw18.ArenaGraph'. -/
def arenaGraphUptoCard : Claim7 := { stood := { row := arenaGraphUptoRow, standIns := [], harness := (true, "276c8cf82d196e2d8316e5c16c6d7497c86e68577096c1d2bdbeadf6ee6e74e2"), looks := false }, kinds := [], alts := [], laidByText := true, laidKinds := [.data, .data, .data], laidTests := true, laidLooks := .later }
def ArenaGraphUptoCardSaid : Prop := Claim7.holds Tryd.pinned (.plain (OpenSpec.upto arenaGraphSpec)) arenaGraphUptoCard

/-- THE SECOND FORM's CARD OF 'estoppellaw18.ArenaProgress'. -/
def arenaProgressUptoCard : Claim7 := { stood := { row := arenaProgressUptoRow, standIns := [], harness := (true, "276c8cf82d196e2d8316e5c16c6d7497c86e68577096c1d2bdbeadf6ee6e74e2"), looks := false }, kinds := [], alts := [], laidByText := true, laidKinds := [.data, .data, .data], laidTests := true, laidLooks := .later }
def ArenaProgressUptoCardSaid : Prop := Claim7.holds Tryd.pinned (.plain (OpenSpec.upto arenaProgressSpec)) arenaProgressUptoCard

/-- THE SECOND FORM's CARD OF 'estoppellaw18.ArenaTurns'. -/
def arenaTurnsUptoCard : Claim7 := { stood := { row := arenaTurnsUptoRow, standIns := [], harness := (true, "276c8cf82d196e2d8316e5c16c6d7497c86e68577096c1d2bdbeadf6ee6e74e2"), looks := false }, kinds := [], alts := [], laidByText := true, laidKinds := [.data, .data, .data], laidTests := true, laidLooks := .later }
def ArenaTurnsUptoCardSaid : Prop := Claim7.holds Tryd.pinned (.plain (OpenSpec.upto arenaTurnsSpec)) arenaTurnsUptoCard
end Rows
end Go.Proofs.YtaglopifoibhiaaDoor
