/-
  DERIVED. GIVEN WITH THE SEED: THE CARDS: each row of YtieofodomlodhaaDoorRows.lean that lists a variable, with what it lists TIED to the program's text (the seventh form; the later family's looks); each row that meets fmt, with fmt's text TOLD by the authors' own Lean function (tested against real Go, not proved from fmt's source: count such statements apart). THE CARD IS WHAT COUNTS. Prove the row's statement (the work); the ties are given (YtieofodomlodhaaDoorTie.lean); close each card by the builder's one call (the guide's Derived/Test/ToyasCard.lean, 'card_holds'). Laid BY PROGRAM, IN A SANDBOX (cutbox-door.mjs). By AI agents, Wed Nov 11 2026. No macro, syntax, notation, axiom, sorry.
-/
import Derived.Test.YtieofodomlodhaaDoorRows
import GoSem.ClaimSeven
namespace Go.Proofs.YtieofodomlodhaaDoor
namespace Rows

/-- THE TIED CARD OF 'estoppellaw19.RegionPositions'. -/
def regionPositionsCard : Claim7 := { stood := { row := regionPositionsRow, standIns := [], harness := (true, "e89dc7465a2370576dc6e1636aed3ee2ef5394029eca9d42a3f8aa6ce1937d5c"), looks := false }, kinds := [], alts := [], laidByText := true, laidKinds := [.data, .data, .data], laidTests := true, laidLooks := .later }
def RegionPositionsCardSaid : Prop := Claim7.holds Tryd.pinned (.plain (OpenSpec.ofChange regionPositionsSpec)) regionPositionsCard

/-- THE TIED CARD OF 'estoppellaw19.RegionBreach'. -/
def regionBreachCard : Claim7 := { stood := { row := regionBreachRow, standIns := [], harness := (true, "e89dc7465a2370576dc6e1636aed3ee2ef5394029eca9d42a3f8aa6ce1937d5c"), looks := false }, kinds := [], alts := [], laidByText := true, laidKinds := [.data, .data, .data], laidTests := true, laidLooks := .later }
def RegionBreachCardSaid : Prop := Claim7.holds Tryd.pinned (.plain (OpenSpec.ofChange regionBreachSpec)) regionBreachCard

/-- THE TIED CARD OF 'estoppellaw19.RegionFinal'. -/
def regionFinalCard : Claim7 := { stood := { row := regionFinalRow, standIns := [], harness := (true, "e89dc7465a2370576dc6e1636aed3ee2ef5394029eca9d42a3f8aa6ce1937d5c"), looks := false }, kinds := [], alts := [], laidByText := true, laidKinds := [.data, .data, .data], laidTests := true, laidLooks := .later }
def RegionFinalCardSaid : Prop := Claim7.holds Tryd.pinned (.plain (OpenSpec.ofChange regionFinalSpec)) regionFinalCard

/-- THE TIED CARD OF 'estoppellaw19.RegionForced'. -/
def regionForcedCard : Claim7 := { stood := { row := regionForcedRow, standIns := [], harness := (true, "e89dc7465a2370576dc6e1636aed3ee2ef5394029eca9d42a3f8aa6ce1937d5c"), looks := false }, kinds := [], alts := [], laidByText := true, laidKinds := [.data, .data, .data], laidTests := true, laidLooks := .later }
def RegionForcedCardSaid : Prop := Claim7.holds Tryd.pinned (.plain (OpenSpec.ofChange regionForcedSpec)) regionForcedCard

/-- THE TIED CARD OF 'estoppellaw20.StrategyWaits'. -/
def strategyWaitsCard : Claim7 := { stood := { row := strategyWaitsRow, standIns := [], harness := (true, "e89dc7465a2370576dc6e1636aed3ee2ef5394029eca9d42a3f8aa6ce1937d5c"), looks := false }, kinds := [], alts := [], laidByText := true, laidKinds := [.data, .data, .data], laidTests := true, laidLooks := .later }
def StrategyWaitsCardSaid : Prop := Claim7.holds Tryd.pinned (.plain (OpenSpec.ofChange strategyWaitsSpec)) strategyWaitsCard

/-- THE TIED CARD OF 'estoppellaw20.StrategyAgain'. -/
def strategyAgainCard : Claim7 := { stood := { row := strategyAgainRow, standIns := [], harness := (true, "e89dc7465a2370576dc6e1636aed3ee2ef5394029eca9d42a3f8aa6ce1937d5c"), looks := false }, kinds := [], alts := [], laidByText := true, laidKinds := [.data, .data, .data], laidTests := true, laidLooks := .later }
def StrategyAgainCardSaid : Prop := Claim7.holds Tryd.pinned (.plain (OpenSpec.ofChange strategyAgainSpec)) strategyAgainCard

/-- THE TIED CARD OF 'estoppellaw20.StrategyIdle'. -/
def strategyIdleCard : Claim7 := { stood := { row := strategyIdleRow, standIns := [], harness := (true, "e89dc7465a2370576dc6e1636aed3ee2ef5394029eca9d42a3f8aa6ce1937d5c"), looks := false }, kinds := [], alts := [], laidByText := true, laidKinds := [.data, .data, .data], laidTests := true, laidLooks := .later }
def StrategyIdleCardSaid : Prop := Claim7.holds Tryd.pinned (.plain (OpenSpec.ofChange strategyIdleSpec)) strategyIdleCard

/-- THE TIED CARD OF 'estoppellaw20.StrategyOthers'. -/
def strategyOthersCard : Claim7 := { stood := { row := strategyOthersRow, standIns := [], harness := (true, "e89dc7465a2370576dc6e1636aed3ee2ef5394029eca9d42a3f8aa6ce1937d5c"), looks := false }, kinds := [], alts := [], laidByText := true, laidKinds := [.data, .data, .data], laidTests := true, laidLooks := .later }
def StrategyOthersCardSaid : Prop := Claim7.holds Tryd.pinned (.plain (OpenSpec.ofChange strategyOthersSpec)) strategyOthersCard

/-- THE TIED CARD OF 'estoppellaw20.StrategyNoBreach'. -/
def strategyNoBreachCard : Claim7 := { stood := { row := strategyNoBreachRow, standIns := [], harness := (true, "e89dc7465a2370576dc6e1636aed3ee2ef5394029eca9d42a3f8aa6ce1937d5c"), looks := false }, kinds := [], alts := [], laidByText := true, laidKinds := [.data, .data, .data], laidTests := true, laidLooks := .later }
def StrategyNoBreachCardSaid : Prop := Claim7.holds Tryd.pinned (.plain (OpenSpec.ofChange strategyNoBreachSpec)) strategyNoBreachCard

/-- THE TIED CARD OF 'estoppellaw20.StrategyKeeps'. -/
def strategyKeepsCard : Claim7 := { stood := { row := strategyKeepsRow, standIns := [], harness := (true, "e89dc7465a2370576dc6e1636aed3ee2ef5394029eca9d42a3f8aa6ce1937d5c"), looks := false }, kinds := [], alts := [], laidByText := true, laidKinds := [.data, .data, .data], laidTests := true, laidLooks := .later }
def StrategyKeepsCardSaid : Prop := Claim7.holds Tryd.pinned (.plain (OpenSpec.ofChange strategyKeepsSpec)) strategyKeepsCard

/-- THE SECOND FORM's CARD OF 'estoppellaw19.RegionPositions'. -/
def regionPositionsUptoCard : Claim7 := { stood := { row := regionPositionsUptoRow, standIns := [], harness := (true, "e89dc7465a2370576dc6e1636aed3ee2ef5394029eca9d42a3f8aa6ce1937d5c"), looks := false }, kinds := [], alts := [], laidByText := true, laidKinds := [.data, .data, .data], laidTests := true, laidLooks := .later }
def RegionPositionsUptoCardSaid : Prop := Claim7.holds Tryd.pinned (.plain (OpenSpec.upto regionPositionsSpec)) regionPositionsUptoCard

/-- THE SECOND FORM's CARD OF 'estoppellaw19.RegionBreach'. -/
def regionBreachUptoCard : Claim7 := { stood := { row := regionBreachUptoRow, standIns := [], harness := (true, "e89dc7465a2370576dc6e1636aed3ee2ef5394029eca9d42a3f8aa6ce1937d5c"), looks := false }, kinds := [], alts := [], laidByText := true, laidKinds := [.data, .data, .data], laidTests := true, laidLooks := .later }
def RegionBreachUptoCardSaid : Prop := Claim7.holds Tryd.pinned (.plain (OpenSpec.upto regionBreachSpec)) regionBreachUptoCard

/-- THE SECOND FORM's CARD OF 'estoppellaw19.RegionFinal'. -/
def regionFinalUptoCard : Claim7 := { stood := { row := regionFinalUptoRow, standIns := [], harness := (true, "e89dc7465a2370576dc6e1636aed3ee2ef5394029eca9d42a3f8aa6ce1937d5c"), looks := false }, kinds := [], alts := [], laidByText := true, laidKinds := [.data, .data, .data], laidTests := true, laidLooks := .later }
def RegionFinalUptoCardSaid : Prop := Claim7.holds Tryd.pinned (.plain (OpenSpec.upto regionFinalSpec)) regionFinalUptoCard

/-- THE SECOND FORM's CARD OF 'estoppellaw19.RegionForced'. -/
def regionForcedUptoCard : Claim7 := { stood := { row := regionForcedUptoRow, standIns := [], harness := (true, "e89dc7465a2370576dc6e1636aed3ee2ef5394029eca9d42a3f8aa6ce1937d5c"), looks := false }, kinds := [], alts := [], laidByText := true, laidKinds := [.data, .data, .data], laidTests := true, laidLooks := .later }
def RegionForcedUptoCardSaid : Prop := Claim7.holds Tryd.pinned (.plain (OpenSpec.upto regionForcedSpec)) regionForcedUptoCard

/-- THE SECOND FORM's CARD OF 'estoppellaw20.StrategyWaits'. -/
def strategyWaitsUptoCard : Claim7 := { stood := { row := strategyWaitsUptoRow, standIns := [], harness := (true, "e89dc7465a2370576dc6e1636aed3ee2ef5394029eca9d42a3f8aa6ce1937d5c"), looks := false }, kinds := [], alts := [], laidByText := true, laidKinds := [.data, .data, .data], laidTests := true, laidLooks := .later }
def StrategyWaitsUptoCardSaid : Prop := Claim7.holds Tryd.pinned (.plain (OpenSpec.upto strategyWaitsSpec)) strategyWaitsUptoCard

/-- THE SECOND FORM's CARD OF 'estoppellaw20.StrategyAgain'. -/
def strategyAgainUptoCard : Claim7 := { stood := { row := strategyAgainUptoRow, standIns := [], harness := (true, "e89dc7465a2370576dc6e1636aed3ee2ef5394029eca9d42a3f8aa6ce1937d5c"), looks := false }, kinds := [], alts := [], laidByText := true, laidKinds := [.data, .data, .data], laidTests := true, laidLooks := .later }
def StrategyAgainUptoCardSaid : Prop := Claim7.holds Tryd.pinned (.plain (OpenSpec.upto strategyAgainSpec)) strategyAgainUptoCard

/-- THE SECOND FORM's CARD OF 'estoppellaw20.StrategyIdle'. -/
def strategyIdleUptoCard : Claim7 := { stood := { row := strategyIdleUptoRow, standIns := [], harness := (true, "e89dc7465a2370576dc6e1636aed3ee2ef5394029eca9d42a3f8aa6ce1937d5c"), looks := false }, kinds := [], alts := [], laidByText := true, laidKinds := [.data, .data, .data], laidTests := true, laidLooks := .later }
def StrategyIdleUptoCardSaid : Prop := Claim7.holds Tryd.pinned (.plain (OpenSpec.upto strategyIdleSpec)) strategyIdleUptoCard

/-- THE SECOND FORM's CARD OF 'estoppellaw20.StrategyOthers'. -/
def strategyOthersUptoCard : Claim7 := { stood := { row := strategyOthersUptoRow, standIns := [], harness := (true, "e89dc7465a2370576dc6e1636aed3ee2ef5394029eca9d42a3f8aa6ce1937d5c"), looks := false }, kinds := [], alts := [], laidByText := true, laidKinds := [.data, .data, .data], laidTests := true, laidLooks := .later }
def StrategyOthersUptoCardSaid : Prop := Claim7.holds Tryd.pinned (.plain (OpenSpec.upto strategyOthersSpec)) strategyOthersUptoCard

/-- THE SECOND FORM's CARD OF 'estoppellaw20.StrategyNoBreach'. -/
def strategyNoBreachUptoCard : Claim7 := { stood := { row := strategyNoBreachUptoRow, standIns := [], harness := (true, "e89dc7465a2370576dc6e1636aed3ee2ef5394029eca9d42a3f8aa6ce1937d5c"), looks := false }, kinds := [], alts := [], laidByText := true, laidKinds := [.data, .data, .data], laidTests := true, laidLooks := .later }
def StrategyNoBreachUptoCardSaid : Prop := Claim7.holds Tryd.pinned (.plain (OpenSpec.upto strategyNoBreachSpec)) strategyNoBreachUptoCard

/-- THE SECOND FORM's CARD OF 'estoppellaw20.StrategyKeeps'. -/
def strategyKeepsUptoCard : Claim7 := { stood := { row := strategyKeepsUptoRow, standIns := [], harness := (true, "e89dc7465a2370576dc6e1636aed3ee2ef5394029eca9d42a3f8aa6ce1937d5c"), looks := false }, kinds := [], alts := [], laidByText := true, laidKinds := [.data, .data, .data], laidTests := true, laidLooks := .later }
def StrategyKeepsUptoCardSaid : Prop := Claim7.holds Tryd.pinned (.plain (OpenSpec.upto strategyKeepsSpec)) strategyKeepsUptoCard
end Rows
end Go.Proofs.YtieofodomlodhaaDoor
