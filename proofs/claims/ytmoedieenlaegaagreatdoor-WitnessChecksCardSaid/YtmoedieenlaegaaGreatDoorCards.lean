/-
  DERIVED. GIVEN WITH THE SEED: THE CARDS: each row of YtmoedieenlaegaaGreatDoorRows.lean that lists a variable, with what it lists TIED to the program's text (the seventh form; the later family's looks); each row that meets fmt, with fmt's text TOLD by the authors' own Lean function (tested against real Go, not proved from fmt's source: count such statements apart). THE CARD IS WHAT COUNTS. Prove the row's statement (the work); the ties are given (YtmoedieenlaegaaGreatDoorTie.lean); close each card by the builder's one call (the guide's Derived/Test/ToyasCard.lean, 'card_holds'). Laid BY PROGRAM, IN A SANDBOX (cutbox-door.mjs). By AI agents, Wed Nov 11 2026. No macro, syntax, notation, axiom, sorry.
-/
import Derived.Test.YtmoedieenlaegaaGreatDoorRows
import GoSem.ClaimSeven
namespace Go.Proofs.YtmoedieenlaegaaGreatDoor
namespace Rows

/-- THE TIED CARD OF 'estoppeltop.TopOthers'. -/
def topOthersCard : Claim7 := { stood := { row := topOthersRow, standIns := [], harness := (true, "b058ca6a5d8bd6675ccef3ced02f7ff2ab9252a87f4ffe3492fe47a417083e47"), looks := false }, kinds := [], alts := [], laidByText := true, laidKinds := [.data, .data, .data], laidTests := true, laidLooks := .later }
def TopOthersCardSaid : Prop := Claim7.holds Tryz.pinned (.plain (OpenSpec.ofChange topOthersSpec)) topOthersCard

/-- THE TIED CARD OF 'estoppellaw22.WitnessChecks'. -/
def witnessChecksCard : Claim7 := { stood := { row := witnessChecksRow, standIns := [], harness := (true, "b058ca6a5d8bd6675ccef3ced02f7ff2ab9252a87f4ffe3492fe47a417083e47"), looks := false }, kinds := [], alts := [], laidByText := true, laidKinds := [.data, .data, .data], laidTests := true, laidLooks := .later }
def WitnessChecksCardSaid : Prop := Claim7.holds Tryz.pinned (.plain (OpenSpec.ofChange witnessChecksSpec)) witnessChecksCard

/-- THE TIED CARD OF 'estoppellaw22.WitnessShieldsRight'. -/
def witnessShieldsRightCard : Claim7 := { stood := { row := witnessShieldsRightRow, standIns := [], harness := (true, "b058ca6a5d8bd6675ccef3ced02f7ff2ab9252a87f4ffe3492fe47a417083e47"), looks := false }, kinds := [], alts := [], laidByText := true, laidKinds := [.data, .data, .data], laidTests := true, laidLooks := .later }
def WitnessShieldsRightCardSaid : Prop := Claim7.holds Tryz.pinned (.plain (OpenSpec.ofChange witnessShieldsRightSpec)) witnessShieldsRightCard

/-- THE TIED CARD OF 'estoppellaw22.WitnessDoomsRight'. -/
def witnessDoomsRightCard : Claim7 := { stood := { row := witnessDoomsRightRow, standIns := [], harness := (true, "b058ca6a5d8bd6675ccef3ced02f7ff2ab9252a87f4ffe3492fe47a417083e47"), looks := false }, kinds := [], alts := [], laidByText := true, laidKinds := [.data, .data, .data], laidTests := true, laidLooks := .later }
def WitnessDoomsRightCardSaid : Prop := Claim7.holds Tryz.pinned (.plain (OpenSpec.ofChange witnessDoomsRightSpec)) witnessDoomsRightCard

/-- THE TIED CARD OF 'estoppellaw22.WitnessDecides'. -/
def witnessDecidesCard : Claim7 := { stood := { row := witnessDecidesRow, standIns := [], harness := (true, "b058ca6a5d8bd6675ccef3ced02f7ff2ab9252a87f4ffe3492fe47a417083e47"), looks := false }, kinds := [], alts := [], laidByText := true, laidKinds := [.data, .data, .data], laidTests := true, laidLooks := .later }
def WitnessDecidesCardSaid : Prop := Claim7.holds Tryz.pinned (.plain (OpenSpec.ofChange witnessDecidesSpec)) witnessDecidesCard

/-- THE TIED CARD OF 'estoppellaw22.WitnessTogether'. -/
def witnessTogetherCard : Claim7 := { stood := { row := witnessTogetherRow, standIns := [], harness := (true, "b058ca6a5d8bd6675ccef3ced02f7ff2ab9252a87f4ffe3492fe47a417083e47"), looks := false }, kinds := [], alts := [], laidByText := true, laidKinds := [.data, .data, .data], laidTests := true, laidLooks := .later }
def WitnessTogetherCardSaid : Prop := Claim7.holds Tryz.pinned (.plain (OpenSpec.ofChange witnessTogetherSpec)) witnessTogetherCard

/-- THE TIED CARD OF 'estoppellaw22.WitnessNotBoth'. -/
def witnessNotBothCard : Claim7 := { stood := { row := witnessNotBothRow, standIns := [], harness := (true, "b058ca6a5d8bd6675ccef3ced02f7ff2ab9252a87f4ffe3492fe47a417083e47"), looks := false }, kinds := [], alts := [], laidByText := true, laidKinds := [.data, .data, .data], laidTests := true, laidLooks := .later }
def WitnessNotBothCardSaid : Prop := Claim7.holds Tryz.pinned (.plain (OpenSpec.ofChange witnessNotBothSpec)) witnessNotBothCard

/-- THE TIED CARD OF 'estoppellaw22.WitnessGuards'. -/
def witnessGuardsCard : Claim7 := { stood := { row := witnessGuardsRow, standIns := [], harness := (true, "b058ca6a5d8bd6675ccef3ced02f7ff2ab9252a87f4ffe3492fe47a417083e47"), looks := false }, kinds := [], alts := [], laidByText := true, laidKinds := [.data, .data, .data], laidTests := true, laidLooks := .later }
def WitnessGuardsCardSaid : Prop := Claim7.holds Tryz.pinned (.plain (OpenSpec.ofChange witnessGuardsSpec)) witnessGuardsCard

/-- THE TIED CARD OF 'estoppellaw22.WitnessForces'. -/
def witnessForcesCard : Claim7 := { stood := { row := witnessForcesRow, standIns := [], harness := (true, "b058ca6a5d8bd6675ccef3ced02f7ff2ab9252a87f4ffe3492fe47a417083e47"), looks := false }, kinds := [], alts := [], laidByText := true, laidKinds := [.data, .data, .data], laidTests := true, laidLooks := .later }
def WitnessForcesCardSaid : Prop := Claim7.holds Tryz.pinned (.plain (OpenSpec.ofChange witnessForcesSpec)) witnessForcesCard

/-- THE TIED CARD OF 'estoppeltop.TopDecided'. -/
def topDecidedCard : Claim7 := { stood := { row := topDecidedRow, standIns := [], harness := (true, "b058ca6a5d8bd6675ccef3ced02f7ff2ab9252a87f4ffe3492fe47a417083e47"), looks := false }, kinds := [], alts := [], laidByText := true, laidKinds := [.data, .data, .data], laidTests := true, laidLooks := .later }
def TopDecidedCardSaid : Prop := Claim7.holds Tryz.pinned (.plain (OpenSpec.ofChange topDecidedSpec)) topDecidedCard

/-- THE SECOND FORM's CARD OF 'estoppeltop.TopOthers'. -/
def topOthersUptoCard : Claim7 := { stood := { row := topOthersUptoRow, standIns := [], harness := (true, "b058ca6a5d8bd6675ccef3ced02f7ff2ab9252a87f4ffe3492fe47a417083e47"), looks := false }, kinds := [], alts := [], laidByText := true, laidKinds := [.data, .data, .data], laidTests := true, laidLooks := .later }
def TopOthersUptoCardSaid : Prop := Claim7.holds Tryz.pinned (.plain (OpenSpec.upto topOthersSpec)) topOthersUptoCard

/-- THE SECOND FORM's CARD OF 'estoppellaw22.WitnessChecks'. -/
def witnessChecksUptoCard : Claim7 := { stood := { row := witnessChecksUptoRow, standIns := [], harness := (true, "b058ca6a5d8bd6675ccef3ced02f7ff2ab9252a87f4ffe3492fe47a417083e47"), looks := false }, kinds := [], alts := [], laidByText := true, laidKinds := [.data, .data, .data], laidTests := true, laidLooks := .later }
def WitnessChecksUptoCardSaid : Prop := Claim7.holds Tryz.pinned (.plain (OpenSpec.upto witnessChecksSpec)) witnessChecksUptoCard

/-- THE SECOND FORM's CARD OF 'estoppellaw22.WitnessShieldsRight'. -/
def witnessShieldsRightUptoCard : Claim7 := { stood := { row := witnessShieldsRightUptoRow, standIns := [], harness := (true, "b058ca6a5d8bd6675ccef3ced02f7ff2ab9252a87f4ffe3492fe47a417083e47"), looks := false }, kinds := [], alts := [], laidByText := true, laidKinds := [.data, .data, .data], laidTests := true, laidLooks := .later }
def WitnessShieldsRightUptoCardSaid : Prop := Claim7.holds Tryz.pinned (.plain (OpenSpec.upto witnessShieldsRightSpec)) witnessShieldsRightUptoCard

/-- THE SECOND FORM's CARD OF 'estoppellaw22.WitnessDoomsRight'. -/
def witnessDoomsRightUptoCard : Claim7 := { stood := { row := witnessDoomsRightUptoRow, standIns := [], harness := (true, "b058ca6a5d8bd6675ccef3ced02f7ff2ab9252a87f4ffe3492fe47a417083e47"), looks := false }, kinds := [], alts := [], laidByText := true, laidKinds := [.data, .data, .data], laidTests := true, laidLooks := .later }
def WitnessDoomsRightUptoCardSaid : Prop := Claim7.holds Tryz.pinned (.plain (OpenSpec.upto witnessDoomsRightSpec)) witnessDoomsRightUptoCard

/-- THE SECOND FORM's CARD OF 'estoppellaw22.WitnessDecides'. -/
def witnessDecidesUptoCard : Claim7 := { stood := { row := witnessDecidesUptoRow, standIns := [], harness := (true, "b058ca6a5d8bd6675ccef3ced02f7ff2ab9252a87f4ffe3492fe47a417083e47"), looks := false }, kinds := [], alts := [], laidByText := true, laidKinds := [.data, .data, .data], laidTests := true, laidLooks := .later }
def WitnessDecidesUptoCardSaid : Prop := Claim7.holds Tryz.pinned (.plain (OpenSpec.upto witnessDecidesSpec)) witnessDecidesUptoCard

/-- THE SECOND FORM's CARD OF 'estoppellaw22.WitnessTogether'. -/
def witnessTogetherUptoCard : Claim7 := { stood := { row := witnessTogetherUptoRow, standIns := [], harness := (true, "b058ca6a5d8bd6675ccef3ced02f7ff2ab9252a87f4ffe3492fe47a417083e47"), looks := false }, kinds := [], alts := [], laidByText := true, laidKinds := [.data, .data, .data], laidTests := true, laidLooks := .later }
def WitnessTogetherUptoCardSaid : Prop := Claim7.holds Tryz.pinned (.plain (OpenSpec.upto witnessTogetherSpec)) witnessTogetherUptoCard

/-- THE SECOND FORM's CARD OF 'estoppellaw22.WitnessNotBoth'. -/
def witnessNotBothUptoCard : Claim7 := { stood := { row := witnessNotBothUptoRow, standIns := [], harness := (true, "b058ca6a5d8bd6675ccef3ced02f7ff2ab9252a87f4ffe3492fe47a417083e47"), looks := false }, kinds := [], alts := [], laidByText := true, laidKinds := [.data, .data, .data], laidTests := true, laidLooks := .later }
def WitnessNotBothUptoCardSaid : Prop := Claim7.holds Tryz.pinned (.plain (OpenSpec.upto witnessNotBothSpec)) witnessNotBothUptoCard

/-- THE SECOND FORM's CARD OF 'estoppellaw22.WitnessGuards'. -/
def witnessGuardsUptoCard : Claim7 := { stood := { row := witnessGuardsUptoRow, standIns := [], harness := (true, "b058ca6a5d8bd6675ccef3ced02f7ff2ab9252a87f4ffe3492fe47a417083e47"), looks := false }, kinds := [], alts := [], laidByText := true, laidKinds := [.data, .data, .data], laidTests := true, laidLooks := .later }
def WitnessGuardsUptoCardSaid : Prop := Claim7.holds Tryz.pinned (.plain (OpenSpec.upto witnessGuardsSpec)) witnessGuardsUptoCard

/-- THE SECOND FORM's CARD OF 'estoppellaw22.WitnessForces'. -/
def witnessForcesUptoCard : Claim7 := { stood := { row := witnessForcesUptoRow, standIns := [], harness := (true, "b058ca6a5d8bd6675ccef3ced02f7ff2ab9252a87f4ffe3492fe47a417083e47"), looks := false }, kinds := [], alts := [], laidByText := true, laidKinds := [.data, .data, .data], laidTests := true, laidLooks := .later }
def WitnessForcesUptoCardSaid : Prop := Claim7.holds Tryz.pinned (.plain (OpenSpec.upto witnessForcesSpec)) witnessForcesUptoCard

/-- THE SECOND FORM's CARD OF 'estoppeltop.TopDecided'. -/
def topDecidedUptoCard : Claim7 := { stood := { row := topDecidedUptoRow, standIns := [], harness := (true, "b058ca6a5d8bd6675ccef3ced02f7ff2ab9252a87f4ffe3492fe47a417083e47"), looks := false }, kinds := [], alts := [], laidByText := true, laidKinds := [.data, .data, .data], laidTests := true, laidLooks := .later }
def TopDecidedUptoCardSaid : Prop := Claim7.holds Tryz.pinned (.plain (OpenSpec.upto topDecidedSpec)) topDecidedUptoCard
end Rows
end Go.Proofs.YtmoedieenlaegaaGreatDoor
