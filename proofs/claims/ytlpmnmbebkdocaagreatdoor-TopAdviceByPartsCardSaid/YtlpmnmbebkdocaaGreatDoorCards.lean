/-
  DERIVED. GIVEN WITH THE SEED: THE CARDS: each row of YtlpmnmbebkdocaaGreatDoorRows.lean that lists a variable, with what it lists TIED to the program's text (the seventh form; the later family's looks); each row that meets fmt, with fmt's text TOLD by the authors' own Lean function (tested against real Go, not proved from fmt's source: count such statements apart). THE CARD IS WHAT COUNTS. Prove the row's statement (the work); the ties are given (YtlpmnmbebkdocaaGreatDoorTie.lean); close each card by the builder's one call (the guide's Derived/Test/ToyasCard.lean, 'card_holds'). Laid BY PROGRAM, IN A SANDBOX (cutbox-door.mjs). By AI agents, Wed Nov 11 2026. No macro, syntax, notation, axiom, sorry.
-/
import Derived.Test.YtlpmnmbebkdocaaGreatDoorRows
import GoSem.ClaimSeven
namespace Go.Proofs.YtlpmnmbebkdocaaGreatDoor
namespace Rows

/-- THE TIED CARD OF 'estoppeltop.TopTogether'. -/
def topTogetherCard : Claim7 := { stood := { row := topTogetherRow, standIns := [], harness := (true, "7bc6b4a7d0776bec5163c6b97d3bd90ad221a013c50c4dd2d862c7360c2f6317"), looks := false }, kinds := [], alts := [], laidByText := true, laidKinds := [.data, .data, .data], laidTests := true, laidLooks := .later }
def TopTogetherCardSaid : Prop := Claim7.holds Tryz.pinned (.plain (OpenSpec.ofChange topTogetherSpec)) topTogetherCard

/-- THE TIED CARD OF 'estoppeltop.TopAdviceByParts'. -/
def topAdviceByPartsCard : Claim7 := { stood := { row := topAdviceByPartsRow, standIns := [], harness := (true, "7bc6b4a7d0776bec5163c6b97d3bd90ad221a013c50c4dd2d862c7360c2f6317"), looks := false }, kinds := [], alts := [], laidByText := true, laidKinds := [.data, .data, .data], laidTests := true, laidLooks := .later }
def TopAdviceByPartsCardSaid : Prop := Claim7.holds Tryz.pinned (.plain (OpenSpec.ofChange topAdviceByPartsSpec)) topAdviceByPartsCard

/-- THE TIED CARD OF 'estoppellaw21.TrapForced'. -/
def trapForcedCard : Claim7 := { stood := { row := trapForcedRow, standIns := [], harness := (true, "7bc6b4a7d0776bec5163c6b97d3bd90ad221a013c50c4dd2d862c7360c2f6317"), looks := false }, kinds := [], alts := [], laidByText := true, laidKinds := [.data, .data, .data], laidTests := true, laidLooks := .later }
def TrapForcedCardSaid : Prop := Claim7.holds Tryz.pinned (.plain (OpenSpec.ofChange trapForcedSpec)) trapForcedCard

/-- THE TIED CARD OF 'estoppellaw21.TrapShows'. -/
def trapShowsCard : Claim7 := { stood := { row := trapShowsRow, standIns := [], harness := (true, "7bc6b4a7d0776bec5163c6b97d3bd90ad221a013c50c4dd2d862c7360c2f6317"), looks := false }, kinds := [], alts := [], laidByText := true, laidKinds := [.data, .data, .data], laidTests := true, laidLooks := .later }
def TrapShowsCardSaid : Prop := Claim7.holds Tryz.pinned (.plain (OpenSpec.ofChange trapShowsSpec)) trapShowsCard

/-- THE TIED CARD OF 'estoppellaw21.TrapDead'. -/
def trapDeadCard : Claim7 := { stood := { row := trapDeadRow, standIns := [], harness := (true, "7bc6b4a7d0776bec5163c6b97d3bd90ad221a013c50c4dd2d862c7360c2f6317"), looks := false }, kinds := [], alts := [], laidByText := true, laidKinds := [.data, .data, .data], laidTests := true, laidLooks := .later }
def TrapDeadCardSaid : Prop := Claim7.holds Tryz.pinned (.plain (OpenSpec.ofChange trapDeadSpec)) trapDeadCard

/-- THE TIED CARD OF 'estoppellaw21.TrapClash'. -/
def trapClashCard : Claim7 := { stood := { row := trapClashRow, standIns := [], harness := (true, "7bc6b4a7d0776bec5163c6b97d3bd90ad221a013c50c4dd2d862c7360c2f6317"), looks := false }, kinds := [], alts := [], laidByText := true, laidKinds := [.data, .data, .data], laidTests := true, laidLooks := .later }
def TrapClashCardSaid : Prop := Claim7.holds Tryz.pinned (.plain (OpenSpec.ofChange trapClashSpec)) trapClashCard

/-- THE TIED CARD OF 'estoppellaw21.TrapShortest'. -/
def trapShortestCard : Claim7 := { stood := { row := trapShortestRow, standIns := [], harness := (true, "7bc6b4a7d0776bec5163c6b97d3bd90ad221a013c50c4dd2d862c7360c2f6317"), looks := false }, kinds := [], alts := [], laidByText := true, laidKinds := [.data, .data, .data], laidTests := true, laidLooks := .later }
def TrapShortestCardSaid : Prop := Claim7.holds Tryz.pinned (.plain (OpenSpec.ofChange trapShortestSpec)) trapShortestCard

/-- THE TIED CARD OF 'estoppellaw21.TrapAdvice'. -/
def trapAdviceCard : Claim7 := { stood := { row := trapAdviceRow, standIns := [], harness := (true, "7bc6b4a7d0776bec5163c6b97d3bd90ad221a013c50c4dd2d862c7360c2f6317"), looks := false }, kinds := [], alts := [], laidByText := true, laidKinds := [.data, .data, .data], laidTests := true, laidLooks := .later }
def TrapAdviceCardSaid : Prop := Claim7.holds Tryz.pinned (.plain (OpenSpec.ofChange trapAdviceSpec)) trapAdviceCard

/-- THE SECOND FORM's CARD OF 'estoppeltop.TopTogether'. -/
def topTogetherUptoCard : Claim7 := { stood := { row := topTogetherUptoRow, standIns := [], harness := (true, "7bc6b4a7d0776bec5163c6b97d3bd90ad221a013c50c4dd2d862c7360c2f6317"), looks := false }, kinds := [], alts := [], laidByText := true, laidKinds := [.data, .data, .data], laidTests := true, laidLooks := .later }
def TopTogetherUptoCardSaid : Prop := Claim7.holds Tryz.pinned (.plain (OpenSpec.upto topTogetherSpec)) topTogetherUptoCard

/-- THE SECOND FORM's CARD OF 'estoppeltop.TopAdviceByParts'. -/
def topAdviceByPartsUptoCard : Claim7 := { stood := { row := topAdviceByPartsUptoRow, standIns := [], harness := (true, "7bc6b4a7d0776bec5163c6b97d3bd90ad221a013c50c4dd2d862c7360c2f6317"), looks := false }, kinds := [], alts := [], laidByText := true, laidKinds := [.data, .data, .data], laidTests := true, laidLooks := .later }
def TopAdviceByPartsUptoCardSaid : Prop := Claim7.holds Tryz.pinned (.plain (OpenSpec.upto topAdviceByPartsSpec)) topAdviceByPartsUptoCard

/-- THE SECOND FORM's CARD OF 'estoppellaw21.TrapForced'. -/
def trapForcedUptoCard : Claim7 := { stood := { row := trapForcedUptoRow, standIns := [], harness := (true, "7bc6b4a7d0776bec5163c6b97d3bd90ad221a013c50c4dd2d862c7360c2f6317"), looks := false }, kinds := [], alts := [], laidByText := true, laidKinds := [.data, .data, .data], laidTests := true, laidLooks := .later }
def TrapForcedUptoCardSaid : Prop := Claim7.holds Tryz.pinned (.plain (OpenSpec.upto trapForcedSpec)) trapForcedUptoCard

/-- THE SECOND FORM's CARD OF 'estoppellaw21.TrapShows'. -/
def trapShowsUptoCard : Claim7 := { stood := { row := trapShowsUptoRow, standIns := [], harness := (true, "7bc6b4a7d0776bec5163c6b97d3bd90ad221a013c50c4dd2d862c7360c2f6317"), looks := false }, kinds := [], alts := [], laidByText := true, laidKinds := [.data, .data, .data], laidTests := true, laidLooks := .later }
def TrapShowsUptoCardSaid : Prop := Claim7.holds Tryz.pinned (.plain (OpenSpec.upto trapShowsSpec)) trapShowsUptoCard

/-- THE SECOND FORM's CARD OF 'estoppellaw21.TrapDead'. -/
def trapDeadUptoCard : Claim7 := { stood := { row := trapDeadUptoRow, standIns := [], harness := (true, "7bc6b4a7d0776bec5163c6b97d3bd90ad221a013c50c4dd2d862c7360c2f6317"), looks := false }, kinds := [], alts := [], laidByText := true, laidKinds := [.data, .data, .data], laidTests := true, laidLooks := .later }
def TrapDeadUptoCardSaid : Prop := Claim7.holds Tryz.pinned (.plain (OpenSpec.upto trapDeadSpec)) trapDeadUptoCard

/-- THE SECOND FORM's CARD OF 'estoppellaw21.TrapClash'. -/
def trapClashUptoCard : Claim7 := { stood := { row := trapClashUptoRow, standIns := [], harness := (true, "7bc6b4a7d0776bec5163c6b97d3bd90ad221a013c50c4dd2d862c7360c2f6317"), looks := false }, kinds := [], alts := [], laidByText := true, laidKinds := [.data, .data, .data], laidTests := true, laidLooks := .later }
def TrapClashUptoCardSaid : Prop := Claim7.holds Tryz.pinned (.plain (OpenSpec.upto trapClashSpec)) trapClashUptoCard

/-- THE SECOND FORM's CARD OF 'estoppellaw21.TrapShortest'. -/
def trapShortestUptoCard : Claim7 := { stood := { row := trapShortestUptoRow, standIns := [], harness := (true, "7bc6b4a7d0776bec5163c6b97d3bd90ad221a013c50c4dd2d862c7360c2f6317"), looks := false }, kinds := [], alts := [], laidByText := true, laidKinds := [.data, .data, .data], laidTests := true, laidLooks := .later }
def TrapShortestUptoCardSaid : Prop := Claim7.holds Tryz.pinned (.plain (OpenSpec.upto trapShortestSpec)) trapShortestUptoCard

/-- THE SECOND FORM's CARD OF 'estoppellaw21.TrapAdvice'. -/
def trapAdviceUptoCard : Claim7 := { stood := { row := trapAdviceUptoRow, standIns := [], harness := (true, "7bc6b4a7d0776bec5163c6b97d3bd90ad221a013c50c4dd2d862c7360c2f6317"), looks := false }, kinds := [], alts := [], laidByText := true, laidKinds := [.data, .data, .data], laidTests := true, laidLooks := .later }
def TrapAdviceUptoCardSaid : Prop := Claim7.holds Tryz.pinned (.plain (OpenSpec.upto trapAdviceSpec)) trapAdviceUptoCard
end Rows
end Go.Proofs.YtlpmnmbebkdocaaGreatDoor
