/-
  DERIVED. GIVEN WITH THE SEED: THE CARDS: each row of YtjkljacdbljkpaaGreatDoorRows.lean that lists a variable, with what it lists TIED to the program's text (the seventh form; the later family's looks); each row that meets fmt, with fmt's text TOLD by the authors' own Lean function (tested against real Go, not proved from fmt's source: count such statements apart). THE CARD IS WHAT COUNTS. Prove the row's statement (the work); the ties are given (YtjkljacdbljkpaaGreatDoorTie.lean); close each card by the builder's one call (the guide's Derived/Test/ToyasCard.lean, 'card_holds'). Laid BY PROGRAM, IN A SANDBOX (cutbox-door.mjs). By AI agents, Wed Nov 11 2026. No macro, syntax, notation, axiom, sorry.
-/
import Derived.Test.YtjkljacdbljkpaaGreatDoorRows
import GoSem.ClaimSeven
namespace Go.Proofs.YtjkljacdbljkpaaGreatDoor
namespace Rows

/-- THE TIED CARD OF 'estoppeltop.TopTogether'. -/
def topTogetherCard : Claim7 := { stood := { row := topTogetherRow, standIns := [], harness := (true, "667d07e1e23b23c588405f52b6ef23b6fab58bb16b03a4a91b6f094234708974"), looks := false }, kinds := [], alts := [], laidByText := true, laidKinds := [.data, .data, .data], laidTests := true, laidLooks := .later }
def TopTogetherCardSaid : Prop := Claim7.holds Tryz.pinned (.plain (OpenSpec.ofChange topTogetherSpec)) topTogetherCard

/-- THE TIED CARD OF 'estoppeltop.TopAdviceByParts'. -/
def topAdviceByPartsCard : Claim7 := { stood := { row := topAdviceByPartsRow, standIns := [], harness := (true, "667d07e1e23b23c588405f52b6ef23b6fab58bb16b03a4a91b6f094234708974"), looks := false }, kinds := [], alts := [], laidByText := true, laidKinds := [.data, .data, .data], laidTests := true, laidLooks := .later }
def TopAdviceByPartsCardSaid : Prop := Claim7.holds Tryz.pinned (.plain (OpenSpec.ofChange topAdviceByPartsSpec)) topAdviceByPartsCard

/-- THE TIED CARD OF 'estoppellaw23.ComposeSafe'. -/
def composeSafeCard : Claim7 := { stood := { row := composeSafeRow, standIns := [], harness := (true, "667d07e1e23b23c588405f52b6ef23b6fab58bb16b03a4a91b6f094234708974"), looks := false }, kinds := [], alts := [], laidByText := true, laidKinds := [.data, .data, .data], laidTests := true, laidLooks := .later }
def ComposeSafeCardSaid : Prop := Claim7.holds Tryz.pinned (.plain (OpenSpec.ofChange composeSafeSpec)) composeSafeCard

/-- THE TIED CARD OF 'estoppellaw23.ComposeAdvises'. -/
def composeAdvisesCard : Claim7 := { stood := { row := composeAdvisesRow, standIns := [], harness := (true, "667d07e1e23b23c588405f52b6ef23b6fab58bb16b03a4a91b6f094234708974"), looks := false }, kinds := [], alts := [], laidByText := true, laidKinds := [.data, .data, .data], laidTests := true, laidLooks := .later }
def ComposeAdvisesCardSaid : Prop := Claim7.holds Tryz.pinned (.plain (OpenSpec.ofChange composeAdvisesSpec)) composeAdvisesCard

/-- THE TIED CARD OF 'estoppellaw23.ComposeLost'. -/
def composeLostCard : Claim7 := { stood := { row := composeLostRow, standIns := [], harness := (true, "667d07e1e23b23c588405f52b6ef23b6fab58bb16b03a4a91b6f094234708974"), looks := false }, kinds := [], alts := [], laidByText := true, laidKinds := [.data, .data, .data], laidTests := true, laidLooks := .later }
def ComposeLostCardSaid : Prop := Claim7.holds Tryz.pinned (.plain (OpenSpec.ofChange composeLostSpec)) composeLostCard

/-- THE TIED CARD OF 'estoppellaw23.ComposeSteps'. -/
def composeStepsCard : Claim7 := { stood := { row := composeStepsRow, standIns := [], harness := (true, "667d07e1e23b23c588405f52b6ef23b6fab58bb16b03a4a91b6f094234708974"), looks := false }, kinds := [], alts := [], laidByText := true, laidKinds := [.data, .data, .data], laidTests := true, laidLooks := .later }
def ComposeStepsCardSaid : Prop := Claim7.holds Tryz.pinned (.plain (OpenSpec.ofChange composeStepsSpec)) composeStepsCard

/-- THE SECOND FORM's CARD OF 'estoppeltop.TopTogether'. -/
def topTogetherUptoCard : Claim7 := { stood := { row := topTogetherUptoRow, standIns := [], harness := (true, "667d07e1e23b23c588405f52b6ef23b6fab58bb16b03a4a91b6f094234708974"), looks := false }, kinds := [], alts := [], laidByText := true, laidKinds := [.data, .data, .data], laidTests := true, laidLooks := .later }
def TopTogetherUptoCardSaid : Prop := Claim7.holds Tryz.pinned (.plain (OpenSpec.upto topTogetherSpec)) topTogetherUptoCard

/-- THE SECOND FORM's CARD OF 'estoppeltop.TopAdviceByParts'. -/
def topAdviceByPartsUptoCard : Claim7 := { stood := { row := topAdviceByPartsUptoRow, standIns := [], harness := (true, "667d07e1e23b23c588405f52b6ef23b6fab58bb16b03a4a91b6f094234708974"), looks := false }, kinds := [], alts := [], laidByText := true, laidKinds := [.data, .data, .data], laidTests := true, laidLooks := .later }
def TopAdviceByPartsUptoCardSaid : Prop := Claim7.holds Tryz.pinned (.plain (OpenSpec.upto topAdviceByPartsSpec)) topAdviceByPartsUptoCard

/-- THE SECOND FORM's CARD OF 'estoppellaw23.ComposeSafe'. -/
def composeSafeUptoCard : Claim7 := { stood := { row := composeSafeUptoRow, standIns := [], harness := (true, "667d07e1e23b23c588405f52b6ef23b6fab58bb16b03a4a91b6f094234708974"), looks := false }, kinds := [], alts := [], laidByText := true, laidKinds := [.data, .data, .data], laidTests := true, laidLooks := .later }
def ComposeSafeUptoCardSaid : Prop := Claim7.holds Tryz.pinned (.plain (OpenSpec.upto composeSafeSpec)) composeSafeUptoCard

/-- THE SECOND FORM's CARD OF 'estoppellaw23.ComposeAdvises'. -/
def composeAdvisesUptoCard : Claim7 := { stood := { row := composeAdvisesUptoRow, standIns := [], harness := (true, "667d07e1e23b23c588405f52b6ef23b6fab58bb16b03a4a91b6f094234708974"), looks := false }, kinds := [], alts := [], laidByText := true, laidKinds := [.data, .data, .data], laidTests := true, laidLooks := .later }
def ComposeAdvisesUptoCardSaid : Prop := Claim7.holds Tryz.pinned (.plain (OpenSpec.upto composeAdvisesSpec)) composeAdvisesUptoCard

/-- THE SECOND FORM's CARD OF 'estoppellaw23.ComposeLost'. -/
def composeLostUptoCard : Claim7 := { stood := { row := composeLostUptoRow, standIns := [], harness := (true, "667d07e1e23b23c588405f52b6ef23b6fab58bb16b03a4a91b6f094234708974"), looks := false }, kinds := [], alts := [], laidByText := true, laidKinds := [.data, .data, .data], laidTests := true, laidLooks := .later }
def ComposeLostUptoCardSaid : Prop := Claim7.holds Tryz.pinned (.plain (OpenSpec.upto composeLostSpec)) composeLostUptoCard

/-- THE SECOND FORM's CARD OF 'estoppellaw23.ComposeSteps'. -/
def composeStepsUptoCard : Claim7 := { stood := { row := composeStepsUptoRow, standIns := [], harness := (true, "667d07e1e23b23c588405f52b6ef23b6fab58bb16b03a4a91b6f094234708974"), looks := false }, kinds := [], alts := [], laidByText := true, laidKinds := [.data, .data, .data], laidTests := true, laidLooks := .later }
def ComposeStepsUptoCardSaid : Prop := Claim7.holds Tryz.pinned (.plain (OpenSpec.upto composeStepsSpec)) composeStepsUptoCard
end Rows
end Go.Proofs.YtjkljacdbljkpaaGreatDoor
