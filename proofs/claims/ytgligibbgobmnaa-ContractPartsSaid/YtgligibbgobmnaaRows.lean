/-
  No cell of these rows narrows 'for every input' (looked for: loops, veiled, ifaces, maps, wideKeys, modest, calm, conditions, laid).
  DERIVED. THE GIVEN ROWS OF THIS SEAT. 6 by the template 'for every input the law returns true; each argument reads behind the call as it read before'; 0 by the template 'total and deterministic' (their statements: YtgligibbgobmnaaTotals.lean).
  GIVEN WITH THE SEED: the statements are not yours to turn. If you find one false, say at which input.
  Laid BY PROGRAM, IN A SANDBOX (cutbox-rows.mjs): the forced cells as the released guide's own fill.sh prints them over the translation 126eccf66c0b8bdd… (all of the seat's roots in one cut). By AI agents, Wed Nov 11 2026. No macro, syntax, notation, axiom, sorry.
-/
import Derived.Test.YtgligibbgobmnaaChecked
import GoSem.Claim
import GoSem.ClaimJoined
import GoSem.ClaimMapViews
import Derived.JoinedTies
import Derived.KernelRfl
namespace Go.Proofs.Ytgligibbgobmnaa
/- THE CELL 'sum', in the pinned program and in every row, IS THE sha256 OF THE DUMP (.gsa) THAT YtgligibbgobmnaaProg.lean LOADS. Nothing in Lean hashes anything: it is a label: what it is worth is what the hold of that sum in a sandbox is worth. -/
noncomputable def Try.pinned : Pinned := { name := "ytgligibbgobmnaa", sum := "126eccf66c0b8bdd67964970ea82e2668bd4316a9c8f2597925082b73c200c17", checked := Try.checked }
namespace Rows
def none {H : Type} : Left H := { results := [], args := [] }

/-- 'estoppellaw13.ContractFirst': WHATEVER THE INPUT: true; the input reads as it did. -/
def contractFirstSpec : ChangeSpec := { name := "contractFirst", fn := fun _ => fun
  | [d] => { results := [.lit (.bool true)], args := [d] }
  | _ => none }
def contractFirstRow : OpenClaim := { program := "ytgligibbgobmnaa", sum := "126eccf66c0b8bdd67964970ea82e2668bd4316a9c8f2597925082b73c200c17", func := "estoppel/estoppellaw13.ContractFirst", spec := "contractFirst", unfollowed := true, recurses := true, apart := false }
def ContractFirstSaid : Prop := contractFirstRow.holds Try.pinned (OpenSpec.ofChange contractFirstSpec)

/-- ITS FALSE NEIGHBOUR: 'it returns false'. Refute it at one input. -/
def contractFirstWrong : ChangeSpec := { name := "contractFirst", fn := fun _ => fun
  | [d] => { results := [.lit (.bool false)], args := [d] }
  | _ => none }
def ContractFirstWrongFalsely : Prop := contractFirstRow.holds Try.pinned (OpenSpec.ofChange contractFirstWrong)

/-- 'estoppellaw13.ContractParties': WHATEVER THE INPUT: true; the input reads as it did. -/
def contractPartiesSpec : ChangeSpec := { name := "contractParties", fn := fun _ => fun
  | [d1, d2] => { results := [.lit (.bool true)], args := [d1, d2] }
  | _ => none }
def contractPartiesRow : OpenClaim := { program := "ytgligibbgobmnaa", sum := "126eccf66c0b8bdd67964970ea82e2668bd4316a9c8f2597925082b73c200c17", func := "estoppel/estoppellaw13.ContractParties", spec := "contractParties", unfollowed := true, recurses := true, apart := false }
def ContractPartiesSaid : Prop := contractPartiesRow.holds Try.pinned (OpenSpec.ofChange contractPartiesSpec)

/-- ITS FALSE NEIGHBOUR: 'it returns false'. Refute it at one input. -/
def contractPartiesWrong : ChangeSpec := { name := "contractParties", fn := fun _ => fun
  | [d1, d2] => { results := [.lit (.bool false)], args := [d1, d2] }
  | _ => none }
def ContractPartiesWrongFalsely : Prop := contractPartiesRow.holds Try.pinned (OpenSpec.ofChange contractPartiesWrong)

/-- 'estoppellaw13.ContractLinks': WHATEVER THE INPUT: true; the input reads as it did. -/
def contractLinksSpec : ChangeSpec := { name := "contractLinks", fn := fun _ => fun
  | [d1, d2, d3] => { results := [.lit (.bool true)], args := [d1, d2, d3] }
  | _ => none }
def contractLinksRow : OpenClaim := { program := "ytgligibbgobmnaa", sum := "126eccf66c0b8bdd67964970ea82e2668bd4316a9c8f2597925082b73c200c17", func := "estoppel/estoppellaw13.ContractLinks", spec := "contractLinks", unfollowed := true, recurses := true, apart := false }
def ContractLinksSaid : Prop := contractLinksRow.holds Try.pinned (OpenSpec.ofChange contractLinksSpec)

/-- ITS FALSE NEIGHBOUR: 'it returns false'. Refute it at one input. -/
def contractLinksWrong : ChangeSpec := { name := "contractLinks", fn := fun _ => fun
  | [d1, d2, d3] => { results := [.lit (.bool false)], args := [d1, d2, d3] }
  | _ => none }
def ContractLinksWrongFalsely : Prop := contractLinksRow.holds Try.pinned (OpenSpec.ofChange contractLinksWrong)

/-- 'estoppellaw13.ContractParts': WHATEVER THE INPUT: true; the input reads as it did. -/
def contractPartsSpec : ChangeSpec := { name := "contractParts", fn := fun _ => fun
  | [d1, d2] => { results := [.lit (.bool true)], args := [d1, d2] }
  | _ => none }
def contractPartsRow : OpenClaim := { program := "ytgligibbgobmnaa", sum := "126eccf66c0b8bdd67964970ea82e2668bd4316a9c8f2597925082b73c200c17", func := "estoppel/estoppellaw13.ContractParts", spec := "contractParts", unfollowed := true, recurses := true, apart := false }
def ContractPartsSaid : Prop := contractPartsRow.holds Try.pinned (OpenSpec.ofChange contractPartsSpec)

/-- ITS FALSE NEIGHBOUR: 'it returns false'. Refute it at one input. -/
def contractPartsWrong : ChangeSpec := { name := "contractParts", fn := fun _ => fun
  | [d1, d2] => { results := [.lit (.bool false)], args := [d1, d2] }
  | _ => none }
def ContractPartsWrongFalsely : Prop := contractPartsRow.holds Try.pinned (OpenSpec.ofChange contractPartsWrong)

/-- 'estoppellaw13.ContractAgain': WHATEVER THE INPUT: true; the input reads as it did. -/
def contractAgainSpec : ChangeSpec := { name := "contractAgain", fn := fun _ => fun
  | [d1, d2, d3] => { results := [.lit (.bool true)], args := [d1, d2, d3] }
  | _ => none }
def contractAgainRow : OpenClaim := { program := "ytgligibbgobmnaa", sum := "126eccf66c0b8bdd67964970ea82e2668bd4316a9c8f2597925082b73c200c17", func := "estoppel/estoppellaw13.ContractAgain", spec := "contractAgain", unfollowed := true, recurses := true, apart := false }
def ContractAgainSaid : Prop := contractAgainRow.holds Try.pinned (OpenSpec.ofChange contractAgainSpec)

/-- ITS FALSE NEIGHBOUR: 'it returns false'. Refute it at one input. -/
def contractAgainWrong : ChangeSpec := { name := "contractAgain", fn := fun _ => fun
  | [d1, d2, d3] => { results := [.lit (.bool false)], args := [d1, d2, d3] }
  | _ => none }
def ContractAgainWrongFalsely : Prop := contractAgainRow.holds Try.pinned (OpenSpec.ofChange contractAgainWrong)

/-- 'estoppellaw13.ContractFree': WHATEVER THE INPUT: true; the input reads as it did. -/
def contractFreeSpec : ChangeSpec := { name := "contractFree", fn := fun _ => fun
  | [d1, d2] => { results := [.lit (.bool true)], args := [d1, d2] }
  | _ => none }
def contractFreeRow : OpenClaim := { program := "ytgligibbgobmnaa", sum := "126eccf66c0b8bdd67964970ea82e2668bd4316a9c8f2597925082b73c200c17", func := "estoppel/estoppellaw13.ContractFree", spec := "contractFree", unfollowed := true, recurses := true, apart := false }
def ContractFreeSaid : Prop := contractFreeRow.holds Try.pinned (OpenSpec.ofChange contractFreeSpec)

/-- ITS FALSE NEIGHBOUR: 'it returns false'. Refute it at one input. -/
def contractFreeWrong : ChangeSpec := { name := "contractFree", fn := fun _ => fun
  | [d1, d2] => { results := [.lit (.bool false)], args := [d1, d2] }
  | _ => none }
def ContractFreeWrongFalsely : Prop := contractFreeRow.holds Try.pinned (OpenSpec.ofChange contractFreeWrong)

/- THE SECOND FORM. 'bulk': how many values and letters a reading holds, each counted each time it is reached (what is shared counts as often as it is met; a slice's spare places count too). A statement '..UptoSaid' is the law's where the arguments, and the package variables that the reading takes, are together of bulk at most 1048576: NARROWER than '..Said'. Prove '..Said' where nothing that the law and all that it calls make is longer than what came in: it says more and counts as full. Else prove '..UptoSaid'. A law counts once. -/
mutual
def uptoBulk {H : Type} : DataW H → Nat
  | .lit (.string bytes) => bytes.length + 1
  | .lit _ => 1
  | .nil => 1
  | .ptr d => uptoBulk d + 1
  | .slice elems spare => uptoBulkAll elems + uptoBulkAll spare + 1
  | .agg parts => uptoBulkAll parts + 1
  | .iface _ d => uptoBulk d + 1
  | .map entries => uptoBulkEntries entries + 1
  | .held _ => 1
def uptoBulkAll {H : Type} : List (DataW H) → Nat
  | [] => 0
  | d :: r => uptoBulk d + uptoBulkAll r
def uptoBulkEntries {H : Type} : List (Lit × DataW H) → Nat
  | [] => 0
  | x :: r => uptoBulkEntry x + uptoBulkEntries r
def uptoBulkEntry {H : Type} : Lit × DataW H → Nat
  | (.string bytes, d) => bytes.length + uptoBulk d + 1
  | (_, d) => uptoBulk d + 1
 end
def uptoSmall : (H : Type) → List (DataW H) → Bool := fun _ ds => decide (uptoBulkAll ds ≤ 1048576)
def OpenSpec.upto (s : _root_.Go.ChangeSpec) : _root_.Go.OpenSpec := { _root_.Go.OpenSpec.ofChange s with cond := some uptoSmall }

/-- 'estoppellaw13.ContractFirst', WHERE WHAT IT READS IS OF BULK AT MOST 1048576: true; the input reads as it did. -/
def contractFirstUptoRow : OpenClaim := { program := "ytgligibbgobmnaa", sum := "126eccf66c0b8bdd67964970ea82e2668bd4316a9c8f2597925082b73c200c17", func := "estoppel/estoppellaw13.ContractFirst", spec := "contractFirst", unfollowed := true, recurses := true, apart := false, narrowed := true }
def ContractFirstUptoSaid : Prop := contractFirstUptoRow.holds Try.pinned (OpenSpec.upto contractFirstSpec)

/-- 'estoppellaw13.ContractParties', WHERE WHAT IT READS IS OF BULK AT MOST 1048576: true; the input reads as it did. -/
def contractPartiesUptoRow : OpenClaim := { program := "ytgligibbgobmnaa", sum := "126eccf66c0b8bdd67964970ea82e2668bd4316a9c8f2597925082b73c200c17", func := "estoppel/estoppellaw13.ContractParties", spec := "contractParties", unfollowed := true, recurses := true, apart := false, narrowed := true }
def ContractPartiesUptoSaid : Prop := contractPartiesUptoRow.holds Try.pinned (OpenSpec.upto contractPartiesSpec)

/-- 'estoppellaw13.ContractLinks', WHERE WHAT IT READS IS OF BULK AT MOST 1048576: true; the input reads as it did. -/
def contractLinksUptoRow : OpenClaim := { program := "ytgligibbgobmnaa", sum := "126eccf66c0b8bdd67964970ea82e2668bd4316a9c8f2597925082b73c200c17", func := "estoppel/estoppellaw13.ContractLinks", spec := "contractLinks", unfollowed := true, recurses := true, apart := false, narrowed := true }
def ContractLinksUptoSaid : Prop := contractLinksUptoRow.holds Try.pinned (OpenSpec.upto contractLinksSpec)

/-- 'estoppellaw13.ContractParts', WHERE WHAT IT READS IS OF BULK AT MOST 1048576: true; the input reads as it did. -/
def contractPartsUptoRow : OpenClaim := { program := "ytgligibbgobmnaa", sum := "126eccf66c0b8bdd67964970ea82e2668bd4316a9c8f2597925082b73c200c17", func := "estoppel/estoppellaw13.ContractParts", spec := "contractParts", unfollowed := true, recurses := true, apart := false, narrowed := true }
def ContractPartsUptoSaid : Prop := contractPartsUptoRow.holds Try.pinned (OpenSpec.upto contractPartsSpec)

/-- 'estoppellaw13.ContractAgain', WHERE WHAT IT READS IS OF BULK AT MOST 1048576: true; the input reads as it did. -/
def contractAgainUptoRow : OpenClaim := { program := "ytgligibbgobmnaa", sum := "126eccf66c0b8bdd67964970ea82e2668bd4316a9c8f2597925082b73c200c17", func := "estoppel/estoppellaw13.ContractAgain", spec := "contractAgain", unfollowed := true, recurses := true, apart := false, narrowed := true }
def ContractAgainUptoSaid : Prop := contractAgainUptoRow.holds Try.pinned (OpenSpec.upto contractAgainSpec)

/-- 'estoppellaw13.ContractFree', WHERE WHAT IT READS IS OF BULK AT MOST 1048576: true; the input reads as it did. -/
def contractFreeUptoRow : OpenClaim := { program := "ytgligibbgobmnaa", sum := "126eccf66c0b8bdd67964970ea82e2668bd4316a9c8f2597925082b73c200c17", func := "estoppel/estoppellaw13.ContractFree", spec := "contractFree", unfollowed := true, recurses := true, apart := false, narrowed := true }
def ContractFreeUptoSaid : Prop := contractFreeUptoRow.holds Try.pinned (OpenSpec.upto contractFreeSpec)

end Rows
end Go.Proofs.Ytgligibbgobmnaa
