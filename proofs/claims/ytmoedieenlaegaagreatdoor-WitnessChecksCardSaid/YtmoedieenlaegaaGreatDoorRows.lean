/-
  NARROWER THAN 'FOR EVERY INPUT', by the rows' own cells (each row's printed sentence says how): TopOthers: laid · WitnessChecks: laid · WitnessShieldsRight: laid · WitnessDoomsRight: laid · WitnessDecides: laid · WitnessTogether: laid · WitnessNotBoth: laid · WitnessGuards: laid · WitnessForces: laid · TopDecided: laid.
  DERIVED. THE GIVEN ROWS OF THIS SEAT. 10 by the template 'for every input the law returns true; each argument reads behind the call as it read before'; 0 by the template 'total and deterministic' (their statements: YtmoedieenlaegaaGreatDoorTotals.lean).
  GIVEN WITH THE SEED: the statements are not yours to turn. If you find one false, say at which input.
  Laid BY PROGRAM, IN A SANDBOX (cutbox-rows.mjs): the forced cells as the released guide's own fill.sh prints them over the translation 0e668ffc5de21c51… (all of the seat's roots in one cut). By AI agents, Wed Nov 11 2026. No macro, syntax, notation, axiom, sorry.
-/
import Derived.Test.YtmoedieenlaegaaGreatDoorChecked
import GoSem.Claim
import GoSem.ClaimJoined
import GoSem.ClaimMapViews
import Derived.JoinedTies
import Derived.KernelRfl
namespace Go.Proofs.YtmoedieenlaegaaGreatDoor
/- THE CELL 'sum', in the pinned program and in every row, IS THE sha256 OF THE DUMP (.gsa) THAT YtmoedieenlaegaaGreatDoorProg.lean LOADS. Nothing in Lean hashes anything: it is a label: what it is worth is what the hold of that sum in a sandbox is worth. -/
noncomputable def Tryz.pinned : Pinned := { name := "ytmoedieenlaegaagreatdoor", sum := "0e668ffc5de21c51469fce90945fb371b517feba911343b5e0206815bcd57230", checked := Tryz.checked }
namespace Rows
def none {H : Type} : Left H := { results := [], args := [] }

/- WHAT THE LISTED PACKAGE-LEVEL VARIABLES READ AS WHEN THE CALL BEGINS. Each datum BY PROGRAM (the guide's laid-datum.mjs) off the statement by which the dump's own 'gosem.cut.vars' lays the variable. In a bare row this is a premise. The card (YtmoedieenlaegaaGreatDoorCards.lean) ties it to the program's text. -/
def laid_math_bits_deBruijn32tab {H : Type} : DataW H := .agg [.lit (.int .u8 0), .lit (.int .u8 1), .lit (.int .u8 28), .lit (.int .u8 2), .lit (.int .u8 29), .lit (.int .u8 14), .lit (.int .u8 24), .lit (.int .u8 3), .lit (.int .u8 30), .lit (.int .u8 22), .lit (.int .u8 20), .lit (.int .u8 15), .lit (.int .u8 25), .lit (.int .u8 17), .lit (.int .u8 4), .lit (.int .u8 8), .lit (.int .u8 31), .lit (.int .u8 27), .lit (.int .u8 13), .lit (.int .u8 23), .lit (.int .u8 21), .lit (.int .u8 19), .lit (.int .u8 16), .lit (.int .u8 7), .lit (.int .u8 26), .lit (.int .u8 12), .lit (.int .u8 18), .lit (.int .u8 6), .lit (.int .u8 11), .lit (.int .u8 5), .lit (.int .u8 10), .lit (.int .u8 9)]
def laid_math_bits_deBruijn64tab {H : Type} : DataW H := .agg [.lit (.int .u8 0), .lit (.int .u8 1), .lit (.int .u8 56), .lit (.int .u8 2), .lit (.int .u8 57), .lit (.int .u8 49), .lit (.int .u8 28), .lit (.int .u8 3), .lit (.int .u8 61), .lit (.int .u8 58), .lit (.int .u8 42), .lit (.int .u8 50), .lit (.int .u8 38), .lit (.int .u8 29), .lit (.int .u8 17), .lit (.int .u8 4), .lit (.int .u8 62), .lit (.int .u8 47), .lit (.int .u8 59), .lit (.int .u8 36), .lit (.int .u8 45), .lit (.int .u8 43), .lit (.int .u8 51), .lit (.int .u8 22), .lit (.int .u8 53), .lit (.int .u8 39), .lit (.int .u8 33), .lit (.int .u8 30), .lit (.int .u8 24), .lit (.int .u8 18), .lit (.int .u8 12), .lit (.int .u8 5), .lit (.int .u8 63), .lit (.int .u8 55), .lit (.int .u8 48), .lit (.int .u8 27), .lit (.int .u8 60), .lit (.int .u8 41), .lit (.int .u8 37), .lit (.int .u8 16), .lit (.int .u8 46), .lit (.int .u8 35), .lit (.int .u8 44), .lit (.int .u8 21), .lit (.int .u8 52), .lit (.int .u8 32), .lit (.int .u8 23), .lit (.int .u8 11), .lit (.int .u8 54), .lit (.int .u8 26), .lit (.int .u8 40), .lit (.int .u8 15), .lit (.int .u8 34), .lit (.int .u8 20), .lit (.int .u8 31), .lit (.int .u8 10), .lit (.int .u8 25), .lit (.int .u8 14), .lit (.int .u8 19), .lit (.int .u8 9), .lit (.int .u8 13), .lit (.int .u8 8), .lit (.int .u8 7), .lit (.int .u8 6)]
def laid_internal_strconv_uint64pow10 {H : Type} : DataW H := .agg [.lit (.int .u64 1), .lit (.int .u64 10), .lit (.int .u64 100), .lit (.int .u64 1000), .lit (.int .u64 10000), .lit (.int .u64 100000), .lit (.int .u64 1000000), .lit (.int .u64 10000000), .lit (.int .u64 100000000), .lit (.int .u64 1000000000), .lit (.int .u64 10000000000), .lit (.int .u64 100000000000), .lit (.int .u64 1000000000000), .lit (.int .u64 10000000000000), .lit (.int .u64 100000000000000), .lit (.int .u64 1000000000000000), .lit (.int .u64 10000000000000000), .lit (.int .u64 100000000000000000), .lit (.int .u64 1000000000000000000), .lit (.int .u64 10000000000000000000)]

/-- 'estoppeltop.TopOthers': WHATEVER THE INPUT: true; the input reads as it did. -/
def topOthersSpec : ChangeSpec := { name := "topOthers", fn := fun _ => fun
  | [d1, d2] => { results := [.lit (.bool true)], args := [d1, d2] }
  | _ => none }
def topOthersRow : OpenClaim := { program := "ytmoedieenlaegaagreatdoor", sum := "0e668ffc5de21c51469fce90945fb371b517feba911343b5e0206815bcd57230", func := "estoppel/estoppeltop.TopOthers", spec := "topOthers", unfollowed := true, recurses := true, named := ["internal/strconv.uint64pow10", "math/bits.deBruijn32tab", "math/bits.deBruijn64tab"], apart := false, laid := [("math/bits.deBruijn32tab", laid_math_bits_deBruijn32tab), ("math/bits.deBruijn64tab", laid_math_bits_deBruijn64tab), ("internal/strconv.uint64pow10", laid_internal_strconv_uint64pow10)] }
def TopOthersSaid : Prop := topOthersRow.holds Tryz.pinned (OpenSpec.ofChange topOthersSpec)

/-- ITS FALSE NEIGHBOUR: 'it returns false'. Refute it at one input. -/
def topOthersWrong : ChangeSpec := { name := "topOthers", fn := fun _ => fun
  | [d1, d2] => { results := [.lit (.bool false)], args := [d1, d2] }
  | _ => none }
def TopOthersWrongFalsely : Prop := topOthersRow.holds Tryz.pinned (OpenSpec.ofChange topOthersWrong)

/-- 'estoppellaw22.WitnessChecks': WHATEVER THE INPUT: true; the input reads as it did. -/
def witnessChecksSpec : ChangeSpec := { name := "witnessChecks", fn := fun _ => fun
  | [d1, d2, d3] => { results := [.lit (.bool true)], args := [d1, d2, d3] }
  | _ => none }
def witnessChecksRow : OpenClaim := { program := "ytmoedieenlaegaagreatdoor", sum := "0e668ffc5de21c51469fce90945fb371b517feba911343b5e0206815bcd57230", func := "estoppel/estoppellaw22.WitnessChecks", spec := "witnessChecks", unfollowed := true, recurses := true, named := ["internal/strconv.uint64pow10", "math/bits.deBruijn32tab", "math/bits.deBruijn64tab"], apart := false, laid := [("math/bits.deBruijn32tab", laid_math_bits_deBruijn32tab), ("math/bits.deBruijn64tab", laid_math_bits_deBruijn64tab), ("internal/strconv.uint64pow10", laid_internal_strconv_uint64pow10)] }
def WitnessChecksSaid : Prop := witnessChecksRow.holds Tryz.pinned (OpenSpec.ofChange witnessChecksSpec)

/-- ITS FALSE NEIGHBOUR: 'it returns false'. Refute it at one input. -/
def witnessChecksWrong : ChangeSpec := { name := "witnessChecks", fn := fun _ => fun
  | [d1, d2, d3] => { results := [.lit (.bool false)], args := [d1, d2, d3] }
  | _ => none }
def WitnessChecksWrongFalsely : Prop := witnessChecksRow.holds Tryz.pinned (OpenSpec.ofChange witnessChecksWrong)

/-- 'estoppellaw22.WitnessShieldsRight': WHATEVER THE INPUT: true; the input reads as it did. -/
def witnessShieldsRightSpec : ChangeSpec := { name := "witnessShieldsRight", fn := fun _ => fun
  | [d1, d2, d3] => { results := [.lit (.bool true)], args := [d1, d2, d3] }
  | _ => none }
def witnessShieldsRightRow : OpenClaim := { program := "ytmoedieenlaegaagreatdoor", sum := "0e668ffc5de21c51469fce90945fb371b517feba911343b5e0206815bcd57230", func := "estoppel/estoppellaw22.WitnessShieldsRight", spec := "witnessShieldsRight", unfollowed := true, recurses := true, named := ["internal/strconv.uint64pow10", "math/bits.deBruijn32tab", "math/bits.deBruijn64tab"], apart := false, laid := [("math/bits.deBruijn32tab", laid_math_bits_deBruijn32tab), ("math/bits.deBruijn64tab", laid_math_bits_deBruijn64tab), ("internal/strconv.uint64pow10", laid_internal_strconv_uint64pow10)] }
def WitnessShieldsRightSaid : Prop := witnessShieldsRightRow.holds Tryz.pinned (OpenSpec.ofChange witnessShieldsRightSpec)

/-- ITS FALSE NEIGHBOUR: 'it returns false'. Refute it at one input. -/
def witnessShieldsRightWrong : ChangeSpec := { name := "witnessShieldsRight", fn := fun _ => fun
  | [d1, d2, d3] => { results := [.lit (.bool false)], args := [d1, d2, d3] }
  | _ => none }
def WitnessShieldsRightWrongFalsely : Prop := witnessShieldsRightRow.holds Tryz.pinned (OpenSpec.ofChange witnessShieldsRightWrong)

/-- 'estoppellaw22.WitnessDoomsRight': WHATEVER THE INPUT: true; the input reads as it did. -/
def witnessDoomsRightSpec : ChangeSpec := { name := "witnessDoomsRight", fn := fun _ => fun
  | [d1, d2, d3] => { results := [.lit (.bool true)], args := [d1, d2, d3] }
  | _ => none }
def witnessDoomsRightRow : OpenClaim := { program := "ytmoedieenlaegaagreatdoor", sum := "0e668ffc5de21c51469fce90945fb371b517feba911343b5e0206815bcd57230", func := "estoppel/estoppellaw22.WitnessDoomsRight", spec := "witnessDoomsRight", unfollowed := true, recurses := true, named := ["internal/strconv.uint64pow10", "math/bits.deBruijn32tab", "math/bits.deBruijn64tab"], apart := false, laid := [("math/bits.deBruijn32tab", laid_math_bits_deBruijn32tab), ("math/bits.deBruijn64tab", laid_math_bits_deBruijn64tab), ("internal/strconv.uint64pow10", laid_internal_strconv_uint64pow10)] }
def WitnessDoomsRightSaid : Prop := witnessDoomsRightRow.holds Tryz.pinned (OpenSpec.ofChange witnessDoomsRightSpec)

/-- ITS FALSE NEIGHBOUR: 'it returns false'. Refute it at one input. -/
def witnessDoomsRightWrong : ChangeSpec := { name := "witnessDoomsRight", fn := fun _ => fun
  | [d1, d2, d3] => { results := [.lit (.bool false)], args := [d1, d2, d3] }
  | _ => none }
def WitnessDoomsRightWrongFalsely : Prop := witnessDoomsRightRow.holds Tryz.pinned (OpenSpec.ofChange witnessDoomsRightWrong)

/-- 'estoppellaw22.WitnessDecides': WHATEVER THE INPUT: true; the input reads as it did. -/
def witnessDecidesSpec : ChangeSpec := { name := "witnessDecides", fn := fun _ => fun
  | [d1, d2, d3] => { results := [.lit (.bool true)], args := [d1, d2, d3] }
  | _ => none }
def witnessDecidesRow : OpenClaim := { program := "ytmoedieenlaegaagreatdoor", sum := "0e668ffc5de21c51469fce90945fb371b517feba911343b5e0206815bcd57230", func := "estoppel/estoppellaw22.WitnessDecides", spec := "witnessDecides", unfollowed := true, recurses := true, named := ["internal/strconv.uint64pow10", "math/bits.deBruijn32tab", "math/bits.deBruijn64tab"], apart := false, laid := [("math/bits.deBruijn32tab", laid_math_bits_deBruijn32tab), ("math/bits.deBruijn64tab", laid_math_bits_deBruijn64tab), ("internal/strconv.uint64pow10", laid_internal_strconv_uint64pow10)] }
def WitnessDecidesSaid : Prop := witnessDecidesRow.holds Tryz.pinned (OpenSpec.ofChange witnessDecidesSpec)

/-- ITS FALSE NEIGHBOUR: 'it returns false'. Refute it at one input. -/
def witnessDecidesWrong : ChangeSpec := { name := "witnessDecides", fn := fun _ => fun
  | [d1, d2, d3] => { results := [.lit (.bool false)], args := [d1, d2, d3] }
  | _ => none }
def WitnessDecidesWrongFalsely : Prop := witnessDecidesRow.holds Tryz.pinned (OpenSpec.ofChange witnessDecidesWrong)

/-- 'estoppellaw22.WitnessTogether': WHATEVER THE INPUT: true; the input reads as it did. -/
def witnessTogetherSpec : ChangeSpec := { name := "witnessTogether", fn := fun _ => fun
  | [d1, d2, d3, d4, d5] => { results := [.lit (.bool true)], args := [d1, d2, d3, d4, d5] }
  | _ => none }
def witnessTogetherRow : OpenClaim := { program := "ytmoedieenlaegaagreatdoor", sum := "0e668ffc5de21c51469fce90945fb371b517feba911343b5e0206815bcd57230", func := "estoppel/estoppellaw22.WitnessTogether", spec := "witnessTogether", unfollowed := true, recurses := true, named := ["internal/strconv.uint64pow10", "math/bits.deBruijn32tab", "math/bits.deBruijn64tab"], apart := false, laid := [("math/bits.deBruijn32tab", laid_math_bits_deBruijn32tab), ("math/bits.deBruijn64tab", laid_math_bits_deBruijn64tab), ("internal/strconv.uint64pow10", laid_internal_strconv_uint64pow10)] }
def WitnessTogetherSaid : Prop := witnessTogetherRow.holds Tryz.pinned (OpenSpec.ofChange witnessTogetherSpec)

/-- ITS FALSE NEIGHBOUR: 'it returns false'. Refute it at one input. -/
def witnessTogetherWrong : ChangeSpec := { name := "witnessTogether", fn := fun _ => fun
  | [d1, d2, d3, d4, d5] => { results := [.lit (.bool false)], args := [d1, d2, d3, d4, d5] }
  | _ => none }
def WitnessTogetherWrongFalsely : Prop := witnessTogetherRow.holds Tryz.pinned (OpenSpec.ofChange witnessTogetherWrong)

/-- 'estoppellaw22.WitnessNotBoth': WHATEVER THE INPUT: true; the input reads as it did. -/
def witnessNotBothSpec : ChangeSpec := { name := "witnessNotBoth", fn := fun _ => fun
  | [d1, d2, d3] => { results := [.lit (.bool true)], args := [d1, d2, d3] }
  | _ => none }
def witnessNotBothRow : OpenClaim := { program := "ytmoedieenlaegaagreatdoor", sum := "0e668ffc5de21c51469fce90945fb371b517feba911343b5e0206815bcd57230", func := "estoppel/estoppellaw22.WitnessNotBoth", spec := "witnessNotBoth", unfollowed := true, recurses := true, named := ["internal/strconv.uint64pow10", "math/bits.deBruijn32tab", "math/bits.deBruijn64tab"], apart := false, laid := [("math/bits.deBruijn32tab", laid_math_bits_deBruijn32tab), ("math/bits.deBruijn64tab", laid_math_bits_deBruijn64tab), ("internal/strconv.uint64pow10", laid_internal_strconv_uint64pow10)] }
def WitnessNotBothSaid : Prop := witnessNotBothRow.holds Tryz.pinned (OpenSpec.ofChange witnessNotBothSpec)

/-- ITS FALSE NEIGHBOUR: 'it returns false'. Refute it at one input. -/
def witnessNotBothWrong : ChangeSpec := { name := "witnessNotBoth", fn := fun _ => fun
  | [d1, d2, d3] => { results := [.lit (.bool false)], args := [d1, d2, d3] }
  | _ => none }
def WitnessNotBothWrongFalsely : Prop := witnessNotBothRow.holds Tryz.pinned (OpenSpec.ofChange witnessNotBothWrong)

/-- 'estoppellaw22.WitnessGuards': WHATEVER THE INPUT: true; the input reads as it did. -/
def witnessGuardsSpec : ChangeSpec := { name := "witnessGuards", fn := fun _ => fun
  | [d1, d2, d3, d4] => { results := [.lit (.bool true)], args := [d1, d2, d3, d4] }
  | _ => none }
def witnessGuardsRow : OpenClaim := { program := "ytmoedieenlaegaagreatdoor", sum := "0e668ffc5de21c51469fce90945fb371b517feba911343b5e0206815bcd57230", func := "estoppel/estoppellaw22.WitnessGuards", spec := "witnessGuards", unfollowed := true, recurses := true, named := ["internal/strconv.uint64pow10", "math/bits.deBruijn32tab", "math/bits.deBruijn64tab"], apart := false, laid := [("math/bits.deBruijn32tab", laid_math_bits_deBruijn32tab), ("math/bits.deBruijn64tab", laid_math_bits_deBruijn64tab), ("internal/strconv.uint64pow10", laid_internal_strconv_uint64pow10)] }
def WitnessGuardsSaid : Prop := witnessGuardsRow.holds Tryz.pinned (OpenSpec.ofChange witnessGuardsSpec)

/-- ITS FALSE NEIGHBOUR: 'it returns false'. Refute it at one input. -/
def witnessGuardsWrong : ChangeSpec := { name := "witnessGuards", fn := fun _ => fun
  | [d1, d2, d3, d4] => { results := [.lit (.bool false)], args := [d1, d2, d3, d4] }
  | _ => none }
def WitnessGuardsWrongFalsely : Prop := witnessGuardsRow.holds Tryz.pinned (OpenSpec.ofChange witnessGuardsWrong)

/-- 'estoppellaw22.WitnessForces': WHATEVER THE INPUT: true; the input reads as it did. -/
def witnessForcesSpec : ChangeSpec := { name := "witnessForces", fn := fun _ => fun
  | [d1, d2, d3, d4] => { results := [.lit (.bool true)], args := [d1, d2, d3, d4] }
  | _ => none }
def witnessForcesRow : OpenClaim := { program := "ytmoedieenlaegaagreatdoor", sum := "0e668ffc5de21c51469fce90945fb371b517feba911343b5e0206815bcd57230", func := "estoppel/estoppellaw22.WitnessForces", spec := "witnessForces", unfollowed := true, recurses := true, named := ["internal/strconv.uint64pow10", "math/bits.deBruijn32tab", "math/bits.deBruijn64tab"], apart := false, laid := [("math/bits.deBruijn32tab", laid_math_bits_deBruijn32tab), ("math/bits.deBruijn64tab", laid_math_bits_deBruijn64tab), ("internal/strconv.uint64pow10", laid_internal_strconv_uint64pow10)] }
def WitnessForcesSaid : Prop := witnessForcesRow.holds Tryz.pinned (OpenSpec.ofChange witnessForcesSpec)

/-- ITS FALSE NEIGHBOUR: 'it returns false'. Refute it at one input. -/
def witnessForcesWrong : ChangeSpec := { name := "witnessForces", fn := fun _ => fun
  | [d1, d2, d3, d4] => { results := [.lit (.bool false)], args := [d1, d2, d3, d4] }
  | _ => none }
def WitnessForcesWrongFalsely : Prop := witnessForcesRow.holds Tryz.pinned (OpenSpec.ofChange witnessForcesWrong)

/-- 'estoppeltop.TopDecided': WHATEVER THE INPUT: true; the input reads as it did. -/
def topDecidedSpec : ChangeSpec := { name := "topDecided", fn := fun _ => fun
  | [d1, d2, d3] => { results := [.lit (.bool true)], args := [d1, d2, d3] }
  | _ => none }
def topDecidedRow : OpenClaim := { program := "ytmoedieenlaegaagreatdoor", sum := "0e668ffc5de21c51469fce90945fb371b517feba911343b5e0206815bcd57230", func := "estoppel/estoppeltop.TopDecided", spec := "topDecided", unfollowed := true, recurses := true, named := ["internal/strconv.uint64pow10", "math/bits.deBruijn32tab", "math/bits.deBruijn64tab"], apart := false, laid := [("math/bits.deBruijn32tab", laid_math_bits_deBruijn32tab), ("math/bits.deBruijn64tab", laid_math_bits_deBruijn64tab), ("internal/strconv.uint64pow10", laid_internal_strconv_uint64pow10)] }
def TopDecidedSaid : Prop := topDecidedRow.holds Tryz.pinned (OpenSpec.ofChange topDecidedSpec)

/-- ITS FALSE NEIGHBOUR: 'it returns false'. Refute it at one input. -/
def topDecidedWrong : ChangeSpec := { name := "topDecided", fn := fun _ => fun
  | [d1, d2, d3] => { results := [.lit (.bool false)], args := [d1, d2, d3] }
  | _ => none }
def TopDecidedWrongFalsely : Prop := topDecidedRow.holds Tryz.pinned (OpenSpec.ofChange topDecidedWrong)

/- THE SECOND FORM. 'bulk': how many values and letters a reading holds, each counted each time it is reached (what is shared counts as often as it is met; a slice's spare places count too). A statement '..UptoSaid' is the law's where the arguments, and the package variables that the reading takes, are together of bulk at most 1048576: NARROWER than '..Said'. Prove '..Said' where nothing that the law and all that it calls make is longer than what came in: it says more and counts as full. Else prove '..UptoSaid'. A law counts once. -/
mutual
def uptoBulk {H : Type} : DataW H → Nat
  | .lit (.string bytes) => bytes.length + 1
  | .lit _ => 1
  | .nil => 1
  | .ptr d => uptoBulk d + 1
  | .slice elems spare => uptoBulkAll elems + uptoBulkAll spare + 1
  | .agg parts => uptoBulkAll parts + 1
  | .iface _ d => uptoBulk d + 1
  | .map entries => uptoBulkEntries entries + 1
  | .held _ => 1
def uptoBulkAll {H : Type} : List (DataW H) → Nat
  | [] => 0
  | d :: r => uptoBulk d + uptoBulkAll r
def uptoBulkEntries {H : Type} : List (Lit × DataW H) → Nat
  | [] => 0
  | x :: r => uptoBulkEntry x + uptoBulkEntries r
def uptoBulkEntry {H : Type} : Lit × DataW H → Nat
  | (.string bytes, d) => bytes.length + uptoBulk d + 1
  | (_, d) => uptoBulk d + 1
 end
def uptoSmall : (H : Type) → List (DataW H) → Bool := fun _ ds => decide (uptoBulkAll ds ≤ 1048576)
def OpenSpec.upto (s : _root_.Go.ChangeSpec) : _root_.Go.OpenSpec := { _root_.Go.OpenSpec.ofChange s with cond := some uptoSmall }

/-- 'estoppeltop.TopOthers', WHERE WHAT IT READS IS OF BULK AT MOST 1048576: true; the input reads as it did. -/
def topOthersUptoRow : OpenClaim := { program := "ytmoedieenlaegaagreatdoor", sum := "0e668ffc5de21c51469fce90945fb371b517feba911343b5e0206815bcd57230", func := "estoppel/estoppeltop.TopOthers", spec := "topOthers", unfollowed := true, recurses := true, named := ["internal/strconv.uint64pow10", "math/bits.deBruijn32tab", "math/bits.deBruijn64tab"], apart := false, laid := [("math/bits.deBruijn32tab", laid_math_bits_deBruijn32tab), ("math/bits.deBruijn64tab", laid_math_bits_deBruijn64tab), ("internal/strconv.uint64pow10", laid_internal_strconv_uint64pow10)], narrowed := true }
def TopOthersUptoSaid : Prop := topOthersUptoRow.holds Tryz.pinned (OpenSpec.upto topOthersSpec)

/-- 'estoppellaw22.WitnessChecks', WHERE WHAT IT READS IS OF BULK AT MOST 1048576: true; the input reads as it did. -/
def witnessChecksUptoRow : OpenClaim := { program := "ytmoedieenlaegaagreatdoor", sum := "0e668ffc5de21c51469fce90945fb371b517feba911343b5e0206815bcd57230", func := "estoppel/estoppellaw22.WitnessChecks", spec := "witnessChecks", unfollowed := true, recurses := true, named := ["internal/strconv.uint64pow10", "math/bits.deBruijn32tab", "math/bits.deBruijn64tab"], apart := false, laid := [("math/bits.deBruijn32tab", laid_math_bits_deBruijn32tab), ("math/bits.deBruijn64tab", laid_math_bits_deBruijn64tab), ("internal/strconv.uint64pow10", laid_internal_strconv_uint64pow10)], narrowed := true }
def WitnessChecksUptoSaid : Prop := witnessChecksUptoRow.holds Tryz.pinned (OpenSpec.upto witnessChecksSpec)

/-- 'estoppellaw22.WitnessShieldsRight', WHERE WHAT IT READS IS OF BULK AT MOST 1048576: true; the input reads as it did. -/
def witnessShieldsRightUptoRow : OpenClaim := { program := "ytmoedieenlaegaagreatdoor", sum := "0e668ffc5de21c51469fce90945fb371b517feba911343b5e0206815bcd57230", func := "estoppel/estoppellaw22.WitnessShieldsRight", spec := "witnessShieldsRight", unfollowed := true, recurses := true, named := ["internal/strconv.uint64pow10", "math/bits.deBruijn32tab", "math/bits.deBruijn64tab"], apart := false, laid := [("math/bits.deBruijn32tab", laid_math_bits_deBruijn32tab), ("math/bits.deBruijn64tab", laid_math_bits_deBruijn64tab), ("internal/strconv.uint64pow10", laid_internal_strconv_uint64pow10)], narrowed := true }
def WitnessShieldsRightUptoSaid : Prop := witnessShieldsRightUptoRow.holds Tryz.pinned (OpenSpec.upto witnessShieldsRightSpec)

/-- 'estoppellaw22.WitnessDoomsRight', WHERE WHAT IT READS IS OF BULK AT MOST 1048576: true; the input reads as it did. -/
def witnessDoomsRightUptoRow : OpenClaim := { program := "ytmoedieenlaegaagreatdoor", sum := "0e668ffc5de21c51469fce90945fb371b517feba911343b5e0206815bcd57230", func := "estoppel/estoppellaw22.WitnessDoomsRight", spec := "witnessDoomsRight", unfollowed := true, recurses := true, named := ["internal/strconv.uint64pow10", "math/bits.deBruijn32tab", "math/bits.deBruijn64tab"], apart := false, laid := [("math/bits.deBruijn32tab", laid_math_bits_deBruijn32tab), ("math/bits.deBruijn64tab", laid_math_bits_deBruijn64tab), ("internal/strconv.uint64pow10", laid_internal_strconv_uint64pow10)], narrowed := true }
def WitnessDoomsRightUptoSaid : Prop := witnessDoomsRightUptoRow.holds Tryz.pinned (OpenSpec.upto witnessDoomsRightSpec)

/-- 'estoppellaw22.WitnessDecides', WHERE WHAT IT READS IS OF BULK AT MOST 1048576: true; the input reads as it did. -/
def witnessDecidesUptoRow : OpenClaim := { program := "ytmoedieenlaegaagreatdoor", sum := "0e668ffc5de21c51469fce90945fb371b517feba911343b5e0206815bcd57230", func := "estoppel/estoppellaw22.WitnessDecides", spec := "witnessDecides", unfollowed := true, recurses := true, named := ["internal/strconv.uint64pow10", "math/bits.deBruijn32tab", "math/bits.deBruijn64tab"], apart := false, laid := [("math/bits.deBruijn32tab", laid_math_bits_deBruijn32tab), ("math/bits.deBruijn64tab", laid_math_bits_deBruijn64tab), ("internal/strconv.uint64pow10", laid_internal_strconv_uint64pow10)], narrowed := true }
def WitnessDecidesUptoSaid : Prop := witnessDecidesUptoRow.holds Tryz.pinned (OpenSpec.upto witnessDecidesSpec)

/-- 'estoppellaw22.WitnessTogether', WHERE WHAT IT READS IS OF BULK AT MOST 1048576: true; the input reads as it did. -/
def witnessTogetherUptoRow : OpenClaim := { program := "ytmoedieenlaegaagreatdoor", sum := "0e668ffc5de21c51469fce90945fb371b517feba911343b5e0206815bcd57230", func := "estoppel/estoppellaw22.WitnessTogether", spec := "witnessTogether", unfollowed := true, recurses := true, named := ["internal/strconv.uint64pow10", "math/bits.deBruijn32tab", "math/bits.deBruijn64tab"], apart := false, laid := [("math/bits.deBruijn32tab", laid_math_bits_deBruijn32tab), ("math/bits.deBruijn64tab", laid_math_bits_deBruijn64tab), ("internal/strconv.uint64pow10", laid_internal_strconv_uint64pow10)], narrowed := true }
def WitnessTogetherUptoSaid : Prop := witnessTogetherUptoRow.holds Tryz.pinned (OpenSpec.upto witnessTogetherSpec)

/-- 'estoppellaw22.WitnessNotBoth', WHERE WHAT IT READS IS OF BULK AT MOST 1048576: true; the input reads as it did. -/
def witnessNotBothUptoRow : OpenClaim := { program := "ytmoedieenlaegaagreatdoor", sum := "0e668ffc5de21c51469fce90945fb371b517feba911343b5e0206815bcd57230", func := "estoppel/estoppellaw22.WitnessNotBoth", spec := "witnessNotBoth", unfollowed := true, recurses := true, named := ["internal/strconv.uint64pow10", "math/bits.deBruijn32tab", "math/bits.deBruijn64tab"], apart := false, laid := [("math/bits.deBruijn32tab", laid_math_bits_deBruijn32tab), ("math/bits.deBruijn64tab", laid_math_bits_deBruijn64tab), ("internal/strconv.uint64pow10", laid_internal_strconv_uint64pow10)], narrowed := true }
def WitnessNotBothUptoSaid : Prop := witnessNotBothUptoRow.holds Tryz.pinned (OpenSpec.upto witnessNotBothSpec)

/-- 'estoppellaw22.WitnessGuards', WHERE WHAT IT READS IS OF BULK AT MOST 1048576: true; the input reads as it did. -/
def witnessGuardsUptoRow : OpenClaim := { program := "ytmoedieenlaegaagreatdoor", sum := "0e668ffc5de21c51469fce90945fb371b517feba911343b5e0206815bcd57230", func := "estoppel/estoppellaw22.WitnessGuards", spec := "witnessGuards", unfollowed := true, recurses := true, named := ["internal/strconv.uint64pow10", "math/bits.deBruijn32tab", "math/bits.deBruijn64tab"], apart := false, laid := [("math/bits.deBruijn32tab", laid_math_bits_deBruijn32tab), ("math/bits.deBruijn64tab", laid_math_bits_deBruijn64tab), ("internal/strconv.uint64pow10", laid_internal_strconv_uint64pow10)], narrowed := true }
def WitnessGuardsUptoSaid : Prop := witnessGuardsUptoRow.holds Tryz.pinned (OpenSpec.upto witnessGuardsSpec)

/-- 'estoppellaw22.WitnessForces', WHERE WHAT IT READS IS OF BULK AT MOST 1048576: true; the input reads as it did. -/
def witnessForcesUptoRow : OpenClaim := { program := "ytmoedieenlaegaagreatdoor", sum := "0e668ffc5de21c51469fce90945fb371b517feba911343b5e0206815bcd57230", func := "estoppel/estoppellaw22.WitnessForces", spec := "witnessForces", unfollowed := true, recurses := true, named := ["internal/strconv.uint64pow10", "math/bits.deBruijn32tab", "math/bits.deBruijn64tab"], apart := false, laid := [("math/bits.deBruijn32tab", laid_math_bits_deBruijn32tab), ("math/bits.deBruijn64tab", laid_math_bits_deBruijn64tab), ("internal/strconv.uint64pow10", laid_internal_strconv_uint64pow10)], narrowed := true }
def WitnessForcesUptoSaid : Prop := witnessForcesUptoRow.holds Tryz.pinned (OpenSpec.upto witnessForcesSpec)

/-- 'estoppeltop.TopDecided', WHERE WHAT IT READS IS OF BULK AT MOST 1048576: true; the input reads as it did. -/
def topDecidedUptoRow : OpenClaim := { program := "ytmoedieenlaegaagreatdoor", sum := "0e668ffc5de21c51469fce90945fb371b517feba911343b5e0206815bcd57230", func := "estoppel/estoppeltop.TopDecided", spec := "topDecided", unfollowed := true, recurses := true, named := ["internal/strconv.uint64pow10", "math/bits.deBruijn32tab", "math/bits.deBruijn64tab"], apart := false, laid := [("math/bits.deBruijn32tab", laid_math_bits_deBruijn32tab), ("math/bits.deBruijn64tab", laid_math_bits_deBruijn64tab), ("internal/strconv.uint64pow10", laid_internal_strconv_uint64pow10)], narrowed := true }
def TopDecidedUptoSaid : Prop := topDecidedUptoRow.holds Tryz.pinned (OpenSpec.upto topDecidedSpec)

end Rows
end Go.Proofs.YtmoedieenlaegaaGreatDoor
