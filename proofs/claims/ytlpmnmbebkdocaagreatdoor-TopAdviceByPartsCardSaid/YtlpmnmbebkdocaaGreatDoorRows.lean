/-
  NARROWER THAN 'FOR EVERY INPUT', by the rows' own cells (each row's printed sentence says how): TopTogether: laid · TopAdviceByParts: laid · TrapForced: laid · TrapShows: laid · TrapDead: laid · TrapClash: laid · TrapShortest: laid · TrapAdvice: laid.
  DERIVED. THE GIVEN ROWS OF THIS SEAT. 8 by the template 'for every input the law returns true; each argument reads behind the call as it read before'; 0 by the template 'total and deterministic' (their statements: YtlpmnmbebkdocaaGreatDoorTotals.lean).
  GIVEN WITH THE SEED: the statements are not yours to turn. If you find one false, say at which input.
  Laid BY PROGRAM, IN A SANDBOX (cutbox-rows.mjs): the forced cells as the released guide's own fill.sh prints them over the translation 77f29809d4a8ce43… (all of the seat's roots in one cut). By AI agents, Wed Nov 11 2026. No macro, syntax, notation, axiom, sorry.
-/
import Derived.Test.YtlpmnmbebkdocaaGreatDoorChecked
import GoSem.Claim
import GoSem.ClaimJoined
import GoSem.ClaimMapViews
import Derived.JoinedTies
import Derived.KernelRfl
namespace Go.Proofs.YtlpmnmbebkdocaaGreatDoor
/- THE CELL 'sum', in the pinned program and in every row, IS THE sha256 OF THE DUMP (.gsa) THAT YtlpmnmbebkdocaaGreatDoorProg.lean LOADS. Nothing in Lean hashes anything: it is a label: what it is worth is what the hold of that sum in a sandbox is worth. -/
noncomputable def Tryz.pinned : Pinned := { name := "ytlpmnmbebkdocaagreatdoor", sum := "77f29809d4a8ce43a01612786b2697997b1ca94624985161c95eaf331e876844", checked := Tryz.checked }
namespace Rows
def none {H : Type} : Left H := { results := [], args := [] }

/- WHAT THE LISTED PACKAGE-LEVEL VARIABLES READ AS WHEN THE CALL BEGINS. Each datum BY PROGRAM (the guide's laid-datum.mjs) off the statement by which the dump's own 'gosem.cut.vars' lays the variable. In a bare row this is a premise. The card (YtlpmnmbebkdocaaGreatDoorCards.lean) ties it to the program's text. -/
def laid_math_bits_deBruijn32tab {H : Type} : DataW H := .agg [.lit (.int .u8 0), .lit (.int .u8 1), .lit (.int .u8 28), .lit (.int .u8 2), .lit (.int .u8 29), .lit (.int .u8 14), .lit (.int .u8 24), .lit (.int .u8 3), .lit (.int .u8 30), .lit (.int .u8 22), .lit (.int .u8 20), .lit (.int .u8 15), .lit (.int .u8 25), .lit (.int .u8 17), .lit (.int .u8 4), .lit (.int .u8 8), .lit (.int .u8 31), .lit (.int .u8 27), .lit (.int .u8 13), .lit (.int .u8 23), .lit (.int .u8 21), .lit (.int .u8 19), .lit (.int .u8 16), .lit (.int .u8 7), .lit (.int .u8 26), .lit (.int .u8 12), .lit (.int .u8 18), .lit (.int .u8 6), .lit (.int .u8 11), .lit (.int .u8 5), .lit (.int .u8 10), .lit (.int .u8 9)]
def laid_math_bits_deBruijn64tab {H : Type} : DataW H := .agg [.lit (.int .u8 0), .lit (.int .u8 1), .lit (.int .u8 56), .lit (.int .u8 2), .lit (.int .u8 57), .lit (.int .u8 49), .lit (.int .u8 28), .lit (.int .u8 3), .lit (.int .u8 61), .lit (.int .u8 58), .lit (.int .u8 42), .lit (.int .u8 50), .lit (.int .u8 38), .lit (.int .u8 29), .lit (.int .u8 17), .lit (.int .u8 4), .lit (.int .u8 62), .lit (.int .u8 47), .lit (.int .u8 59), .lit (.int .u8 36), .lit (.int .u8 45), .lit (.int .u8 43), .lit (.int .u8 51), .lit (.int .u8 22), .lit (.int .u8 53), .lit (.int .u8 39), .lit (.int .u8 33), .lit (.int .u8 30), .lit (.int .u8 24), .lit (.int .u8 18), .lit (.int .u8 12), .lit (.int .u8 5), .lit (.int .u8 63), .lit (.int .u8 55), .lit (.int .u8 48), .lit (.int .u8 27), .lit (.int .u8 60), .lit (.int .u8 41), .lit (.int .u8 37), .lit (.int .u8 16), .lit (.int .u8 46), .lit (.int .u8 35), .lit (.int .u8 44), .lit (.int .u8 21), .lit (.int .u8 52), .lit (.int .u8 32), .lit (.int .u8 23), .lit (.int .u8 11), .lit (.int .u8 54), .lit (.int .u8 26), .lit (.int .u8 40), .lit (.int .u8 15), .lit (.int .u8 34), .lit (.int .u8 20), .lit (.int .u8 31), .lit (.int .u8 10), .lit (.int .u8 25), .lit (.int .u8 14), .lit (.int .u8 19), .lit (.int .u8 9), .lit (.int .u8 13), .lit (.int .u8 8), .lit (.int .u8 7), .lit (.int .u8 6)]
def laid_internal_strconv_uint64pow10 {H : Type} : DataW H := .agg [.lit (.int .u64 1), .lit (.int .u64 10), .lit (.int .u64 100), .lit (.int .u64 1000), .lit (.int .u64 10000), .lit (.int .u64 100000), .lit (.int .u64 1000000), .lit (.int .u64 10000000), .lit (.int .u64 100000000), .lit (.int .u64 1000000000), .lit (.int .u64 10000000000), .lit (.int .u64 100000000000), .lit (.int .u64 1000000000000), .lit (.int .u64 10000000000000), .lit (.int .u64 100000000000000), .lit (.int .u64 1000000000000000), .lit (.int .u64 10000000000000000), .lit (.int .u64 100000000000000000), .lit (.int .u64 1000000000000000000), .lit (.int .u64 10000000000000000000)]

/-- 'estoppeltop.TopTogether': WHATEVER THE INPUT: true; the input reads as it did. -/
def topTogetherSpec : ChangeSpec := { name := "topTogether", fn := fun _ => fun
  | [d1, d2, d3] => { results := [.lit (.bool true)], args := [d1, d2, d3] }
  | _ => none }
def topTogetherRow : OpenClaim := { program := "ytlpmnmbebkdocaagreatdoor", sum := "77f29809d4a8ce43a01612786b2697997b1ca94624985161c95eaf331e876844", func := "estoppel/estoppeltop.TopTogether", spec := "topTogether", unfollowed := true, recurses := true, named := ["internal/strconv.uint64pow10", "math/bits.deBruijn32tab", "math/bits.deBruijn64tab"], apart := false, laid := [("math/bits.deBruijn32tab", laid_math_bits_deBruijn32tab), ("math/bits.deBruijn64tab", laid_math_bits_deBruijn64tab), ("internal/strconv.uint64pow10", laid_internal_strconv_uint64pow10)] }
def TopTogetherSaid : Prop := topTogetherRow.holds Tryz.pinned (OpenSpec.ofChange topTogetherSpec)

/-- ITS FALSE NEIGHBOUR: 'it returns false'. Refute it at one input. -/
def topTogetherWrong : ChangeSpec := { name := "topTogether", fn := fun _ => fun
  | [d1, d2, d3] => { results := [.lit (.bool false)], args := [d1, d2, d3] }
  | _ => none }
def TopTogetherWrongFalsely : Prop := topTogetherRow.holds Tryz.pinned (OpenSpec.ofChange topTogetherWrong)

/-- 'estoppeltop.TopAdviceByParts': WHATEVER THE INPUT: true; the input reads as it did. -/
def topAdviceByPartsSpec : ChangeSpec := { name := "topAdviceByParts", fn := fun _ => fun
  | [d1, d2, d3] => { results := [.lit (.bool true)], args := [d1, d2, d3] }
  | _ => none }
def topAdviceByPartsRow : OpenClaim := { program := "ytlpmnmbebkdocaagreatdoor", sum := "77f29809d4a8ce43a01612786b2697997b1ca94624985161c95eaf331e876844", func := "estoppel/estoppeltop.TopAdviceByParts", spec := "topAdviceByParts", unfollowed := true, recurses := true, named := ["internal/strconv.uint64pow10", "math/bits.deBruijn32tab", "math/bits.deBruijn64tab"], apart := false, laid := [("math/bits.deBruijn32tab", laid_math_bits_deBruijn32tab), ("math/bits.deBruijn64tab", laid_math_bits_deBruijn64tab), ("internal/strconv.uint64pow10", laid_internal_strconv_uint64pow10)] }
def TopAdviceByPartsSaid : Prop := topAdviceByPartsRow.holds Tryz.pinned (OpenSpec.ofChange topAdviceByPartsSpec)

/-- ITS FALSE NEIGHBOUR: 'it returns false'. Refute it at one input. -/
def topAdviceByPartsWrong : ChangeSpec := { name := "topAdviceByParts", fn := fun _ => fun
  | [d1, d2, d3] => { results := [.lit (.bool false)], args := [d1, d2, d3] }
  | _ => none }
def TopAdviceByPartsWrongFalsely : Prop := topAdviceByPartsRow.holds Tryz.pinned (OpenSpec.ofChange topAdviceByPartsWrong)

/-- 'estoppellaw21.TrapForced': WHATEVER THE INPUT: true; the input reads as it did. -/
def trapForcedSpec : ChangeSpec := { name := "trapForced", fn := fun _ => fun
  | [d1, d2] => { results := [.lit (.bool true)], args := [d1, d2] }
  | _ => none }
def trapForcedRow : OpenClaim := { program := "ytlpmnmbebkdocaagreatdoor", sum := "77f29809d4a8ce43a01612786b2697997b1ca94624985161c95eaf331e876844", func := "estoppel/estoppellaw21.TrapForced", spec := "trapForced", unfollowed := true, recurses := true, named := ["internal/strconv.uint64pow10", "math/bits.deBruijn32tab", "math/bits.deBruijn64tab"], apart := false, laid := [("math/bits.deBruijn32tab", laid_math_bits_deBruijn32tab), ("math/bits.deBruijn64tab", laid_math_bits_deBruijn64tab), ("internal/strconv.uint64pow10", laid_internal_strconv_uint64pow10)] }
def TrapForcedSaid : Prop := trapForcedRow.holds Tryz.pinned (OpenSpec.ofChange trapForcedSpec)

/-- ITS FALSE NEIGHBOUR: 'it returns false'. Refute it at one input. -/
def trapForcedWrong : ChangeSpec := { name := "trapForced", fn := fun _ => fun
  | [d1, d2] => { results := [.lit (.bool false)], args := [d1, d2] }
  | _ => none }
def TrapForcedWrongFalsely : Prop := trapForcedRow.holds Tryz.pinned (OpenSpec.ofChange trapForcedWrong)

/-- 'estoppellaw21.TrapShows': WHATEVER THE INPUT: true; the input reads as it did. -/
def trapShowsSpec : ChangeSpec := { name := "trapShows", fn := fun _ => fun
  | [d] => { results := [.lit (.bool true)], args := [d] }
  | _ => none }
def trapShowsRow : OpenClaim := { program := "ytlpmnmbebkdocaagreatdoor", sum := "77f29809d4a8ce43a01612786b2697997b1ca94624985161c95eaf331e876844", func := "estoppel/estoppellaw21.TrapShows", spec := "trapShows", unfollowed := true, recurses := true, named := ["internal/strconv.uint64pow10", "math/bits.deBruijn32tab", "math/bits.deBruijn64tab"], apart := false, laid := [("math/bits.deBruijn32tab", laid_math_bits_deBruijn32tab), ("math/bits.deBruijn64tab", laid_math_bits_deBruijn64tab), ("internal/strconv.uint64pow10", laid_internal_strconv_uint64pow10)] }
def TrapShowsSaid : Prop := trapShowsRow.holds Tryz.pinned (OpenSpec.ofChange trapShowsSpec)

/-- ITS FALSE NEIGHBOUR: 'it returns false'. Refute it at one input. -/
def trapShowsWrong : ChangeSpec := { name := "trapShows", fn := fun _ => fun
  | [d] => { results := [.lit (.bool false)], args := [d] }
  | _ => none }
def TrapShowsWrongFalsely : Prop := trapShowsRow.holds Tryz.pinned (OpenSpec.ofChange trapShowsWrong)

/-- 'estoppellaw21.TrapDead': WHATEVER THE INPUT: true; the input reads as it did. -/
def trapDeadSpec : ChangeSpec := { name := "trapDead", fn := fun _ => fun
  | [d1, d2] => { results := [.lit (.bool true)], args := [d1, d2] }
  | _ => none }
def trapDeadRow : OpenClaim := { program := "ytlpmnmbebkdocaagreatdoor", sum := "77f29809d4a8ce43a01612786b2697997b1ca94624985161c95eaf331e876844", func := "estoppel/estoppellaw21.TrapDead", spec := "trapDead", unfollowed := true, recurses := true, named := ["internal/strconv.uint64pow10", "math/bits.deBruijn32tab", "math/bits.deBruijn64tab"], apart := false, laid := [("math/bits.deBruijn32tab", laid_math_bits_deBruijn32tab), ("math/bits.deBruijn64tab", laid_math_bits_deBruijn64tab), ("internal/strconv.uint64pow10", laid_internal_strconv_uint64pow10)] }
def TrapDeadSaid : Prop := trapDeadRow.holds Tryz.pinned (OpenSpec.ofChange trapDeadSpec)

/-- ITS FALSE NEIGHBOUR: 'it returns false'. Refute it at one input. -/
def trapDeadWrong : ChangeSpec := { name := "trapDead", fn := fun _ => fun
  | [d1, d2] => { results := [.lit (.bool false)], args := [d1, d2] }
  | _ => none }
def TrapDeadWrongFalsely : Prop := trapDeadRow.holds Tryz.pinned (OpenSpec.ofChange trapDeadWrong)

/-- 'estoppellaw21.TrapClash': WHATEVER THE INPUT: true; the input reads as it did. -/
def trapClashSpec : ChangeSpec := { name := "trapClash", fn := fun _ => fun
  | [d1, d2] => { results := [.lit (.bool true)], args := [d1, d2] }
  | _ => none }
def trapClashRow : OpenClaim := { program := "ytlpmnmbebkdocaagreatdoor", sum := "77f29809d4a8ce43a01612786b2697997b1ca94624985161c95eaf331e876844", func := "estoppel/estoppellaw21.TrapClash", spec := "trapClash", unfollowed := true, recurses := true, named := ["internal/strconv.uint64pow10", "math/bits.deBruijn32tab", "math/bits.deBruijn64tab"], apart := false, laid := [("math/bits.deBruijn32tab", laid_math_bits_deBruijn32tab), ("math/bits.deBruijn64tab", laid_math_bits_deBruijn64tab), ("internal/strconv.uint64pow10", laid_internal_strconv_uint64pow10)] }
def TrapClashSaid : Prop := trapClashRow.holds Tryz.pinned (OpenSpec.ofChange trapClashSpec)

/-- ITS FALSE NEIGHBOUR: 'it returns false'. Refute it at one input. -/
def trapClashWrong : ChangeSpec := { name := "trapClash", fn := fun _ => fun
  | [d1, d2] => { results := [.lit (.bool false)], args := [d1, d2] }
  | _ => none }
def TrapClashWrongFalsely : Prop := trapClashRow.holds Tryz.pinned (OpenSpec.ofChange trapClashWrong)

/-- 'estoppellaw21.TrapShortest': WHATEVER THE INPUT: true; the input reads as it did. -/
def trapShortestSpec : ChangeSpec := { name := "trapShortest", fn := fun _ => fun
  | [d1, d2] => { results := [.lit (.bool true)], args := [d1, d2] }
  | _ => none }
def trapShortestRow : OpenClaim := { program := "ytlpmnmbebkdocaagreatdoor", sum := "77f29809d4a8ce43a01612786b2697997b1ca94624985161c95eaf331e876844", func := "estoppel/estoppellaw21.TrapShortest", spec := "trapShortest", unfollowed := true, recurses := true, named := ["internal/strconv.uint64pow10", "math/bits.deBruijn32tab", "math/bits.deBruijn64tab"], apart := false, laid := [("math/bits.deBruijn32tab", laid_math_bits_deBruijn32tab), ("math/bits.deBruijn64tab", laid_math_bits_deBruijn64tab), ("internal/strconv.uint64pow10", laid_internal_strconv_uint64pow10)] }
def TrapShortestSaid : Prop := trapShortestRow.holds Tryz.pinned (OpenSpec.ofChange trapShortestSpec)

/-- ITS FALSE NEIGHBOUR: 'it returns false'. Refute it at one input. -/
def trapShortestWrong : ChangeSpec := { name := "trapShortest", fn := fun _ => fun
  | [d1, d2] => { results := [.lit (.bool false)], args := [d1, d2] }
  | _ => none }
def TrapShortestWrongFalsely : Prop := trapShortestRow.holds Tryz.pinned (OpenSpec.ofChange trapShortestWrong)

/-- 'estoppellaw21.TrapAdvice': WHATEVER THE INPUT: true; the input reads as it did. -/
def trapAdviceSpec : ChangeSpec := { name := "trapAdvice", fn := fun _ => fun
  | [d1, d2, d3] => { results := [.lit (.bool true)], args := [d1, d2, d3] }
  | _ => none }
def trapAdviceRow : OpenClaim := { program := "ytlpmnmbebkdocaagreatdoor", sum := "77f29809d4a8ce43a01612786b2697997b1ca94624985161c95eaf331e876844", func := "estoppel/estoppellaw21.TrapAdvice", spec := "trapAdvice", unfollowed := true, recurses := true, named := ["internal/strconv.uint64pow10", "math/bits.deBruijn32tab", "math/bits.deBruijn64tab"], apart := false, laid := [("math/bits.deBruijn32tab", laid_math_bits_deBruijn32tab), ("math/bits.deBruijn64tab", laid_math_bits_deBruijn64tab), ("internal/strconv.uint64pow10", laid_internal_strconv_uint64pow10)] }
def TrapAdviceSaid : Prop := trapAdviceRow.holds Tryz.pinned (OpenSpec.ofChange trapAdviceSpec)

/-- ITS FALSE NEIGHBOUR: 'it returns false'. Refute it at one input. -/
def trapAdviceWrong : ChangeSpec := { name := "trapAdvice", fn := fun _ => fun
  | [d1, d2, d3] => { results := [.lit (.bool false)], args := [d1, d2, d3] }
  | _ => none }
def TrapAdviceWrongFalsely : Prop := trapAdviceRow.holds Tryz.pinned (OpenSpec.ofChange trapAdviceWrong)

/- THE SECOND FORM. 'bulk': how many values and letters a reading holds, each counted each time it is reached (what is shared counts as often as it is met; a slice's spare places count too). A statement '..UptoSaid' is the law's where the arguments, and the package variables that the reading takes, are together of bulk at most 1048576: NARROWER than '..Said'. Prove '..Said' where nothing that the law and all that it calls make is longer than what came in: it says more and counts as full. Else prove '..UptoSaid'. A law counts once. -/
mutual
def uptoBulk {H : Type} : DataW H → Nat
  | .lit (.string bytes) => bytes.length + 1
  | .lit _ => 1
  | .nil => 1
  | .ptr d => uptoBulk d + 1
  | .slice elems spare => uptoBulkAll elems + uptoBulkAll spare + 1
  | .agg parts => uptoBulkAll parts + 1
  | .iface _ d => uptoBulk d + 1
  | .map entries => uptoBulkEntries entries + 1
  | .held _ => 1
def uptoBulkAll {H : Type} : List (DataW H) → Nat
  | [] => 0
  | d :: r => uptoBulk d + uptoBulkAll r
def uptoBulkEntries {H : Type} : List (Lit × DataW H) → Nat
  | [] => 0
  | x :: r => uptoBulkEntry x + uptoBulkEntries r
def uptoBulkEntry {H : Type} : Lit × DataW H → Nat
  | (.string bytes, d) => bytes.length + uptoBulk d + 1
  | (_, d) => uptoBulk d + 1
 end
def uptoSmall : (H : Type) → List (DataW H) → Bool := fun _ ds => decide (uptoBulkAll ds ≤ 1048576)
def OpenSpec.upto (s : _root_.Go.ChangeSpec) : _root_.Go.OpenSpec := { _root_.Go.OpenSpec.ofChange s with cond := some uptoSmall }

/-- 'estoppeltop.TopTogether', WHERE WHAT IT READS IS OF BULK AT MOST 1048576: true; the input reads as it did. -/
def topTogetherUptoRow : OpenClaim := { program := "ytlpmnmbebkdocaagreatdoor", sum := "77f29809d4a8ce43a01612786b2697997b1ca94624985161c95eaf331e876844", func := "estoppel/estoppeltop.TopTogether", spec := "topTogether", unfollowed := true, recurses := true, named := ["internal/strconv.uint64pow10", "math/bits.deBruijn32tab", "math/bits.deBruijn64tab"], apart := false, laid := [("math/bits.deBruijn32tab", laid_math_bits_deBruijn32tab), ("math/bits.deBruijn64tab", laid_math_bits_deBruijn64tab), ("internal/strconv.uint64pow10", laid_internal_strconv_uint64pow10)], narrowed := true }
def TopTogetherUptoSaid : Prop := topTogetherUptoRow.holds Tryz.pinned (OpenSpec.upto topTogetherSpec)

/-- 'estoppeltop.TopAdviceByParts', WHERE WHAT IT READS IS OF BULK AT MOST 1048576: true; the input reads as it did. -/
def topAdviceByPartsUptoRow : OpenClaim := { program := "ytlpmnmbebkdocaagreatdoor", sum := "77f29809d4a8ce43a01612786b2697997b1ca94624985161c95eaf331e876844", func := "estoppel/estoppeltop.TopAdviceByParts", spec := "topAdviceByParts", unfollowed := true, recurses := true, named := ["internal/strconv.uint64pow10", "math/bits.deBruijn32tab", "math/bits.deBruijn64tab"], apart := false, laid := [("math/bits.deBruijn32tab", laid_math_bits_deBruijn32tab), ("math/bits.deBruijn64tab", laid_math_bits_deBruijn64tab), ("internal/strconv.uint64pow10", laid_internal_strconv_uint64pow10)], narrowed := true }
def TopAdviceByPartsUptoSaid : Prop := topAdviceByPartsUptoRow.holds Tryz.pinned (OpenSpec.upto topAdviceByPartsSpec)

/-- 'estoppellaw21.TrapForced', WHERE WHAT IT READS IS OF BULK AT MOST 1048576: true; the input reads as it did. -/
def trapForcedUptoRow : OpenClaim := { program := "ytlpmnmbebkdocaagreatdoor", sum := "77f29809d4a8ce43a01612786b2697997b1ca94624985161c95eaf331e876844", func := "estoppel/estoppellaw21.TrapForced", spec := "trapForced", unfollowed := true, recurses := true, named := ["internal/strconv.uint64pow10", "math/bits.deBruijn32tab", "math/bits.deBruijn64tab"], apart := false, laid := [("math/bits.deBruijn32tab", laid_math_bits_deBruijn32tab), ("math/bits.deBruijn64tab", laid_math_bits_deBruijn64tab), ("internal/strconv.uint64pow10", laid_internal_strconv_uint64pow10)], narrowed := true }
def TrapForcedUptoSaid : Prop := trapForcedUptoRow.holds Tryz.pinned (OpenSpec.upto trapForcedSpec)

/-- 'estoppellaw21.TrapShows', WHERE WHAT IT READS IS OF BULK AT MOST 1048576: true; the input reads as it did. -/
def trapShowsUptoRow : OpenClaim := { program := "ytlpmnmbebkdocaagreatdoor", sum := "77f29809d4a8ce43a01612786b2697997b1ca94624985161c95eaf331e876844", func := "estoppel/estoppellaw21.TrapShows", spec := "trapShows", unfollowed := true, recurses := true, named := ["internal/strconv.uint64pow10", "math/bits.deBruijn32tab", "math/bits.deBruijn64tab"], apart := false, laid := [("math/bits.deBruijn32tab", laid_math_bits_deBruijn32tab), ("math/bits.deBruijn64tab", laid_math_bits_deBruijn64tab), ("internal/strconv.uint64pow10", laid_internal_strconv_uint64pow10)], narrowed := true }
def TrapShowsUptoSaid : Prop := trapShowsUptoRow.holds Tryz.pinned (OpenSpec.upto trapShowsSpec)

/-- 'estoppellaw21.TrapDead', WHERE WHAT IT READS IS OF BULK AT MOST 1048576: true; the input reads as it did. -/
def trapDeadUptoRow : OpenClaim := { program := "ytlpmnmbebkdocaagreatdoor", sum := "77f29809d4a8ce43a01612786b2697997b1ca94624985161c95eaf331e876844", func := "estoppel/estoppellaw21.TrapDead", spec := "trapDead", unfollowed := true, recurses := true, named := ["internal/strconv.uint64pow10", "math/bits.deBruijn32tab", "math/bits.deBruijn64tab"], apart := false, laid := [("math/bits.deBruijn32tab", laid_math_bits_deBruijn32tab), ("math/bits.deBruijn64tab", laid_math_bits_deBruijn64tab), ("internal/strconv.uint64pow10", laid_internal_strconv_uint64pow10)], narrowed := true }
def TrapDeadUptoSaid : Prop := trapDeadUptoRow.holds Tryz.pinned (OpenSpec.upto trapDeadSpec)

/-- 'estoppellaw21.TrapClash', WHERE WHAT IT READS IS OF BULK AT MOST 1048576: true; the input reads as it did. -/
def trapClashUptoRow : OpenClaim := { program := "ytlpmnmbebkdocaagreatdoor", sum := "77f29809d4a8ce43a01612786b2697997b1ca94624985161c95eaf331e876844", func := "estoppel/estoppellaw21.TrapClash", spec := "trapClash", unfollowed := true, recurses := true, named := ["internal/strconv.uint64pow10", "math/bits.deBruijn32tab", "math/bits.deBruijn64tab"], apart := false, laid := [("math/bits.deBruijn32tab", laid_math_bits_deBruijn32tab), ("math/bits.deBruijn64tab", laid_math_bits_deBruijn64tab), ("internal/strconv.uint64pow10", laid_internal_strconv_uint64pow10)], narrowed := true }
def TrapClashUptoSaid : Prop := trapClashUptoRow.holds Tryz.pinned (OpenSpec.upto trapClashSpec)

/-- 'estoppellaw21.TrapShortest', WHERE WHAT IT READS IS OF BULK AT MOST 1048576: true; the input reads as it did. -/
def trapShortestUptoRow : OpenClaim := { program := "ytlpmnmbebkdocaagreatdoor", sum := "77f29809d4a8ce43a01612786b2697997b1ca94624985161c95eaf331e876844", func := "estoppel/estoppellaw21.TrapShortest", spec := "trapShortest", unfollowed := true, recurses := true, named := ["internal/strconv.uint64pow10", "math/bits.deBruijn32tab", "math/bits.deBruijn64tab"], apart := false, laid := [("math/bits.deBruijn32tab", laid_math_bits_deBruijn32tab), ("math/bits.deBruijn64tab", laid_math_bits_deBruijn64tab), ("internal/strconv.uint64pow10", laid_internal_strconv_uint64pow10)], narrowed := true }
def TrapShortestUptoSaid : Prop := trapShortestUptoRow.holds Tryz.pinned (OpenSpec.upto trapShortestSpec)

/-- 'estoppellaw21.TrapAdvice', WHERE WHAT IT READS IS OF BULK AT MOST 1048576: true; the input reads as it did. -/
def trapAdviceUptoRow : OpenClaim := { program := "ytlpmnmbebkdocaagreatdoor", sum := "77f29809d4a8ce43a01612786b2697997b1ca94624985161c95eaf331e876844", func := "estoppel/estoppellaw21.TrapAdvice", spec := "trapAdvice", unfollowed := true, recurses := true, named := ["internal/strconv.uint64pow10", "math/bits.deBruijn32tab", "math/bits.deBruijn64tab"], apart := false, laid := [("math/bits.deBruijn32tab", laid_math_bits_deBruijn32tab), ("math/bits.deBruijn64tab", laid_math_bits_deBruijn64tab), ("internal/strconv.uint64pow10", laid_internal_strconv_uint64pow10)], narrowed := true }
def TrapAdviceUptoSaid : Prop := trapAdviceUptoRow.holds Tryz.pinned (OpenSpec.upto trapAdviceSpec)

end Rows
end Go.Proofs.YtlpmnmbebkdocaaGreatDoor
