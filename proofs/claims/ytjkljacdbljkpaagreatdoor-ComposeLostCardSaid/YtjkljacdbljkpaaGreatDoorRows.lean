/-
  NARROWER THAN 'FOR EVERY INPUT', by the rows' own cells (each row's printed sentence says how): TopTogether: laid · TopAdviceByParts: laid · ComposeSafe: laid · ComposeAdvises: laid · ComposeLost: laid · ComposeSteps: laid.
  DERIVED. THE GIVEN ROWS OF THIS SEAT. 6 by the template 'for every input the law returns true; each argument reads behind the call as it read before'; 0 by the template 'total and deterministic' (their statements: YtjkljacdbljkpaaGreatDoorTotals.lean).
  GIVEN WITH THE SEED: the statements are not yours to turn. If you find one false, say at which input.
  Laid BY PROGRAM, IN A SANDBOX (cutbox-rows.mjs): the forced cells as the released guide's own fill.sh prints them over the translation 619620cebfdd7a66… (all of the seat's roots in one cut). By AI agents, Wed Nov 11 2026. No macro, syntax, notation, axiom, sorry.
-/
import Derived.Test.YtjkljacdbljkpaaGreatDoorChecked
import GoSem.Claim
import GoSem.ClaimJoined
import GoSem.ClaimMapViews
import Derived.JoinedTies
import Derived.KernelRfl
namespace Go.Proofs.YtjkljacdbljkpaaGreatDoor
/- THE CELL 'sum', in the pinned program and in every row, IS THE sha256 OF THE DUMP (.gsa) THAT YtjkljacdbljkpaaGreatDoorProg.lean LOADS. Nothing in Lean hashes anything: it is a label: what it is worth is what the hold of that sum in a sandbox is worth. -/
noncomputable def Tryz.pinned : Pinned := { name := "ytjkljacdbljkpaagreatdoor", sum := "619620cebfdd7a664c2a55ce1c8ca749512916799f4de7a49c3cbce07407a2e5", checked := Tryz.checked }
namespace Rows
def none {H : Type} : Left H := { results := [], args := [] }

/- WHAT THE LISTED PACKAGE-LEVEL VARIABLES READ AS WHEN THE CALL BEGINS. Each datum BY PROGRAM (the guide's laid-datum.mjs) off the statement by which the dump's own 'gosem.cut.vars' lays the variable. In a bare row this is a premise. The card (YtjkljacdbljkpaaGreatDoorCards.lean) ties it to the program's text. -/
def laid_math_bits_deBruijn32tab {H : Type} : DataW H := .agg [.lit (.int .u8 0), .lit (.int .u8 1), .lit (.int .u8 28), .lit (.int .u8 2), .lit (.int .u8 29), .lit (.int .u8 14), .lit (.int .u8 24), .lit (.int .u8 3), .lit (.int .u8 30), .lit (.int .u8 22), .lit (.int .u8 20), .lit (.int .u8 15), .lit (.int .u8 25), .lit (.int .u8 17), .lit (.int .u8 4), .lit (.int .u8 8), .lit (.int .u8 31), .lit (.int .u8 27), .lit (.int .u8 13), .lit (.int .u8 23), .lit (.int .u8 21), .lit (.int .u8 19), .lit (.int .u8 16), .lit (.int .u8 7), .lit (.int .u8 26), .lit (.int .u8 12), .lit (.int .u8 18), .lit (.int .u8 6), .lit (.int .u8 11), .lit (.int .u8 5), .lit (.int .u8 10), .lit (.int .u8 9)]
def laid_math_bits_deBruijn64tab {H : Type} : DataW H := .agg [.lit (.int .u8 0), .lit (.int .u8 1), .lit (.int .u8 56), .lit (.int .u8 2), .lit (.int .u8 57), .lit (.int .u8 49), .lit (.int .u8 28), .lit (.int .u8 3), .lit (.int .u8 61), .lit (.int .u8 58), .lit (.int .u8 42), .lit (.int .u8 50), .lit (.int .u8 38), .lit (.int .u8 29), .lit (.int .u8 17), .lit (.int .u8 4), .lit (.int .u8 62), .lit (.int .u8 47), .lit (.int .u8 59), .lit (.int .u8 36), .lit (.int .u8 45), .lit (.int .u8 43), .lit (.int .u8 51), .lit (.int .u8 22), .lit (.int .u8 53), .lit (.int .u8 39), .lit (.int .u8 33), .lit (.int .u8 30), .lit (.int .u8 24), .lit (.int .u8 18), .lit (.int .u8 12), .lit (.int .u8 5), .lit (.int .u8 63), .lit (.int .u8 55), .lit (.int .u8 48), .lit (.int .u8 27), .lit (.int .u8 60), .lit (.int .u8 41), .lit (.int .u8 37), .lit (.int .u8 16), .lit (.int .u8 46), .lit (.int .u8 35), .lit (.int .u8 44), .lit (.int .u8 21), .lit (.int .u8 52), .lit (.int .u8 32), .lit (.int .u8 23), .lit (.int .u8 11), .lit (.int .u8 54), .lit (.int .u8 26), .lit (.int .u8 40), .lit (.int .u8 15), .lit (.int .u8 34), .lit (.int .u8 20), .lit (.int .u8 31), .lit (.int .u8 10), .lit (.int .u8 25), .lit (.int .u8 14), .lit (.int .u8 19), .lit (.int .u8 9), .lit (.int .u8 13), .lit (.int .u8 8), .lit (.int .u8 7), .lit (.int .u8 6)]
def laid_internal_strconv_uint64pow10 {H : Type} : DataW H := .agg [.lit (.int .u64 1), .lit (.int .u64 10), .lit (.int .u64 100), .lit (.int .u64 1000), .lit (.int .u64 10000), .lit (.int .u64 100000), .lit (.int .u64 1000000), .lit (.int .u64 10000000), .lit (.int .u64 100000000), .lit (.int .u64 1000000000), .lit (.int .u64 10000000000), .lit (.int .u64 100000000000), .lit (.int .u64 1000000000000), .lit (.int .u64 10000000000000), .lit (.int .u64 100000000000000), .lit (.int .u64 1000000000000000), .lit (.int .u64 10000000000000000), .lit (.int .u64 100000000000000000), .lit (.int .u64 1000000000000000000), .lit (.int .u64 10000000000000000000)]

/-- 'estoppeltop.TopTogether': WHATEVER THE INPUT: true; the input reads as it did. -/
def topTogetherSpec : ChangeSpec := { name := "topTogether", fn := fun _ => fun
  | [d1, d2, d3] => { results := [.lit (.bool true)], args := [d1, d2, d3] }
  | _ => none }
def topTogetherRow : OpenClaim := { program := "ytjkljacdbljkpaagreatdoor", sum := "619620cebfdd7a664c2a55ce1c8ca749512916799f4de7a49c3cbce07407a2e5", func := "estoppel/estoppeltop.TopTogether", spec := "topTogether", unfollowed := true, recurses := true, named := ["internal/strconv.uint64pow10", "math/bits.deBruijn32tab", "math/bits.deBruijn64tab"], apart := false, laid := [("math/bits.deBruijn32tab", laid_math_bits_deBruijn32tab), ("math/bits.deBruijn64tab", laid_math_bits_deBruijn64tab), ("internal/strconv.uint64pow10", laid_internal_strconv_uint64pow10)] }
def TopTogetherSaid : Prop := topTogetherRow.holds Tryz.pinned (OpenSpec.ofChange topTogetherSpec)

/-- ITS FALSE NEIGHBOUR: 'it returns false'. Refute it at one input. -/
def topTogetherWrong : ChangeSpec := { name := "topTogether", fn := fun _ => fun
  | [d1, d2, d3] => { results := [.lit (.bool false)], args := [d1, d2, d3] }
  | _ => none }
def TopTogetherWrongFalsely : Prop := topTogetherRow.holds Tryz.pinned (OpenSpec.ofChange topTogetherWrong)

/-- 'estoppeltop.TopAdviceByParts': WHATEVER THE INPUT: true; the input reads as it did. -/
def topAdviceByPartsSpec : ChangeSpec := { name := "topAdviceByParts", fn := fun _ => fun
  | [d1, d2, d3] => { results := [.lit (.bool true)], args := [d1, d2, d3] }
  | _ => none }
def topAdviceByPartsRow : OpenClaim := { program := "ytjkljacdbljkpaagreatdoor", sum := "619620cebfdd7a664c2a55ce1c8ca749512916799f4de7a49c3cbce07407a2e5", func := "estoppel/estoppeltop.TopAdviceByParts", spec := "topAdviceByParts", unfollowed := true, recurses := true, named := ["internal/strconv.uint64pow10", "math/bits.deBruijn32tab", "math/bits.deBruijn64tab"], apart := false, laid := [("math/bits.deBruijn32tab", laid_math_bits_deBruijn32tab), ("math/bits.deBruijn64tab", laid_math_bits_deBruijn64tab), ("internal/strconv.uint64pow10", laid_internal_strconv_uint64pow10)] }
def TopAdviceByPartsSaid : Prop := topAdviceByPartsRow.holds Tryz.pinned (OpenSpec.ofChange topAdviceByPartsSpec)

/-- ITS FALSE NEIGHBOUR: 'it returns false'. Refute it at one input. -/
def topAdviceByPartsWrong : ChangeSpec := { name := "topAdviceByParts", fn := fun _ => fun
  | [d1, d2, d3] => { results := [.lit (.bool false)], args := [d1, d2, d3] }
  | _ => none }
def TopAdviceByPartsWrongFalsely : Prop := topAdviceByPartsRow.holds Tryz.pinned (OpenSpec.ofChange topAdviceByPartsWrong)

/-- 'estoppellaw23.ComposeSafe': WHATEVER THE INPUT: true; the input reads as it did. -/
def composeSafeSpec : ChangeSpec := { name := "composeSafe", fn := fun _ => fun
  | [d1, d2, d3] => { results := [.lit (.bool true)], args := [d1, d2, d3] }
  | _ => none }
def composeSafeRow : OpenClaim := { program := "ytjkljacdbljkpaagreatdoor", sum := "619620cebfdd7a664c2a55ce1c8ca749512916799f4de7a49c3cbce07407a2e5", func := "estoppel/estoppellaw23.ComposeSafe", spec := "composeSafe", unfollowed := true, recurses := true, named := ["internal/strconv.uint64pow10", "math/bits.deBruijn32tab", "math/bits.deBruijn64tab"], apart := false, laid := [("math/bits.deBruijn32tab", laid_math_bits_deBruijn32tab), ("math/bits.deBruijn64tab", laid_math_bits_deBruijn64tab), ("internal/strconv.uint64pow10", laid_internal_strconv_uint64pow10)] }
def ComposeSafeSaid : Prop := composeSafeRow.holds Tryz.pinned (OpenSpec.ofChange composeSafeSpec)

/-- ITS FALSE NEIGHBOUR: 'it returns false'. Refute it at one input. -/
def composeSafeWrong : ChangeSpec := { name := "composeSafe", fn := fun _ => fun
  | [d1, d2, d3] => { results := [.lit (.bool false)], args := [d1, d2, d3] }
  | _ => none }
def ComposeSafeWrongFalsely : Prop := composeSafeRow.holds Tryz.pinned (OpenSpec.ofChange composeSafeWrong)

/-- 'estoppellaw23.ComposeAdvises': WHATEVER THE INPUT: true; the input reads as it did. -/
def composeAdvisesSpec : ChangeSpec := { name := "composeAdvises", fn := fun _ => fun
  | [d1, d2, d3] => { results := [.lit (.bool true)], args := [d1, d2, d3] }
  | _ => none }
def composeAdvisesRow : OpenClaim := { program := "ytjkljacdbljkpaagreatdoor", sum := "619620cebfdd7a664c2a55ce1c8ca749512916799f4de7a49c3cbce07407a2e5", func := "estoppel/estoppellaw23.ComposeAdvises", spec := "composeAdvises", unfollowed := true, recurses := true, named := ["internal/strconv.uint64pow10", "math/bits.deBruijn32tab", "math/bits.deBruijn64tab"], apart := false, laid := [("math/bits.deBruijn32tab", laid_math_bits_deBruijn32tab), ("math/bits.deBruijn64tab", laid_math_bits_deBruijn64tab), ("internal/strconv.uint64pow10", laid_internal_strconv_uint64pow10)] }
def ComposeAdvisesSaid : Prop := composeAdvisesRow.holds Tryz.pinned (OpenSpec.ofChange composeAdvisesSpec)

/-- ITS FALSE NEIGHBOUR: 'it returns false'. Refute it at one input. -/
def composeAdvisesWrong : ChangeSpec := { name := "composeAdvises", fn := fun _ => fun
  | [d1, d2, d3] => { results := [.lit (.bool false)], args := [d1, d2, d3] }
  | _ => none }
def ComposeAdvisesWrongFalsely : Prop := composeAdvisesRow.holds Tryz.pinned (OpenSpec.ofChange composeAdvisesWrong)

/-- 'estoppellaw23.ComposeLost': WHATEVER THE INPUT: true; the input reads as it did. -/
def composeLostSpec : ChangeSpec := { name := "composeLost", fn := fun _ => fun
  | [d1, d2, d3] => { results := [.lit (.bool true)], args := [d1, d2, d3] }
  | _ => none }
def composeLostRow : OpenClaim := { program := "ytjkljacdbljkpaagreatdoor", sum := "619620cebfdd7a664c2a55ce1c8ca749512916799f4de7a49c3cbce07407a2e5", func := "estoppel/estoppellaw23.ComposeLost", spec := "composeLost", unfollowed := true, recurses := true, named := ["internal/strconv.uint64pow10", "math/bits.deBruijn32tab", "math/bits.deBruijn64tab"], apart := false, laid := [("math/bits.deBruijn32tab", laid_math_bits_deBruijn32tab), ("math/bits.deBruijn64tab", laid_math_bits_deBruijn64tab), ("internal/strconv.uint64pow10", laid_internal_strconv_uint64pow10)] }
def ComposeLostSaid : Prop := composeLostRow.holds Tryz.pinned (OpenSpec.ofChange composeLostSpec)

/-- ITS FALSE NEIGHBOUR: 'it returns false'. Refute it at one input. -/
def composeLostWrong : ChangeSpec := { name := "composeLost", fn := fun _ => fun
  | [d1, d2, d3] => { results := [.lit (.bool false)], args := [d1, d2, d3] }
  | _ => none }
def ComposeLostWrongFalsely : Prop := composeLostRow.holds Tryz.pinned (OpenSpec.ofChange composeLostWrong)

/-- 'estoppellaw23.ComposeSteps': WHATEVER THE INPUT: true; the input reads as it did. -/
def composeStepsSpec : ChangeSpec := { name := "composeSteps", fn := fun _ => fun
  | [d1, d2, d3, d4] => { results := [.lit (.bool true)], args := [d1, d2, d3, d4] }
  | _ => none }
def composeStepsRow : OpenClaim := { program := "ytjkljacdbljkpaagreatdoor", sum := "619620cebfdd7a664c2a55ce1c8ca749512916799f4de7a49c3cbce07407a2e5", func := "estoppel/estoppellaw23.ComposeSteps", spec := "composeSteps", unfollowed := true, recurses := true, named := ["internal/strconv.uint64pow10", "math/bits.deBruijn32tab", "math/bits.deBruijn64tab"], apart := false, laid := [("math/bits.deBruijn32tab", laid_math_bits_deBruijn32tab), ("math/bits.deBruijn64tab", laid_math_bits_deBruijn64tab), ("internal/strconv.uint64pow10", laid_internal_strconv_uint64pow10)] }
def ComposeStepsSaid : Prop := composeStepsRow.holds Tryz.pinned (OpenSpec.ofChange composeStepsSpec)

/-- ITS FALSE NEIGHBOUR: 'it returns false'. Refute it at one input. -/
def composeStepsWrong : ChangeSpec := { name := "composeSteps", fn := fun _ => fun
  | [d1, d2, d3, d4] => { results := [.lit (.bool false)], args := [d1, d2, d3, d4] }
  | _ => none }
def ComposeStepsWrongFalsely : Prop := composeStepsRow.holds Tryz.pinned (OpenSpec.ofChange composeStepsWrong)

/- THE SECOND FORM. 'bulk': how many values and letters a reading holds, each counted each time it is reached (what is shared counts as often as it is met; a slice's spare places count too). A statement '..UptoSaid' is the law's where the arguments, and the package variables that the reading takes, are together of bulk at most 1048576: NARROWER than '..Said'. Prove '..Said' where nothing that the law and all that it calls make is longer than what came in: it says more and counts as full. Else prove '..UptoSaid'. A law counts once. -/
mutual
def uptoBulk {H : Type} : DataW H → Nat
  | .lit (.string bytes) => bytes.length + 1
  | .lit _ => 1
  | .nil => 1
  | .ptr d => uptoBulk d + 1
  | .slice elems spare => uptoBulkAll elems + uptoBulkAll spare + 1
  | .agg parts => uptoBulkAll parts + 1
  | .iface _ d => uptoBulk d + 1
  | .map entries => uptoBulkEntries entries + 1
  | .held _ => 1
def uptoBulkAll {H : Type} : List (DataW H) → Nat
  | [] => 0
  | d :: r => uptoBulk d + uptoBulkAll r
def uptoBulkEntries {H : Type} : List (Lit × DataW H) → Nat
  | [] => 0
  | x :: r => uptoBulkEntry x + uptoBulkEntries r
def uptoBulkEntry {H : Type} : Lit × DataW H → Nat
  | (.string bytes, d) => bytes.length + uptoBulk d + 1
  | (_, d) => uptoBulk d + 1
 end
def uptoSmall : (H : Type) → List (DataW H) → Bool := fun _ ds => decide (uptoBulkAll ds ≤ 1048576)
def OpenSpec.upto (s : _root_.Go.ChangeSpec) : _root_.Go.OpenSpec := { _root_.Go.OpenSpec.ofChange s with cond := some uptoSmall }

/-- 'estoppeltop.TopTogether', WHERE WHAT IT READS IS OF BULK AT MOST 1048576: true; the input reads as it did. -/
def topTogetherUptoRow : OpenClaim := { program := "ytjkljacdbljkpaagreatdoor", sum := "619620cebfdd7a664c2a55ce1c8ca749512916799f4de7a49c3cbce07407a2e5", func := "estoppel/estoppeltop.TopTogether", spec := "topTogether", unfollowed := true, recurses := true, named := ["internal/strconv.uint64pow10", "math/bits.deBruijn32tab", "math/bits.deBruijn64tab"], apart := false, laid := [("math/bits.deBruijn32tab", laid_math_bits_deBruijn32tab), ("math/bits.deBruijn64tab", laid_math_bits_deBruijn64tab), ("internal/strconv.uint64pow10", laid_internal_strconv_uint64pow10)], narrowed := true }
def TopTogetherUptoSaid : Prop := topTogetherUptoRow.holds Tryz.pinned (OpenSpec.upto topTogetherSpec)

/-- 'estoppeltop.TopAdviceByParts', WHERE WHAT IT READS IS OF BULK AT MOST 1048576: true; the input reads as it did. -/
def topAdviceByPartsUptoRow : OpenClaim := { program := "ytjkljacdbljkpaagreatdoor", sum := "619620cebfdd7a664c2a55ce1c8ca749512916799f4de7a49c3cbce07407a2e5", func := "estoppel/estoppeltop.TopAdviceByParts", spec := "topAdviceByParts", unfollowed := true, recurses := true, named := ["internal/strconv.uint64pow10", "math/bits.deBruijn32tab", "math/bits.deBruijn64tab"], apart := false, laid := [("math/bits.deBruijn32tab", laid_math_bits_deBruijn32tab), ("math/bits.deBruijn64tab", laid_math_bits_deBruijn64tab), ("internal/strconv.uint64pow10", laid_internal_strconv_uint64pow10)], narrowed := true }
def TopAdviceByPartsUptoSaid : Prop := topAdviceByPartsUptoRow.holds Tryz.pinned (OpenSpec.upto topAdviceByPartsSpec)

/-- 'estoppellaw23.ComposeSafe', WHERE WHAT IT READS IS OF BULK AT MOST 1048576: true; the input reads as it did. -/
def composeSafeUptoRow : OpenClaim := { program := "ytjkljacdbljkpaagreatdoor", sum := "619620cebfdd7a664c2a55ce1c8ca749512916799f4de7a49c3cbce07407a2e5", func := "estoppel/estoppellaw23.ComposeSafe", spec := "composeSafe", unfollowed := true, recurses := true, named := ["internal/strconv.uint64pow10", "math/bits.deBruijn32tab", "math/bits.deBruijn64tab"], apart := false, laid := [("math/bits.deBruijn32tab", laid_math_bits_deBruijn32tab), ("math/bits.deBruijn64tab", laid_math_bits_deBruijn64tab), ("internal/strconv.uint64pow10", laid_internal_strconv_uint64pow10)], narrowed := true }
def ComposeSafeUptoSaid : Prop := composeSafeUptoRow.holds Tryz.pinned (OpenSpec.upto composeSafeSpec)

/-- 'estoppellaw23.ComposeAdvises', WHERE WHAT IT READS IS OF BULK AT MOST 1048576: true; the input reads as it did. -/
def composeAdvisesUptoRow : OpenClaim := { program := "ytjkljacdbljkpaagreatdoor", sum := "619620cebfdd7a664c2a55ce1c8ca749512916799f4de7a49c3cbce07407a2e5", func := "estoppel/estoppellaw23.ComposeAdvises", spec := "composeAdvises", unfollowed := true, recurses := true, named := ["internal/strconv.uint64pow10", "math/bits.deBruijn32tab", "math/bits.deBruijn64tab"], apart := false, laid := [("math/bits.deBruijn32tab", laid_math_bits_deBruijn32tab), ("math/bits.deBruijn64tab", laid_math_bits_deBruijn64tab), ("internal/strconv.uint64pow10", laid_internal_strconv_uint64pow10)], narrowed := true }
def ComposeAdvisesUptoSaid : Prop := composeAdvisesUptoRow.holds Tryz.pinned (OpenSpec.upto composeAdvisesSpec)

/-- 'estoppellaw23.ComposeLost', WHERE WHAT IT READS IS OF BULK AT MOST 1048576: true; the input reads as it did. -/
def composeLostUptoRow : OpenClaim := { program := "ytjkljacdbljkpaagreatdoor", sum := "619620cebfdd7a664c2a55ce1c8ca749512916799f4de7a49c3cbce07407a2e5", func := "estoppel/estoppellaw23.ComposeLost", spec := "composeLost", unfollowed := true, recurses := true, named := ["internal/strconv.uint64pow10", "math/bits.deBruijn32tab", "math/bits.deBruijn64tab"], apart := false, laid := [("math/bits.deBruijn32tab", laid_math_bits_deBruijn32tab), ("math/bits.deBruijn64tab", laid_math_bits_deBruijn64tab), ("internal/strconv.uint64pow10", laid_internal_strconv_uint64pow10)], narrowed := true }
def ComposeLostUptoSaid : Prop := composeLostUptoRow.holds Tryz.pinned (OpenSpec.upto composeLostSpec)

/-- 'estoppellaw23.ComposeSteps', WHERE WHAT IT READS IS OF BULK AT MOST 1048576: true; the input reads as it did. -/
def composeStepsUptoRow : OpenClaim := { program := "ytjkljacdbljkpaagreatdoor", sum := "619620cebfdd7a664c2a55ce1c8ca749512916799f4de7a49c3cbce07407a2e5", func := "estoppel/estoppellaw23.ComposeSteps", spec := "composeSteps", unfollowed := true, recurses := true, named := ["internal/strconv.uint64pow10", "math/bits.deBruijn32tab", "math/bits.deBruijn64tab"], apart := false, laid := [("math/bits.deBruijn32tab", laid_math_bits_deBruijn32tab), ("math/bits.deBruijn64tab", laid_math_bits_deBruijn64tab), ("internal/strconv.uint64pow10", laid_internal_strconv_uint64pow10)], narrowed := true }
def ComposeStepsUptoSaid : Prop := composeStepsUptoRow.holds Tryz.pinned (OpenSpec.upto composeStepsSpec)

end Rows
end Go.Proofs.YtjkljacdbljkpaaGreatDoor
