/-
  NARROWER THAN 'FOR EVERY INPUT', by the rows' own cells (each row's printed sentence says how): RegionPositions: laid · RegionBreach: laid · RegionFinal: laid · RegionForced: laid · StrategyWaits: laid · StrategyAgain: laid · StrategyIdle: laid · StrategyOthers: laid · StrategyNoBreach: laid · StrategyKeeps: laid.
  DERIVED. THE GIVEN ROWS OF THIS SEAT. 10 by the template 'for every input the law returns true; each argument reads behind the call as it read before'; 0 by the template 'total and deterministic' (their statements: YtieofodomlodhaaDoorTotals.lean).
  GIVEN WITH THE SEED: the statements are not yours to turn. If you find one false, say at which input.
  Laid BY PROGRAM, IN A SANDBOX (cutbox-rows.mjs): the forced cells as the released guide's own fill.sh prints them over the translation 4cff7737228489e3… (all of the seat's roots in one cut). By AI agents, Wed Nov 11 2026. No macro, syntax, notation, axiom, sorry.
-/
import Derived.Test.YtieofodomlodhaaDoorChecked
import GoSem.Claim
import GoSem.ClaimJoined
import GoSem.ClaimMapViews
import Derived.JoinedTies
import Derived.KernelRfl
namespace Go.Proofs.YtieofodomlodhaaDoor
/- THE CELL 'sum', in the pinned program and in every row, IS THE sha256 OF THE DUMP (.gsa) THAT YtieofodomlodhaaDoorProg.lean LOADS. Nothing in Lean hashes anything: it is a label: what it is worth is what the hold of that sum in a sandbox is worth. -/
noncomputable def Tryd.pinned : Pinned := { name := "ytieofodomlodhaadoor", sum := "4cff7737228489e3b5b6dbc1cd34a83b1b9066fa4dfe7aa267fa9ac102e5eb0c", checked := Tryd.checked }
namespace Rows
def none {H : Type} : Left H := { results := [], args := [] }

/- WHAT THE LISTED PACKAGE-LEVEL VARIABLES READ AS WHEN THE CALL BEGINS. Each datum BY PROGRAM (the guide's laid-datum.mjs) off the statement by which the dump's own 'gosem.cut.vars' lays the variable. In a bare row this is a premise. The card (YtieofodomlodhaaDoorCards.lean) ties it to the program's text. -/
def laid_math_bits_deBruijn32tab {H : Type} : DataW H := .agg [.lit (.int .u8 0), .lit (.int .u8 1), .lit (.int .u8 28), .lit (.int .u8 2), .lit (.int .u8 29), .lit (.int .u8 14), .lit (.int .u8 24), .lit (.int .u8 3), .lit (.int .u8 30), .lit (.int .u8 22), .lit (.int .u8 20), .lit (.int .u8 15), .lit (.int .u8 25), .lit (.int .u8 17), .lit (.int .u8 4), .lit (.int .u8 8), .lit (.int .u8 31), .lit (.int .u8 27), .lit (.int .u8 13), .lit (.int .u8 23), .lit (.int .u8 21), .lit (.int .u8 19), .lit (.int .u8 16), .lit (.int .u8 7), .lit (.int .u8 26), .lit (.int .u8 12), .lit (.int .u8 18), .lit (.int .u8 6), .lit (.int .u8 11), .lit (.int .u8 5), .lit (.int .u8 10), .lit (.int .u8 9)]
def laid_math_bits_deBruijn64tab {H : Type} : DataW H := .agg [.lit (.int .u8 0), .lit (.int .u8 1), .lit (.int .u8 56), .lit (.int .u8 2), .lit (.int .u8 57), .lit (.int .u8 49), .lit (.int .u8 28), .lit (.int .u8 3), .lit (.int .u8 61), .lit (.int .u8 58), .lit (.int .u8 42), .lit (.int .u8 50), .lit (.int .u8 38), .lit (.int .u8 29), .lit (.int .u8 17), .lit (.int .u8 4), .lit (.int .u8 62), .lit (.int .u8 47), .lit (.int .u8 59), .lit (.int .u8 36), .lit (.int .u8 45), .lit (.int .u8 43), .lit (.int .u8 51), .lit (.int .u8 22), .lit (.int .u8 53), .lit (.int .u8 39), .lit (.int .u8 33), .lit (.int .u8 30), .lit (.int .u8 24), .lit (.int .u8 18), .lit (.int .u8 12), .lit (.int .u8 5), .lit (.int .u8 63), .lit (.int .u8 55), .lit (.int .u8 48), .lit (.int .u8 27), .lit (.int .u8 60), .lit (.int .u8 41), .lit (.int .u8 37), .lit (.int .u8 16), .lit (.int .u8 46), .lit (.int .u8 35), .lit (.int .u8 44), .lit (.int .u8 21), .lit (.int .u8 52), .lit (.int .u8 32), .lit (.int .u8 23), .lit (.int .u8 11), .lit (.int .u8 54), .lit (.int .u8 26), .lit (.int .u8 40), .lit (.int .u8 15), .lit (.int .u8 34), .lit (.int .u8 20), .lit (.int .u8 31), .lit (.int .u8 10), .lit (.int .u8 25), .lit (.int .u8 14), .lit (.int .u8 19), .lit (.int .u8 9), .lit (.int .u8 13), .lit (.int .u8 8), .lit (.int .u8 7), .lit (.int .u8 6)]
def laid_internal_strconv_uint64pow10 {H : Type} : DataW H := .agg [.lit (.int .u64 1), .lit (.int .u64 10), .lit (.int .u64 100), .lit (.int .u64 1000), .lit (.int .u64 10000), .lit (.int .u64 100000), .lit (.int .u64 1000000), .lit (.int .u64 10000000), .lit (.int .u64 100000000), .lit (.int .u64 1000000000), .lit (.int .u64 10000000000), .lit (.int .u64 100000000000), .lit (.int .u64 1000000000000), .lit (.int .u64 10000000000000), .lit (.int .u64 100000000000000), .lit (.int .u64 1000000000000000), .lit (.int .u64 10000000000000000), .lit (.int .u64 100000000000000000), .lit (.int .u64 1000000000000000000), .lit (.int .u64 10000000000000000000)]

/-- 'estoppellaw19.RegionPositions': WHATEVER THE INPUT: true; the input reads as it did. -/
def regionPositionsSpec : ChangeSpec := { name := "regionPositions", fn := fun _ => fun
  | [d1, d2, d3] => { results := [.lit (.bool true)], args := [d1, d2, d3] }
  | _ => none }
def regionPositionsRow : OpenClaim := { program := "ytieofodomlodhaadoor", sum := "4cff7737228489e3b5b6dbc1cd34a83b1b9066fa4dfe7aa267fa9ac102e5eb0c", func := "estoppel/estoppellaw19.RegionPositions", spec := "regionPositions", unfollowed := true, recurses := true, named := ["internal/strconv.uint64pow10", "math/bits.deBruijn32tab", "math/bits.deBruijn64tab"], apart := false, laid := [("math/bits.deBruijn32tab", laid_math_bits_deBruijn32tab), ("math/bits.deBruijn64tab", laid_math_bits_deBruijn64tab), ("internal/strconv.uint64pow10", laid_internal_strconv_uint64pow10)] }
def RegionPositionsSaid : Prop := regionPositionsRow.holds Tryd.pinned (OpenSpec.ofChange regionPositionsSpec)

/-- ITS FALSE NEIGHBOUR: 'it returns false'. Refute it at one input. -/
def regionPositionsWrong : ChangeSpec := { name := "regionPositions", fn := fun _ => fun
  | [d1, d2, d3] => { results := [.lit (.bool false)], args := [d1, d2, d3] }
  | _ => none }
def RegionPositionsWrongFalsely : Prop := regionPositionsRow.holds Tryd.pinned (OpenSpec.ofChange regionPositionsWrong)

/-- 'estoppellaw19.RegionBreach': WHATEVER THE INPUT: true; the input reads as it did. -/
def regionBreachSpec : ChangeSpec := { name := "regionBreach", fn := fun _ => fun
  | [d1, d2] => { results := [.lit (.bool true)], args := [d1, d2] }
  | _ => none }
def regionBreachRow : OpenClaim := { program := "ytieofodomlodhaadoor", sum := "4cff7737228489e3b5b6dbc1cd34a83b1b9066fa4dfe7aa267fa9ac102e5eb0c", func := "estoppel/estoppellaw19.RegionBreach", spec := "regionBreach", unfollowed := true, recurses := true, named := ["internal/strconv.uint64pow10", "math/bits.deBruijn32tab", "math/bits.deBruijn64tab"], apart := false, laid := [("math/bits.deBruijn32tab", laid_math_bits_deBruijn32tab), ("math/bits.deBruijn64tab", laid_math_bits_deBruijn64tab), ("internal/strconv.uint64pow10", laid_internal_strconv_uint64pow10)] }
def RegionBreachSaid : Prop := regionBreachRow.holds Tryd.pinned (OpenSpec.ofChange regionBreachSpec)

/-- ITS FALSE NEIGHBOUR: 'it returns false'. Refute it at one input. -/
def regionBreachWrong : ChangeSpec := { name := "regionBreach", fn := fun _ => fun
  | [d1, d2] => { results := [.lit (.bool false)], args := [d1, d2] }
  | _ => none }
def RegionBreachWrongFalsely : Prop := regionBreachRow.holds Tryd.pinned (OpenSpec.ofChange regionBreachWrong)

/-- 'estoppellaw19.RegionFinal': WHATEVER THE INPUT: true; the input reads as it did. -/
def regionFinalSpec : ChangeSpec := { name := "regionFinal", fn := fun _ => fun
  | [d1, d2, d3] => { results := [.lit (.bool true)], args := [d1, d2, d3] }
  | _ => none }
def regionFinalRow : OpenClaim := { program := "ytieofodomlodhaadoor", sum := "4cff7737228489e3b5b6dbc1cd34a83b1b9066fa4dfe7aa267fa9ac102e5eb0c", func := "estoppel/estoppellaw19.RegionFinal", spec := "regionFinal", unfollowed := true, recurses := true, named := ["internal/strconv.uint64pow10", "math/bits.deBruijn32tab", "math/bits.deBruijn64tab"], apart := false, laid := [("math/bits.deBruijn32tab", laid_math_bits_deBruijn32tab), ("math/bits.deBruijn64tab", laid_math_bits_deBruijn64tab), ("internal/strconv.uint64pow10", laid_internal_strconv_uint64pow10)] }
def RegionFinalSaid : Prop := regionFinalRow.holds Tryd.pinned (OpenSpec.ofChange regionFinalSpec)

/-- ITS FALSE NEIGHBOUR: 'it returns false'. Refute it at one input. -/
def regionFinalWrong : ChangeSpec := { name := "regionFinal", fn := fun _ => fun
  | [d1, d2, d3] => { results := [.lit (.bool false)], args := [d1, d2, d3] }
  | _ => none }
def RegionFinalWrongFalsely : Prop := regionFinalRow.holds Tryd.pinned (OpenSpec.ofChange regionFinalWrong)

/-- 'estoppellaw19.RegionForced': WHATEVER THE INPUT: true; the input reads as it did. -/
def regionForcedSpec : ChangeSpec := { name := "regionForced", fn := fun _ => fun
  | [d1, d2, d3, d4] => { results := [.lit (.bool true)], args := [d1, d2, d3, d4] }
  | _ => none }
def regionForcedRow : OpenClaim := { program := "ytieofodomlodhaadoor", sum := "4cff7737228489e3b5b6dbc1cd34a83b1b9066fa4dfe7aa267fa9ac102e5eb0c", func := "estoppel/estoppellaw19.RegionForced", spec := "regionForced", unfollowed := true, recurses := true, named := ["internal/strconv.uint64pow10", "math/bits.deBruijn32tab", "math/bits.deBruijn64tab"], apart := false, laid := [("math/bits.deBruijn32tab", laid_math_bits_deBruijn32tab), ("math/bits.deBruijn64tab", laid_math_bits_deBruijn64tab), ("internal/strconv.uint64pow10", laid_internal_strconv_uint64pow10)] }
def RegionForcedSaid : Prop := regionForcedRow.holds Tryd.pinned (OpenSpec.ofChange regionForcedSpec)

/-- ITS FALSE NEIGHBOUR: 'it returns false'. Refute it at one input. -/
def regionForcedWrong : ChangeSpec := { name := "regionForced", fn := fun _ => fun
  | [d1, d2, d3, d4] => { results := [.lit (.bool false)], args := [d1, d2, d3, d4] }
  | _ => none }
def RegionForcedWrongFalsely : Prop := regionForcedRow.holds Tryd.pinned (OpenSpec.ofChange regionForcedWrong)

/-- 'estoppellaw20.StrategyWaits': WHATEVER THE INPUT: true; the input reads as it did. -/
def strategyWaitsSpec : ChangeSpec := { name := "strategyWaits", fn := fun _ => fun
  | [d1, d2, d3] => { results := [.lit (.bool true)], args := [d1, d2, d3] }
  | _ => none }
def strategyWaitsRow : OpenClaim := { program := "ytieofodomlodhaadoor", sum := "4cff7737228489e3b5b6dbc1cd34a83b1b9066fa4dfe7aa267fa9ac102e5eb0c", func := "estoppel/estoppellaw20.StrategyWaits", spec := "strategyWaits", unfollowed := true, recurses := true, named := ["internal/strconv.uint64pow10", "math/bits.deBruijn32tab", "math/bits.deBruijn64tab"], apart := false, laid := [("math/bits.deBruijn32tab", laid_math_bits_deBruijn32tab), ("math/bits.deBruijn64tab", laid_math_bits_deBruijn64tab), ("internal/strconv.uint64pow10", laid_internal_strconv_uint64pow10)] }
def StrategyWaitsSaid : Prop := strategyWaitsRow.holds Tryd.pinned (OpenSpec.ofChange strategyWaitsSpec)

/-- ITS FALSE NEIGHBOUR: 'it returns false'. Refute it at one input. -/
def strategyWaitsWrong : ChangeSpec := { name := "strategyWaits", fn := fun _ => fun
  | [d1, d2, d3] => { results := [.lit (.bool false)], args := [d1, d2, d3] }
  | _ => none }
def StrategyWaitsWrongFalsely : Prop := strategyWaitsRow.holds Tryd.pinned (OpenSpec.ofChange strategyWaitsWrong)

/-- 'estoppellaw20.StrategyAgain': WHATEVER THE INPUT: true; the input reads as it did. -/
def strategyAgainSpec : ChangeSpec := { name := "strategyAgain", fn := fun _ => fun
  | [d1, d2, d3] => { results := [.lit (.bool true)], args := [d1, d2, d3] }
  | _ => none }
def strategyAgainRow : OpenClaim := { program := "ytieofodomlodhaadoor", sum := "4cff7737228489e3b5b6dbc1cd34a83b1b9066fa4dfe7aa267fa9ac102e5eb0c", func := "estoppel/estoppellaw20.StrategyAgain", spec := "strategyAgain", unfollowed := true, recurses := true, named := ["internal/strconv.uint64pow10", "math/bits.deBruijn32tab", "math/bits.deBruijn64tab"], apart := false, laid := [("math/bits.deBruijn32tab", laid_math_bits_deBruijn32tab), ("math/bits.deBruijn64tab", laid_math_bits_deBruijn64tab), ("internal/strconv.uint64pow10", laid_internal_strconv_uint64pow10)] }
def StrategyAgainSaid : Prop := strategyAgainRow.holds Tryd.pinned (OpenSpec.ofChange strategyAgainSpec)

/-- ITS FALSE NEIGHBOUR: 'it returns false'. Refute it at one input. -/
def strategyAgainWrong : ChangeSpec := { name := "strategyAgain", fn := fun _ => fun
  | [d1, d2, d3] => { results := [.lit (.bool false)], args := [d1, d2, d3] }
  | _ => none }
def StrategyAgainWrongFalsely : Prop := strategyAgainRow.holds Tryd.pinned (OpenSpec.ofChange strategyAgainWrong)

/-- 'estoppellaw20.StrategyIdle': WHATEVER THE INPUT: true; the input reads as it did. -/
def strategyIdleSpec : ChangeSpec := { name := "strategyIdle", fn := fun _ => fun
  | [d1, d2, d3] => { results := [.lit (.bool true)], args := [d1, d2, d3] }
  | _ => none }
def strategyIdleRow : OpenClaim := { program := "ytieofodomlodhaadoor", sum := "4cff7737228489e3b5b6dbc1cd34a83b1b9066fa4dfe7aa267fa9ac102e5eb0c", func := "estoppel/estoppellaw20.StrategyIdle", spec := "strategyIdle", unfollowed := true, recurses := true, named := ["internal/strconv.uint64pow10", "math/bits.deBruijn32tab", "math/bits.deBruijn64tab"], apart := false, laid := [("math/bits.deBruijn32tab", laid_math_bits_deBruijn32tab), ("math/bits.deBruijn64tab", laid_math_bits_deBruijn64tab), ("internal/strconv.uint64pow10", laid_internal_strconv_uint64pow10)] }
def StrategyIdleSaid : Prop := strategyIdleRow.holds Tryd.pinned (OpenSpec.ofChange strategyIdleSpec)

/-- ITS FALSE NEIGHBOUR: 'it returns false'. Refute it at one input. -/
def strategyIdleWrong : ChangeSpec := { name := "strategyIdle", fn := fun _ => fun
  | [d1, d2, d3] => { results := [.lit (.bool false)], args := [d1, d2, d3] }
  | _ => none }
def StrategyIdleWrongFalsely : Prop := strategyIdleRow.holds Tryd.pinned (OpenSpec.ofChange strategyIdleWrong)

/-- 'estoppellaw20.StrategyOthers': WHATEVER THE INPUT: true; the input reads as it did. -/
def strategyOthersSpec : ChangeSpec := { name := "strategyOthers", fn := fun _ => fun
  | [d1, d2, d3] => { results := [.lit (.bool true)], args := [d1, d2, d3] }
  | _ => none }
def strategyOthersRow : OpenClaim := { program := "ytieofodomlodhaadoor", sum := "4cff7737228489e3b5b6dbc1cd34a83b1b9066fa4dfe7aa267fa9ac102e5eb0c", func := "estoppel/estoppellaw20.StrategyOthers", spec := "strategyOthers", unfollowed := true, recurses := true, named := ["internal/strconv.uint64pow10", "math/bits.deBruijn32tab", "math/bits.deBruijn64tab"], apart := false, laid := [("math/bits.deBruijn32tab", laid_math_bits_deBruijn32tab), ("math/bits.deBruijn64tab", laid_math_bits_deBruijn64tab), ("internal/strconv.uint64pow10", laid_internal_strconv_uint64pow10)] }
def StrategyOthersSaid : Prop := strategyOthersRow.holds Tryd.pinned (OpenSpec.ofChange strategyOthersSpec)

/-- ITS FALSE NEIGHBOUR: 'it returns false'. Refute it at one input. -/
def strategyOthersWrong : ChangeSpec := { name := "strategyOthers", fn := fun _ => fun
  | [d1, d2, d3] => { results := [.lit (.bool false)], args := [d1, d2, d3] }
  | _ => none }
def StrategyOthersWrongFalsely : Prop := strategyOthersRow.holds Tryd.pinned (OpenSpec.ofChange strategyOthersWrong)

/-- 'estoppellaw20.StrategyNoBreach': WHATEVER THE INPUT: true; the input reads as it did. -/
def strategyNoBreachSpec : ChangeSpec := { name := "strategyNoBreach", fn := fun _ => fun
  | [d1, d2, d3] => { results := [.lit (.bool true)], args := [d1, d2, d3] }
  | _ => none }
def strategyNoBreachRow : OpenClaim := { program := "ytieofodomlodhaadoor", sum := "4cff7737228489e3b5b6dbc1cd34a83b1b9066fa4dfe7aa267fa9ac102e5eb0c", func := "estoppel/estoppellaw20.StrategyNoBreach", spec := "strategyNoBreach", unfollowed := true, recurses := true, named := ["internal/strconv.uint64pow10", "math/bits.deBruijn32tab", "math/bits.deBruijn64tab"], apart := false, laid := [("math/bits.deBruijn32tab", laid_math_bits_deBruijn32tab), ("math/bits.deBruijn64tab", laid_math_bits_deBruijn64tab), ("internal/strconv.uint64pow10", laid_internal_strconv_uint64pow10)] }
def StrategyNoBreachSaid : Prop := strategyNoBreachRow.holds Tryd.pinned (OpenSpec.ofChange strategyNoBreachSpec)

/-- ITS FALSE NEIGHBOUR: 'it returns false'. Refute it at one input. -/
def strategyNoBreachWrong : ChangeSpec := { name := "strategyNoBreach", fn := fun _ => fun
  | [d1, d2, d3] => { results := [.lit (.bool false)], args := [d1, d2, d3] }
  | _ => none }
def StrategyNoBreachWrongFalsely : Prop := strategyNoBreachRow.holds Tryd.pinned (OpenSpec.ofChange strategyNoBreachWrong)

/-- 'estoppellaw20.StrategyKeeps': WHATEVER THE INPUT: true; the input reads as it did. -/
def strategyKeepsSpec : ChangeSpec := { name := "strategyKeeps", fn := fun _ => fun
  | [d1, d2] => { results := [.lit (.bool true)], args := [d1, d2] }
  | _ => none }
def strategyKeepsRow : OpenClaim := { program := "ytieofodomlodhaadoor", sum := "4cff7737228489e3b5b6dbc1cd34a83b1b9066fa4dfe7aa267fa9ac102e5eb0c", func := "estoppel/estoppellaw20.StrategyKeeps", spec := "strategyKeeps", unfollowed := true, recurses := true, named := ["internal/strconv.uint64pow10", "math/bits.deBruijn32tab", "math/bits.deBruijn64tab"], apart := false, laid := [("math/bits.deBruijn32tab", laid_math_bits_deBruijn32tab), ("math/bits.deBruijn64tab", laid_math_bits_deBruijn64tab), ("internal/strconv.uint64pow10", laid_internal_strconv_uint64pow10)] }
def StrategyKeepsSaid : Prop := strategyKeepsRow.holds Tryd.pinned (OpenSpec.ofChange strategyKeepsSpec)

/-- ITS FALSE NEIGHBOUR: 'it returns false'. Refute it at one input. -/
def strategyKeepsWrong : ChangeSpec := { name := "strategyKeeps", fn := fun _ => fun
  | [d1, d2] => { results := [.lit (.bool false)], args := [d1, d2] }
  | _ => none }
def StrategyKeepsWrongFalsely : Prop := strategyKeepsRow.holds Tryd.pinned (OpenSpec.ofChange strategyKeepsWrong)

/- THE SECOND FORM. 'bulk': how many values and letters a reading holds, each counted each time it is reached (what is shared counts as often as it is met; a slice's spare places count too). A statement '..UptoSaid' is the law's where the arguments, and the package variables that the reading takes, are together of bulk at most 1048576: NARROWER than '..Said'. Prove '..Said' where nothing that the law and all that it calls make is longer than what came in: it says more and counts as full. Else prove '..UptoSaid'. A law counts once. -/
mutual
def uptoBulk {H : Type} : DataW H → Nat
  | .lit (.string bytes) => bytes.length + 1
  | .lit _ => 1
  | .nil => 1
  | .ptr d => uptoBulk d + 1
  | .slice elems spare => uptoBulkAll elems + uptoBulkAll spare + 1
  | .agg parts => uptoBulkAll parts + 1
  | .iface _ d => uptoBulk d + 1
  | .map entries => uptoBulkEntries entries + 1
  | .held _ => 1
def uptoBulkAll {H : Type} : List (DataW H) → Nat
  | [] => 0
  | d :: r => uptoBulk d + uptoBulkAll r
def uptoBulkEntries {H : Type} : List (Lit × DataW H) → Nat
  | [] => 0
  | x :: r => uptoBulkEntry x + uptoBulkEntries r
def uptoBulkEntry {H : Type} : Lit × DataW H → Nat
  | (.string bytes, d) => bytes.length + uptoBulk d + 1
  | (_, d) => uptoBulk d + 1
 end
def uptoSmall : (H : Type) → List (DataW H) → Bool := fun _ ds => decide (uptoBulkAll ds ≤ 1048576)
def OpenSpec.upto (s : _root_.Go.ChangeSpec) : _root_.Go.OpenSpec := { _root_.Go.OpenSpec.ofChange s with cond := some uptoSmall }

/-- 'estoppellaw19.RegionPositions', WHERE WHAT IT READS IS OF BULK AT MOST 1048576: true; the input reads as it did. -/
def regionPositionsUptoRow : OpenClaim := { program := "ytieofodomlodhaadoor", sum := "4cff7737228489e3b5b6dbc1cd34a83b1b9066fa4dfe7aa267fa9ac102e5eb0c", func := "estoppel/estoppellaw19.RegionPositions", spec := "regionPositions", unfollowed := true, recurses := true, named := ["internal/strconv.uint64pow10", "math/bits.deBruijn32tab", "math/bits.deBruijn64tab"], apart := false, laid := [("math/bits.deBruijn32tab", laid_math_bits_deBruijn32tab), ("math/bits.deBruijn64tab", laid_math_bits_deBruijn64tab), ("internal/strconv.uint64pow10", laid_internal_strconv_uint64pow10)], narrowed := true }
def RegionPositionsUptoSaid : Prop := regionPositionsUptoRow.holds Tryd.pinned (OpenSpec.upto regionPositionsSpec)

/-- 'estoppellaw19.RegionBreach', WHERE WHAT IT READS IS OF BULK AT MOST 1048576: true; the input reads as it did. -/
def regionBreachUptoRow : OpenClaim := { program := "ytieofodomlodhaadoor", sum := "4cff7737228489e3b5b6dbc1cd34a83b1b9066fa4dfe7aa267fa9ac102e5eb0c", func := "estoppel/estoppellaw19.RegionBreach", spec := "regionBreach", unfollowed := true, recurses := true, named := ["internal/strconv.uint64pow10", "math/bits.deBruijn32tab", "math/bits.deBruijn64tab"], apart := false, laid := [("math/bits.deBruijn32tab", laid_math_bits_deBruijn32tab), ("math/bits.deBruijn64tab", laid_math_bits_deBruijn64tab), ("internal/strconv.uint64pow10", laid_internal_strconv_uint64pow10)], narrowed := true }
def RegionBreachUptoSaid : Prop := regionBreachUptoRow.holds Tryd.pinned (OpenSpec.upto regionBreachSpec)

/-- 'estoppellaw19.RegionFinal', WHERE WHAT IT READS IS OF BULK AT MOST 1048576: true; the input reads as it did. -/
def regionFinalUptoRow : OpenClaim := { program := "ytieofodomlodhaadoor", sum := "4cff7737228489e3b5b6dbc1cd34a83b1b9066fa4dfe7aa267fa9ac102e5eb0c", func := "estoppel/estoppellaw19.RegionFinal", spec := "regionFinal", unfollowed := true, recurses := true, named := ["internal/strconv.uint64pow10", "math/bits.deBruijn32tab", "math/bits.deBruijn64tab"], apart := false, laid := [("math/bits.deBruijn32tab", laid_math_bits_deBruijn32tab), ("math/bits.deBruijn64tab", laid_math_bits_deBruijn64tab), ("internal/strconv.uint64pow10", laid_internal_strconv_uint64pow10)], narrowed := true }
def RegionFinalUptoSaid : Prop := regionFinalUptoRow.holds Tryd.pinned (OpenSpec.upto regionFinalSpec)

/-- 'estoppellaw19.RegionForced', WHERE WHAT IT READS IS OF BULK AT MOST 1048576: true; the input reads as it did. -/
def regionForcedUptoRow : OpenClaim := { program := "ytieofodomlodhaadoor", sum := "4cff7737228489e3b5b6dbc1cd34a83b1b9066fa4dfe7aa267fa9ac102e5eb0c", func := "estoppel/estoppellaw19.RegionForced", spec := "regionForced", unfollowed := true, recurses := true, named := ["internal/strconv.uint64pow10", "math/bits.deBruijn32tab", "math/bits.deBruijn64tab"], apart := false, laid := [("math/bits.deBruijn32tab", laid_math_bits_deBruijn32tab), ("math/bits.deBruijn64tab", laid_math_bits_deBruijn64tab), ("internal/strconv.uint64pow10", laid_internal_strconv_uint64pow10)], narrowed := true }
def RegionForcedUptoSaid : Prop := regionForcedUptoRow.holds Tryd.pinned (OpenSpec.upto regionForcedSpec)

/-- 'estoppellaw20.StrategyWaits', WHERE WHAT IT READS IS OF BULK AT MOST 1048576: true; the input reads as it did. -/
def strategyWaitsUptoRow : OpenClaim := { program := "ytieofodomlodhaadoor", sum := "4cff7737228489e3b5b6dbc1cd34a83b1b9066fa4dfe7aa267fa9ac102e5eb0c", func := "estoppel/estoppellaw20.StrategyWaits", spec := "strategyWaits", unfollowed := true, recurses := true, named := ["internal/strconv.uint64pow10", "math/bits.deBruijn32tab", "math/bits.deBruijn64tab"], apart := false, laid := [("math/bits.deBruijn32tab", laid_math_bits_deBruijn32tab), ("math/bits.deBruijn64tab", laid_math_bits_deBruijn64tab), ("internal/strconv.uint64pow10", laid_internal_strconv_uint64pow10)], narrowed := true }
def StrategyWaitsUptoSaid : Prop := strategyWaitsUptoRow.holds Tryd.pinned (OpenSpec.upto strategyWaitsSpec)

/-- 'estoppellaw20.StrategyAgain', WHERE WHAT IT READS IS OF BULK AT MOST 1048576: true; the input reads as it did. -/
def strategyAgainUptoRow : OpenClaim := { program := "ytieofodomlodhaadoor", sum := "4cff7737228489e3b5b6dbc1cd34a83b1b9066fa4dfe7aa267fa9ac102e5eb0c", func := "estoppel/estoppellaw20.StrategyAgain", spec := "strategyAgain", unfollowed := true, recurses := true, named := ["internal/strconv.uint64pow10", "math/bits.deBruijn32tab", "math/bits.deBruijn64tab"], apart := false, laid := [("math/bits.deBruijn32tab", laid_math_bits_deBruijn32tab), ("math/bits.deBruijn64tab", laid_math_bits_deBruijn64tab), ("internal/strconv.uint64pow10", laid_internal_strconv_uint64pow10)], narrowed := true }
def StrategyAgainUptoSaid : Prop := strategyAgainUptoRow.holds Tryd.pinned (OpenSpec.upto strategyAgainSpec)

/-- 'estoppellaw20.StrategyIdle', WHERE WHAT IT READS IS OF BULK AT MOST 1048576: true; the input reads as it did. -/
def strategyIdleUptoRow : OpenClaim := { program := "ytieofodomlodhaadoor", sum := "4cff7737228489e3b5b6dbc1cd34a83b1b9066fa4dfe7aa267fa9ac102e5eb0c", func := "estoppel/estoppellaw20.StrategyIdle", spec := "strategyIdle", unfollowed := true, recurses := true, named := ["internal/strconv.uint64pow10", "math/bits.deBruijn32tab", "math/bits.deBruijn64tab"], apart := false, laid := [("math/bits.deBruijn32tab", laid_math_bits_deBruijn32tab), ("math/bits.deBruijn64tab", laid_math_bits_deBruijn64tab), ("internal/strconv.uint64pow10", laid_internal_strconv_uint64pow10)], narrowed := true }
def StrategyIdleUptoSaid : Prop := strategyIdleUptoRow.holds Tryd.pinned (OpenSpec.upto strategyIdleSpec)

/-- 'estoppellaw20.StrategyOthers', WHERE WHAT IT READS IS OF BULK AT MOST 1048576: true; the input reads as it did. -/
def strategyOthersUptoRow : OpenClaim := { program := "ytieofodomlodhaadoor", sum := "4cff7737228489e3b5b6dbc1cd34a83b1b9066fa4dfe7aa267fa9ac102e5eb0c", func := "estoppel/estoppellaw20.StrategyOthers", spec := "strategyOthers", unfollowed := true, recurses := true, named := ["internal/strconv.uint64pow10", "math/bits.deBruijn32tab", "math/bits.deBruijn64tab"], apart := false, laid := [("math/bits.deBruijn32tab", laid_math_bits_deBruijn32tab), ("math/bits.deBruijn64tab", laid_math_bits_deBruijn64tab), ("internal/strconv.uint64pow10", laid_internal_strconv_uint64pow10)], narrowed := true }
def StrategyOthersUptoSaid : Prop := strategyOthersUptoRow.holds Tryd.pinned (OpenSpec.upto strategyOthersSpec)

/-- 'estoppellaw20.StrategyNoBreach', WHERE WHAT IT READS IS OF BULK AT MOST 1048576: true; the input reads as it did. -/
def strategyNoBreachUptoRow : OpenClaim := { program := "ytieofodomlodhaadoor", sum := "4cff7737228489e3b5b6dbc1cd34a83b1b9066fa4dfe7aa267fa9ac102e5eb0c", func := "estoppel/estoppellaw20.StrategyNoBreach", spec := "strategyNoBreach", unfollowed := true, recurses := true, named := ["internal/strconv.uint64pow10", "math/bits.deBruijn32tab", "math/bits.deBruijn64tab"], apart := false, laid := [("math/bits.deBruijn32tab", laid_math_bits_deBruijn32tab), ("math/bits.deBruijn64tab", laid_math_bits_deBruijn64tab), ("internal/strconv.uint64pow10", laid_internal_strconv_uint64pow10)], narrowed := true }
def StrategyNoBreachUptoSaid : Prop := strategyNoBreachUptoRow.holds Tryd.pinned (OpenSpec.upto strategyNoBreachSpec)

/-- 'estoppellaw20.StrategyKeeps', WHERE WHAT IT READS IS OF BULK AT MOST 1048576: true; the input reads as it did. -/
def strategyKeepsUptoRow : OpenClaim := { program := "ytieofodomlodhaadoor", sum := "4cff7737228489e3b5b6dbc1cd34a83b1b9066fa4dfe7aa267fa9ac102e5eb0c", func := "estoppel/estoppellaw20.StrategyKeeps", spec := "strategyKeeps", unfollowed := true, recurses := true, named := ["internal/strconv.uint64pow10", "math/bits.deBruijn32tab", "math/bits.deBruijn64tab"], apart := false, laid := [("math/bits.deBruijn32tab", laid_math_bits_deBruijn32tab), ("math/bits.deBruijn64tab", laid_math_bits_deBruijn64tab), ("internal/strconv.uint64pow10", laid_internal_strconv_uint64pow10)], narrowed := true }
def StrategyKeepsUptoSaid : Prop := strategyKeepsUptoRow.holds Tryd.pinned (OpenSpec.upto strategyKeepsSpec)

end Rows
end Go.Proofs.YtieofodomlodhaaDoor
