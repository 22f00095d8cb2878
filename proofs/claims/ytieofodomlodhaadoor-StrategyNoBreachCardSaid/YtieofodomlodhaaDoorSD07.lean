/-
  A contract of the library, laid at this program.
  The texts of positions: what the two closures of arena.text do to the bytes at hand.
  The texts of positions: the contract of arena.text.
  Functions of the program: what they compute, and plans of their code that the kernel checks (printed by a program of ours).
-/
import Derived.Test.YtieofodomlodhaaDoorSD06
import Derived.Shelf.Strconv.AppendIntPublic10
import Derived.Lib.AppendIntMem
import Derived.Lib.ItoaLen
import Derived.Lib.Hide
import Derived.Laws.IdiomStrings
import Derived.OwnWalk
import Derived.OneCell
import Derived.WalkKit
import Derived.BigCall
namespace Go.Proofs.YtieofodomlodhaaDoor
open Go.Shelf Go.RowKit
set_option maxRecDepth 100000
def Tryd.laysAI_ren : Go.Shelf.Ren := ⟨fun | 176 => 63 | 249 => 85 | 288 => 103 | 283 => 107 | 284 => 108 | 285 => 109 | 286 => 110 | 129 => 115 | 317 => 114 | 318 => 116 | 319 => 117 | 320 => 118 | 337 => 119 | 338 => 120 | n => n, fun | 37 => 59 | 2 => 2 | 3 => 3 | 53 => 146 | 4 => 4 | 9 => 9 | 171 => 150 | 0 => 0 | 173 => 153 | 212 => 159 | 51 => 160 | 5 => 5 | 20 => 20 | 213 => 161 | 46 => 52 | 232 => 165 | 233 => 166 | n => n, fun | 17 => 0 | 18 => 1 | 19 => 2 | n => n⟩
theorem Tryd.laysAI : Go.Proofs.LaysM.n176 Tryd.prog Tryd.laysAI_ren := {
  mixed := by kernel_rfl,
  f129 := Tryd.func115.trans (congrArg some (by kernel_rfl)),
  f176 := Tryd.func63.trans (congrArg some (by kernel_rfl)),
  f249 := Tryd.func85.trans (congrArg some (by kernel_rfl)),
  f283 := Tryd.func107.trans (congrArg some (by kernel_rfl)),
  f284 := Tryd.func108.trans (congrArg some (by kernel_rfl)),
  f285 := Tryd.func109.trans (congrArg some (by kernel_rfl)),
  f286 := Tryd.func110.trans (congrArg some (by kernel_rfl)),
  f288 := Tryd.func103.trans (congrArg some (by kernel_rfl)),
  f317 := Tryd.func114.trans (congrArg some (by kernel_rfl)),
  f318 := Tryd.func116.trans (congrArg some (by kernel_rfl)),
  f319 := Tryd.func117.trans (congrArg some (by kernel_rfl)),
  f320 := Tryd.func118.trans (congrArg some (by kernel_rfl)),
  f337 := Tryd.func119.trans (congrArg some (by kernel_rfl)),
  f338 := Tryd.func120.trans (congrArg some (by kernel_rfl)),
  t0 := Tryd.underlying0,
  a0 := Tryd.isAgg0,
  z0 := Tryd.sizeOf0,
  v0 := Tryd.zeroValue0,
  t2 := Tryd.underlying2,
  a2 := Tryd.isAgg2,
  z2 := Tryd.sizeOf2,
  v2 := Tryd.zeroValue2,
  t3 := Tryd.underlying3,
  a3 := Tryd.isAgg3,
  z3 := Tryd.sizeOf3,
  v3 := Tryd.zeroValue3,
  t4 := Tryd.underlying4,
  a4 := Tryd.isAgg4,
  z4 := Tryd.sizeOf4,
  v4 := Tryd.zeroValue4,
  t5 := Tryd.underlying5,
  a5 := Tryd.isAgg5,
  z5 := Tryd.sizeOf5,
  v5 := Tryd.zeroValue5,
  t9 := Tryd.underlying9,
  a9 := Tryd.isAgg9,
  z9 := Tryd.sizeOf9,
  v9 := Tryd.zeroValue9,
  t20 := Tryd.underlying20,
  a20 := Tryd.isAgg20,
  z20 := Tryd.sizeOf20,
  v20 := Tryd.zeroValue20,
  t37 := Tryd.underlying59,
  a37 := Tryd.isAgg59,
  z37 := Tryd.sizeOf59,
  v37 := Tryd.zeroValue59,
  t46 := Tryd.underlying52,
  a46 := Tryd.isAgg52,
  z46 := Tryd.sizeOf52,
  v46 := Tryd.zeroValue52,
  t51 := Tryd.underlying160,
  a51 := Tryd.isAgg160,
  z51 := Tryd.sizeOf160,
  v51 := Tryd.zeroValue160,
  t53 := Tryd.underlying146,
  a53 := Tryd.isAgg146,
  z53 := Tryd.sizeOf146,
  v53 := Tryd.zeroValue146,
  t171 := Tryd.underlying150,
  a171 := Tryd.isAgg150,
  z171 := Tryd.sizeOf150,
  v171 := Tryd.zeroValue150,
  t173 := Tryd.underlying153,
  a173 := Tryd.isAgg153,
  z173 := Tryd.sizeOf153,
  v173 := Tryd.zeroValue153,
  t212 := Tryd.underlying159,
  a212 := Tryd.isAgg159,
  z212 := Tryd.sizeOf159,
  v212 := Tryd.zeroValue159,
  t213 := Tryd.underlying161,
  a213 := Tryd.isAgg161,
  z213 := Tryd.sizeOf161,
  t232 := Tryd.underlying165,
  a232 := Tryd.isAgg165,
  z232 := Tryd.sizeOf165,
  v232 := Tryd.zeroValue165,
  t233 := Tryd.underlying166,
  a233 := Tryd.isAgg166,
  z233 := Tryd.sizeOf166,
  v233 := Tryd.zeroValue166,
  g17 := by kernel_rfl,
  g18 := by kernel_rfl,
  g19 := by kernel_rfl,
  i0 := by kernel_rfl,
  i2 := by kernel_rfl,
  i3 := by kernel_rfl,
  i4 := by kernel_rfl,
  i5 := by kernel_rfl,
  i9 := by kernel_rfl,
  i20 := by kernel_rfl,
  i37 := by kernel_rfl,
  i46 := by kernel_rfl,
  i51 := by kernel_rfl,
  i53 := by kernel_rfl,
  i171 := by kernel_rfl,
  i173 := by kernel_rfl,
  i212 := by kernel_rfl,
  i232 := by kernel_rfl,
  i233 := by kernel_rfl,
  m17 := by kernel_rfl,
  m18 := by kernel_rfl,
  m19 := by kernel_rfl }
end Go.Proofs.YtieofodomlodhaaDoor
namespace Go.Proofs.YtieofodomlodhaaDoor
open Go.RowKit Go.Shelf
set_option linter.unusedVariables false

def numT (n : Int) : List UInt8 := Lib.itoa n ++ [32]
def flagT (b : Bool) : List UInt8 := [if b then 43 else 45]
def markT (m : MarkT) : List UInt8 := numT m.status ++ numT m.left ++ numT m.got ++ numT m.bearer ++ flagT m.paused
def textL (p : PosT) : List UInt8 := flagT p.own ++ numT p.state.day ++ p.state.holders.flatMap numT ++ p.state.used.flatMap flagT ++ p.state.marks.flatMap markT

theorem appInt (B n : Nat) (i : Int) (h0 : -9223372036854775808 ≤ i) (h1 : i ≤ 9223372036854775807) (sv : Value) (xs : List Value) (w : World) (hown : w.ownsRow B 5 1 sv n xs) (hBw : B ≤ w.heap.size) (hlim : n + 21 ≤ 140737488355328)
    (htab : Lib.TabBelow Tryd.prog B w "internal/strconv.uint64pow10" .u64 Lib.pow10Tab) :
    Calls Tryd.prog 63 #[sv, .int .i64 i, .int .i64 10] w fun e w' => ∃ v', e = .returned v' ∧ w'.ownsRow B 5 1 v' (n + (Lib.itoa i).length) (xs ++ Lib.byteCells (Lib.itoa i)) ∧ RowKit.Below B w w' ∧ Lib.OthersKept 5 none w w' := Any.strconv_AppendInt_10 Tryd.laysAI B n i h0 h1 sv xs w hown hBw hlim htab

theorem infoByte : (Tryd.prog.info? 5).map (fun i => (i.zero, i.size, i.bytes)) = some (some (.int .u8 0), 1, 1) := by kernel_rfl

structure TI (B Bo : Nat) (W : World) (xs : List UInt8) (w : World) : Prop where
  below : Below B W w
  lt : B ≤ Bo
  own : ∃ v, w.heap[Bo]? = some (.cells #[v] 59 (0, 0)) ∧ w.ownsRow B 5 1 v xs.length (Lib.byteCells xs)

theorem ownBlock_ne {B Bo : Nat} {w : World} {v x : Value} {n : Nat} {xs : List Value} (hv : w.heap[Bo]? = some (.cells #[x] 59 (0, 0))) (hown : w.ownsRow B 5 1 v n xs) : v.ownBlock ≠ some Bo := by
  intro e
  rcases hown.2 with ⟨rfl, _⟩ | ⟨g, cap, cur, rfl, _, hh, _⟩
  · simp [Value.ownBlock] at e
  · simp [Value.ownBlock] at e
    subst e
    rw [hh] at hv
    simp at hv

theorem TI.push {B Bo n : Nat} {W w w2 : World} {xs : List UInt8} {ys : List Value} {v v' x : Value} {c : UInt8} {o : Obj} (hb : Below B W w) (hlt : B ≤ Bo) (hv : w.heap[Bo]? = some (.cells #[x] 59 (0, 0))) (hown : w.ownsRow B 5 1 v n ys)
    (hown' : w2.ownsRow B 5 1 v' (xs.length + 1) (Lib.byteCells xs ++ [.int .u8 c.toNat])) (hg : (w.alloc o).grownBy w2 v.ownBlock) :
    (∃ g cap, v' = .slice (some ⟨g, 0, none⟩) (xs.length + 1) cap) ∧ (w2.heap[Bo]? = some (.cells #[x] 59 (0, 0))) ∧ TI B Bo W (xs ++ [c]) (w2.setCell ⟨Bo, 0, none⟩ v') ∧ Lib.OthersKept 5 (some Bo) w (w2.setCell ⟨Bo, 0, none⟩ v') := by
  have hBo := lt_of_block hv
  have h2 : w2.heap[Bo]? = some (.cells #[x] 59 (0, 0)) := by
    rw [hg.block Bo (by simp; omega) (fun e => ownBlock_ne hv hown e.symm)]
    exact (Below.heap_alloc _ _ _ hBo).trans hv
  have hbw : Below B W w2 := (hb.alloc (by omega) o).grown hg (by simp; omega) (fun k hk => (hown.lt k hk).1)
  refine ⟨?_, h2, ⟨hbw.setCell (by exact hlt) _, hlt, v', one_setCell h2, ?_⟩, ?_⟩
  · rcases hown'.2 with ⟨_, h0⟩ | ⟨g, cap, cur, rfl, _⟩
    · omega
    · exact ⟨g, cap, rfl⟩
  · refine ownsRow_setCell_other ?_ (ownBlock_ne h2 hown') _
    simpa [Lib.byteCells] using hown'
  · refine Lib.OthersKept.setCell (b := Bo) (Lib.OthersKept.grown ((Lib.OthersKept.refl _ _ _).alloc o) hg ?_) ⟨Bo, 0, none⟩ rfl _
    intro g hgg
    have := hown.lt g hgg
    rcases hown.2 with ⟨rfl, _⟩ | ⟨g', cap, cur, rfl, _, hh, _⟩
    · simp [Value.ownBlock] at hgg
    · simp [Value.ownBlock] at hgg
      subst hgg
      exact ⟨cur, (0, 0), (Below.heap_alloc _ _ _ this.2).trans hh⟩

set_option maxHeartbeats 1600000 in
set_option maxRecDepth 100000 in
theorem flag_any (B Bo : Nat) (W : World) (xs : List UInt8) (b : Bool) (w : World) (h : TI B Bo W xs w) (hlen : xs.length ≤ 2000000000) :
    Calls Tryd.prog 64 #[.bool b, .pointer (some ⟨Bo, 0, none⟩)] w fun e w' => e = .returned (.tuple #[]) ∧ TI B Bo W (xs ++ flagT b) w' ∧ Lib.OthersKept 5 (some Bo) w w' := by
  obtain ⟨hb, hlt, v, hv, hown⟩ := h
  obtain ⟨i0, hi, hz0, hz1, hz2⟩ := info_parts infoByte
  have cW := cell_of_one hv
  have fW := free_of_one hv
  have hBo := lt_of_block hv
  cases b with
  | true =>
    go_enter Tryd.func64, Tryd.ntmps64
    go_wp2_with (at_builtin; refine wpList_append_own _ rfl _ _ 59 rfl B 5 i0 (.int .u8 0) 1 1 Tryd.underlying59 hi hz0 hz1 hz2 rfl (by decide) _ _ _ rfl (hown.alloc _) ⟨w.heap.size, 0, none⟩ 1 1 [Value.int .u8 43] rfl rfl ?c1 ?c2 ?c3 ?c4 ?c5 ?_)
    case c1 =>
      intro j u hj
      match j, hj with
      | 0, hj => simp at hj; subst hj; simp [Addr.add]
    case c2 => intro u hu; simp at hu; subst hu; rfl
    case c3 => unfold maxLen; omega
    case c4 => omega
    case c5 => simp; omega
    intro v' w2 hown' hgrow _
    obtain ⟨⟨g', cap', rfl⟩, h2, hT, hK⟩ := TI.push (c := 43) hb hlt hv hown hown' hgrow
    have cW2 := cell_of_one h2
    have fW2 := free_of_one h2
    clear hown' hgrow hown
    go_wp2
    go_end0
    exact ⟨rfl, hT, hK⟩
  | false =>
    go_enter Tryd.func64, Tryd.ntmps64
    go_wp2_with (at_builtin; refine wpList_append_own _ rfl _ _ 59 rfl B 5 i0 (.int .u8 0) 1 1 Tryd.underlying59 hi hz0 hz1 hz2 rfl (by decide) _ _ _ rfl (hown.alloc _) ⟨w.heap.size, 0, none⟩ 1 1 [Value.int .u8 45] rfl rfl ?c1 ?c2 ?c3 ?c4 ?c5 ?_)
    case c1 =>
      intro j u hj
      match j, hj with
      | 0, hj => simp at hj; subst hj; simp [Addr.add]
    case c2 => intro u hu; simp at hu; subst hu; rfl
    case c3 => unfold maxLen; omega
    case c4 => omega
    case c5 => simp; omega
    intro v' w2 hown' hgrow _
    obtain ⟨⟨g', cap', rfl⟩, h2, hT, hK⟩ := TI.push (c := 45) hb hlt hv hown hown' hgrow
    have cW2 := cell_of_one h2
    have fW2 := free_of_one h2
    clear hown' hgrow hown
    go_wp2
    go_end0
    exact ⟨rfl, hT, hK⟩

set_option maxHeartbeats 1600000 in
set_option maxRecDepth 100000 in
theorem write_any (B Bo : Nat) (W : World) (xs : List UInt8) (n : Int) (w : World) (h : TI B Bo W xs w) (hlen : xs.length ≤ 2000000000) (h0 : -9223372036854775808 ≤ n) (h1 : n ≤ 9223372036854775807)
    (htab : Lib.TabBelow Tryd.prog B W "internal/strconv.uint64pow10" .u64 Lib.pow10Tab) :
    Calls Tryd.prog 62 #[.int .i64 n, .pointer (some ⟨Bo, 0, none⟩)] w fun e w' => e = .returned (.tuple #[]) ∧ TI B Bo W (xs ++ numT n) w' ∧ Lib.OthersKept 5 (some Bo) w w' := by
  obtain ⟨hb, hlt, v, hv, hown⟩ := h
  obtain ⟨i0, hi, hz0, hz1, hz2⟩ := info_parts infoByte
  have cW := cell_of_one hv
  have fW := free_of_one hv
  have hBo := lt_of_block hv
  have la := Lib.itoa_length_le n h0 h1
  go_enter Tryd.func62, Tryd.ntmps62
  go_wp2_with (go_at_call 63; refine (appInt B _ n h0 h1 v _ w hown (by omega) (by omega) (htab.on hb)).mono ?_; rintro e w1 ⟨v1, rfl, hown1, hnx1, hk1⟩; refine Hid.out ?_)
  refine Lib.hid ?_
  rw [← List.length_append, show Lib.byteCells xs ++ Lib.byteCells (Lib.itoa n) = Lib.byteCells (xs ++ Lib.itoa n) from by simp [Lib.byteCells]] at hown1
  have hv1 : w1.heap[Bo]? = some (.cells #[v] 59 (0, 0)) := hk1 Bo _ hv (by simp) (by intro c fz e; simp at e)
  have hb1 : Below B W w1 := hb.trans hnx1
  have hBo1 := lt_of_block hv1
  have hl2 : (xs ++ Lib.itoa n).length ≤ 2000000100 := by rw [List.length_append]; omega
  obtain ⟨ys, hys⟩ : ∃ l, l = xs ++ Lib.itoa n := ⟨_, rfl⟩
  rw [← hys] at hown1 hl2
  have HY := Lib.hid hys
  clear hys cW fW
  go_wp2_with (at_builtin; refine wpList_append_own _ rfl _ _ 59 rfl B 5 i0 (.int .u8 0) 1 1 Tryd.underlying59 hi hz0 hz1 hz2 rfl (by decide) _ _ _ rfl (hown1.alloc _) ⟨w1.heap.size, 0, none⟩ 1 1 [Value.int .u8 32] rfl rfl ?c1 ?c2 ?c3 ?c4 ?c5 ?_)
  case c1 =>
    intro j u hj
    match j, hj with
    | 0, hj => simp at hj; subst hj; simp [Addr.add]
  case c2 => intro u hu; simp at hu; subst hu; rfl
  case c3 => unfold maxLen; omega
  case c4 => omega
  case c5 => simp; omega
  intro v' w2 hown' hgrow _
  obtain ⟨⟨g', cap', rfl⟩, h2, hT, hK⟩ := TI.push (c := 32) hb1 hlt hv1 hown1 hown' hgrow
  have cW2 := cell_of_one h2
  have fW2 := free_of_one h2
  clear hown' hgrow hown hown1
  go_wp2
  go_end0
  have hys := HY.out
  subst hys
  refine ⟨rfl, ?_, ?_⟩
  · simpa [numT] using hT
  · exact Lib.OthersKept.trans (fun k o hk _ ho => hk1 k o hk (by simp) ho) hK

end Go.Proofs.YtieofodomlodhaaDoor
namespace Go.Proofs.YtieofodomlodhaaDoor
open Go.RowKit Go.Shelf
set_option linter.unusedVariables false

def inI64 (n : Int) : Bool := decide (-9223372036854775808 ≤ n) && decide (n ≤ 9223372036854775807)
def okP (p : PosT) : Bool := inI64 p.state.day && p.state.holders.all inI64 && p.state.marks.all (fun m => inI64 m.status && inI64 m.left && inI64 m.got && inI64 m.bearer) && decide ((textL p).length ≤ 1000000000)
def d_text (p : PosT) : Option ByteArray := if okP p then some ⟨(textL p).toArray⟩ else none

structure TB (B Bo : Nat) (W : World) (vs : Array Value) (xs : List UInt8) (w : World) : Prop where
  ti : TI B Bo W xs w
  bo : B < Bo
  box : w.heap[B]? = some (.cells vs 45 (0, 0))

def MB (Bm : Nat) (vs : Array Value) (w : World) : Prop := w.heap[Bm]? = some (.cells vs 103 (0, 0))

theorem TB.of {B Bo : Nat} {W w w' : World} {vs : Array Value} {xs ys : List UInt8} (h : TB B Bo W vs xs w) (hT : TI B Bo W ys w') (hK : Lib.OthersKept 5 (some Bo) w w') : TB B Bo W vs ys w' :=
  ⟨hT, h.bo, hK B _ h.box (by have := h.bo; simp; omega) (by intro c fz e; simp at e)⟩

theorem MB.of {B Bo Bm : Nat} {W w w' : World} {vs ms : Array Value} {xs : List UInt8} (h : TB B Bo W vs xs w) (hm : MB Bm ms w) (hK : Lib.OthersKept 5 (some Bo) w w') : MB Bm ms w' := by
  refine hK Bm _ hm ?_ (by intro c fz e; simp at e)
  intro e
  obtain ⟨v, hv, _⟩ := h.ti.own
  cases e
  unfold MB at hm
  rw [hv] at hm
  simp at hm

theorem flag_tb {B Bo : Nat} {W w : World} {vs : Array Value} {xs : List UInt8} (b : Bool) (h : TB B Bo W vs xs w) (hlen : xs.length ≤ 2000000000) :
    Calls Tryd.prog 64 #[.bool b, .pointer (some ⟨Bo, 0, none⟩)] w fun e w' => e = .returned (.tuple #[]) ∧ TB B Bo W vs (xs ++ flagT b) w' ∧ (∀ Bm ms, MB Bm ms w → MB Bm ms w') :=
  (flag_any B Bo W xs b w h.ti hlen).mono fun e w' ⟨h1, h2, h3⟩ => ⟨h1, h.of h2 h3, fun _ _ hm => MB.of h hm h3⟩

theorem write_tb {B Bo : Nat} {W w : World} {vs : Array Value} {xs : List UInt8} (n : Int) (h : TB B Bo W vs xs w) (hlen : xs.length ≤ 2000000000) (hn : inI64 n = true)
    (htab : Lib.TabBelow Tryd.prog B W "internal/strconv.uint64pow10" .u64 Lib.pow10Tab) :
    Calls Tryd.prog 62 #[.int .i64 n, .pointer (some ⟨Bo, 0, none⟩)] w fun e w' => e = .returned (.tuple #[]) ∧ TB B Bo W vs (xs ++ numT n) w' ∧ (∀ Bm ms, MB Bm ms w → MB Bm ms w') := by
  simp only [inI64, Bool.and_eq_true, decide_eq_true_eq] at hn
  exact (write_any B Bo W xs n w h.ti hlen hn.1 hn.2 htab).mono fun e w' ⟨h1, h2, h3⟩ => ⟨h1, h.of h2 h3, fun _ _ hm => MB.of h hm h3⟩

theorem TB.cell {B Bo : Nat} {W w : World} {vs : Array Value} {xs : List UInt8} (h : TB B Bo W vs xs w) (j : Nat) : w.cell? ⟨B, j, none⟩ = vs[j]? := by
  have := h.box
  simp [World.cell?, this]
theorem MB.cell {Bm : Nat} {w : World} {vs : Array Value} (h : MB Bm vs w) (j : Nat) : w.cell? ⟨Bm, j, none⟩ = vs[j]? := by
  unfold MB at h
  simp [World.cell?, h]

section
variable {B Bo Bm : Nat} {W w : World} {a b c d e : Value} {xs : List UInt8}
theorem TB.c0 (h : TB B Bo W #[a, b, c, d, e] xs w) : w.cell? ⟨B, 0, none⟩ = some a := h.cell 0
theorem TB.c1 (h : TB B Bo W #[a, b, c, d, e] xs w) : w.cell? ⟨B, 1, none⟩ = some b := h.cell 1
theorem TB.c2 (h : TB B Bo W #[a, b, c, d, e] xs w) : w.cell? ⟨B, 2, none⟩ = some c := h.cell 2
theorem TB.c3 (h : TB B Bo W #[a, b, c, d, e] xs w) : w.cell? ⟨B, 3, none⟩ = some d := h.cell 3
theorem TB.c4 (h : TB B Bo W #[a, b, c, d, e] xs w) : w.cell? ⟨B, 4, none⟩ = some e := h.cell 4
theorem MB.c0 (h : MB Bm #[a, b, c, d, e] w) : w.cell? ⟨Bm, 0, none⟩ = some a := h.cell 0
theorem MB.c1 (h : MB Bm #[a, b, c, d, e] w) : w.cell? ⟨Bm, 1, none⟩ = some b := h.cell 1
theorem MB.c2 (h : MB Bm #[a, b, c, d, e] w) : w.cell? ⟨Bm, 2, none⟩ = some c := h.cell 2
theorem MB.c3 (h : MB Bm #[a, b, c, d, e] w) : w.cell? ⟨Bm, 3, none⟩ = some d := h.cell 3
theorem MB.c4 (h : MB Bm #[a, b, c, d, e] w) : w.cell? ⟨Bm, 4, none⟩ = some e := h.cell 4
end

def t1 (p : PosT) : List UInt8 := flagT p.own ++ numT p.state.day
def t2 (p : PosT) (k : Nat) : List UInt8 := t1 p ++ (p.state.holders.take k).flatMap numT
def t3 (p : PosT) (k : Nat) : List UInt8 := t1 p ++ p.state.holders.flatMap numT ++ (p.state.used.take k).flatMap flagT
def t4 (p : PosT) (k : Nat) : List UInt8 := t1 p ++ p.state.holders.flatMap numT ++ p.state.used.flatMap flagT ++ (p.state.marks.take k).flatMap markT

theorem flen {α : Type} (f : α → List UInt8) (l : List α) (k : Nat) : ((l.take k).flatMap f).length ≤ (l.flatMap f).length := by
  conv => rhs; rw [← List.take_append_drop k l]
  rw [List.flatMap_append, List.length_append]
  omega
theorem fsucc {α : Type} (f : α → List UInt8) (l : List α) (k : Nat) (h : k < l.length) : (l.take (k + 1)).flatMap f = (l.take k).flatMap f ++ f l[k] := by
  rw [List.take_succ_eq_append_getElem h, List.flatMap_append]; simp
theorem t2_len (p : PosT) (k : Nat) : (t2 p k).length ≤ (textL p).length := by
  have := flen numT p.state.holders k
  simp only [t2, t1, textL, List.length_append]; omega
theorem t3_len (p : PosT) (k : Nat) : (t3 p k).length ≤ (textL p).length := by
  have := flen flagT p.state.used k
  simp only [t3, t1, textL, List.length_append]; omega
theorem t4_len (p : PosT) (k : Nat) : (t4 p k).length ≤ (textL p).length := by
  have := flen markT p.state.marks k
  simp only [t4, t1, textL, List.length_append]; omega
theorem flenC {α : Type} (f : α → List UInt8) (l : List α) (h : ∀ a, 1 ≤ (f a).length) : l.length ≤ (l.flatMap f).length := by
  induction l with
  | nil => simp
  | cons a l ih => have := h a; simp only [List.flatMap_cons, List.length_append, List.length_cons]; omega
theorem marks_len (p : PosT) : p.state.marks.length ≤ (textL p).length := by
  have := flenC markT p.state.marks (fun a => by simp only [markT, flagT, List.length_append, List.length_cons]; omega)
  simp only [textL, List.length_append]; omega
theorem used_len (p : PosT) : p.state.used.length ≤ (textL p).length := by
  have := flenC flagT p.state.used (fun a => by simp [flagT])
  simp only [textL, List.length_append]; omega
theorem holders_len (p : PosT) : p.state.holders.length ≤ (textL p).length := by
  have := flenC numT p.state.holders (fun a => by simp [numT])
  simp only [textL, List.length_append]; omega

set_option maxHeartbeats 6400000 in
set_option maxRecDepth 1000000 in
theorem text_any (p : PosT) (W : World) (ah au am : Option Addr) (ch cu cm : Nat) (hok : okP p = true)
    (htab : Lib.TabBelow Tryd.prog W.heap.size W "internal/strconv.uint64pow10" .u64 Lib.pow10Tab)
    (hh : ∀ k (hk : k < p.state.holders.length), ∃ b off, ah = some ⟨b, off, none⟩ ∧ b < W.heap.size ∧ W.cell? ⟨b, off + k, none⟩ = some (.int .i64 p.state.holders[k]))
    (hu : ∀ k (hk : k < p.state.used.length), ∃ b off, au = some ⟨b, off, none⟩ ∧ b < W.heap.size ∧ W.cell? ⟨b, off + k, none⟩ = some (.bool p.state.used[k]))
    (hm : ∀ k (hk : k < p.state.marks.length), ∃ b off, am = some ⟨b, off, none⟩ ∧ b < W.heap.size ∧ W.cell? ⟨b, off + k * 5, none⟩ = some (.int .i64 p.state.marks[k].status) ∧ W.cell? ⟨b, off + k * 5 + 1, none⟩ = some (.int .i64 p.state.marks[k].left) ∧
      W.cell? ⟨b, off + k * 5 + 2, none⟩ = some (.int .i64 p.state.marks[k].got) ∧ W.cell? ⟨b, off + k * 5 + 3, none⟩ = some (.int .i64 p.state.marks[k].bearer) ∧ W.cell? ⟨b, off + k * 5 + 4, none⟩ = some (.bool p.state.marks[k].paused)) :
    Calls Tryd.prog 43 #[.agg #[.int .i64 p.state.day, .slice ah p.state.holders.length ch, .slice au p.state.used.length cu, .slice am p.state.marks.length cm, .bool p.own]] W
      fun e w' => e = .returned (.string ⟨(textL p).toArray⟩) ∧ Below W.heap.size W w' := by
  have hmf : ∀ (fn : Fn) (first cap : Array Value) (w : World), (Instr.makeFunc fn first cap).run Tryd.prog w = .ok (.func fn first cap) w := fun _ _ _ _ => rfl
  obtain ⟨i0, hi, hz0, hz1, hz2⟩ := info_parts infoByte
  simp only [okP, Bool.and_eq_true, decide_eq_true_eq, List.all_eq_true] at hok
  obtain ⟨⟨⟨hd, hhs⟩, hms⟩, hlen⟩ := hok
  have hml := marks_len p
  have hul := used_len p
  have hhl := holders_len p
  go_enter Tryd.func43, Tryd.ntmps43
  go_wp2_with (at_make; refine wpList_make_own _ rfl _ _ 59 rfl W.heap.size 5 i0 (.int .u8 0) 1 Tryd.underlying59 hi hz0 hz1 .i64 .i64 (32 + 12 * (p.state.marks.length : Int)) (32 + 12 * p.state.marks.length) rfl rfl (by omega) (by rw [hz2]; omega) (by unfold maxLen; omega) (by simp) ?_; intro w1 hown hgrow; refine Hid.out ?_)
  refine Lib.hid ?_
  have hbx : w1.heap[W.heap.size]? = some (.cells #[.int .i64 p.state.day, .slice ah p.state.holders.length ch, .slice au p.state.used.length cu, .slice am p.state.marks.length cm, .bool p.own] 45 (0, 0)) := by
    rw [hgrow.block W.heap.size (by simp) (by simp)]
    exact heap_alloc_new W _
  have hw1 : W.heap.size + 1 ≤ w1.heap.size := by have := hgrow.size; simpa using this
  have hbw : Below W.heap.size W w1 := ((Below.refl _ _).alloc (Nat.le_refl _) _).grown hgrow (by simp) (fun k hk => by cases hk)
  clear hgrow
  have hT0 : TB W.heap.size w1.heap.size W #[.int .i64 p.state.day, .slice ah p.state.holders.length ch, .slice au p.state.used.length cu, .slice am p.state.marks.length cm, .bool p.own] []
      (w1.alloc (.cells #[.slice (some ⟨W.heap.size + 1, 0, none⟩) 0 (32 + 12 * p.state.marks.length)] 59)) := by
    refine ⟨⟨hbw.alloc (by omega) _, by omega, _, heap_alloc_new _ _, ?_⟩, by omega, (Below.heap_alloc _ _ _ (by omega)).trans hbx⟩
    have := hown.alloc (.cells #[.slice (some ⟨W.heap.size + 1, 0, none⟩) 0 (32 + 12 * p.state.marks.length)] 59)
    simpa [Lib.byteCells] using this
  have c0 := hT0.c4
  have hl1 : (flagT p.own).length ≤ 2000000000 := by simp [flagT]
  have hl2 : (t1 p).length ≤ 2000000000 := by have := t2_len p 0; simp [t2] at this; omega
  clear hown hbx
  go_wp2_with (first
    | (go_at_call 64; refine (flag_tb p.own hT0 (by simp)).mono ?_; rintro e w2 ⟨rfl, h2, _⟩; have c2 := h2.c0)
    | (go_at_call 62; refine (write_tb p.state.day h2 (by simpa using hl1) hd htab).mono ?_; rintro e w3 ⟨rfl, h3, _⟩; have c3 := h3.c1))
  have hT3 : TB W.heap.size w1.heap.size W #[.int .i64 p.state.day, .slice ah p.state.holders.length ch, .slice au p.state.used.length cu, .slice am p.state.marks.length cm, .bool p.own] (t2 p 0) w3 := by simpa [t2, t1] using h3
  clear h3 h2 hT0 c0 c2 c3
  go_loopw [34] (fun i wr => ∃ k : Nat, k ≤ p.state.holders.length ∧ i = .int .i64 k ∧ TB W.heap.size w1.heap.size W #[.int .i64 p.state.day, .slice ah p.state.holders.length ch, .slice au p.state.used.length cu, .slice am p.state.marks.length cm, .bool p.own] (t2 p k) wr)
    (fun i _ => p.state.holders.length - (intOf i).toNat)
  case atStart => exact ⟨0, Nat.zero_le _, rfl, hT3⟩
  case round =>
    obtain ⟨k, hk, rfl, hTr⟩ := hrel
    clear hT3
    have hlk := t2_len p k
    by_cases hkl : k < p.state.holders.length
    · obtain ⟨b, off, rfl, hbB, hcc⟩ := hh k hkl
      have hck : wr.cell? ⟨b, off + k, none⟩ = some (.int .i64 p.state.holders[k]) := (hTr.ti.below.cell (by exact hbB)).trans hcc
      have hin := hhs _ (List.getElem_mem hkl)
      go_wp2_with (go_at_call 62; refine (write_tb p.state.holders[k] hTr (by omega) hin htab).mono ?_; rintro e w4 ⟨rfl, h4, _⟩)
      go_roundw
      case rel => exact ⟨k + 1, by omega, by go_num, by simpa [t2, fsucc _ _ _ hkl] using h4⟩
      case measure => simp [intOf]; omega
    · have c2 := hTr.c2
      go_wp2
      obtain rfl : k = p.state.holders.length := by omega
      have hT3 : TB W.heap.size w1.heap.size W #[.int .i64 p.state.day, .slice ah p.state.holders.length ch, .slice au p.state.used.length cu, .slice am p.state.marks.length cm, .bool p.own] (t3 p 0) wr := by simpa [t2, t3] using hTr
      clear hTr c2 hlk
      obtain ⟨wo, rfl⟩ : ∃ wo : World, wo = wr := ⟨_, rfl⟩
      go_loopw [46] (fun i wr => ∃ k : Nat, k ≤ p.state.used.length ∧ i = .int .i64 k ∧ TB W.heap.size w1.heap.size W #[.int .i64 p.state.day, .slice ah p.state.holders.length ch, .slice au p.state.used.length cu, .slice am p.state.marks.length cm, .bool p.own] (t3 p k) wr)
        (fun i _ => p.state.used.length - (intOf i).toNat)
      case atStart => exact ⟨0, Nat.zero_le _, rfl, hT3⟩
      case round =>
        obtain ⟨k, hk, rfl, hTr⟩ := hrel
        clear hT3
        have hlk := t3_len p k
        by_cases hkl : k < p.state.used.length
        · obtain ⟨b, off, rfl, hbB, hcc⟩ := hu k hkl
          have hck : wr.cell? ⟨b, off + k, none⟩ = some (.bool p.state.used[k]) := (hTr.ti.below.cell (by exact hbB)).trans hcc
          go_wp2_with (go_at_call 64; refine (flag_tb p.state.used[k] hTr (by omega)).mono ?_; rintro e w4 ⟨rfl, h4, _⟩)
          go_roundw
          case rel => exact ⟨k + 1, by omega, by go_num, by simpa [t3, fsucc _ _ _ hkl] using h4⟩
          case measure => simp [intOf]; omega
        · have c2 := hTr.c3
          go_wp2
          obtain rfl : k = p.state.used.length := by omega
          have hT3 : TB W.heap.size w1.heap.size W #[.int .i64 p.state.day, .slice ah p.state.holders.length ch, .slice au p.state.used.length cu, .slice am p.state.marks.length cm, .bool p.own] (t4 p 0) wr := by simpa [t3, t4] using hTr
          clear hTr c2 hlk
          obtain ⟨wo2, rfl⟩ : ∃ wo : World, wo = wr := ⟨_, rfl⟩
          go_loopw [58] (fun i wr => ∃ k : Nat, k ≤ p.state.marks.length ∧ i = .int .i64 k ∧ TB W.heap.size w1.heap.size W #[.int .i64 p.state.day, .slice ah p.state.holders.length ch, .slice au p.state.used.length cu, .slice am p.state.marks.length cm, .bool p.own] (t4 p k) wr)
            (fun i _ => p.state.marks.length - (intOf i).toNat)
          case atStart => exact ⟨0, Nat.zero_le _, rfl, hT3⟩
          case round =>
            obtain ⟨k, hk, rfl, hTr⟩ := hrel
            clear hT3
            have hlk := t4_len p k
            by_cases hkl : k < p.state.marks.length
            · obtain ⟨b, off, rfl, hbB, hc0, hc1, hc2, hc3, hc4⟩ := hm k hkl
              have hin := hms _ (List.getElem_mem hkl)
              have hsucc : t4 p (k + 1) = t4 p k ++ markT p.state.marks[k] := by simp [t4, fsucc _ _ _ hkl]
              obtain ⟨m, hmk⟩ : ∃ m, m = p.state.marks[k] := ⟨_, rfl⟩
              rw [← hmk] at hc0 hc1 hc2 hc3 hc4 hin hsucc
              clear hmk
              have hd0 := (hTr.ti.below.cell (p := ⟨b, off + k * 5, none⟩) (by exact hbB)).trans hc0
              have hd1 := (hTr.ti.below.cell (p := ⟨b, off + k * 5 + 1, none⟩) (by exact hbB)).trans hc1
              have hd2 := (hTr.ti.below.cell (p := ⟨b, off + k * 5 + 2, none⟩) (by exact hbB)).trans hc2
              have hd3 := (hTr.ti.below.cell (p := ⟨b, off + k * 5 + 3, none⟩) (by exact hbB)).trans hc3
              have hd4 := (hTr.ti.below.cell (p := ⟨b, off + k * 5 + 4, none⟩) (by exact hbB)).trans hc4
              clear hc0 hc1 hc2 hc3 hc4
              have hA1 : TB W.heap.size w1.heap.size W #[.int .i64 p.state.day, .slice ah p.state.holders.length ch, .slice au p.state.used.length cu, .slice (some ⟨b, off, none⟩) p.state.marks.length cm, .bool p.own] (t4 p k) (wr.alloc (.cells #[.int .i64 m.status, .int .i64 m.left, .int .i64 m.got, .int .i64 m.bearer, .bool m.paused] 103)) :=
                hTr.of ⟨hTr.ti.below.alloc (by have := hTr.ti.below.size; omega) _, hTr.ti.lt, by obtain ⟨v, hv, ho⟩ := hTr.ti.own; exact ⟨v, (Below.heap_alloc _ _ _ (lt_of_block hv)).trans hv, ho.alloc _⟩⟩ ((Lib.OthersKept.refl _ _ _).alloc _)
              have hM1 : MB wr.heap.size #[.int .i64 m.status, .int .i64 m.left, .int .i64 m.got, .int .i64 m.bearer, .bool m.paused] (wr.alloc (.cells #[.int .i64 m.status, .int .i64 m.left, .int .i64 m.got, .int .i64 m.bearer, .bool m.paused] 103)) := heap_alloc_new _ _
              have e1 := hM1.c0
              have l1 : (t4 p k ++ numT m.status).length ≤ 2000000000 ∧ (t4 p k ++ numT m.status ++ numT m.left).length ≤ 2000000000 ∧ (t4 p k ++ numT m.status ++ numT m.left ++ numT m.got).length ≤ 2000000000 ∧
                  (t4 p k ++ numT m.status ++ numT m.left ++ numT m.got ++ numT m.bearer).length ≤ 2000000000 := by
                have := t4_len p (k + 1)
                rw [hsucc] at this
                simp only [markT, List.length_append] at this ⊢
                omega
              have l0 : (t4 p k).length ≤ 2000000000 := by omega
              have HL := Lib.hid l1
              have HS := Lib.hid hsucc
              clear l1 hTr hsucc
              go_wp2_with (go_at_call 62; refine (write_tb m.status hA1 l0 hin.1.1.1 htab).mono ?_; rintro e w5 ⟨rfl, h5, k5⟩; have m5 := k5 _ _ hM1; have e5 := m5.c1; refine Hid.out ?_)
              refine Lib.hid ?_
              clear hd0 hd1 hd2 hd3 hd4 e1 hA1 hM1 k5
              go_wp2_with (go_at_call 62; refine (write_tb m.left h5 HL.out.1 hin.1.1.2 htab).mono ?_; rintro e w6 ⟨rfl, h6, k6⟩; have m6 := k6 _ _ m5; have e6 := m6.c2; refine Hid.out ?_)
              refine Lib.hid ?_
              clear e5 h5 m5 k6
              go_wp2_with (go_at_call 62; refine (write_tb m.got h6 HL.out.2.1 hin.1.2 htab).mono ?_; rintro e w7 ⟨rfl, h7, k7⟩; have m7 := k7 _ _ m6; have e7 := m7.c3; refine Hid.out ?_)
              refine Lib.hid ?_
              clear e6 h6 m6 k7
              go_wp2_with (go_at_call 62; refine (write_tb m.bearer h7 HL.out.2.2.1 hin.2 htab).mono ?_; rintro e w8 ⟨rfl, h8, k8⟩; have m8 := k8 _ _ m7; have e8 := m8.c4; refine Hid.out ?_)
              refine Lib.hid ?_
              clear e7 h7 m7 k8
              go_wp2_with (go_at_call 64; refine (flag_tb m.paused h8 HL.out.2.2.2).mono ?_; rintro e w9 ⟨rfl, h9, -⟩)
              go_roundw
              case rel => exact ⟨k + 1, by omega, by go_num, by rw [HS.out]; simpa [markT] using h9⟩
              case measure => simp [intOf]; omega
            · obtain rfl : k = p.state.marks.length := by omega
              have hT : TB W.heap.size w1.heap.size W #[.int .i64 p.state.day, .slice ah p.state.holders.length ch, .slice au p.state.used.length cu, .slice am p.state.marks.length cm, .bool p.own] (textL p) wr := by simpa [t4, textL, t1] using hTr
              obtain ⟨⟨hbe, hlt, v, hv, hown⟩, hbo, hbx⟩ := hT
              have hpos : 0 < (textL p).length := by simp [textL, flagT]
              rcases hown.2 with ⟨-, h0⟩ | ⟨g, cap, cur, rfl, -, -, -, -, -, -⟩
              · omega
              · have cW := cell_of_one hv
                have hcv := run_convert_bytes_back (P := Tryd.prog) wr 59 9 5 ⟨g, 0, none⟩ cap (textL p) Tryd.underlying59 Tryd.underlying5 Tryd.underlying9 (fun j hj => hown.cells (g := g) rfl j _ (by simp [Lib.byteCells, hj]))
                go_wp2
                go_ret
                exact ⟨rfl, hbe⟩

theorem RI.rows_view {α : Type} {Z : Nat → Nat} {w : World} {f : α → List IV} {l : List α} {v : Value} (sz : Nat) (hf : ∀ a, (f a).length = sz) (h0 : 0 < sz) (hz : ∀ b, 0 < Z b → b < w.heap.size) (h : RI Z w (.slice (l.map f)) v) :
    ∃ a cap, v = .slice a l.length cap ∧ ∀ k (hk : k < l.length), ∃ b off, a = some ⟨b, off, none⟩ ∧ b < w.heap.size ∧ ∀ j c, (f l[k])[j]? = some c → ∃ cv, w.cell? ⟨b, off + k * sz + j, none⟩ = some cv ∧ RI Z w c cv := by
  generalize hx : IV.slice (l.map f) = x at h
  cases h with
  | bool b => cases hx
  | int k n => cases hx
  | str s => cases hx
  | agg cs vs hl h1 hr => cases hx
  | tuple cs vs hl hr => cases hx
  | nil =>
    have : l = [] := by simpa using hx
    subst this
    exact ⟨none, 0, rfl, fun k hk => by simp at hk⟩
  | empty a cap =>
    have : l = [] := by simpa using hx
    subst this
    exact ⟨some a, cap, rfl, fun k hk => by simp at hk⟩
  | slice rows b off cap sz' cv hcap hsz hz' hc hr =>
    obtain rfl : l.map f = rows := by injection hx
    refine ⟨some ⟨b, off, none⟩, cap, by simp, fun k hk => ⟨b, off, rfl, ?_, fun j c hj => ?_⟩⟩
    · have hrow : (l.map f)[k]? = some (f l[k]) := by simp [hk]
      have hne : 0 < (f l[k]).length := by rw [hf]; exact h0
      have := hz' k _ 0 _ hrow (List.getElem?_eq_getElem hne)
      exact hz b (by omega)
    · have hrow : (l.map f)[k]? = some (f l[k]) := by simp [hk]
      have h1 := hsz k _ hrow
      rw [hf] at h1
      subst h1
      exact ⟨_, (hc k _ j c hrow hj).1, hr k _ j c hrow hj⟩

theorem RI.int_inv {Z : Nat → Nat} {w : World} {k : IntKind} {n : Int} {v : Value} (h : RI Z w (.int k n) v) : v = .int k n := by cases h; rfl
theorem RI.bool_inv {Z : Nat → Nat} {w : World} {b : Bool} {v : Value} (h : RI Z w (.bool b) v) : v = .bool b := by cases h; rfl

theorem t_text (p : PosT) (res : ByteArray) (hd : d_text p = some res) : APure C0 81 [.agg (PosT.row p)] (.str res) := by
  refine ⟨⟨Tryd.f43, by kernel_rfl, by kernel_rfl, by kernel_rfl⟩, fun Z w vs hz hfix hr => ?_⟩
  unfold d_text at hd
  split at hd
  · rename_i hok
    cases hd
    obtain ⟨hl, hr⟩ := hr
    match vs, hl with
    | [v], _ =>
      have h0 := hr 0 _ _ rfl rfl
      generalize hx : IV.agg (PosT.row p) = x at h0
      cases h0 with
      | bool b => cases hx
      | int k n => cases hx
      | str s => cases hx
      | nil => cases hx
      | empty a cap => cases hx
      | slice rows b off cap sz' cv hcap hsz hz' hc hr => cases hx
      | tuple cs vs hl hr => cases hx
      | agg cs vs hl h1 hr2 =>
        obtain rfl : PosT.row p = cs := by injection hx
        match vs, hl with
        | [a, b, c, d, e], _ =>
          have r0 := RI.int_inv (hr2 0 _ _ rfl rfl)
          have r4 := RI.bool_inv (hr2 4 _ _ rfl rfl)
          obtain ⟨ah, ch, rfl, vh⟩ := RI.rows_view 1 (fun _ => rfl) (by omega) hz (hr2 1 _ _ rfl rfl)
          obtain ⟨au, cu, rfl, vu⟩ := RI.rows_view 1 (fun _ => rfl) (by omega) hz (hr2 2 _ _ rfl rfl)
          obtain ⟨am, cm, rfl, vm⟩ := RI.rows_view 5 (fun _ => rfl) (by omega) hz (hr2 3 _ _ rfl rfl)
          subst r0 r4
          refine (text_any p w ah au am ch cu cm hok (Lib.tabBelow_of_tabIs hfix.1) (fun k hk => ?_) (fun k hk => ?_) (fun k hk => ?_)).mono fun e w' ⟨he, hb⟩ => ⟨_, Z, he, .str _, fun _ _ => rfl, fun b hb' => Nat.lt_of_lt_of_le (hz b hb') hb.size, hb⟩
          · obtain ⟨b, off, h1, h2, h3⟩ := vh k hk
            obtain ⟨cv, h4, h5⟩ := h3 0 _ rfl
            rw [RI.int_inv h5] at h4
            exact ⟨b, off, h1, h2, by simpa using h4⟩
          · obtain ⟨b, off, h1, h2, h3⟩ := vu k hk
            obtain ⟨cv, h4, h5⟩ := h3 0 _ rfl
            rw [RI.bool_inv h5] at h4
            exact ⟨b, off, h1, h2, by simpa using h4⟩
          · obtain ⟨b, off, h1, h2, h3⟩ := vm k hk
            obtain ⟨c0, g0, q0⟩ := h3 0 _ rfl
            obtain ⟨c1, g1, q1⟩ := h3 1 _ rfl
            obtain ⟨c2, g2, q2⟩ := h3 2 _ rfl
            obtain ⟨c3, g3, q3⟩ := h3 3 _ rfl
            obtain ⟨c4, g4, q4⟩ := h3 4 _ rfl
            rw [RI.int_inv q0] at g0
            rw [RI.int_inv q1] at g1
            rw [RI.int_inv q2] at g2
            rw [RI.int_inv q3] at g3
            rw [RI.bool_inv q4] at g4
            exact ⟨b, off, h1, h2, by simpa using g0, g1, g2, g3, g4⟩
  · cases hd

end Go.Proofs.YtieofodomlodhaaDoor
namespace Go.Proofs.YtieofodomlodhaaDoor
open Go.RowKit
set_option linter.unusedVariables false
set_option linter.unusedSimpArgs false
set_option maxRecDepth 100000

noncomputable def d_held (c : ContractT) : Option Bool :=
  (Option.bind (forR (σ := Unit) (ρ := Unit) (c.holders.length : Int) (fun i1 s1 => (Option.bind (α := Unit ⊕ Unit) (Option.bind (forR (σ := Unit) (ρ := Unit) c.parties (fun i2 s2 => (Option.bind (idxI c.holders (i1 : Int)) fun e1 => (bif (e1 == (i2 : Int)) then some (.inr ()) else some (.inl ())))) ()) (Sum.elim (fun (s2 : Unit) => some (.inr ())) (fun (y1 : Unit) => some (.inl ())))) (Sum.elim (fun (v1 : Unit) => some (.inl ())) (fun (y2 : Unit) => some (.inr ()))))) ()) (Sum.elim (fun (s1 : Unit) => some true) (fun (y3 : Unit) => some false)))
noncomputable def p_held (c : ContractT) : Plan Bool :=
  .reg 1 (.ln 28 rowI c.holders (.use 2 28 (.forR (σ := Unit) (ρ := Unit) 20 8 (c.holders.length : Int) () (.e [1, 7] (fun _ => []) [0] 6) (fun i1 s1 => .sel 20 (.cutO (β := Unit) (γ := Unit) 1 (.e [1, 7, 8] (fun _ => []) [0] 12) (.forR (σ := Unit) (ρ := Unit) 22 13 c.parties () (.e [1, 7, 8, 3, 12] (fun _ => []) [0] 12) (fun i2 s2 => .sel 22 (.reg 1 (.ix 26 rowI c.holders (i1 : Int) fun e1 => .use 3 26 (.ite 24 (e1 == (i2 : Int)) (.sel 24 (.ret (.inr ()))) (.sel 24 (.ret (.inl ()))))))) fun os2 => .case os2 (fun s2 => .sel 22 (.ret (.inr ()))) fun y1 => .ret (.inl ())) fun o_v1 => .case o_v1 (fun v1 => .ret (.inl ())) fun y2 => .ret (.inr ()))) fun os1 => .case os1 (fun s1 => .sel 20 (.ret true)) fun y3 => .ret false)))
theorem t_held (c : ContractT) (res : Bool) (hd : d_held c = some res) : APure C0 40 [.agg (ContractT.row c)] (.bool res) :=
  Plan.pure (iv := fun res => .bool res) (p_held c) (by kernel_rfl) (Plan.run_of hd (by kernel_rfl))

noncomputable def d_magnitude (n : Int) : Option Int :=
  (bif decide (n < 0) then some (IntKind.u64.wrap ((IntKind.u64.wrap (IntKind.i64.wrap (0 - (IntKind.i64.wrap (n + 1))))) + 1)) else some (IntKind.u64.wrap n))
noncomputable def p_magnitude (n : Int) : Plan Int :=
  .ite 52 (decide (n < 0)) (.sel 52 (.ret (IntKind.u64.wrap ((IntKind.u64.wrap (IntKind.i64.wrap (0 - (IntKind.i64.wrap (n + 1))))) + 1)))) (.sel 52 (.ret (IntKind.u64.wrap n)))
theorem t_magnitude (n : Int) (res : Int) (hd : d_magnitude n = some res) : APure C0 59 [.int .i64 n] (.int .u64 res) :=
  Plan.pure (iv := fun res => .int .u64 res) (p_magnitude n) (by kernel_rfl) (Plan.run_of hd (by kernel_rfl))

noncomputable def d_divisor (l : List Int) : Option Int :=
  (Option.bind (forR (σ := Int) (ρ := Unit) (l.length : Int) (fun i1 s1 => (Option.bind (Option.bind (idxI l (i1 : Int)) fun e1 => (Option.bind (iter (σ := Int × Int) (ρ := Int) (fun s2 => (bif (s2.2 == 0) then some (.inr s2.1) else (Option.bind (remI .u64 s2.1 s2.2) fun e2 => some (.inl (s2.2, e2))))) (s1, e1)) (fun (y1 : Int) => some y1))) fun (v1 : Int) => some (.inl v1))) 0) (Sum.elim (fun (s1 : Int) => some s1) (fun _ => none)))
noncomputable def p_divisor (l : List Int) : Plan Int :=
  .reg 2 (.ln 64 (rowK .u64) l (.use 1 64 (.forR (σ := Int) (ρ := Unit) 54 8 (l.length : Int) 0 (.e [6, 7] (fun s1 => [(3, .imm (.int .u64 s1))]) [] 5) (fun i1 s1 => .sel 54 (.cut (β := Int) 1 (.e [6, 7, 8] (fun v1 => [(3, .imm (.int .u64 v1))]) [] 9) (.reg 0 (.ix 60 (rowK .u64) l (i1 : Int) fun e1 => .use 0 60 (.iter (σ := Int × Int) (ρ := Int) (s1, e1) (.e [6, 7, 8] (fun s2 => [(3, .imm (.int .u64 s2.1)), (5, .imm (.int .u64 s2.2))]) [] 9) (fun s2 => .ite 58 (s2.2 == 0) (.sel 59 (.ret (.inr s2.1))) (.sel 59 (.reg 0 (.b1 62 (remI .u64 s2.1 s2.2) (fun e2 => .v (.int .u64 e2)) (fun e2 he2 => (rem_side he2)) fun e2 => .use 3 62 (.ret (.inl (s2.2, e2))))))) fun y1 => .ret y1))) fun v1 => .ret (.inl v1))) fun os1 => .case os1 (fun s1 => .sel 54 (.ret s1)) fun _ => .none)))
theorem t_divisor (l : List Int) (res : Int) (hd : d_divisor l = some res) : APure C0 58 [.slice (List.map (rowK .u64) l)] (.int .u64 res) :=
  Plan.pure (iv := fun res => .int .u64 res) (p_divisor l) (by kernel_rfl) (Plan.run_of hd (by kernel_rfl))

noncomputable def d_ratioValid (r : Ratio) : Option Bool :=
  (Option.bind (bif decide (r.den < 1) then some true else (bif decide (1000000 < r.den) then some true else (bif decide (r.num < (-1000000000000)) then some true else some (decide (1000000000000 < r.num))))) fun v1 => (bif v1 then some false else (Option.bind (d_magnitude r.num) fun r1 => (Option.bind (d_magnitude r.den) fun r2 => (Option.bind (d_divisor [r1, r2]) fun r3 => some (r3 == 1))))))
noncomputable def p_ratioValid (r : Ratio) : Plan Bool :=
  .cut (β := Bool) 3 (.e [1] (fun v1 => [(20, vB v1)]) [0] 20) (.reg 0 (.ite 44 (decide (r.den < 1)) (.use 4 44 (.f1 68 (.g true) (rfl : true = true) (.use 9 68 (.f1 66 (.g true) (rfl : true = true) (.use 14 66 (.ret true)))))) (.ite 46 (decide (1000000 < r.den)) (.us [(4, 44), (9, 46)] (.f1 70 (.g true) (rfl : true = true) (.use 14 70 (.ret true)))) (.ite 48 (decide (r.num < (-1000000000000))) (.us [(4, 44), (9, 46), (14, 48)] (.ret true)) (.us [(4, 44), (9, 46), (14, 48)] (.ret (decide (1000000000000 < r.num)))))))) fun v1 => .ite 50 v1 (.sel 50 (.ret false)) (.sel 50 (.reg 0 (.call 72 (t_magnitude r.num) fun r1 => .call 74 (t_magnitude r.den) fun r2 => .bind (d_divisor [r1, r2]) (fun r3 => [(76, ([.w [26] [.slice (List.map (rowK .u64) [r1, r2])] (.int .u64 r3)], _))]) (fun r3 hr3 => (.c2 (t_divisor [r1, r2] r3 hr3) (snap_of [.mslice 26 0 2] [(26, .rows 1 [[.imm (.int .u64 r1)], [.imm (.int .u64 r2)]])] [.slice (List.map (rowK .u64) [r1, r2])] (by kernel_rfl)) .nil)) fun r3 => .us [(2, 72), (5, 74), (7, 76)] (.ret (r3 == 1)))))
theorem t_ratioValid (r : Ratio) (res : Bool) (hd : d_ratioValid r = some res) : APure C0 55 [.agg (Ratio.row r)] (.bool res) :=
  Plan.pure (iv := fun res => .bool res) (p_ratioValid r) (by kernel_rfl) (Plan.run_of hd (by kernel_rfl))

noncomputable def d_isIndex (t : List UnitT) (i : Int) : Option Bool :=
  (Option.bind (bif decide (0 ≤ i) then some (decide (i < (t.length : Int))) else some false) fun v1 => some v1)
noncomputable def p_isIndex (t : List UnitT) (i : Int) : Plan Bool :=
  .cut (β := Bool) 2 (.e [] (fun v1 => [(4, vB v1)]) [] 10) (.reg 0 (.ite 86 (decide (0 ≤ i)) (.use 3 86 (.ln 88 UnitT.row t (.use 5 88 (.ret (decide (i < (t.length : Int))))))) (.use 3 86 (.ret false)))) fun v1 => .ret v1
theorem t_isIndex (t : List UnitT) (i : Int) (res : Bool) (hd : d_isIndex t i = some res) : APure C0 57 [.slice (List.map UnitT.row t), .int .i64 i] (.bool res) :=
  Plan.pure (iv := fun res => .bool res) (p_isIndex t i) (by kernel_rfl) (Plan.run_of hd (by kernel_rfl))

noncomputable def d_unitValid (t : List UnitT) (i : Int) : Option Bool :=
  (Option.bind (idxI t i) fun e1 => (Option.bind (bif decide (20 ≤ i) then some true else some (e1.name.toList == (⟨#[]⟩ : ByteArray).toList)) fun v1 => (bif v1 then some false else (Option.bind (slcI t 0 i) fun e2 => (Option.bind (forR (σ := Unit) (ρ := Unit) (e2.length : Int) (fun i1 s1 => (Option.bind (idxI e2 (i1 : Int)) fun e3 => (bif (e3.name.toList == e1.name.toList) then some (.inr ()) else some (.inl ())))) ()) (Sum.elim (fun (s1 : Unit) => (Option.bind (bif (e1.kind == 1) then (Option.bind (d_ratioValid e1.factor) fun r1 => (bif r1 then some (decide (e1.factor.num ≤ 0)) else some true)) else (bif (e1.kind == 2) then (Option.bind (d_ratioValid e1.factor) fun r2 => (bif r2 then some (decide (e1.factor.num ≤ 0)) else some true)) else some true)) fun v2 => (bif v2 then some false else (Option.bind (Option.bind (d_isIndex t e1.base) fun r3 => (bif r3 then (Option.bind (idxI t e1.base) fun e4 => (bif (e4.kind == e1.kind) then some (!(e4.base == e1.base)) else some true)) else some true)) fun v3 => (bif v3 then some false else (Option.bind (bif (e1.base == i) then some ((e1.factor.num == 1) && ((e1.factor.den == 1) && true)) else some true) fun v4 => some v4)))))) (fun (y1 : Unit) => some false)))))))
noncomputable def p_unitValid (t : List UnitT) (i : Int) : Plan Bool :=
  .reg 1 (.ix 98 UnitT.row t i fun e1 => .use 2 98 (.cut (β := Bool) 2 (.e [0, 1, 5] (fun v1 => [(18, vB v1)]) [5] 14) (.reg 0 (.ite 34 (decide (20 ≤ i)) (.use 3 34 (.ret true)) (.use 3 34 (.ret (e1.name.toList == (⟨#[]⟩ : ByteArray).toList))))) fun v1 => .ite 36 v1 (.sel 36 (.ret false)) (.sel 36 (.reg 0 (.b1 100 (slcI t 0 i) (fun e2 => .s (List.map UnitT.row e2)) (fun e2 he2 => (slc_side UnitT.row 5 (fun _ => rfl) he2)) fun e2 => .use 2 100 (.ln 120 UnitT.row e2 (.use 3 120 (.forR (σ := Unit) (ρ := Unit) 38 23 (e2.length : Int) () (.e [0, 1, 5, 21, 22] (fun _ => []) [5] 19) (fun i1 s1 => .sel 38 (.reg 0 (.ix 102 UnitT.row e2 (i1 : Int) fun e3 => .use 0 102 (.ite 40 (e3.name.toList == e1.name.toList) (.sel 40 (.ret (.inr ()))) (.sel 40 (.ret (.inl ()))))))) fun os1 => .case os1 (fun s1 => .sel 38 (.cut (β := Bool) 2 (.e [0, 1, 5] (fun v2 => [(52, vB v2)]) [5] 40) (.reg 0 (.ite 42 (e1.kind == 1) (.call 104 (t_ratioValid e1.factor) fun r1 => .ite 78 r1 (.use 4 43 (.f1 106 (.g false) (rfl : false = false) (.us [(9, 106), (11, 104), (15, 79)] (.ret (decide (e1.factor.num ≤ 0)))))) (.use 4 43 (.f1 108 (.g false) (rfl : false = false) (.us [(9, 108), (11, 104), (15, 79)] (.ret true))))) (.ite 80 (e1.kind == 2) (.call 110 (t_ratioValid e1.factor) fun r2 => .ite 82 r2 (.us [(4, 43), (9, 81), (11, 110), (15, 83)] (.ret (decide (e1.factor.num ≤ 0)))) (.us [(4, 43), (9, 81), (11, 110), (15, 83)] (.ret true))) (.us [(4, 43), (9, 81)] (.f1 112 (.g true) (rfl : true = true) (.use 15 112 (.ret true))))))) fun v2 => .ite 84 v2 (.sel 84 (.ret false)) (.sel 84 (.cut (β := Bool) 2 (.e [1, 5] (fun v3 => [(79, vB v3)]) [5] 67) (.reg 0 (.call 114 (t_isIndex t e1.base) fun r3 => .ite 90 r3 (.ix 116 UnitT.row t e1.base fun e4 => .ite 92 (e4.kind == e1.kind) (.us [(3, 114), (6, 91), (9, 116), (17, 93), (20, 116)] (.ret (!(e4.base == e1.base)))) (.us [(3, 114), (6, 91), (9, 116), (17, 93)] (.ret true))) (.us [(3, 114), (6, 91)] (.f1 118 (.g true) (rfl : true = true) (.use 17 118 (.ret true)))))) fun v3 => .ite 94 v3 (.sel 94 (.ret false)) (.sel 94 (.cut (β := Bool) 1 (.e [] (fun v4 => [(4, vB v4)]) [5] 78) (.reg 0 (.ite 96 (e1.base == i) (.use 5 97 (.ret ((e1.factor.num == 1) && ((e1.factor.den == 1) && true)))) (.use 5 97 (.ret true)))) fun v4 => .ret v4)))))) fun y1 => .ret false))))))))
theorem t_unitValid (t : List UnitT) (i : Int) (res : Bool) (hd : d_unitValid t i = some res) : APure C0 54 [.slice (List.map UnitT.row t), .int .i64 i] (.bool res) :=
  Plan.pure (iv := fun res => .bool res) (p_unitValid t i) (by kernel_rfl) (Plan.run_of hd (by kernel_rfl))

noncomputable def d_quantityValid (units : List UnitT) : Option (Int × Bool) :=
  (Option.bind (forR (σ := Unit) (ρ := Int) (units.length : Int) (fun i1 s1 => (Option.bind (d_unitValid units (i1 : Int)) fun r1 => (bif r1 then some (.inl ()) else some (.inr (i1 : Int))))) ()) (Sum.elim (fun (s1 : Unit) => some ((-1), true)) (fun (y1 : Int) => some (y1, false))))
noncomputable def p_quantityValid (units : List UnitT) : Plan (Int × Bool) :=
  .reg 1 (.ln 126 UnitT.row units (.use 1 126 (.forR (σ := Unit) (ρ := Int) 32 7 (units.length : Int) () (.e [0, 6] (fun _ => []) [] 5) (fun i1 s1 => .sel 32 (.reg 1 (.call 124 (t_unitValid units (i1 : Int)) fun r1 => .use 2 124 (.ite 122 r1 (.sel 123 (.ret (.inl ()))) (.sel 123 (.ret (.inr (i1 : Int)))))))) fun os1 => .case os1 (fun s1 => .sel 32 (.ret ((-1), true))) fun y1 => .ret (y1, false))))
theorem t_quantityValid (units : List UnitT) (res : Int × Bool) (hd : d_quantityValid units = some res) : APure C0 41 [.slice (List.map UnitT.row units)] (.tuple [.int .i64 res.1, .bool res.2]) :=
  Plan.pure (iv := fun res => .tuple [.int .i64 res.1, .bool res.2]) (p_quantityValid units) (by kernel_rfl) (Plan.run_of hd (by kernel_rfl))

noncomputable def d_movable (c : ContractT) (role : Int) : Option Bool :=
  (Option.bind (bif decide (0 ≤ role) then some (decide (role < (c.holders.length : Int))) else some false) fun v1 => some v1)
noncomputable def p_movable (c : ContractT) (role : Int) : Plan Bool :=
  .cut (β := Bool) 2 (.e [] (fun v1 => [(4, vB v1)]) [0] 12) (.reg 0 (.ite 132 (decide (0 ≤ role)) (.use 3 132 (.ln 134 rowI c.holders (.use 6 134 (.ret (decide (role < (c.holders.length : Int))))))) (.use 3 132 (.ret false)))) fun v1 => .ret v1
theorem t_movable (c : ContractT) (role : Int) (res : Bool) (hd : d_movable c role = some res) : APure C0 47 [.agg (ContractT.row c), .int .i64 role] (.bool res) :=
  Plan.pure (iv := fun res => .bool res) (p_movable c role) (by kernel_rfl) (Plan.run_of hd (by kernel_rfl))

noncomputable def d_none  : Option Ratio :=
  some ({ num := 0, den := 1 } : Ratio)
noncomputable def p_none  : Plan Ratio :=
  .ret ({ num := 0, den := 1 } : Ratio)
theorem t_none  (res : Ratio) (hd : d_none  = some res) : APure C0 45 [] (.agg (Ratio.row res)) :=
  Plan.pure (iv := fun res => .agg (Ratio.row res)) (p_none ) (by kernel_rfl) (Plan.run_of hd (by kernel_rfl))

noncomputable def d_positive (r : Ratio) : Option Bool :=
  (Option.bind (bif decide (0 < r.num) then (Option.bind (d_ratioValid r) fun r1 => some r1) else some false) fun v1 => some v1)
noncomputable def p_positive (r : Ratio) : Plan Bool :=
  .cut (β := Bool) 2 (.e [] (fun v1 => [(2, vB v1)]) [0] 10) (.reg 0 (.ite 166 (decide (0 < r.num)) (.call 168 (t_ratioValid r) fun r1 => .us [(4, 166), (5, 168)] (.ret r1)) (.use 4 166 (.ret false)))) fun v1 => .ret v1
theorem t_positive (r : Ratio) (res : Bool) (hd : d_positive r = some res) : APure C0 46 [.agg (Ratio.row r)] (.bool res) :=
  Plan.pure (iv := fun res => .bool res) (p_positive r) (by kernel_rfl) (Plan.run_of hd (by kernel_rfl))

noncomputable def d_validAct (c : ContractT) (a : ActT) : Option Bool :=
  (Option.bind (d_movable c a.role) fun r1 => (bif r1 then (bif (a.kind == 1) then (Option.bind (bif (a.give == 0) then (bif (a.to == (-1)) then some false else (Option.bind (d_movable c a.to) fun r5 => some (!r5))) else some true) fun v2 => (bif v2 then some false else (bif (a.unit == (-1)) then (Option.bind (d_none) fun r6 => some ((a.lot.num == r6.num) && ((a.lot.den == r6.den) && true))) else (Option.bind (bif decide (0 ≤ a.unit) then (bif decide (a.unit < (c.units.length : Int)) then (Option.bind (d_positive a.lot) fun r7 => some r7) else some false) else some false) fun v3 => some v3)))) else (Option.bind (bif (a.kind == 2) then some (a.kind == 2) else some (a.kind == 3)) fun (v4 : Bool) => (bif v4 then (Option.bind (Option.bind (d_movable c a.give) fun r8 => (bif r8 then (bif decide (0 ≤ a.to) then (bif decide (a.to < c.parties) then (bif (a.unit == (-1)) then (Option.bind (d_none) fun r9 => some ((a.lot.num == r9.num) && ((a.lot.den == r9.den) && true))) else some false) else some false) else some false) else some false)) fun v5 => some v5) else some false))) else (Option.bind (bif (a.kind == 1) then (bif (a.role == (-1)) then (bif (a.give == 0) then (bif (a.to == (-1)) then (bif (a.unit == (-1)) then (Option.bind (d_none) fun r2 => some ((a.lot.num == r2.num) && ((a.lot.den == r2.den) && true))) else some false) else (Option.bind (d_movable c a.to) fun r3 => (bif r3 then (bif (a.unit == (-1)) then (Option.bind (d_none) fun r4 => some ((a.lot.num == r4.num) && ((a.lot.den == r4.den) && true))) else some false) else some false))) else some false) else some false) else some false) fun v1 => some v1)))
noncomputable def p_validAct (c : ContractT) (a : ActT) : Plan Bool :=
  .reg 1 (.call 182 (t_movable c a.role) fun r1 => .use 3 182 (.ite 136 r1 (.sel 137 (.ite 152 (a.kind == 1) (.sel 152 (.cut (β := Bool) 2 (.e [2, 3] (fun v2 => [(63, vB v2)]) [0, 1] 27) (.reg 0 (.ite 154 (a.give == 0) (.ite 156 (a.to == (-1)) (.us [(4, 155), (8, 157)] (.ret false)) (.call 214 (t_movable c a.to) fun r5 => .us [(4, 155), (8, 157), (11, 214)] (.ret (!r5)))) (.use 4 155 (.ret true)))) fun v2 => .ite 158 v2 (.sel 158 (.ret false)) (.sel 158 (.ite 160 (a.unit == (-1)) (.sel 160 (.reg 0 (.call 216 t_none fun r6 => .use 2 216 (.ret ((a.lot.num == r6.num) && ((a.lot.den == r6.den) && true)))))) (.sel 160 (.cut (β := Bool) 1 (.e [] (fun v3 => [(4, vB v3)]) [0, 1] 47) (.reg 0 (.ite 162 (decide (0 ≤ a.unit)) (.ite 164 (decide (a.unit < (c.units.length : Int))) (.call 218 (t_positive a.lot) fun r7 => .use 4 162 (.ln 220 UnitT.row c.units (.us [(8, 220), (12, 164), (14, 218)] (.ret r7)))) (.use 4 162 (.ln 222 UnitT.row c.units (.us [(8, 222), (12, 164)] (.ret false))))) (.use 4 162 (.f1 224 (.g false) (rfl : false = false) (.use 12 224 (.ret false)))))) fun v3 => .ret v3)))))) (.sel 152 (.cut (β := Bool) 1 (.e [2, 3] (fun v4 => [(87, vB v4)]) [0, 1] 14) (.ite 170 (a.kind == 2) (.sel 170 (.ret (a.kind == 2))) (.sel 170 (.ret (a.kind == 3)))) fun v4 => .ite 172 v4 (.sel 172 (.cut (β := Bool) 1 (.e [] (fun v5 => [(4, vB v5)]) [0, 1] 42) (.reg 0 (.call 226 (t_movable c a.give) fun r8 => .ite 174 r8 (.ite 176 (decide (0 ≤ a.to)) (.ite 178 (decide (a.to < c.parties)) (.ite 180 (a.unit == (-1)) (.call 228 t_none fun r9 => .us [(3, 226), (5, 174), (10, 176), (17, 178), (22, 180), (24, 228)] (.ret ((a.lot.num == r9.num) && ((a.lot.den == r9.den) && true)))) (.us [(3, 226), (5, 174), (10, 176), (17, 178), (22, 180)] (.ret false))) (.us [(3, 226), (5, 174), (10, 176), (17, 178)] (.f1 230 (.g false) (rfl : false = false) (.use 22 230 (.ret false))))) (.us [(3, 226), (5, 174), (10, 176)] (.f1 234 (.g false) (rfl : false = false) (.use 17 234 (.f1 232 (.g false) (rfl : false = false) (.use 22 232 (.ret false))))))) (.us [(3, 226), (5, 174)] (.f1 240 (.g false) (rfl : false = false) (.use 10 240 (.f1 238 (.g false) (rfl : false = false) (.use 17 238 (.f1 236 (.g false) (rfl : false = false) (.use 22 236 (.ret false)))))))))) fun v5 => .ret v5)) (.sel 172 (.ret false)))))) (.sel 137 (.cut (β := Bool) 1 (.e [] (fun v1 => [(4, vB v1)]) [0, 1] 44) (.reg 0 (.ite 138 (a.kind == 1) (.ite 140 (a.role == (-1)) (.ite 142 (a.give == 0) (.ite 144 (a.to == (-1)) (.ite 146 (a.unit == (-1)) (.call 184 t_none fun r2 => .us [(4, 138), (9, 140), (14, 142), (18, 144)] (.f1 186 (.g true) (rfl : true = true) (.us [(25, 186), (30, 146), (32, 184)] (.ret ((a.lot.num == r2.num) && ((a.lot.den == r2.den) && true)))))) (.us [(4, 138), (9, 140), (14, 142), (18, 144)] (.f1 188 (.g true) (rfl : true = true) (.us [(25, 188), (30, 146)] (.ret false))))) (.call 190 (t_movable c a.to) fun r3 => .ite 148 r3 (.ite 150 (a.unit == (-1)) (.call 192 t_none fun r4 => .us [(4, 138), (9, 140), (14, 142), (18, 144), (21, 190), (25, 148), (30, 150), (32, 192)] (.ret ((a.lot.num == r4.num) && ((a.lot.den == r4.den) && true)))) (.us [(4, 138), (9, 140), (14, 142), (18, 144), (21, 190), (25, 148), (30, 150)] (.ret false))) (.us [(4, 138), (9, 140), (14, 142), (18, 144), (21, 190), (25, 148)] (.f1 194 (.g false) (rfl : false = false) (.use 30 194 (.ret false)))))) (.us [(4, 138), (9, 140), (14, 142)] (.f1 198 (.g false) (rfl : false = false) (.use 25 198 (.f1 196 (.g false) (rfl : false = false) (.use 30 196 (.ret false))))))) (.us [(4, 138), (9, 140)] (.f1 204 (.g false) (rfl : false = false) (.use 14 204 (.f1 202 (.g false) (rfl : false = false) (.use 25 202 (.f1 200 (.g false) (rfl : false = false) (.use 30 200 (.ret false))))))))) (.use 4 138 (.f1 212 (.g false) (rfl : false = false) (.use 9 212 (.f1 210 (.g false) (rfl : false = false) (.use 14 210 (.f1 208 (.g false) (rfl : false = false) (.use 25 208 (.f1 206 (.g false) (rfl : false = false) (.use 30 206 (.ret false)))))))))))) fun v1 => .ret v1))))
theorem t_validAct (c : ContractT) (a : ActT) (res : Bool) (hd : d_validAct c a = some res) : APure C0 42 [.agg (ContractT.row c), .agg (ActT.row a)] (.bool res) :=
  Plan.pure (iv := fun res => .bool res) (p_validAct c a) (by kernel_rfl) (Plan.run_of hd (by kernel_rfl))

noncomputable def d_framed (c : ContractT) : Option Bool :=
  (Option.bind (bif decide (c.parties < 1) then some true else (bif decide (c.days < 1) then some true else (bif ((c.holders.length : Int) == 0) then some true else (Option.bind (d_held c) fun r1 => some (!r1))))) fun v1 => (bif v1 then some false else (Option.bind (d_quantityValid c.units) fun r2 => (bif r2.2 then (Option.bind (forR (σ := Unit) (ρ := Unit) (c.acts.length : Int) (fun i1 s1 => (Option.bind (idxI c.acts (i1 : Int)) fun e1 => (Option.bind (d_validAct c e1) fun r3 => (bif r3 then some (.inl ()) else some (.inr ()))))) ()) (Sum.elim (fun (s1 : Unit) => (Option.bind (forR (σ := Int) (ρ := Unit) (c.off.length : Int) (fun i2 s2 => (Option.bind (idxI c.off (i2 : Int)) fun e2 => (Option.bind (bif decide (e2 ≤ s2) then some true else some (decide (c.days ≤ e2))) fun v2 => (bif v2 then some (.inr ()) else some (.inl e2))))) (-1)) (Sum.elim (fun (s2 : Int) => some true) (fun (y2 : Unit) => some false)))) (fun (y1 : Unit) => some false))) else some false))))
noncomputable def p_framed (c : ContractT) : Plan Bool :=
  .cut (β := Bool) 3 (.e [1] (fun v1 => [(28, vB v1)]) [0] 21) (.reg 0 (.ite 14 (decide (c.parties < 1)) (.use 4 14 (.f1 252 (.g true) (rfl : true = true) (.use 9 252 (.f1 250 (.g true) (rfl : true = true) (.use 15 250 (.ret true)))))) (.ite 16 (decide (c.days < 1)) (.us [(4, 14), (9, 16)] (.f1 254 (.g true) (rfl : true = true) (.use 15 254 (.ret true)))) (.ite 18 ((c.holders.length : Int) == 0) (.us [(4, 14), (9, 16)] (.ln 256 rowI c.holders (.us [(11, 256), (15, 18)] (.ret true)))) (.call 258 (t_held c) fun r1 => .us [(4, 14), (9, 16)] (.ln 260 rowI c.holders (.us [(11, 260), (15, 18), (16, 258)] (.ret (!r1))))))))) fun v1 => .ite 30 v1 (.sel 30 (.ret false)) (.sel 30 (.reg 0 (.call 262 (t_quantityValid c.units) fun r2 => .use 2 262 (.ite 128 r2.2 (.sel 129 (.reg 0 (.ln 272 ActT.row c.acts (.use 2 272 (.forR (σ := Unit) (ρ := Unit) 130 40 (c.acts.length : Int) () (.e [1, 38, 39] (fun _ => []) [0] 35) (fun i1 s1 => .sel 130 (.reg 0 (.ix 264 ActT.row c.acts (i1 : Int) fun e1 => .use 0 264 (.reg 0 (.call 266 (t_validAct c e1) fun r3 => .use 2 266 (.ite 242 r3 (.sel 243 (.ret (.inl ()))) (.sel 243 (.ret (.inr ()))))))))) fun os1 => .case os1 (fun s1 => .sel 130 (.reg 1 (.ln 270 rowI c.off (.use 2 270 (.forR (σ := Int) (ρ := Unit) 244 52 (c.off.length : Int) (-1) (.e [1, 50, 51] (fun s2 => [(7, vI s2)]) [0] 41) (fun i2 s2 => .sel 244 (.reg 0 (.ix 268 rowI c.off (i2 : Int) fun e2 => .use 0 268 (.cut (β := Bool) 2 (.e [1, 50, 51, 52, 9] (fun v2 => [(64, vB v2)]) [0] 54) (.reg 0 (.ite 246 (decide (e2 ≤ s2)) (.use 4 246 (.ret true)) (.use 4 246 (.ret (decide (c.days ≤ e2)))))) fun v2 => .ite 248 v2 (.sel 248 (.ret (.inr ()))) (.sel 248 (.ret (.inl e2))))))) fun os2 => .case os2 (fun s2 => .sel 244 (.ret true)) fun y2 => .ret false))))) fun y1 => .ret false))))) (.sel 129 (.ret false))))))
theorem t_framed (c : ContractT) (res : Bool) (hd : d_framed c = some res) : APure C0 19 [.agg (ContractT.row c)] (.bool res) :=
  Plan.pure (iv := fun res => .bool res) (p_framed c) (by kernel_rfl) (Plan.run_of hd (by kernel_rfl))

noncomputable def d_natural (c : ContractT) (act : Int) : Option Bool :=
  (Option.bind (bif decide (0 ≤ act) then (bif decide (act < (c.acts.length : Int)) then (Option.bind (idxI c.acts act) fun e1 => (bif (e1.kind == 1) then some (e1.role == (-1)) else some false)) else some false) else some false) fun v1 => some v1)
noncomputable def p_natural (c : ContractT) (act : Int) : Plan Bool :=
  .cut (β := Bool) 2 (.e [] (fun v1 => [(4, vB v1)]) [0] 30) (.reg 0 (.ite 296 (decide (0 ≤ act)) (.ite 298 (decide (act < (c.acts.length : Int))) (.ix 302 ActT.row c.acts act fun e1 => .ite 300 (e1.kind == 1) (.use 3 296 (.ln 304 ActT.row c.acts (.us [(6, 304), (10, 298), (13, 302), (19, 300), (22, 302)] (.ret (e1.role == (-1)))))) (.use 3 296 (.ln 306 ActT.row c.acts (.us [(6, 306), (10, 298), (13, 302), (19, 300)] (.ret false))))) (.use 3 296 (.ln 310 ActT.row c.acts (.us [(6, 310), (10, 298)] (.f1 308 (.g false) (rfl : false = false) (.use 19 308 (.ret false))))))) (.use 3 296 (.f1 314 (.g false) (rfl : false = false) (.use 10 314 (.f1 312 (.g false) (rfl : false = false) (.use 19 312 (.ret false)))))))) fun v1 => .ret v1
theorem t_natural (c : ContractT) (act : Int) (res : Bool) (hd : d_natural c act = some res) : APure C0 44 [.agg (ContractT.row c), .int .i64 act] (.bool res) :=
  Plan.pure (iv := fun res => .bool res) (p_natural c act) (by kernel_rfl) (Plan.run_of hd (by kernel_rfl))

noncomputable def d_validKind (c : ContractT) (k : ClauseT) : Option Bool :=
  (bif (k.kind == 4) then (Option.bind (bif (k.role == (-1)) then (bif (k.need == 1) then (bif (k.grace == 0) then some (!k.final) else some false) else some false) else some false) fun v1 => some v1) else (Option.bind (Option.bind (d_movable c k.role) fun r1 => (bif r1 then (Option.bind (d_natural c k.act) fun r2 => some r2) else some true)) fun v2 => (bif v2 then some false else (bif (k.kind == 1) then (Option.bind (bif decide (1 ≤ k.need) then (bif decide (k.need ≤ 9) then (bif decide (0 ≤ k.grace) then some (decide (k.grace ≤ 400)) else some false) else some false) else some false) fun v3 => some v3) else (bif (k.kind == 2) then (Option.bind (bif (k.need == 1) then some (k.grace == 0) else some false) fun v4 => some v4) else (bif (k.kind == 3) then (Option.bind (bif (k.need == 1) then (bif (k.grace == 0) then some (!k.final) else some false) else some false) fun v5 => some v5) else some false))))))
noncomputable def p_validKind (c : ContractT) (k : ClauseT) : Plan Bool :=
  .ite 286 (k.kind == 4) (.sel 286 (.cut (β := Bool) 1 (.e [] (fun v1 => [(4, vB v1)]) [0, 1] 25) (.reg 0 (.ite 288 (k.role == (-1)) (.ite 290 (k.need == 1) (.ite 292 (k.grace == 0) (.us [(4, 288), (9, 290), (14, 292)] (.ret (!k.final))) (.us [(4, 288), (9, 290), (14, 292)] (.ret false))) (.us [(4, 288), (9, 290)] (.f1 336 (.g false) (rfl : false = false) (.use 14 336 (.ret false))))) (.use 4 288 (.f1 340 (.g false) (rfl : false = false) (.use 9 340 (.f1 338 (.g false) (rfl : false = false) (.use 14 338 (.ret false)))))))) fun v1 => .ret v1)) (.sel 286 (.cut (β := Bool) 2 (.e [3] (fun v2 => [(36, vB v2)]) [0, 1] 17) (.reg 0 (.call 342 (t_movable c k.role) fun r1 => .ite 294 r1 (.call 344 (t_natural c k.act) fun r2 => .us [(3, 342), (6, 295), (9, 344)] (.ret r2)) (.us [(3, 342), (6, 295)] (.ret true)))) fun v2 => .ite 316 v2 (.sel 316 (.ret false)) (.sel 316 (.ite 318 (k.kind == 1) (.sel 318 (.cut (β := Bool) 1 (.e [] (fun v3 => [(4, vB v3)]) [0, 1] 40) (.reg 0 (.ite 320 (decide (1 ≤ k.need)) (.ite 322 (decide (k.need ≤ 9)) (.ite 324 (decide (0 ≤ k.grace)) (.us [(4, 320), (9, 322), (14, 324)] (.ret (decide (k.grace ≤ 400)))) (.us [(4, 320), (9, 322), (14, 324)] (.ret false))) (.us [(4, 320), (9, 322)] (.f1 346 (.g false) (rfl : false = false) (.use 14 346 (.ret false))))) (.use 4 320 (.f1 350 (.g false) (rfl : false = false) (.use 9 350 (.f1 348 (.g false) (rfl : false = false) (.use 14 348 (.ret false)))))))) fun v3 => .ret v3)) (.sel 318 (.ite 326 (k.kind == 2) (.sel 326 (.cut (β := Bool) 1 (.e [] (fun v4 => [(4, vB v4)]) [0, 1] 32) (.reg 0 (.ite 328 (k.need == 1) (.use 4 328 (.ret (k.grace == 0))) (.use 4 328 (.ret false)))) fun v4 => .ret v4)) (.sel 326 (.ite 330 (k.kind == 3) (.sel 330 (.cut (β := Bool) 1 (.e [] (fun v5 => [(4, vB v5)]) [0, 1] 39) (.reg 0 (.ite 332 (k.need == 1) (.ite 334 (k.grace == 0) (.us [(4, 332), (9, 334)] (.ret (!k.final))) (.us [(4, 332), (9, 334)] (.ret false))) (.use 4 332 (.f1 352 (.g false) (rfl : false = false) (.use 9 352 (.ret false)))))) fun v5 => .ret v5)) (.sel 330 (.ret false))))))))))
theorem t_validKind (c : ContractT) (k : ClauseT) (res : Bool) (hd : d_validKind c k = some res) : APure C0 43 [.agg (ContractT.row c), .agg (ClauseT.row k)] (.bool res) :=
  Plan.pure (iv := fun res => .bool res) (p_validKind c k) (by kernel_rfl) (Plan.run_of hd (by kernel_rfl))

noncomputable def d_validClause (c : ContractT) (i : Int) : Option Bool :=
  (Option.bind (idxI c.clauses i) fun e1 => (Option.bind (bif decide (e1.act < 0) then some true else (bif decide ((c.acts.length : Int) ≤ e1.act) then some true else (bif decide (e1.after < 1) then some true else some (decide (400 < e1.after))))) fun v1 => (bif v1 then some false else (Option.bind (Option.bind (d_validKind c e1) fun r1 => (bif r1 then some (decide (8 < (e1.start.length : Int))) else some true)) fun v2 => (bif v2 then some false else (Option.bind (forR (σ := Unit) (ρ := Unit) (e1.start.length : Int) (fun i1 s1 => (Option.bind (idxI e1.start (i1 : Int)) fun e2 => (Option.bind (bif decide (e2.clause < 0) then some true else (bif decide ((c.clauses.length : Int) ≤ e2.clause) then some true else (bif (e2.clause == i) then some true else (bif decide (e2.is < 1) then some true else some (decide (4 < e2.is)))))) fun v3 => (bif v3 then some (.inr ()) else some (.inl ()))))) ()) (Sum.elim (fun (s1 : Unit) => (Option.bind (α := Unit ⊕ Unit) (Option.bind (bif (e1.pause == (-1)) then some (!(e1.resume == (-1))) else some true) fun v4 => (bif v4 then (Option.bind (bif (e1.pause == e1.resume) then some true else (Option.bind (d_natural c e1.pause) fun r2 => (bif r2 then (Option.bind (d_natural c e1.resume) fun r3 => some (!r3)) else some true))) fun v5 => (bif v5 then some (.inr ()) else some (.inl ()))) else some (.inl ()))) (Sum.elim (fun (v6 : Unit) => (bif (e1.unit == (-1)) then (Option.bind (Option.bind (d_none) fun r4 => (bif ((e1.value.num == r4.num) && ((e1.value.den == r4.den) && true)) then some (e1.to == (-1)) else some false)) fun v7 => some v7) else (Option.bind (bif (e1.kind == 1) then (bif decide (0 ≤ e1.unit) then (bif decide (e1.unit < (c.units.length : Int)) then (Option.bind (idxI c.units e1.unit) fun e3 => (bif (e3.kind == 2) then (Option.bind (d_positive e1.value) fun r5 => (bif r5 then (Option.bind (d_movable c e1.to) fun r6 => some r6) else some false)) else some false)) else some false) else some false) else (bif (e1.kind == 2) then (bif decide (0 ≤ e1.unit) then (bif decide (e1.unit < (c.units.length : Int)) then (Option.bind (idxI c.units e1.unit) fun e4 => (bif (e4.kind == 2) then (Option.bind (d_positive e1.value) fun r7 => (bif r7 then (Option.bind (d_movable c e1.to) fun r8 => some r8) else some false)) else some false)) else some false) else some false) else some false)) fun v8 => some v8))) (fun (y2 : Unit) => some false)))) (fun (y1 : Unit) => some false))))))))
noncomputable def p_validClause (c : ContractT) (i : Int) : Plan Bool :=
  .reg 1 (.ix 404 ClauseT.row c.clauses i fun e1 => .use 3 404 (.cut (β := Bool) 2 (.e [1, 2, 5] (fun v1 => [(33, vB v1)]) [0, 7] 30) (.reg 0 (.ite 278 (decide (e1.act < 0)) (.use 4 278 (.f1 408 (.g true) (rfl : true = true) (.use 12 408 (.f1 406 (.g true) (rfl : true = true) (.use 17 406 (.ret true)))))) (.ite 280 (decide ((c.acts.length : Int) ≤ e1.act)) (.use 4 278 (.ln 412 ActT.row c.acts (.us [(8, 412), (12, 280)] (.f1 410 (.g true) (rfl : true = true) (.use 17 410 (.ret true)))))) (.ite 282 (decide (e1.after < 1)) (.use 4 278 (.ln 414 ActT.row c.acts (.us [(8, 414), (12, 280), (17, 282)] (.ret true)))) (.use 4 278 (.ln 416 ActT.row c.acts (.us [(8, 416), (12, 280), (17, 282)] (.ret (decide (400 < e1.after)))))))))) fun v1 => .ite 284 v1 (.sel 284 (.ret false)) (.sel 284 (.cut (β := Bool) 2 (.e [1, 2, 5] (fun v2 => [(43, vB v2)]) [0, 7] 40) (.reg 0 (.call 418 (t_validKind c e1) fun r1 => .ite 354 r1 (.us [(2, 418), (5, 355)] (.ln 420 CondT.row e1.start (.use 7 420 (.ret (decide (8 < (e1.start.length : Int))))))) (.us [(2, 418), (5, 355)] (.ret true)))) fun v2 => .ite 356 v2 (.sel 356 (.ret false)) (.sel 356 (.reg 0 (.ln 522 CondT.row e1.start (.use 2 522 (.forR (σ := Unit) (ρ := Unit) 358 47 (e1.start.length : Int) () (.e [1, 2, 5, 45, 46] (fun _ => []) [0, 7] 44) (fun i1 s1 => .sel 358 (.reg 0 (.ix 422 CondT.row e1.start (i1 : Int) fun e2 => .use 0 422 (.cut (β := Bool) 1 (.e [1, 2, 5, 45, 46, 47] (fun v3 => [(77, vB v3)]) [0, 7, 47] 76) (.reg 0 (.ite 360 (decide (e2.clause < 0)) (.use 4 360 (.f1 428 (.g true) (rfl : true = true) (.use 12 428 (.f1 426 (.g true) (rfl : true = true) (.use 18 426 (.f1 424 (.g true) (rfl : true = true) (.use 23 424 (.ret true)))))))) (.ite 362 (decide ((c.clauses.length : Int) ≤ e2.clause)) (.use 4 360 (.ln 434 ClauseT.row c.clauses (.us [(8, 434), (12, 362)] (.f1 432 (.g true) (rfl : true = true) (.use 18 432 (.f1 430 (.g true) (rfl : true = true) (.use 23 430 (.ret true)))))))) (.ite 364 (e2.clause == i) (.use 4 360 (.ln 438 ClauseT.row c.clauses (.us [(8, 438), (12, 362), (18, 364)] (.f1 436 (.g true) (rfl : true = true) (.use 23 436 (.ret true)))))) (.ite 366 (decide (e2.is < 1)) (.use 4 360 (.ln 440 ClauseT.row c.clauses (.us [(8, 440), (12, 362), (18, 364), (23, 366)] (.ret true)))) (.use 4 360 (.ln 442 ClauseT.row c.clauses (.us [(8, 442), (12, 362), (18, 364), (23, 366)] (.ret (decide (4 < e2.is))))))))))) fun v3 => .ite 368 v3 (.sel 368 (.ret (.inr ()))) (.sel 368 (.ret (.inl ()))))))) fun os1 => .case os1 (fun s1 => .sel 358 (.cutO (β := Unit) (γ := Unit) 1 (.e [2, 5] (fun _ => []) [0, 7] 53) (.cut (β := Bool) 1 (.e [2, 5] (fun v4 => [(86, vB v4)]) [0, 7] 53) (.reg 0 (.ite 370 (e1.pause == (-1)) (.use 4 371 (.ret (!(e1.resume == (-1))))) (.use 4 371 (.ret true)))) fun v4 => .ite 372 v4 (.sel 372 (.cut (β := Bool) 1 (.e [2, 5] (fun v5 => [(105, vB v5)]) [0, 7] 72) (.reg 0 (.ite 374 (e1.pause == e1.resume) (.use 6 374 (.f1 516 (.g true) (rfl : true = true) (.use 13 516 (.ret true)))) (.call 518 (t_natural c e1.pause) fun r2 => .ite 376 r2 (.call 520 (t_natural c e1.resume) fun r3 => .us [(6, 374), (9, 518), (13, 377), (16, 520)] (.ret (!r3))) (.us [(6, 374), (9, 518), (13, 377)] (.ret true))))) fun v5 => .ite 378 v5 (.sel 378 (.ret (.inr ()))) (.sel 378 (.ret (.inl ()))))) (.sel 372 (.ret (.inl ())))) fun o_v6 => .case o_v6 (fun v6 => .ite 380 (e1.unit == (-1)) (.sel 380 (.cut (β := Bool) 1 (.e [] (fun v7 => [(4, vB v7)]) [0, 7] 66) (.reg 0 (.call 444 t_none fun r4 => .ite 382 ((e1.value.num == r4.num) && ((e1.value.den == r4.den) && true)) (.us [(2, 444), (5, 382)] (.ret (e1.to == (-1)))) (.us [(2, 444), (5, 382)] (.ret false)))) fun v7 => .ret v7)) (.sel 380 (.cut (β := Bool) 1 (.e [] (fun v8 => [(4, vB v8)]) [0, 7] 99) (.reg 0 (.ite 384 (e1.kind == 1) (.ite 386 (decide (0 ≤ e1.unit)) (.ite 388 (decide (e1.unit < (c.units.length : Int))) (.ix 446 UnitT.row c.units e1.unit fun e3 => .ite 390 (e3.kind == 2) (.call 448 (t_positive e1.value) fun r5 => .ite 392 r5 (.call 450 (t_movable c e1.to) fun r6 => .use 4 384 (.f1 454 (.g true) (rfl : true = true) (.us [(9, 454), (14, 386)] (.ln 452 UnitT.row c.units (.us [(18, 452), (22, 388), (26, 446), (32, 390), (34, 448), (37, 392), (40, 450)] (.ret r6)))))) (.use 4 384 (.f1 458 (.g true) (rfl : true = true) (.us [(9, 458), (14, 386)] (.ln 456 UnitT.row c.units (.us [(18, 456), (22, 388), (26, 446), (32, 390), (34, 448), (37, 392)] (.ret false))))))) (.use 4 384 (.f1 464 (.g true) (rfl : true = true) (.us [(9, 464), (14, 386)] (.ln 462 UnitT.row c.units (.us [(18, 462), (22, 388), (26, 446), (32, 390)] (.f1 460 (.g false) (rfl : false = false) (.use 37 460 (.ret false))))))))) (.use 4 384 (.f1 472 (.g true) (rfl : true = true) (.us [(9, 472), (14, 386)] (.ln 470 UnitT.row c.units (.us [(18, 470), (22, 388)] (.f1 468 (.g false) (rfl : false = false) (.use 32 468 (.f1 466 (.g false) (rfl : false = false) (.use 37 466 (.ret false))))))))))) (.use 4 384 (.f1 480 (.g true) (rfl : true = true) (.us [(9, 480), (14, 386)] (.f1 478 (.g false) (rfl : false = false) (.use 22 478 (.f1 476 (.g false) (rfl : false = false) (.use 32 476 (.f1 474 (.g false) (rfl : false = false) (.use 37 474 (.ret false))))))))))) (.ite 394 (e1.kind == 2) (.ite 396 (decide (0 ≤ e1.unit)) (.ite 398 (decide (e1.unit < (c.units.length : Int))) (.ix 482 UnitT.row c.units e1.unit fun e4 => .ite 400 (e4.kind == 2) (.call 484 (t_positive e1.value) fun r7 => .ite 402 r7 (.call 486 (t_movable c e1.to) fun r8 => .us [(4, 384), (9, 394), (14, 396)] (.ln 488 UnitT.row c.units (.us [(18, 488), (22, 398), (26, 482), (32, 400), (34, 484), (37, 402), (40, 486)] (.ret r8)))) (.us [(4, 384), (9, 394), (14, 396)] (.ln 490 UnitT.row c.units (.us [(18, 490), (22, 398), (26, 482), (32, 400), (34, 484), (37, 402)] (.ret false))))) (.us [(4, 384), (9, 394), (14, 396)] (.ln 494 UnitT.row c.units (.us [(18, 494), (22, 398), (26, 482), (32, 400)] (.f1 492 (.g false) (rfl : false = false) (.use 37 492 (.ret false))))))) (.us [(4, 384), (9, 394), (14, 396)] (.ln 500 UnitT.row c.units (.us [(18, 500), (22, 398)] (.f1 498 (.g false) (rfl : false = false) (.use 32 498 (.f1 496 (.g false) (rfl : false = false) (.use 37 496 (.ret false))))))))) (.us [(4, 384), (9, 394), (14, 396)] (.f1 506 (.g false) (rfl : false = false) (.use 22 506 (.f1 504 (.g false) (rfl : false = false) (.use 32 504 (.f1 502 (.g false) (rfl : false = false) (.use 37 502 (.ret false))))))))) (.us [(4, 384), (9, 394)] (.f1 514 (.g false) (rfl : false = false) (.use 14 514 (.f1 512 (.g false) (rfl : false = false) (.use 22 512 (.f1 510 (.g false) (rfl : false = false) (.use 32 510 (.f1 508 (.g false) (rfl : false = false) (.use 37 508 (.ret false))))))))))))) fun v8 => .ret v8))) fun y2 => .ret false)) fun y1 => .ret false)))))))))
theorem t_validClause (c : ContractT) (i : Int) (res : Bool) (hd : d_validClause c i = some res) : APure C0 20 [.agg (ContractT.row c), .int .i64 i] (.bool res) :=
  Plan.pure (iv := fun res => .bool res) (p_validClause c i) (by kernel_rfl) (Plan.run_of hd (by kernel_rfl))

noncomputable def d_Valid (c : ContractT) : Option (Int × Int) :=
  (Option.bind (bif decide (12 < c.parties) then some true else (bif decide (2000 < c.days) then some true else (bif decide (12 < (c.holders.length : Int)) then some true else (bif decide (20 < (c.units.length : Int)) then some true else (bif decide (60 < (c.acts.length : Int)) then some true else some (decide (400 < (c.clauses.length : Int)))))))) fun v1 => (bif v1 then some (3, (-1)) else (Option.bind (d_framed c) fun r1 => (bif r1 then (Option.bind (forR (σ := Unit) (ρ := Int) (c.clauses.length : Int) (fun i1 s1 => (Option.bind (d_validClause c (i1 : Int)) fun r2 => (bif r2 then some (.inl ()) else some (.inr (i1 : Int))))) ()) (Sum.elim (fun (s1 : Unit) => some (0, (-1))) (fun (y1 : Int) => some (1, y1)))) else some (1, (-1))))))
noncomputable def p_Valid (c : ContractT) : Plan (Int × Int) :=
  .cut (β := Bool) 3 (.e [1] (fun v1 => [(36, vB v1)]) [0] 35) (.reg 0 (.ite 2 (decide (12 < c.parties)) (.use 4 2 (.f1 532 (.g true) (rfl : true = true) (.use 9 532 (.f1 530 (.g true) (rfl : true = true) (.use 15 530 (.f1 528 (.g true) (rfl : true = true) (.use 21 528 (.f1 526 (.g true) (rfl : true = true) (.use 27 526 (.ret true)))))))))) (.ite 4 (decide (2000 < c.days)) (.us [(4, 2), (9, 4)] (.f1 538 (.g true) (rfl : true = true) (.use 15 538 (.f1 536 (.g true) (rfl : true = true) (.use 21 536 (.f1 534 (.g true) (rfl : true = true) (.use 27 534 (.ret true)))))))) (.ite 6 (decide (12 < (c.holders.length : Int))) (.us [(4, 2), (9, 4)] (.ln 544 rowI c.holders (.us [(11, 544), (15, 6)] (.f1 542 (.g true) (rfl : true = true) (.use 21 542 (.f1 540 (.g true) (rfl : true = true) (.use 27 540 (.ret true)))))))) (.ite 8 (decide (20 < (c.units.length : Int))) (.us [(4, 2), (9, 4)] (.ln 550 rowI c.holders (.us [(11, 550), (15, 6)] (.ln 548 UnitT.row c.units (.us [(17, 548), (21, 8)] (.f1 546 (.g true) (rfl : true = true) (.use 27 546 (.ret true)))))))) (.ite 10 (decide (60 < (c.acts.length : Int))) (.us [(4, 2), (9, 4)] (.ln 556 rowI c.holders (.us [(11, 556), (15, 6)] (.ln 554 UnitT.row c.units (.us [(17, 554), (21, 8)] (.ln 552 ActT.row c.acts (.us [(23, 552), (27, 10)] (.ret true)))))))) (.us [(4, 2), (9, 4)] (.ln 564 rowI c.holders (.us [(11, 564), (15, 6)] (.ln 562 UnitT.row c.units (.us [(17, 562), (21, 8)] (.ln 560 ActT.row c.acts (.us [(23, 560), (27, 10)] (.ln 558 ClauseT.row c.clauses (.use 29 558 (.ret (decide (400 < (c.clauses.length : Int))))))))))))))))))) fun v1 => .ite 12 v1 (.sel 12 (.ret (3, (-1)))) (.sel 12 (.reg 0 (.call 566 (t_framed c) fun r1 => .use 1 566 (.ite 274 r1 (.sel 275 (.reg 0 (.ln 570 ClauseT.row c.clauses (.use 2 570 (.forR (σ := Unit) (ρ := Int) 276 43 (c.clauses.length : Int) () (.e [1, 42] (fun _ => []) [0] 42) (fun i1 s1 => .sel 276 (.reg 1 (.call 568 (t_validClause c (i1 : Int)) fun r2 => .use 2 568 (.ite 524 r2 (.sel 525 (.ret (.inl ()))) (.sel 525 (.ret (.inr (i1 : Int)))))))) fun os1 => .case os1 (fun s1 => .sel 276 (.ret (0, (-1)))) fun y1 => .ret (1, y1)))))) (.sel 275 (.ret (1, (-1))))))))
theorem t_Valid (c : ContractT) (res : Int × Int) (hd : d_Valid c = some res) : APure C0 8 [.agg (ContractT.row c)] (.tuple [.int .i64 res.1, .int .i64 res.2]) :=
  Plan.pure (iv := fun res => .tuple [.int .i64 res.1, .int .i64 res.2]) (p_Valid c) (by kernel_rfl) (Plan.run_of hd (by kernel_rfl))

theorem t_clone34 {α : Type} (f : α → List IV) (hf : ∀ x, (f x).length = 1) {l e : List α} (h : cloneI 8 l = some e) : DOk C0 34 [.imm (.slice (List.map f l))] [] 0 (.mslice 7 0 e.length) [(7, .rows 1 (rowsA f e))] 8 :=
  clone_ok (zero := [.imm (.int .i64 0)]) (show compFun C0 34 = some (afClone 1 8 [.imm (.int .i64 0)]).erase by kernel_rfl) f hf h

noncomputable def d_ready (c : ContractT) (s : StateT) (i : Int) : Option Bool :=
  (Option.bind (Option.bind (idxI s.marks i) fun e1 => (bif (e1.status == 0) then (Option.bind (idxI c.clauses i) fun e2 => some e2.waived) else some true)) fun v1 => (bif v1 then some false else (Option.bind (idxI c.clauses i) fun e3 => (Option.bind (forR (σ := Unit) (ρ := Unit) (e3.start.length : Int) (fun i1 s1 => (Option.bind (idxI e3.start (i1 : Int)) fun e4 => (Option.bind (idxI s.marks e4.clause) fun e5 => (Option.bind (bif (e4.is == 1) then some (!(e5.status == 0)) else (bif (e4.is == 2) then some (e5.status == 3) else (bif (e4.is == 3) then some (e5.status == 4) else (bif (e4.is == 4) then some (e5.status == 5) else some false)))) fun (v2 : Bool) => (bif v2 then some (.inl ()) else some (.inr ())))))) ()) (Sum.elim (fun (s1 : Unit) => some true) (fun (y1 : Unit) => some false))))))
noncomputable def p_ready (c : ContractT) (s : StateT) (i : Int) : Plan Bool :=
  .cut (β := Bool) 3 (.e [2, 3, 4] (fun v1 => [(25, vB v1)]) [0, 1] 18) (.reg 0 (.ix 602 MarkT.row s.marks i fun e1 => .ite 586 (e1.status == 0) (.ix 604 ClauseT.row c.clauses i fun e2 => .us [(3, 602), (8, 587), (11, 604)] (.ret e2.waived)) (.us [(3, 602), (8, 587)] (.ret true)))) fun v1 => .ite 588 v1 (.sel 588 (.ret false)) (.sel 588 (.reg 0 (.ix 606 ClauseT.row c.clauses i fun e3 => .use 3 606 (.ln 612 CondT.row e3.start (.use 6 612 (.forR (σ := Unit) (ρ := Unit) 590 33 (e3.start.length : Int) () (.e [4, 31, 32] (fun _ => []) [1] 26) (fun i1 s1 => .sel 590 (.reg 0 (.ix 608 CondT.row e3.start (i1 : Int) fun e4 => .use 0 608 (.reg 0 (.ix 610 MarkT.row s.marks e4.clause fun e5 => .use 4 610 (.cut (β := Bool) 2 (.e [4, 31, 32, 33] (fun v2 => [(10, vB v2)]) [1] 47) (.ite 592 (e4.is == 1) (.sel 592 (.ret (!(e5.status == 0)))) (.sel 592 (.ite 594 (e4.is == 2) (.sel 594 (.ret (e5.status == 3))) (.sel 594 (.ite 596 (e4.is == 3) (.sel 596 (.ret (e5.status == 4))) (.sel 596 (.ite 598 (e4.is == 4) (.sel 598 (.ret (e5.status == 5))) (.sel 598 (.ret false))))))))) fun v2 => .ite 600 v2 (.sel 601 (.ret (.inl ()))) (.sel 601 (.ret (.inr ()))))))))) fun os1 => .case os1 (fun s1 => .sel 590 (.ret true)) fun y1 => .ret false))))))
theorem t_ready (c : ContractT) (s : StateT) (i : Int) (res : Bool) (hd : d_ready c s i = some res) : APure C0 104 [.agg (ContractT.row c), .agg (StateT.row s), .int .i64 i] (.bool res) :=
  Plan.pure (iv := fun res => .bool res) (p_ready c s i) (by kernel_rfl) (Plan.run_of hd (by kernel_rfl))

noncomputable def d_69a (p1 : ContractT) (p2 : Int) (p3 : List Int) (p4 : Nat) (p5 : List Bool) (p6 : Nat) (p7 : List MarkT) (p8 : Nat) : Option (List MarkT) :=
  (Option.bind (iter (σ := Bool × (List MarkT)) (ρ := (List MarkT)) (fun s1 => (bif s1.1 then (Option.bind (forR (σ := Bool × (List MarkT)) (ρ := Unit) (p1.clauses.length : Int) (fun i2 s2 => (Option.bind (Option.bind (idxI p1.clauses (i2 : Int)) fun e1 => (Option.bind (eqN p4 p3.length) fun g1 => (Option.bind (eqN p6 p5.length) fun g2 => (Option.bind (eqN p8 s2.2.length) fun g3 => (Option.bind (d_ready p1 ({ day := p2, holders := p3, used := p5, marks := s2.2 } : StateT) (i2 : Int)) fun r1 => (bif r1 then (Option.bind (bif (e1.kind == 4) then some (-1) else (Option.bind (idxN p4 e1.role) fun k1 => (Option.bind (p3[k1]?) fun e2 => some e2))) fun (v1 : Int) => (Option.bind (idxN p8 (i2 : Int)) fun k2 => (Option.bind (s2.2[k2]?) fun e3 => some (true, (s2.2.set k2 ({ status := 1, left := e1.after, got := 0, bearer := v1, paused := false } : MarkT)))))) else some (s2.1, s2.2))))))) fun (v2 : Bool × (List MarkT)) => some (.inl (v2.1, v2.2)))) (false, s1.2)) (Sum.elim (fun (s2 : Bool × (List MarkT)) => some (.inl (s2.1, s2.2))) (fun _ => none))) else some (.inr s1.2))) (true, p7)) (fun (y1 : (List MarkT)) => some y1))
noncomputable def p_69a (p1 : ContractT) (p2 : Int) (p3 : List Int) (p4 : Nat) (p5 : List Bool) (p6 : Nat) (p7 : List MarkT) (p8 : Nat) : Plan (List MarkT) :=
  .iter (σ := Bool × (List MarkT)) (ρ := (List MarkT)) (true, p7) (.k [0] (fun s1 => [(2, vB s1.1)]) [0] (fun s1 => [(1, .rows 1 (rowsA rowI p3)), (2, .rows 1 (rowsA rowB p5)), (3, .rows 5 (rowsA MarkT.row s1.2))]) 5 fun _ => (.rows rfl (.rows rfl (.rows rfl .nil)))) (fun s1 => .ite 622 s1.1 (.sel 622 (.reg 1 (.ln 646 ClauseT.row p1.clauses (.use 5 646 (.forR (σ := Bool × (List MarkT)) (ρ := Unit) 624 13 (p1.clauses.length : Int) (false, s1.2) (.k [0, 11, 12] (fun s2 => [(2, vB s2.1)]) [0] (fun s2 => [(1, .rows 1 (rowsA rowI p3)), (2, .rows 1 (rowsA rowB p5)), (3, .rows 5 (rowsA MarkT.row s2.2))]) 14 fun _ => (.rows rfl (.rows rfl (.rows rfl .nil)))) (fun i2 s2 => .sel 624 (.cut (β := Bool × (List MarkT)) 1 (.k [0, 11, 12, 13] (fun v2 => [(2, vB v2.1)]) [0] (fun v2 => [(1, .rows 1 (rowsA rowI p3)), (2, .rows 1 (rowsA rowB p5)), (3, .rows 5 (rowsA MarkT.row v2.2))]) 32 fun _ => (.rows rfl (.rows rfl (.rows rfl .nil)))) (.reg 0 (.ix 634 ClauseT.row p1.clauses (i2 : Int) fun e1 => .use 1 634 (.reg 0 (.bind (eqN p4 p3.length) (fun _ => []) (fun _ _ => .nil) fun g1 => .bind (eqN p6 p5.length) (fun _ => []) (fun _ _ => .nil) fun g2 => .bind (eqN p8 s2.2.length) (fun _ => []) (fun _ _ => .nil) fun g3 => .bind (d_ready p1 ({ day := p2, holders := p3, used := p5, marks := s2.2 } : StateT) (i2 : Int)) (fun r1 => [(636, ([.w [1, 2, 3] [.agg (ContractT.row p1), .agg (StateT.row ({ day := p2, holders := p3, used := p5, marks := s2.2 } : StateT)), .int .i64 (i2 : Int)] (.bool r1)], _))]) (fun r1 hr1 => (.c2 (t_ready p1 ({ day := p2, holders := p3, used := p5, marks := s2.2 } : StateT) (i2 : Int) r1 hr1) (snap_of [.agg (rowA (ContractT.row p1)), .agg [vI p2, .mslice 1 0 p4, .mslice 2 0 p6, .mslice 3 0 p8], vI (i2 : Int)] [(1, .rows 1 (rowsA rowI p3)), (2, .rows 1 (rowsA rowB p5)), (3, .rows 5 (rowsA MarkT.row s2.2))] [.agg (ContractT.row p1), .agg (StateT.row ({ day := p2, holders := p3, used := p5, marks := s2.2 } : StateT)), .int .i64 (i2 : Int)] (snapC (snapA (snapC (snapI _) (snapC (snapI _) (snapC (snapI _) (snapC (snapI _) (snapC (snapI _) (snapC (snapI _) (snapC (snapI _) snapN)))))))) (snapC (snapA (snapC (snapI _) (snapC (snapE rowI 1 1 p4 p3 g1.down rfl) (snapC (snapE rowB 2 1 p6 p5 g2.down rfl) (snapC (snapE MarkT.row 3 5 p8 s2.2 g3.down rfl) snapN))))) (snapC (snapI _) snapN)))) .nil)) fun r1 => .use 9 636 (.ite 630 r1 (.sel 631 (.cut (β := Int) 2 (.k [0, 11, 12, 13, 4, 3] (fun v1 => [(5, vI v1)]) [0, 18] (fun _ => [(1, .rows 1 (rowsA rowI p3)), (2, .rows 1 (rowsA rowB p5)), (3, .rows 5 (rowsA MarkT.row s2.2))]) 36 fun _ => (.rows rfl (.rows rfl (.rows rfl .nil)))) (.ite 632 (e1.kind == 4) (.sel 633 (.ret (-1))) (.sel 633 (.reg 0 (.b1 638 (idxN p4 e1.role) (fun k1 => .k k1) (fun k1 hk1 => (midx_side hk1)) fun k1 => .b1 640 (p3[k1]?) (fun e2 => .ar (rowA (rowI e2))) (fun e2 he2 => (row_side rowI he2)) fun e2 => .us [(7, 638), (8, 640)] (.ret e2))))) fun v1 => .reg 0 (.b1 642 (idxN p8 (i2 : Int)) (fun k2 => .k k2) (fun k2 hk2 => (midx_side hk2)) fun k2 => .b1 644 (s2.2[k2]?) (fun e3 => .aw (rowA (MarkT.row e3)) (rowsA MarkT.row (s2.2.set k2 ({ status := 1, left := e1.after, got := 0, bearer := v1, paused := false } : MarkT)))) (fun e3 he3 => (sto_side MarkT.row ({ status := 1, left := e1.after, got := 0, bearer := v1, paused := false } : MarkT) he3)) fun e3 => .us [(10, 642), (11, 644)] (.ret (true, (s2.2.set k2 ({ status := 1, left := e1.after, got := 0, bearer := v1, paused := false } : MarkT))))))) (.sel 631 (.ret (s2.1, s2.2)))))))) fun v2 => .ret (.inl (v2.1, v2.2)))) fun os2 => .case os2 (fun s2 => .sel 624 (.ret (.inl (s2.1, s2.2)))) fun _ => .none))))) (.sel 622 (.ret (.inr s1.2)))) fun y1 => .ret y1
theorem t_69a (p1 : ContractT) (p2 : Int) (p3 : List Int) (p4 : Nat) (p5 : List Bool) (p6 : Nat) (p7 : List MarkT) (p8 : Nat) (res : (List MarkT)) (hd : d_69a p1 p2 p3 p4 p5 p6 p7 p8 = some res) : DOk C0 69 [.ptr 0 0 0] [(0, .rows 11 [[vI p1.parties, .imm (.slice (List.map rowI p1.holders)), .imm (.slice (List.map UnitT.row p1.units)), .imm (.slice (List.map ActT.row p1.acts)), .imm (.slice (List.map ClauseT.row p1.clauses)), vI p1.days, .imm (.slice (List.map rowI p1.off)), vI p2, .mslice 1 0 p4, .mslice 2 0 p6, .mslice 3 0 p8]]), (1, .rows 1 (rowsA rowI p3)), (2, .rows 1 (rowsA rowB p5)), (3, .rows 5 (rowsA MarkT.row p7))] 4 (.tuple []) [(0, .rows 11 [[vI p1.parties, .imm (.slice (List.map rowI p1.holders)), .imm (.slice (List.map UnitT.row p1.units)), .imm (.slice (List.map ActT.row p1.acts)), .imm (.slice (List.map ClauseT.row p1.clauses)), vI p1.days, .imm (.slice (List.map rowI p1.off)), vI p2, .mslice 1 0 p4, .mslice 2 0 p6, .mslice 3 0 p8]]), (1, .rows 1 (rowsA rowI p3)), (2, .rows 1 (rowsA rowB p5)), (3, .rows 5 (rowsA MarkT.row res))] 0 :=
  Plan.det (R := fun res => .tuple []) (H := fun res => [(0, .rows 11 [[vI p1.parties, .imm (.slice (List.map rowI p1.holders)), .imm (.slice (List.map UnitT.row p1.units)), .imm (.slice (List.map ActT.row p1.acts)), .imm (.slice (List.map ClauseT.row p1.clauses)), vI p1.days, .imm (.slice (List.map rowI p1.off)), vI p2, .mslice 1 0 p4, .mslice 2 0 p6, .mslice 3 0 p8]]), (1, .rows 1 (rowsA rowI p3)), (2, .rows 1 (rowsA rowB p5)), (3, .rows 5 (rowsA MarkT.row res))]) (p_69a p1 p2 p3 p4 p5 p6 p7 p8) (.exp rfl rfl (.rows rfl (.rows rfl (.rows rfl .nil)))) (fun _ => (.exp rfl rfl (.rows rfl (.rows rfl (.rows rfl .nil))))) (by kernel_rfl) (fun _ => by kernel_rfl) (by kernel_rfl) (Plan.run_of hd (by kernel_rfl))

noncomputable def d_Start (c : ContractT) : Option (StateT × Int) :=
  (Option.bind (d_Valid c) fun r1 => (bif (r1.1 == 0) then (Option.bind (cloneI 8 c.holders) fun e1 => (Option.bind (mkN 1 (c.acts.length : Int)) fun k1 => (Option.bind (mkN 40 (c.clauses.length : Int)) fun k2 => (Option.bind (forR (σ := (List MarkT)) (ρ := Unit) (c.clauses.length : Int) (fun i1 s1 => (Option.bind (Option.bind (idxI c.clauses (i1 : Int)) fun e2 => (Option.bind (idxN k2 (i1 : Int)) fun k3 => (Option.bind (s1[k3]?) fun e3 => (bif e2.waived then (Option.bind (idxN k2 (i1 : Int)) fun k4 => (Option.bind ((s1.set k3 ({ status := 0, left := 0, got := 0, bearer := (-1), paused := false } : MarkT))[k4]?) fun e4 => some ((s1.set k3 ({ status := 0, left := 0, got := 0, bearer := (-1), paused := false } : MarkT)).set k4 ({ e4 with status := 5 } : MarkT)))) else some (s1.set k3 ({ status := 0, left := 0, got := 0, bearer := (-1), paused := false } : MarkT)))))) fun (v1 : (List MarkT)) => some (.inl v1))) (List.replicate k2 ({ status := 0, left := 0, got := 0, bearer := 0, paused := false } : MarkT))) (Sum.elim (fun (s1 : (List MarkT)) => (Option.bind (d_69a c 0 e1 e1.length (List.replicate k1 false) k1 s1 k2) fun r2 => (Option.bind (eqN k1 (List.replicate k1 false).length) fun g1 => (Option.bind (eqN k2 r2.length) fun g2 => some (({ day := 0, holders := e1, used := (List.replicate k1 false), marks := r2 } : StateT), 0))))) (fun _ => none)))))) else some (({ day := 0, holders := [], used := [], marks := [] } : StateT), 1)))
noncomputable def p_Start (c : ContractT) : Plan (StateT × Int) :=
  .reg 1 (.call 648 (t_Valid c) fun r1 => .use 1 648 (.ite 572 (r1.1 == 0) (.sel 573 (.reg 0 (.b1 650 (cloneI 8 c.holders) (fun e1 => .c [] 0 (.mslice 35 0 e1.length) [(35, .rows 1 (rowsA rowI e1))] 8) (fun e1 he1 => (call_side (t_clone34 rowI (fun _ => rfl) he1) [] 28 (.keep .nil) rhN (rhI rhN))) fun e1 => .b1 652 (mkN 1 (c.acts.length : Int)) (fun k1 => .m k1 (rowsA rowB (List.replicate k1 false))) (fun k1 hk1 => (mks_side rowB false hk1)) fun k1 => .b1 654 (mkN 40 (c.clauses.length : Int)) (fun k2 => .m k2 (rowsA MarkT.row (List.replicate k2 ({ status := 0, left := 0, got := 0, bearer := 0, paused := false } : MarkT)))) (fun k2 hk2 => (mks_side MarkT.row ({ status := 0, left := 0, got := 0, bearer := 0, paused := false } : MarkT) hk2)) fun k2 => .use 3 650 (.ln 672 ActT.row c.acts (.us [(6, 672), (7, 652)] (.ln 670 ClauseT.row c.clauses (.us [(10, 670), (11, 654)] (.reg 0 (.ln 668 ClauseT.row c.clauses (.use 2 668 (.forR (σ := (List MarkT)) (ρ := Unit) 574 35 (c.clauses.length : Int) (List.replicate k2 ({ status := 0, left := 0, got := 0, bearer := 0, paused := false } : MarkT)) (.k [2, 6, 33, 34] (fun _ => []) [1, 26] (fun s1 => [(35, .rows 1 (rowsA rowI e1)), (19, .rows 1 (rowsA rowB (List.replicate k1 false))), (23, .rows 5 (rowsA MarkT.row s1))]) 40 fun _ => (.rows rfl (.rows rfl (.rows rfl .nil)))) (fun i1 s1 => .sel 574 (.cut (β := (List MarkT)) 1 (.k [2, 6, 33, 34, 35] (fun _ => []) [1, 26] (fun v1 => [(35, .rows 1 (rowsA rowI e1)), (19, .rows 1 (rowsA rowB (List.replicate k1 false))), (23, .rows 5 (rowsA MarkT.row v1))]) 58 fun _ => (.rows rfl (.rows rfl (.rows rfl .nil)))) (.reg 0 (.ix 656 ClauseT.row c.clauses (i1 : Int) fun e2 => .use 1 656 (.reg 0 (.b1 658 (idxN k2 (i1 : Int)) (fun k3 => .k k3) (fun k3 hk3 => (midx_side hk3)) fun k3 => .b1 660 (s1[k3]?) (fun e3 => .aw (rowA (MarkT.row e3)) (rowsA MarkT.row (s1.set k3 ({ status := 0, left := 0, got := 0, bearer := (-1), paused := false } : MarkT)))) (fun e3 he3 => (sto_side MarkT.row ({ status := 0, left := 0, got := 0, bearer := (-1), paused := false } : MarkT) he3)) fun e3 => .us [(7, 658), (8, 660)] (.ite 578 e2.waived (.sel 578 (.reg 0 (.b1 662 (idxN k2 (i1 : Int)) (fun k4 => .k k4) (fun k4 hk4 => (midx_side hk4)) fun k4 => .b1 664 ((s1.set k3 ({ status := 0, left := 0, got := 0, bearer := (-1), paused := false } : MarkT))[k4]?) (fun e4 => .aw (rowA (MarkT.row e4)) (rowsA MarkT.row ((s1.set k3 ({ status := 0, left := 0, got := 0, bearer := (-1), paused := false } : MarkT)).set k4 ({ e4 with status := 5 } : MarkT)))) (fun e4 he4 => (sto_side MarkT.row ({ e4 with status := 5 } : MarkT) he4)) fun e4 => .us [(6, 662), (8, 664)] (.ret ((s1.set k3 ({ status := 0, left := 0, got := 0, bearer := (-1), paused := false } : MarkT)).set k4 ({ e4 with status := 5 } : MarkT)))))) (.sel 578 (.ret (s1.set k3 ({ status := 0, left := 0, got := 0, bearer := (-1), paused := false } : MarkT))))))))) fun v1 => .ret (.inl v1))) fun os1 => .case os1 (fun s1 => .sel 574 (.reg 0 (.b1 666 (d_69a c 0 e1 e1.length (List.replicate k1 false) k1 s1 k2) (fun r2 => .c [26, 35, 19, 23] 4 (.tuple []) [(23, .rows 5 (rowsA MarkT.row r2))] 0) (fun r2 hr2 => (call_side (t_69a c 0 e1 e1.length (List.replicate k1 false) k1 s1 k2 r2 hr2) [26, 35, 19, 23] 42 (.drop rfl rfl (.drop rfl rfl (.drop rfl rfl (.keep .nil)))) (rhR (rhI (rhI (rhI rhN)))) (rhI rhN))) fun r2 => .use 1 666 (.bind (eqN k1 (List.replicate k1 false).length) (fun _ => []) (fun _ _ => .nil) fun g3 => .bind (eqN k2 r2.length) (fun _ => []) (fun _ _ => .nil) fun g4 => .fin [35, 19, 23] (.tuple [.agg [vI 0, .mslice 35 0 e1.length, .mslice 19 0 k1, .mslice 23 0 k2], vI 0]) [(35, .rows 1 (rowsA rowI e1)), (19, .rows 1 (rowsA rowB (List.replicate k1 false))), (23, .rows 5 (rowsA MarkT.row r2))] (.tuple [.agg (StateT.row ((({ day := 0, holders := e1, used := (List.replicate k1 false), marks := r2 } : StateT), 0).1)), .int .i64 ((({ day := 0, holders := e1, used := (List.replicate k1 false), marks := r2 } : StateT), 0).2)]) (snap_of _ _ _ (snapC (snapT (snapC (snapA (snapC (snapI _) (snapC (snapO rowI 35 1 e1 rfl) (snapC (snapE rowB 19 1 k1 (List.replicate k1 false) g3.down rfl) (snapC (snapE MarkT.row 23 5 k2 r2 g4.down rfl) snapN))))) (snapC (snapI _) snapN))) snapN)) (({ day := 0, holders := e1, used := (List.replicate k1 false), marks := r2 } : StateT), 0))))) fun _ => .none))))))))))) (.sel 573 (.ret (({ day := 0, holders := [], used := [], marks := [] } : StateT), 1)))))
theorem t_Start (c : ContractT) (res : StateT × Int) (hd : d_Start c = some res) : APure C0 100 [.agg (ContractT.row c)] (.tuple [.agg (StateT.row res.1), .int .i64 res.2]) :=
  Plan.pure (iv := fun res => .tuple [.agg (StateT.row res.1), .int .i64 res.2]) (p_Start c) (by kernel_rfl) (Plan.run_of hd (by kernel_rfl))

noncomputable def d_validRun (c : ContractT) (k : ClauseT) (m : MarkT) : Option Bool :=
  (Option.bind (bif k.waived then some true else (bif decide (m.left < 1) then some true else (bif m.paused then some (k.pause == (-1)) else some false))) fun v1 => (bif v1 then some false else (Option.bind (bif (m.got == 0) then some false else (bif (k.kind == 1) then (bif decide (m.got < 0) then some true else some (decide (k.need ≤ m.got))) else some true)) fun v2 => (bif v2 then some false else (bif (k.kind == 4) then some (m.bearer == (-1)) else (Option.bind (bif decide (0 ≤ m.bearer) then some (decide (m.bearer < c.parties)) else some false) fun v3 => some v3))))))
noncomputable def p_validRun (c : ContractT) (k : ClauseT) (m : MarkT) : Plan Bool :=
  .cut (β := Bool) 3 (.e [3, 4, 5] (fun v1 => [(22, vB v1)]) [0, 1, 2] 20) (.reg 0 (.ite 714 k.waived (.use 3 714 (.f1 734 (.g true) (rfl : true = true) (.use 8 734 (.ret true)))) (.ite 716 (decide (m.left < 1)) (.us [(3, 714), (8, 716)] (.ret true)) (.ite 718 m.paused (.us [(3, 714), (8, 716), (11, 718)] (.ret (k.pause == (-1)))) (.us [(3, 714), (8, 716), (11, 718)] (.ret false)))))) fun v1 => .ite 720 v1 (.sel 720 (.ret false)) (.sel 720 (.cut (β := Bool) 2 (.e [3, 4, 5] (fun v2 => [(42, vB v2)]) [0, 1, 2] 40) (.reg 0 (.ite 722 (m.got == 0) (.use 4 723 (.ret false)) (.ite 724 (k.kind == 1) (.ite 726 (decide (m.got < 0)) (.us [(4, 723), (8, 725), (13, 726)] (.ret true)) (.us [(4, 723), (8, 725), (13, 726)] (.ret (decide (k.need ≤ m.got))))) (.us [(4, 723), (8, 725)] (.f1 736 (.g true) (rfl : true = true) (.use 13 736 (.ret true))))))) fun v2 => .ite 728 v2 (.sel 728 (.ret false)) (.sel 728 (.ite 730 (k.kind == 4) (.sel 730 (.ret (m.bearer == (-1)))) (.sel 730 (.cut (β := Bool) 1 (.e [] (fun v3 => [(6, vB v3)]) [0, 1, 2] 54) (.reg 0 (.ite 732 (decide (0 ≤ m.bearer)) (.use 4 732 (.ret (decide (m.bearer < c.parties)))) (.use 4 732 (.ret false)))) fun v3 => .ret v3))))))
theorem t_validRun (c : ContractT) (k : ClauseT) (m : MarkT) (res : Bool) (hd : d_validRun c k m = some res) : APure C0 107 [.agg (ContractT.row c), .agg (ClauseT.row k), .agg (MarkT.row m)] (.bool res) :=
  Plan.pure (iv := fun res => .bool res) (p_validRun c k m) (by kernel_rfl) (Plan.run_of hd (by kernel_rfl))

noncomputable def d_validMark (c : ContractT) (i : Int) (m : MarkT) : Option Bool :=
  (Option.bind (idxI c.clauses i) fun e1 => (bif (m.status == 0) then (Option.bind (bif e1.waived then some false else some ((m.status == 0) && ((m.left == 0) && ((m.got == 0) && ((m.bearer == (-1)) && ((m.paused == false) && true)))))) fun v1 => some v1) else (bif (m.status == 1) then (Option.bind (bif decide (m.left ≤ e1.after) then (Option.bind (d_validRun c e1 m) fun r1 => some r1) else some false) fun v2 => some v2) else (bif (m.status == 2) then (Option.bind (bif (e1.kind == 1) then (bif decide (m.left ≤ e1.grace) then (Option.bind (d_validRun c e1 m) fun r2 => some r2) else some false) else some false) fun v3 => some v3) else (Option.bind (bif (m.status == 3) then some (m.status == 3) else (bif (m.status == 4) then some (m.status == 4) else some (m.status == 5))) fun (v4 : Bool) => (bif v4 then (Option.bind (bif (m.left == 0) then (bif decide (0 ≤ m.got) then (bif decide (m.got ≤ 9) then (bif decide ((-1) ≤ m.bearer) then (bif decide (m.bearer < c.parties) then some (!m.paused) else some false) else some false) else some false) else some false) else some false) fun v5 => some v5) else some false))))))
noncomputable def p_validMark (c : ContractT) (i : Int) (m : MarkT) : Plan Bool :=
  .reg 1 (.ix 760 ClauseT.row c.clauses i fun e1 => .use 3 760 (.ite 706 (m.status == 0) (.sel 706 (.cut (β := Bool) 1 (.e [] (fun v1 => [(6, vB v1)]) [0, 1, 8] 23) (.reg 0 (.ite 708 e1.waived (.use 4 709 (.ret false)) (.use 4 709 (.ret ((m.status == 0) && ((m.left == 0) && ((m.got == 0) && ((m.bearer == (-1)) && ((m.paused == false) && true))))))))) fun v1 => .ret v1)) (.sel 706 (.ite 710 (m.status == 1) (.sel 710 (.cut (β := Bool) 1 (.e [] (fun v2 => [(6, vB v2)]) [0, 1, 8] 28) (.reg 0 (.ite 712 (decide (m.left ≤ e1.after)) (.call 762 (t_validRun c e1 m) fun r1 => .us [(6, 712), (9, 762)] (.ret r1)) (.use 6 712 (.ret false)))) fun v2 => .ret v2)) (.sel 710 (.ite 738 (m.status == 2) (.sel 738 (.cut (β := Bool) 1 (.e [] (fun v3 => [(6, vB v3)]) [0, 1, 8] 35) (.reg 0 (.ite 740 (e1.kind == 1) (.ite 742 (decide (m.left ≤ e1.grace)) (.call 764 (t_validRun c e1 m) fun r2 => .us [(4, 740), (11, 742), (14, 764)] (.ret r2)) (.us [(4, 740), (11, 742)] (.ret false))) (.use 4 740 (.f1 766 (.g false) (rfl : false = false) (.use 11 766 (.ret false)))))) fun v3 => .ret v3)) (.sel 738 (.cut (β := Bool) 1 (.e [3, 5] (fun v4 => [(56, vB v4)]) [0, 1] 20) (.ite 744 (m.status == 3) (.sel 744 (.ret (m.status == 3))) (.sel 744 (.ite 746 (m.status == 4) (.sel 746 (.ret (m.status == 4))) (.sel 746 (.ret (m.status == 5)))))) fun v4 => .ite 748 v4 (.sel 748 (.cut (β := Bool) 1 (.e [] (fun v5 => [(6, vB v5)]) [0, 1] 51) (.reg 0 (.ite 750 (m.left == 0) (.ite 752 (decide (0 ≤ m.got)) (.ite 754 (decide (m.got ≤ 9)) (.ite 756 (decide ((-1) ≤ m.bearer)) (.ite 758 (decide (m.bearer < c.parties)) (.us [(4, 750), (9, 752), (14, 754), (19, 756), (26, 758)] (.ret (!m.paused))) (.us [(4, 750), (9, 752), (14, 754), (19, 756), (26, 758)] (.ret false))) (.us [(4, 750), (9, 752), (14, 754), (19, 756)] (.f1 768 (.g false) (rfl : false = false) (.use 26 768 (.ret false))))) (.us [(4, 750), (9, 752), (14, 754)] (.f1 772 (.g false) (rfl : false = false) (.use 19 772 (.f1 770 (.g false) (rfl : false = false) (.use 26 770 (.ret false))))))) (.us [(4, 750), (9, 752)] (.f1 778 (.g false) (rfl : false = false) (.use 14 778 (.f1 776 (.g false) (rfl : false = false) (.use 19 776 (.f1 774 (.g false) (rfl : false = false) (.use 26 774 (.ret false))))))))) (.use 4 750 (.f1 786 (.g false) (rfl : false = false) (.use 9 786 (.f1 784 (.g false) (rfl : false = false) (.use 14 784 (.f1 782 (.g false) (rfl : false = false) (.use 19 782 (.f1 780 (.g false) (rfl : false = false) (.use 26 780 (.ret false)))))))))))) fun v5 => .ret v5)) (.sel 748 (.ret false))))))))))
theorem t_validMark (c : ContractT) (i : Int) (m : MarkT) (res : Bool) (hd : d_validMark c i m = some res) : APure C0 106 [.agg (ContractT.row c), .int .i64 i, .agg (MarkT.row m)] (.bool res) :=
  Plan.pure (iv := fun res => .bool res) (p_validMark c i m) (by kernel_rfl) (Plan.run_of hd (by kernel_rfl))

noncomputable def d_ValidS (c : ContractT) (s : StateT) : Option Bool :=
  (Option.bind (d_Valid c) fun r1 => (bif (r1.1 == 0) then (Option.bind (bif decide (s.day < 0) then some true else (bif decide (c.days < s.day) then some true else (bif ((s.holders.length : Int) == (c.holders.length : Int)) then (bif ((s.used.length : Int) == (c.acts.length : Int)) then some (!((s.marks.length : Int) == (c.clauses.length : Int))) else some true) else some true))) fun v1 => (bif v1 then some false else (Option.bind (forR (σ := Unit) (ρ := Unit) (s.holders.length : Int) (fun i1 s1 => (Option.bind (idxI s.holders (i1 : Int)) fun e1 => (Option.bind (bif decide (e1 < 0) then some true else some (decide (c.parties ≤ e1))) fun v2 => (bif v2 then some (.inr ()) else some (.inl ()))))) ()) (Sum.elim (fun (s1 : Unit) => (Option.bind (forR (σ := Unit) (ρ := Unit) (s.used.length : Int) (fun i2 s2 => (Option.bind (idxI s.used (i2 : Int)) fun e2 => (Option.bind (bif e2 then (Option.bind (idxI c.acts (i2 : Int)) fun e3 => some (e3.kind == 1)) else some false) fun v3 => (bif v3 then some (.inr ()) else some (.inl ()))))) ()) (Sum.elim (fun (s2 : Unit) => (Option.bind (forR (σ := Unit) (ρ := Unit) (s.marks.length : Int) (fun i3 s3 => (Option.bind (Option.bind (idxI s.marks (i3 : Int)) fun e4 => (Option.bind (d_validMark c (i3 : Int) e4) fun r2 => (bif r2 then (Option.bind (d_ready c s (i3 : Int)) fun r3 => some r3) else some true))) fun v4 => (bif v4 then some (.inr ()) else some (.inl ())))) ()) (Sum.elim (fun (s3 : Unit) => some true) (fun (y3 : Unit) => some false)))) (fun (y2 : Unit) => some false)))) (fun (y1 : Unit) => some false))))) else some false))
noncomputable def p_ValidS (c : ContractT) (s : StateT) : Plan Bool :=
  .reg 1 (.call 792 (t_Valid c) fun r1 => .use 1 792 (.ite 680 (r1.1 == 0) (.sel 681 (.cut (β := Bool) 2 (.e [2, 3] (fun v1 => [(55, vB v1)]) [0, 1] 49) (.reg 0 (.ite 682 (decide (s.day < 0)) (.use 4 682 (.f1 798 (.g true) (rfl : true = true) (.use 11 798 (.f1 796 (.g true) (rfl : true = true) (.use 20 796 (.f1 794 (.g true) (rfl : true = true) (.use 29 794 (.ret true)))))))) (.ite 684 (decide (c.days < s.day)) (.us [(4, 682), (11, 684)] (.f1 802 (.g true) (rfl : true = true) (.use 20 802 (.f1 800 (.g true) (rfl : true = true) (.use 29 800 (.ret true)))))) (.ite 686 ((s.holders.length : Int) == (c.holders.length : Int)) (.ite 688 ((s.used.length : Int) == (c.acts.length : Int)) (.us [(4, 682), (11, 684)] (.ln 814 rowI s.holders (.use 13 814 (.ln 812 rowI c.holders (.us [(16, 812), (20, 687)] (.ln 810 rowB s.used (.use 22 810 (.ln 808 ActT.row c.acts (.us [(25, 808), (29, 689)] (.ln 806 MarkT.row s.marks (.use 31 806 (.ln 804 ClauseT.row c.clauses (.use 34 804 (.ret (!((s.marks.length : Int) == (c.clauses.length : Int))))))))))))))))) (.us [(4, 682), (11, 684)] (.ln 822 rowI s.holders (.use 13 822 (.ln 820 rowI c.holders (.us [(16, 820), (20, 687)] (.ln 818 rowB s.used (.use 22 818 (.ln 816 ActT.row c.acts (.us [(25, 816), (29, 689)] (.ret true))))))))))) (.us [(4, 682), (11, 684)] (.ln 828 rowI s.holders (.use 13 828 (.ln 826 rowI c.holders (.us [(16, 826), (20, 687)] (.f1 824 (.g true) (rfl : true = true) (.use 29 824 (.ret true)))))))))))) fun v1 => .ite 690 v1 (.sel 690 (.ret false)) (.sel 690 (.reg 0 (.ln 846 rowI s.holders (.use 2 846 (.forR (σ := Unit) (ρ := Unit) 692 59 (s.holders.length : Int) () (.e [2, 3, 57, 58] (fun _ => []) [0, 1] 53) (fun i1 s1 => .sel 692 (.reg 0 (.ix 830 rowI s.holders (i1 : Int) fun e1 => .use 0 830 (.cut (β := Bool) 1 (.e [2, 3, 57, 58, 59] (fun v2 => [(70, vB v2)]) [0, 1] 65) (.reg 0 (.ite 694 (decide (e1 < 0)) (.use 3 694 (.ret true)) (.use 3 694 (.ret (decide (c.parties ≤ e1)))))) fun v2 => .ite 696 v2 (.sel 696 (.ret (.inr ()))) (.sel 696 (.ret (.inl ()))))))) fun os1 => .case os1 (fun s1 => .sel 692 (.reg 0 (.ln 844 rowB s.used (.use 2 844 (.forR (σ := Unit) (ρ := Unit) 698 75 (s.used.length : Int) () (.e [2, 3, 73, 74] (fun _ => []) [0, 1] 58) (fun i2 s2 => .sel 698 (.reg 0 (.ix 832 rowB s.used (i2 : Int) fun e2 => .use 1 832 (.cut (β := Bool) 1 (.e [2, 3, 73, 74, 75] (fun v3 => [(89, vB v3)]) [0, 1] 74) (.reg 0 (.ite 700 e2 (.ix 834 ActT.row c.acts (i2 : Int) fun e3 => .us [(2, 700), (5, 834)] (.ret (e3.kind == 1))) (.use 2 700 (.ret false)))) fun v3 => .ite 702 v3 (.sel 702 (.ret (.inr ()))) (.sel 702 (.ret (.inl ()))))))) fun os2 => .case os2 (fun s2 => .sel 698 (.reg 0 (.ln 842 MarkT.row s.marks (.use 2 842 (.forR (σ := Unit) (ρ := Unit) 704 94 (s.marks.length : Int) () (.e [2, 3, 93] (fun _ => []) [0, 1] 63) (fun i3 s3 => .sel 704 (.cut (β := Bool) 4 (.e [2, 3, 93, 94] (fun v4 => [(111, vB v4)]) [0, 1] 81) (.reg 0 (.ix 836 MarkT.row s.marks (i3 : Int) fun e4 => .call 838 (t_validMark c (i3 : Int) e4) fun r2 => .ite 788 r2 (.call 840 (t_ready c s (i3 : Int)) fun r3 => .us [(5, 836), (7, 838), (10, 789), (13, 840)] (.ret r3)) (.us [(5, 836), (7, 838), (10, 789)] (.ret true)))) fun v4 => .ite 790 v4 (.sel 790 (.ret (.inr ()))) (.sel 790 (.ret (.inl ()))))) fun os3 => .case os3 (fun s3 => .sel 704 (.ret true)) fun y3 => .ret false))))) fun y2 => .ret false))))) fun y1 => .ret false))))))) (.sel 681 (.ret false))))
theorem t_ValidS (c : ContractT) (s : StateT) (res : Bool) (hd : d_ValidS c s = some res) : APure C0 102 [.agg (ContractT.row c), .agg (StateT.row s)] (.bool res) :=
  Plan.pure (iv := fun res => .bool res) (p_ValidS c s) (by kernel_rfl) (Plan.run_of hd (by kernel_rfl))

noncomputable def d_playable (c : ContractT) (party : Int) (p : PosT) : Option Bool :=
  (Option.bind (bif decide (0 ≤ party) then (bif decide (party < c.parties) then (Option.bind (d_ValidS c p.state) fun r1 => some r1) else some false) else some false) fun v1 => some v1)
noncomputable def p_playable (c : ContractT) (party : Int) (p : PosT) : Plan Bool :=
  .cut (β := Bool) 2 (.e [] (fun v1 => [(6, vB v1)]) [0, 1] 18) (.reg 0 (.ite 676 (decide (0 ≤ party)) (.ite 678 (decide (party < c.parties)) (.call 848 (t_ValidS c p.state) fun r1 => .us [(3, 676), (9, 678), (12, 848)] (.ret r1)) (.us [(3, 676), (9, 678)] (.ret false))) (.use 3 676 (.f1 850 (.g false) (rfl : false = false) (.use 9 850 (.ret false)))))) fun v1 => .ret v1
theorem t_playable (c : ContractT) (party : Int) (p : PosT) (res : Bool) (hd : d_playable c party p = some res) : APure C0 80 [.agg (ContractT.row c), .int .i64 party, .agg (PosT.row p)] (.bool res) :=
  Plan.pure (iv := fun res => .bool res) (p_playable c party p) (by kernel_rfl) (Plan.run_of hd (by kernel_rfl))

theorem t_clone121 {α : Type} (f : α → List IV) (hf : ∀ x, (f x).length = 1) {l e : List α} (h : cloneI 1 l = some e) : DOk C0 121 [.imm (.slice (List.map f l))] [] 0 (.mslice 7 0 e.length) [(7, .rows 1 (rowsA f e))] 8 :=
  clone_ok (zero := [.imm (.bool false)]) (show compFun C0 121 = some (afClone 1 1 [.imm (.bool false)]).erase by kernel_rfl) f hf h

theorem t_clone122 {α : Type} (f : α → List IV) (hf : ∀ x, (f x).length = 5) {l e : List α} (h : cloneI 40 l = some e) : DOk C0 122 [.imm (.slice (List.map f l))] [] 0 (.mslice 7 0 e.length) [(7, .rows 5 (rowsA f e))] 8 :=
  clone_ok (zero := [.imm (.int .i64 0), .imm (.int .i64 0), .imm (.int .i64 0), .imm (.int .i64 0), .imm (.bool false)]) (show compFun C0 122 = some (afClone 5 40 [.imm (.int .i64 0), .imm (.int .i64 0), .imm (.int .i64 0), .imm (.int .i64 0), .imm (.bool false)]).erase by kernel_rfl) f hf h

noncomputable def d_copied (s : StateT) : Option StateT :=
  (Option.bind (cloneI 8 s.holders) fun e1 => (Option.bind (cloneI 1 s.used) fun e2 => (Option.bind (cloneI 40 s.marks) fun e3 => some ({ day := s.day, holders := e1, used := e2, marks := e3 } : StateT))))
noncomputable def p_copied (s : StateT) : Plan StateT :=
  .reg 1 (.b1 854 (cloneI 8 s.holders) (fun e1 => .c [] 0 (.mslice 24 0 e1.length) [(24, .rows 1 (rowsA rowI e1))] 8) (fun e1 he1 => (call_side (t_clone34 rowI (fun _ => rfl) he1) [] 17 (.keep .nil) rhN (rhI rhN))) fun e1 => .b1 856 (cloneI 1 s.used) (fun e2 => .c [] 0 (.mslice 32 0 e2.length) [(32, .rows 1 (rowsA rowB e2))] 8) (fun e2 he2 => (call_side (t_clone121 rowB (fun _ => rfl) he2) [] 25 (.keep .nil) rhN (rhI rhN))) fun e2 => .b1 858 (cloneI 40 s.marks) (fun e3 => .c [] 0 (.mslice 40 0 e3.length) [(40, .rows 5 (rowsA MarkT.row e3))] 8) (fun e3 he3 => (call_side (t_clone122 MarkT.row (fun _ => rfl) he3) [] 33 (.keep .nil) rhN (rhI rhN))) fun e3 => .us [(2, 854), (5, 856), (8, 858)] (.fin [24, 32, 40] (.agg [vI s.day, .mslice 24 0 e1.length, .mslice 32 0 e2.length, .mslice 40 0 e3.length]) [(24, .rows 1 (rowsA rowI e1)), (32, .rows 1 (rowsA rowB e2)), (40, .rows 5 (rowsA MarkT.row e3))] (.agg (StateT.row ({ day := s.day, holders := e1, used := e2, marks := e3 } : StateT))) (snap_of _ _ _ (snapC (snapA (snapC (snapI _) (snapC (snapO rowI 24 1 e1 rfl) (snapC (snapO rowB 32 1 e2 rfl) (snapC (snapO MarkT.row 40 5 e3 rfl) snapN))))) snapN)) ({ day := s.day, holders := e1, used := e2, marks := e3 } : StateT)))
theorem t_copied (s : StateT) (res : StateT) (hd : d_copied s = some res) : APure C0 77 [.agg (StateT.row s)] (.agg (StateT.row res)) :=
  Plan.pure (iv := fun res => .agg (StateT.row res)) (p_copied s) (by kernel_rfl) (Plan.run_of hd (by kernel_rfl))

noncomputable def d_78b (p1 : ContractT) (p2 : Int) (p3 : PosT) : Option Unit :=
  some ()
noncomputable def p_78b (p1 : ContractT) (p2 : Int) (p3 : PosT) : Plan Unit :=
  .ret ()
theorem t_78b (p1 : ContractT) (p2 : Int) (p3 : PosT) (res : Unit) (hd : d_78b p1 p2 p3 = some res) : DOk C0 78 [.agg (rowA (ContractT.row p1)), vI p2, .imm (.agg [.int .i64 p3.state.day, .slice (List.map rowI p3.state.holders), .slice (List.map rowB p3.state.used), .slice (List.map MarkT.row p3.state.marks), .bool p3.own])] [] 0 (.func 79 [] [.ptr 2 0 0, .ptr 0 0 0, .ptr 1 0 0]) [(0, .rows 7 [rowA (ContractT.row p1)]), (1, .rows 1 [[vI p2]]), (2, .rows 5 [rowA (PosT.row p3)])] 3 :=
  Plan.det (R := fun res => .func 79 [] [.ptr 2 0 0, .ptr 0 0 0, .ptr 1 0 0]) (H := fun res => [(0, .rows 7 [rowA (ContractT.row p1)]), (1, .rows 1 [[vI p2]]), (2, .rows 5 [rowA (PosT.row p3)])]) (p_78b p1 p2 p3) .nil (fun _ => (.exp rfl rfl (.exp rfl rfl (.exp rfl rfl .nil)))) (by kernel_rfl) (fun _ => by kernel_rfl) (by kernel_rfl) (Plan.run_of hd (by kernel_rfl))

noncomputable def d_isNaN2 (x : Int) : Option Bool :=
  some (!(x == x))
noncomputable def p_isNaN2 (x : Int) : Plan Bool :=
  .ret (!(x == x))
theorem t_isNaN2 (x : Int) (res : Bool) (hd : d_isNaN2 x = some res) : APure C0 56 [.int .i64 x] (.bool res) :=
  Plan.pure (iv := fun res => .bool res) (p_isNaN2 x) (by kernel_rfl) (Plan.run_of hd (by kernel_rfl))

noncomputable def d_less (x : Int) (y : Int) : Option Bool :=
  (Option.bind (Option.bind (d_isNaN2 x) fun r1 => (bif r1 then (Option.bind (d_isNaN2 y) fun r2 => (bif r2 then some (decide (x < y)) else some true)) else some (decide (x < y)))) fun v1 => some v1)
noncomputable def p_less (x : Int) (y : Int) : Plan Bool :=
  .cut (β := Bool) 2 (.e [] (fun v1 => [(4, vB v1)]) [] 14) (.reg 0 (.call 910 (t_isNaN2 x) fun r1 => .ite 906 r1 (.call 912 (t_isNaN2 y) fun r2 => .ite 908 r2 (.us [(1, 910), (3, 906), (4, 912), (8, 909)] (.ret (decide (x < y)))) (.us [(1, 910), (3, 906), (4, 912), (8, 909)] (.ret true))) (.us [(1, 910), (3, 906)] (.f1 914 (.g false) (rfl : false = false) (.use 8 914 (.ret (decide (x < y)))))))) fun v1 => .ret v1
theorem t_less (x : Int) (y : Int) (res : Bool) (hd : d_less x y = some res) : APure C0 52 [.int .i64 x, .int .i64 y] (.bool res) :=
  Plan.pure (iv := fun res => .bool res) (p_less x y) (by kernel_rfl) (Plan.run_of hd (by kernel_rfl))

noncomputable def d_isNaN (x : Int) : Option Bool :=
  some (!(x == x))
noncomputable def p_isNaN (x : Int) : Plan Bool :=
  .ret (!(x == x))
theorem t_isNaN (x : Int) (res : Bool) (hd : d_isNaN x = some res) : APure C0 53 [.int .i64 x] (.bool res) :=
  Plan.pure (iv := fun res => .bool res) (p_isNaN x) (by kernel_rfl) (Plan.run_of hd (by kernel_rfl))

noncomputable def d_BinarySearch (l : List Int) (v : Int) : Option (Int × Bool) :=
  (Option.bind (Option.bind (iter (σ := Int × Int) (ρ := Int) (fun s1 => (bif decide (s1.1 < s1.2) then (Option.bind (shrI .u64 .u64 (IntKind.u64.wrap (IntKind.i64.wrap (s1.1 + s1.2))) 1) fun e1 => (Option.bind (idxI l (IntKind.i64.wrap e1)) fun e2 => (Option.bind (d_less e2 v) fun r1 => (bif r1 then some (.inl ((IntKind.i64.wrap ((IntKind.i64.wrap e1) + 1)), s1.2)) else some (.inl (s1.1, (IntKind.i64.wrap e1))))))) else some (.inr s1.1))) (0, (l.length : Int))) (fun (y1 : Int) => some y1)) fun (v1 : Int) => (Option.bind (bif decide (v1 < (l.length : Int)) then (Option.bind (idxI l v1) fun e3 => (bif (e3 == v) then some true else (Option.bind (d_isNaN e3) fun r2 => (bif r2 then (Option.bind (d_isNaN v) fun r3 => some r3) else some false)))) else some false) fun v2 => some (v1, v2)))
noncomputable def p_BinarySearch (l : List Int) (v : Int) : Plan (Int × Bool) :=
  .reg 1 (.ln 936 rowI l (.use 1 936 (.cut (β := Int) 2 (.e [0, 1, 6] (fun v1 => [(7, vI v1)]) [] 8) (.iter (σ := Int × Int) (ρ := Int) (0, (l.length : Int)) (.e [0, 1, 6] (fun s1 => [(7, vI s1.1), (8, vI s1.2)]) [] 8) (fun s1 => .ite 904 (decide (s1.1 < s1.2)) (.sel 904 (.reg 0 (.b1 924 (shrI .u64 .u64 (IntKind.u64.wrap (IntKind.i64.wrap (s1.1 + s1.2))) 1) (fun e1 => .v (.int .u64 e1)) (fun e1 he1 => (shr_side he1)) fun e1 => .use 4 924 (.reg 0 (.ix 926 rowI l (IntKind.i64.wrap e1) fun e2 => .call 928 (t_less e2 v) fun r1 => .us [(2, 926), (5, 928)] (.ite 916 r1 (.sel 916 (.ret (.inl ((IntKind.i64.wrap ((IntKind.i64.wrap e1) + 1)), s1.2)))) (.sel 916 (.ret (.inl (s1.1, (IntKind.i64.wrap e1))))))))))) (.sel 904 (.ret (.inr s1.1)))) fun y1 => .ret y1) fun v1 => .cut (β := Bool) 1 (.e [] (fun v2 => [(4, vI v1), (5, vB v2)]) [] 33) (.reg 0 (.ite 918 (decide (v1 < (l.length : Int))) (.ix 930 rowI l v1 fun e3 => .ite 920 (e3 == v) (.us [(5, 918), (7, 930), (12, 920)] (.ret true)) (.call 932 (t_isNaN e3) fun r2 => .ite 922 r2 (.call 934 (t_isNaN v) fun r3 => .us [(5, 918), (7, 930), (12, 920), (14, 930), (16, 932), (18, 922), (19, 934)] (.ret r3)) (.us [(5, 918), (7, 930), (12, 920), (14, 930), (16, 932), (18, 922)] (.ret false)))) (.use 5 918 (.ret false)))) fun v2 => .ret (v1, v2))))
theorem t_BinarySearch (l : List Int) (v : Int) (res : Int × Bool) (hd : d_BinarySearch l v = some res) : APure C0 38 [.slice (List.map rowI l), .int .i64 v] (.tuple [.int .i64 res.1, .bool res.2]) :=
  Plan.pure (iv := fun res => .tuple [.int .i64 res.1, .bool res.2]) (p_BinarySearch l v) (by kernel_rfl) (Plan.run_of hd (by kernel_rfl))

noncomputable def d_66a (p1 : ContractT) (p2 : Int) (p3 : List Int) (p4 : Nat) (p5 : List Bool) (p6 : Nat) (p7 : List MarkT) (p8 : Nat) : Option Unit :=
  some ()
noncomputable def p_66a (p1 : ContractT) (p2 : Int) (p3 : List Int) (p4 : Nat) (p5 : List Bool) (p6 : Nat) (p7 : List MarkT) (p8 : Nat) : Plan Unit :=
  .ret ()
theorem t_66a (p1 : ContractT) (p2 : Int) (p3 : List Int) (p4 : Nat) (p5 : List Bool) (p6 : Nat) (p7 : List MarkT) (p8 : Nat) (res : Unit) (hd : d_66a p1 p2 p3 p4 p5 p6 p7 p8 = some res) : DOk C0 66 [.ptr 0 0 0] [(0, .rows 11 [[vI p1.parties, .imm (.slice (List.map rowI p1.holders)), .imm (.slice (List.map UnitT.row p1.units)), .imm (.slice (List.map ActT.row p1.acts)), .imm (.slice (List.map ClauseT.row p1.clauses)), vI p1.days, .imm (.slice (List.map rowI p1.off)), vI p2, .mslice 1 0 p4, .mslice 2 0 p6, .mslice 3 0 p8]]), (1, .rows 1 (rowsA rowI p3)), (2, .rows 1 (rowsA rowB p5)), (3, .rows 5 (rowsA MarkT.row p7))] 4 (.func 67 [] [.ptr 4 0 0]) [(0, .rows 11 [[vI p1.parties, .imm (.slice (List.map rowI p1.holders)), .imm (.slice (List.map UnitT.row p1.units)), .imm (.slice (List.map ActT.row p1.acts)), .imm (.slice (List.map ClauseT.row p1.clauses)), vI p1.days, .imm (.slice (List.map rowI p1.off)), vI p2, .mslice 1 0 p4, .mslice 2 0 p6, .mslice 3 0 p8]]), (1, .rows 1 (rowsA rowI p3)), (2, .rows 1 (rowsA rowB p5)), (3, .rows 5 (rowsA MarkT.row p7)), (4, .rows 1 [[.ptr 0 0 0]])] 1 :=
  Plan.det (R := fun res => .func 67 [] [.ptr 4 0 0]) (H := fun res => [(0, .rows 11 [[vI p1.parties, .imm (.slice (List.map rowI p1.holders)), .imm (.slice (List.map UnitT.row p1.units)), .imm (.slice (List.map ActT.row p1.acts)), .imm (.slice (List.map ClauseT.row p1.clauses)), vI p1.days, .imm (.slice (List.map rowI p1.off)), vI p2, .mslice 1 0 p4, .mslice 2 0 p6, .mslice 3 0 p8]]), (1, .rows 1 (rowsA rowI p3)), (2, .rows 1 (rowsA rowB p5)), (3, .rows 5 (rowsA MarkT.row p7)), (4, .rows 1 [[.ptr 0 0 0]])]) (p_66a p1 p2 p3 p4 p5 p6 p7 p8) (.exp rfl rfl (.rows rfl (.rows rfl (.rows rfl .nil)))) (fun _ => (.exp rfl rfl (.rows rfl (.rows rfl (.rows rfl (.exp rfl rfl .nil)))))) (by kernel_rfl) (fun _ => by kernel_rfl) (by kernel_rfl) (Plan.run_of hd (by kernel_rfl))

noncomputable def d_running (m : MarkT) : Option Bool :=
  (Option.bind (bif (m.status == 1) then some true else some (m.status == 2)) fun v1 => some v1)
noncomputable def p_running (m : MarkT) : Plan Bool :=
  .cut (β := Bool) 2 (.e [] (fun v1 => [(2, vB v1)]) [0] 11) (.reg 0 (.ite 940 (m.status == 1) (.use 4 940 (.ret true)) (.use 4 940 (.ret (m.status == 2))))) fun v1 => .ret v1
theorem t_running (m : MarkT) (res : Bool) (hd : d_running m = some res) : APure C0 105 [.agg (MarkT.row m)] (.bool res) :=
  Plan.pure (iv := fun res => .bool res) (p_running m) (by kernel_rfl) (Plan.run_of hd (by kernel_rfl))

noncomputable def d_62a (p1 : Int) (p2 : Int) (p3 : ContractT) (p4 : Int) (p5 : List Int) (p6 : Nat) (p7 : List Bool) (p8 : Nat) (p9 : List MarkT) (p10 : Nat) : Option (List MarkT) :=
  (Option.bind (idxN p10 p1) fun k1 => (Option.bind (p9[k1]?) fun e1 => some (((p9.set k1 ({ e1 with status := p2 } : MarkT)).set k1 ({ ({ e1 with status := p2 } : MarkT) with left := 0 } : MarkT)).set k1 ({ ({ ({ e1 with status := p2 } : MarkT) with left := 0 } : MarkT) with paused := false } : MarkT))))
noncomputable def p_62a (p1 : Int) (p2 : Int) (p3 : ContractT) (p4 : Int) (p5 : List Int) (p6 : Nat) (p7 : List Bool) (p8 : Nat) (p9 : List MarkT) (p10 : Nat) : Plan (List MarkT) :=
  .reg 0 (.b1 954 (idxN p10 p1) (fun k1 => .k k1) (fun k1 hk1 => (midx_side hk1)) fun k1 => .bind (p9[k1]?) (fun e1 => [(956, ([.aw (rowA (MarkT.row e1)) (rowsA MarkT.row (p9.set k1 ({ e1 with status := p2 } : MarkT)))], _)), (958, ([.aw (rowA (MarkT.row ({ e1 with status := p2 } : MarkT))) (rowsA MarkT.row ((p9.set k1 ({ e1 with status := p2 } : MarkT)).set k1 ({ ({ e1 with status := p2 } : MarkT) with left := 0 } : MarkT)))], _)), (960, ([.aw (rowA (MarkT.row ({ ({ e1 with status := p2 } : MarkT) with left := 0 } : MarkT))) (rowsA MarkT.row (((p9.set k1 ({ e1 with status := p2 } : MarkT)).set k1 ({ ({ e1 with status := p2 } : MarkT) with left := 0 } : MarkT)).set k1 ({ ({ ({ e1 with status := p2 } : MarkT) with left := 0 } : MarkT) with paused := false } : MarkT)))], _))]) (fun e1 he1 => (.c1 (sto_side MarkT.row ({ e1 with status := p2 } : MarkT) he1) (.c1 (sto_side MarkT.row ({ ({ e1 with status := p2 } : MarkT) with left := 0 } : MarkT) (set_get ({ e1 with status := p2 } : MarkT) he1)) (.c1 (sto_side MarkT.row ({ ({ ({ e1 with status := p2 } : MarkT) with left := 0 } : MarkT) with paused := false } : MarkT) (set_get ({ ({ e1 with status := p2 } : MarkT) with left := 0 } : MarkT) (set_get ({ e1 with status := p2 } : MarkT) he1))) .nil)))) fun e1 => .us [(19, 954), (21, 956), (22, 954), (24, 958), (25, 954), (27, 960)] (.ret (((p9.set k1 ({ e1 with status := p2 } : MarkT)).set k1 ({ ({ e1 with status := p2 } : MarkT) with left := 0 } : MarkT)).set k1 ({ ({ ({ e1 with status := p2 } : MarkT) with left := 0 } : MarkT) with paused := false } : MarkT))))
theorem t_62a (p1 : Int) (p2 : Int) (p3 : ContractT) (p4 : Int) (p5 : List Int) (p6 : Nat) (p7 : List Bool) (p8 : Nat) (p9 : List MarkT) (p10 : Nat) (res : (List MarkT)) (hd : d_62a p1 p2 p3 p4 p5 p6 p7 p8 p9 p10 = some res) : DOk C0 62 [.ptr 0 0 0, vI p1, vI p2] [(0, .rows 11 [[vI p3.parties, .imm (.slice (List.map rowI p3.holders)), .imm (.slice (List.map UnitT.row p3.units)), .imm (.slice (List.map ActT.row p3.acts)), .imm (.slice (List.map ClauseT.row p3.clauses)), vI p3.days, .imm (.slice (List.map rowI p3.off)), vI p4, .mslice 1 0 p6, .mslice 2 0 p8, .mslice 3 0 p10]]), (1, .rows 1 (rowsA rowI p5)), (2, .rows 1 (rowsA rowB p7)), (3, .rows 5 (rowsA MarkT.row p9))] 4 (.tuple []) [(0, .rows 11 [[vI p3.parties, .imm (.slice (List.map rowI p3.holders)), .imm (.slice (List.map UnitT.row p3.units)), .imm (.slice (List.map ActT.row p3.acts)), .imm (.slice (List.map ClauseT.row p3.clauses)), vI p3.days, .imm (.slice (List.map rowI p3.off)), vI p4, .mslice 1 0 p6, .mslice 2 0 p8, .mslice 3 0 p10]]), (1, .rows 1 (rowsA rowI p5)), (2, .rows 1 (rowsA rowB p7)), (3, .rows 5 (rowsA MarkT.row res))] 0 :=
  Plan.det (R := fun res => .tuple []) (H := fun res => [(0, .rows 11 [[vI p3.parties, .imm (.slice (List.map rowI p3.holders)), .imm (.slice (List.map UnitT.row p3.units)), .imm (.slice (List.map ActT.row p3.acts)), .imm (.slice (List.map ClauseT.row p3.clauses)), vI p3.days, .imm (.slice (List.map rowI p3.off)), vI p4, .mslice 1 0 p6, .mslice 2 0 p8, .mslice 3 0 p10]]), (1, .rows 1 (rowsA rowI p5)), (2, .rows 1 (rowsA rowB p7)), (3, .rows 5 (rowsA MarkT.row res))]) (p_62a p1 p2 p3 p4 p5 p6 p7 p8 p9 p10) (.exp rfl rfl (.rows rfl (.rows rfl (.rows rfl .nil)))) (fun _ => (.exp rfl rfl (.rows rfl (.rows rfl (.rows rfl .nil))))) (by kernel_rfl) (fun _ => by kernel_rfl) (by kernel_rfl) (Plan.run_of hd (by kernel_rfl))

noncomputable def d_64a (p1 : Int) (p2 : ContractT) (p3 : Int) (p4 : List Int) (p5 : Nat) (p6 : List Bool) (p7 : Nat) (p8 : List MarkT) (p9 : Nat) : Option (List MarkT) :=
  (Option.bind (d_62a p1 5 p2 p3 p4 p5 p6 p7 p8 p9) fun r1 => some r1)
noncomputable def p_64a (p1 : Int) (p2 : ContractT) (p3 : Int) (p4 : List Int) (p5 : Nat) (p6 : List Bool) (p7 : Nat) (p8 : List MarkT) (p9 : Nat) : Plan (List MarkT) :=
  .reg 0 (.b1 962 (d_62a p1 5 p2 p3 p4 p5 p6 p7 p8 p9) (fun r1 => .c [0, 1, 2, 3] 4 (.tuple []) [(3, .rows 5 (rowsA MarkT.row r1))] 0) (fun r1 hr1 => (call_side (t_62a p1 5 p2 p3 p4 p5 p6 p7 p8 p9 r1 hr1) [0, 1, 2, 3] 6 (.drop rfl rfl (.drop rfl rfl (.drop rfl rfl (.keep .nil)))) (rhR (rhI (rhI (rhI rhN)))) (rhI rhN))) fun r1 => .use 2 962 (.ret r1))
theorem t_64a (p1 : Int) (p2 : ContractT) (p3 : Int) (p4 : List Int) (p5 : Nat) (p6 : List Bool) (p7 : Nat) (p8 : List MarkT) (p9 : Nat) (res : (List MarkT)) (hd : d_64a p1 p2 p3 p4 p5 p6 p7 p8 p9 = some res) : DOk C0 64 [.ptr 0 0 0, vI p1] [(0, .rows 11 [[vI p2.parties, .imm (.slice (List.map rowI p2.holders)), .imm (.slice (List.map UnitT.row p2.units)), .imm (.slice (List.map ActT.row p2.acts)), .imm (.slice (List.map ClauseT.row p2.clauses)), vI p2.days, .imm (.slice (List.map rowI p2.off)), vI p3, .mslice 1 0 p5, .mslice 2 0 p7, .mslice 3 0 p9]]), (1, .rows 1 (rowsA rowI p4)), (2, .rows 1 (rowsA rowB p6)), (3, .rows 5 (rowsA MarkT.row p8))] 4 (.tuple []) [(0, .rows 11 [[vI p2.parties, .imm (.slice (List.map rowI p2.holders)), .imm (.slice (List.map UnitT.row p2.units)), .imm (.slice (List.map ActT.row p2.acts)), .imm (.slice (List.map ClauseT.row p2.clauses)), vI p2.days, .imm (.slice (List.map rowI p2.off)), vI p3, .mslice 1 0 p5, .mslice 2 0 p7, .mslice 3 0 p9]]), (1, .rows 1 (rowsA rowI p4)), (2, .rows 1 (rowsA rowB p6)), (3, .rows 5 (rowsA MarkT.row res))] 0 :=
  Plan.det (R := fun res => .tuple []) (H := fun res => [(0, .rows 11 [[vI p2.parties, .imm (.slice (List.map rowI p2.holders)), .imm (.slice (List.map UnitT.row p2.units)), .imm (.slice (List.map ActT.row p2.acts)), .imm (.slice (List.map ClauseT.row p2.clauses)), vI p2.days, .imm (.slice (List.map rowI p2.off)), vI p3, .mslice 1 0 p5, .mslice 2 0 p7, .mslice 3 0 p9]]), (1, .rows 1 (rowsA rowI p4)), (2, .rows 1 (rowsA rowB p6)), (3, .rows 5 (rowsA MarkT.row res))]) (p_64a p1 p2 p3 p4 p5 p6 p7 p8 p9) (.exp rfl rfl (.rows rfl (.rows rfl (.rows rfl .nil)))) (fun _ => (.exp rfl rfl (.rows rfl (.rows rfl (.rows rfl .nil))))) (by kernel_rfl) (fun _ => by kernel_rfl) (by kernel_rfl) (Plan.run_of hd (by kernel_rfl))

noncomputable def d_61a (p1 : Int) (p2 : ContractT) (p3 : Int) (p4 : List Int) (p5 : Nat) (p6 : List Bool) (p7 : Nat) (p8 : List MarkT) (p9 : Nat) : Option (List MarkT) :=
  (Option.bind (d_62a p1 3 p2 p3 p4 p5 p6 p7 p8 p9) fun r1 => some r1)
noncomputable def p_61a (p1 : Int) (p2 : ContractT) (p3 : Int) (p4 : List Int) (p5 : Nat) (p6 : List Bool) (p7 : Nat) (p8 : List MarkT) (p9 : Nat) : Plan (List MarkT) :=
  .reg 0 (.b1 968 (d_62a p1 3 p2 p3 p4 p5 p6 p7 p8 p9) (fun r1 => .c [0, 1, 2, 3] 4 (.tuple []) [(3, .rows 5 (rowsA MarkT.row r1))] 0) (fun r1 hr1 => (call_side (t_62a p1 3 p2 p3 p4 p5 p6 p7 p8 p9 r1 hr1) [0, 1, 2, 3] 6 (.drop rfl rfl (.drop rfl rfl (.drop rfl rfl (.keep .nil)))) (rhR (rhI (rhI (rhI rhN)))) (rhI rhN))) fun r1 => .use 2 968 (.ret r1))
theorem t_61a (p1 : Int) (p2 : ContractT) (p3 : Int) (p4 : List Int) (p5 : Nat) (p6 : List Bool) (p7 : Nat) (p8 : List MarkT) (p9 : Nat) (res : (List MarkT)) (hd : d_61a p1 p2 p3 p4 p5 p6 p7 p8 p9 = some res) : DOk C0 61 [.ptr 0 0 0, vI p1] [(0, .rows 11 [[vI p2.parties, .imm (.slice (List.map rowI p2.holders)), .imm (.slice (List.map UnitT.row p2.units)), .imm (.slice (List.map ActT.row p2.acts)), .imm (.slice (List.map ClauseT.row p2.clauses)), vI p2.days, .imm (.slice (List.map rowI p2.off)), vI p3, .mslice 1 0 p5, .mslice 2 0 p7, .mslice 3 0 p9]]), (1, .rows 1 (rowsA rowI p4)), (2, .rows 1 (rowsA rowB p6)), (3, .rows 5 (rowsA MarkT.row p8))] 4 (.tuple []) [(0, .rows 11 [[vI p2.parties, .imm (.slice (List.map rowI p2.holders)), .imm (.slice (List.map UnitT.row p2.units)), .imm (.slice (List.map ActT.row p2.acts)), .imm (.slice (List.map ClauseT.row p2.clauses)), vI p2.days, .imm (.slice (List.map rowI p2.off)), vI p3, .mslice 1 0 p5, .mslice 2 0 p7, .mslice 3 0 p9]]), (1, .rows 1 (rowsA rowI p4)), (2, .rows 1 (rowsA rowB p6)), (3, .rows 5 (rowsA MarkT.row res))] 0 :=
  Plan.det (R := fun res => .tuple []) (H := fun res => [(0, .rows 11 [[vI p2.parties, .imm (.slice (List.map rowI p2.holders)), .imm (.slice (List.map UnitT.row p2.units)), .imm (.slice (List.map ActT.row p2.acts)), .imm (.slice (List.map ClauseT.row p2.clauses)), vI p2.days, .imm (.slice (List.map rowI p2.off)), vI p3, .mslice 1 0 p5, .mslice 2 0 p7, .mslice 3 0 p9]]), (1, .rows 1 (rowsA rowI p4)), (2, .rows 1 (rowsA rowB p6)), (3, .rows 5 (rowsA MarkT.row res))]) (p_61a p1 p2 p3 p4 p5 p6 p7 p8 p9) (.exp rfl rfl (.rows rfl (.rows rfl (.rows rfl .nil)))) (fun _ => (.exp rfl rfl (.rows rfl (.rows rfl (.rows rfl .nil))))) (by kernel_rfl) (fun _ => by kernel_rfl) (by kernel_rfl) (Plan.run_of hd (by kernel_rfl))

noncomputable def d_63a (p1 : Int) (p2 : ContractT) (p3 : Int) (p4 : List Int) (p5 : Nat) (p6 : List Bool) (p7 : Nat) (p8 : List MarkT) (p9 : Nat) : Option (List MarkT) :=
  (Option.bind (Option.bind (idxN p9 p1) fun k1 => (Option.bind (p8[k1]?) fun e1 => (bif (e1.status == 1) then (Option.bind (idxI p2.clauses p1) fun e2 => some (decide (0 < e2.grace))) else some false))) fun v1 => (bif v1 then (Option.bind (idxI p2.clauses p1) fun e3 => (Option.bind (idxN p9 p1) fun k2 => (Option.bind (p8[k2]?) fun e4 => some ((p8.set k2 ({ e4 with status := 2 } : MarkT)).set k2 ({ ({ e4 with status := 2 } : MarkT) with left := e3.grace } : MarkT))))) else (Option.bind (d_62a p1 4 p2 p3 p4 p5 p6 p7 p8 p9) fun r1 => some r1)))
noncomputable def p_63a (p1 : Int) (p2 : ContractT) (p3 : Int) (p4 : List Int) (p5 : Nat) (p6 : List Bool) (p7 : Nat) (p8 : List MarkT) (p9 : Nat) : Plan (List MarkT) :=
  .cut (β := Bool) 2 (.k [0, 1] (fun v1 => [(25, vB v1)]) [0] (fun _ => [(1, .rows 1 (rowsA rowI p4)), (2, .rows 1 (rowsA rowB p6)), (3, .rows 5 (rowsA MarkT.row p8))]) 26 fun _ => (.rows rfl (.rows rfl (.rows rfl .nil)))) (.reg 0 (.b1 976 (idxN p9 p1) (fun k1 => .k k1) (fun k1 hk1 => (midx_side hk1)) fun k1 => .b1 978 (p8[k1]?) (fun e1 => .ar (rowA (MarkT.row e1))) (fun e1 he1 => (row_side MarkT.row he1)) fun e1 => .ite 972 (e1.status == 1) (.ix 980 ClauseT.row p2.clauses p1 fun e2 => .us [(6, 976), (8, 978), (11, 972), (17, 980)] (.ret (decide (0 < e2.grace)))) (.us [(6, 976), (8, 978), (11, 972)] (.ret false)))) fun v1 => .ite 974 v1 (.sel 974 (.reg 0 (.ix 982 ClauseT.row p2.clauses p1 fun e3 => .b1 984 (idxN p9 p1) (fun k2 => .k k2) (fun k2 hk2 => (midx_side hk2)) fun k2 => .bind (p8[k2]?) (fun e4 => [(986, ([.aw (rowA (MarkT.row e4)) (rowsA MarkT.row (p8.set k2 ({ e4 with status := 2 } : MarkT)))], _)), (988, ([.aw (rowA (MarkT.row ({ e4 with status := 2 } : MarkT))) (rowsA MarkT.row ((p8.set k2 ({ e4 with status := 2 } : MarkT)).set k2 ({ ({ e4 with status := 2 } : MarkT) with left := e3.grace } : MarkT)))], _))]) (fun e4 he4 => (.c1 (sto_side MarkT.row ({ e4 with status := 2 } : MarkT) he4) (.c1 (sto_side MarkT.row ({ ({ e4 with status := 2 } : MarkT) with left := e3.grace } : MarkT) (set_get ({ e4 with status := 2 } : MarkT) he4)) .nil))) fun e4 => .us [(18, 982), (21, 984), (23, 986), (24, 984), (26, 988)] (.ret ((p8.set k2 ({ e4 with status := 2 } : MarkT)).set k2 ({ ({ e4 with status := 2 } : MarkT) with left := e3.grace } : MarkT)))))) (.sel 974 (.reg 0 (.b1 990 (d_62a p1 4 p2 p3 p4 p5 p6 p7 p8 p9) (fun r1 => .c [0, 1, 2, 3] 4 (.tuple []) [(3, .rows 5 (rowsA MarkT.row r1))] 0) (fun r1 hr1 => (call_side (t_62a p1 4 p2 p3 p4 p5 p6 p7 p8 p9 r1 hr1) [0, 1, 2, 3] 28 (.drop rfl rfl (.drop rfl rfl (.drop rfl rfl (.keep .nil)))) (rhR (rhI (rhI (rhI rhN)))) (rhI rhN))) fun r1 => .use 2 990 (.ret r1))))
theorem t_63a (p1 : Int) (p2 : ContractT) (p3 : Int) (p4 : List Int) (p5 : Nat) (p6 : List Bool) (p7 : Nat) (p8 : List MarkT) (p9 : Nat) (res : (List MarkT)) (hd : d_63a p1 p2 p3 p4 p5 p6 p7 p8 p9 = some res) : DOk C0 63 [.ptr 0 0 0, vI p1] [(0, .rows 11 [[vI p2.parties, .imm (.slice (List.map rowI p2.holders)), .imm (.slice (List.map UnitT.row p2.units)), .imm (.slice (List.map ActT.row p2.acts)), .imm (.slice (List.map ClauseT.row p2.clauses)), vI p2.days, .imm (.slice (List.map rowI p2.off)), vI p3, .mslice 1 0 p5, .mslice 2 0 p7, .mslice 3 0 p9]]), (1, .rows 1 (rowsA rowI p4)), (2, .rows 1 (rowsA rowB p6)), (3, .rows 5 (rowsA MarkT.row p8))] 4 (.tuple []) [(0, .rows 11 [[vI p2.parties, .imm (.slice (List.map rowI p2.holders)), .imm (.slice (List.map UnitT.row p2.units)), .imm (.slice (List.map ActT.row p2.acts)), .imm (.slice (List.map ClauseT.row p2.clauses)), vI p2.days, .imm (.slice (List.map rowI p2.off)), vI p3, .mslice 1 0 p5, .mslice 2 0 p7, .mslice 3 0 p9]]), (1, .rows 1 (rowsA rowI p4)), (2, .rows 1 (rowsA rowB p6)), (3, .rows 5 (rowsA MarkT.row res))] 0 :=
  Plan.det (R := fun res => .tuple []) (H := fun res => [(0, .rows 11 [[vI p2.parties, .imm (.slice (List.map rowI p2.holders)), .imm (.slice (List.map UnitT.row p2.units)), .imm (.slice (List.map ActT.row p2.acts)), .imm (.slice (List.map ClauseT.row p2.clauses)), vI p2.days, .imm (.slice (List.map rowI p2.off)), vI p3, .mslice 1 0 p5, .mslice 2 0 p7, .mslice 3 0 p9]]), (1, .rows 1 (rowsA rowI p4)), (2, .rows 1 (rowsA rowB p6)), (3, .rows 5 (rowsA MarkT.row res))]) (p_63a p1 p2 p3 p4 p5 p6 p7 p8 p9) (.exp rfl rfl (.rows rfl (.rows rfl (.rows rfl .nil)))) (fun _ => (.exp rfl rfl (.rows rfl (.rows rfl (.rows rfl .nil))))) (by kernel_rfl) (fun _ => by kernel_rfl) (by kernel_rfl) (Plan.run_of hd (by kernel_rfl))

noncomputable def d_70a (p1 : ContractT) (p2 : Int) (p3 : List Int) (p4 : Nat) (p5 : List Bool) (p6 : Nat) (p7 : List MarkT) (p8 : Nat) : Option (List MarkT) :=
  (Option.bind (d_BinarySearch p1.off p2) fun r1 => (Option.bind (Option.bind (d_66a p1 p2 p3 p4 p5 p6 p7 p8) fun r2 => (Option.bind (forR (σ := (List MarkT)) (ρ := (List MarkT)) (p8 : Int) (fun i1 s1 => (Option.bind (Option.bind (idxN p8 (i1 : Int)) fun k1 => (Option.bind (s1[k1]?) fun e1 => (Option.bind (d_running e1) fun r3 => (bif r3 then (Option.bind (Option.bind (idxI p1.clauses (i1 : Int)) fun e2 => (Option.bind (Option.bind (idxN p8 (i1 : Int)) fun k2 => (Option.bind (s1[k2]?) fun e3 => (bif e3.paused then some true else (bif e2.business then some r1.2 else some false)))) fun v1 => (bif v1 then some s1 else (Option.bind (idxN p8 (i1 : Int)) fun k3 => (Option.bind (s1[k3]?) fun e4 => (Option.bind (idxN p8 (i1 : Int)) fun k4 => (Option.bind ((s1.set k3 ({ e4 with left := (IntKind.i64.wrap (e4.left - 1)) } : MarkT))[k4]?) fun e5 => (bif (e5.left == 0) then (Option.bind (bif (e2.kind == (0 : Int)) then none else (bif (e2.kind == (1 : Int)) then (Option.bind (d_63a (i1 : Int) p1 p2 p3 p4 p5 p6 (s1.set k3 ({ e4 with left := (IntKind.i64.wrap (e4.left - 1)) } : MarkT)) p8) fun r7 => some r7) else (bif (e2.kind == (2 : Int)) then (Option.bind (d_61a (i1 : Int) p1 p2 p3 p4 p5 p6 (s1.set k3 ({ e4 with left := (IntKind.i64.wrap (e4.left - 1)) } : MarkT)) p8) fun r6 => some r6) else (bif (e2.kind == (3 : Int)) then (Option.bind (d_64a (i1 : Int) p1 p2 p3 p4 p5 p6 (s1.set k3 ({ e4 with left := (IntKind.i64.wrap (e4.left - 1)) } : MarkT)) p8) fun r5 => some r5) else (bif (e2.kind == (4 : Int)) then (Option.bind (d_64a (i1 : Int) p1 p2 p3 p4 p5 p6 (s1.set k3 ({ e4 with left := (IntKind.i64.wrap (e4.left - 1)) } : MarkT)) p8) fun r4 => some r4) else none))))) fun v2 => some v2) else some (s1.set k3 ({ e4 with left := (IntKind.i64.wrap (e4.left - 1)) } : MarkT)))))))))) fun (v3 : (List MarkT)) => some ((!true), v3)) else some (false, s1))))) fun (v4 : Bool × (List MarkT)) => (bif v4.1 then some (.inr v4.2) else some (.inl v4.2)))) p7) (Sum.elim (fun (s1 : (List MarkT)) => some s1) (fun (y1 : (List MarkT)) => some y1)))) fun (v5 : (List MarkT)) => (Option.bind (d_69a p1 (IntKind.i64.wrap (p2 + 1)) p3 p4 p5 p6 v5 p8) fun r8 => some r8)))
noncomputable def p_70a (p1 : ContractT) (p2 : Int) (p3 : List Int) (p4 : Nat) (p5 : List Bool) (p6 : Nat) (p7 : List MarkT) (p8 : Nat) : Plan (List MarkT) :=
  .reg 2 (.call 1018 (t_BinarySearch p1.off p2) fun r1 => .use 10 1018 (.cut (β := (List MarkT)) 1 (.k [1] (fun _ => []) [0, 4] (fun v5 => [(1, .rows 1 (rowsA rowI p3)), (2, .rows 1 (rowsA rowB p5)), (3, .rows 5 (rowsA MarkT.row v5))]) 37 fun _ => (.rows rfl (.rows rfl (.rows rfl .nil)))) (.reg 0 (.b1 1020 (d_66a p1 p2 p3 p4 p5 p6 p7 p8) (fun r2 => .c [0, 1, 2, 3] 4 (.func 67 [] [.ptr 26 0 0]) [(26, .rows 1 [[.ptr 0 0 0]])] 1) (fun r2 hr2 => (call_side (t_66a p1 p2 p3 p4 p5 p6 p7 p8 r2 hr2) [0, 1, 2, 3] 26 (.drop rfl rfl (.drop rfl rfl (.drop rfl rfl (.drop rfl rfl (.keep .nil))))) (rhR (rhI (rhI (rhI rhN)))) (rhR rhN))) fun r2 => .use 1 1020 (.forR (σ := (List MarkT)) (ρ := (List MarkT)) 938 10 (p8 : Int) p7 (.k [0, 1, 9] (fun _ => []) [0, 4, 6, 22, 26, 28] (fun s1 => [(1, .rows 1 (rowsA rowI p3)), (2, .rows 1 (rowsA rowB p5)), (3, .rows 5 (rowsA MarkT.row s1))]) 36 fun _ => (.rows rfl (.rows rfl (.rows rfl .nil)))) (fun i1 s1 => .sel 938 (.cut (β := Bool × (List MarkT)) 4 (.k [0, 1, 9, 10] (fun v4 => [(27, vB v4.1)]) [0, 4, 6, 22, 26, 28] (fun v4 => [(1, .rows 1 (rowsA rowI p3)), (2, .rows 1 (rowsA rowB p5)), (3, .rows 5 (rowsA MarkT.row v4.2))]) 54 fun _ => (.rows rfl (.rows rfl (.rows rfl .nil)))) (.reg 0 (.b1 1022 (idxN p8 (i1 : Int)) (fun k1 => .k k1) (fun k1 hk1 => (midx_side hk1)) fun k1 => .b1 1024 (s1[k1]?) (fun e1 => .ar (rowA (MarkT.row e1))) (fun e1 he1 => (row_side MarkT.row he1)) fun e1 => .call 1026 (t_running e1) fun r3 => .ite 996 r3 (.us [(6, 1022), (7, 1024), (8, 1026), (10, 996)] (.reg 0 (.cut (β := (List MarkT)) 0 (.k [] (fun _ => []) [0, 4, 6, 22, 26, 28] (fun v3 => [(1, .rows 1 (rowsA rowI p3)), (2, .rows 1 (rowsA rowB p5)), (3, .rows 5 (rowsA MarkT.row v3))]) 79 fun _ => (.rows rfl (.rows rfl (.rows rfl .nil)))) (.reg 0 (.ix 1028 ClauseT.row p1.clauses (i1 : Int) fun e2 => .use 6 1028 (.cut (β := Bool) 2 (.k [1, 2, 5, 6] (fun v1 => [(48, vB v1)]) [0, 4, 6, 22, 26, 28, 61] (fun _ => [(1, .rows 1 (rowsA rowI p3)), (2, .rows 1 (rowsA rowB p5)), (3, .rows 5 (rowsA MarkT.row s1))]) 79 fun _ => (.rows rfl (.rows rfl (.rows rfl .nil)))) (.reg 0 (.b1 1030 (idxN p8 (i1 : Int)) (fun k2 => .k k2) (fun k2 hk2 => (midx_side hk2)) fun k2 => .b1 1032 (s1[k2]?) (fun e3 => .ar (rowA (MarkT.row e3))) (fun e3 he3 => (row_side MarkT.row he3)) fun e3 => .ite 998 e3.paused (.us [(6, 1030), (8, 1032), (10, 998)] (.ret true)) (.ite 1000 e2.business (.us [(6, 1030), (8, 1032), (10, 998), (13, 1000)] (.ret r1.2)) (.us [(6, 1030), (8, 1032), (10, 998), (13, 1000)] (.ret false))))) fun v1 => .ite 1002 v1 (.sel 1002 (.ret s1)) (.sel 1002 (.reg 0 (.b1 1034 (idxN p8 (i1 : Int)) (fun k3 => .k k3) (fun k3 hk3 => (midx_side hk3)) fun k3 => .bind (s1[k3]?) (fun e4 => [(1036, ([.ar (rowA (MarkT.row e4))], _)), (1038, ([.aw (rowA (MarkT.row e4)) (rowsA MarkT.row (s1.set k3 ({ e4 with left := (IntKind.i64.wrap (e4.left - 1)) } : MarkT)))], _))]) (fun e4 he4 => (.c1 (row_side MarkT.row he4) (.c1 (sto_side MarkT.row ({ e4 with left := (IntKind.i64.wrap (e4.left - 1)) } : MarkT) he4) .nil))) fun e4 => .us [(6, 1034), (8, 1036), (10, 1034), (12, 1038)] (.reg 0 (.b1 1040 (idxN p8 (i1 : Int)) (fun k4 => .k k4) (fun k4 hk4 => (midx_side hk4)) fun k4 => .b1 1042 ((s1.set k3 ({ e4 with left := (IntKind.i64.wrap (e4.left - 1)) } : MarkT))[k4]?) (fun e5 => .ar (rowA (MarkT.row e5))) (fun e5 he5 => (row_side MarkT.row he5)) fun e5 => .us [(6, 1040), (8, 1042)] (.ite 1004 (e5.left == 0) (.sel 1004 (.cut (β := (List MarkT)) 0 (.k [] (fun _ => []) [0, 4, 6, 22, 26, 28, 61] (fun v2 => [(1, .rows 1 (rowsA rowI p3)), (2, .rows 1 (rowsA rowB p5)), (3, .rows 5 (rowsA MarkT.row v2))]) 109 fun _ => (.rows rfl (.rows rfl (.rows rfl .nil)))) (.reg 0 (.swt 1014 e2.kind 5 0 rfl (.none) (.swt 1012 e2.kind 5 1 rfl (.b1 1044 (d_63a (i1 : Int) p1 p2 p3 p4 p5 p6 (s1.set k3 ({ e4 with left := (IntKind.i64.wrap (e4.left - 1)) } : MarkT)) p8) (fun r7 => .c [0, 1, 2, 3] 4 (.tuple []) [(3, .rows 5 (rowsA MarkT.row r7))] 0) (fun r7 hr7 => (call_side (t_63a (i1 : Int) p1 p2 p3 p4 p5 p6 (s1.set k3 ({ e4 with left := (IntKind.i64.wrap (e4.left - 1)) } : MarkT)) p8 r7 hr7) [0, 1, 2, 3] 109 (.drop rfl rfl (.drop rfl rfl (.drop rfl rfl (.keep .nil)))) (rhR (rhI (rhI (rhI rhN)))) (rhI rhN))) fun r7 => .us [(2, 1012), (6, 1044)] (.ret r7)) (.swt 1010 e2.kind 5 2 rfl (.b1 1046 (d_61a (i1 : Int) p1 p2 p3 p4 p5 p6 (s1.set k3 ({ e4 with left := (IntKind.i64.wrap (e4.left - 1)) } : MarkT)) p8) (fun r6 => .c [0, 1, 2, 3] 4 (.tuple []) [(3, .rows 5 (rowsA MarkT.row r6))] 0) (fun r6 hr6 => (call_side (t_61a (i1 : Int) p1 p2 p3 p4 p5 p6 (s1.set k3 ({ e4 with left := (IntKind.i64.wrap (e4.left - 1)) } : MarkT)) p8 r6 hr6) [0, 1, 2, 3] 109 (.drop rfl rfl (.drop rfl rfl (.drop rfl rfl (.keep .nil)))) (rhR (rhI (rhI (rhI rhN)))) (rhI rhN))) fun r6 => .us [(2, 1010), (6, 1046)] (.ret r6)) (.swt 1008 e2.kind 5 3 rfl (.b1 1048 (d_64a (i1 : Int) p1 p2 p3 p4 p5 p6 (s1.set k3 ({ e4 with left := (IntKind.i64.wrap (e4.left - 1)) } : MarkT)) p8) (fun r5 => .c [0, 1, 2, 3] 4 (.tuple []) [(3, .rows 5 (rowsA MarkT.row r5))] 0) (fun r5 hr5 => (call_side (t_64a (i1 : Int) p1 p2 p3 p4 p5 p6 (s1.set k3 ({ e4 with left := (IntKind.i64.wrap (e4.left - 1)) } : MarkT)) p8 r5 hr5) [0, 1, 2, 3] 109 (.drop rfl rfl (.drop rfl rfl (.drop rfl rfl (.keep .nil)))) (rhR (rhI (rhI (rhI rhN)))) (rhI rhN))) fun r5 => .us [(2, 1008), (6, 1048)] (.ret r5)) (.swt 1006 e2.kind 5 4 rfl (.b1 1050 (d_64a (i1 : Int) p1 p2 p3 p4 p5 p6 (s1.set k3 ({ e4 with left := (IntKind.i64.wrap (e4.left - 1)) } : MarkT)) p8) (fun r4 => .c [0, 1, 2, 3] 4 (.tuple []) [(3, .rows 5 (rowsA MarkT.row r4))] 0) (fun r4 hr4 => (call_side (t_64a (i1 : Int) p1 p2 p3 p4 p5 p6 (s1.set k3 ({ e4 with left := (IntKind.i64.wrap (e4.left - 1)) } : MarkT)) p8 r4 hr4) [0, 1, 2, 3] 109 (.drop rfl rfl (.drop rfl rfl (.drop rfl rfl (.keep .nil)))) (rhR (rhI (rhI (rhI rhN)))) (rhI rhN))) fun r4 => .us [(2, 1006), (6, 1050)] (.ret r4)) (.none))))))) fun v2 => .ret v2)) (.sel 1004 (.ret (s1.set k3 ({ e4 with left := (IntKind.i64.wrap (e4.left - 1)) } : MarkT))))))))))))) fun v3 => .ret ((!true), v3)))) (.us [(6, 1022), (7, 1024), (8, 1026), (10, 996)] (.ret (false, s1))))) fun v4 => .ite 1016 v4.1 (.sel 1016 (.ret (.inr v4.2))) (.sel 1016 (.ret (.inl v4.2))))) fun os1 => .case os1 (fun s1 => .sel 938 (.ret s1)) fun y1 => .ret y1))) fun v5 => .reg 1 (.b1 1052 (d_69a p1 (IntKind.i64.wrap (p2 + 1)) p3 p4 p5 p6 v5 p8) (fun r8 => .c [0, 1, 2, 3] 4 (.tuple []) [(3, .rows 5 (rowsA MarkT.row r8))] 0) (fun r8 hr8 => (call_side (t_69a p1 (IntKind.i64.wrap (p2 + 1)) p3 p4 p5 p6 v5 p8 r8 hr8) [0, 1, 2, 3] 48 (.drop rfl rfl (.drop rfl rfl (.drop rfl rfl (.keep .nil)))) (rhR (rhI (rhI (rhI rhN)))) (rhI rhN))) fun r8 => .use 1 1052 (.ret r8))))
theorem t_70a (p1 : ContractT) (p2 : Int) (p3 : List Int) (p4 : Nat) (p5 : List Bool) (p6 : Nat) (p7 : List MarkT) (p8 : Nat) (res : (List MarkT)) (hd : d_70a p1 p2 p3 p4 p5 p6 p7 p8 = some res) : DOk C0 70 [.ptr 0 0 0] [(0, .rows 11 [[vI p1.parties, .imm (.slice (List.map rowI p1.holders)), .imm (.slice (List.map UnitT.row p1.units)), .imm (.slice (List.map ActT.row p1.acts)), .imm (.slice (List.map ClauseT.row p1.clauses)), vI p1.days, .imm (.slice (List.map rowI p1.off)), vI p2, .mslice 1 0 p4, .mslice 2 0 p6, .mslice 3 0 p8]]), (1, .rows 1 (rowsA rowI p3)), (2, .rows 1 (rowsA rowB p5)), (3, .rows 5 (rowsA MarkT.row p7))] 4 (.tuple []) [(0, .rows 11 [[vI p1.parties, .imm (.slice (List.map rowI p1.holders)), .imm (.slice (List.map UnitT.row p1.units)), .imm (.slice (List.map ActT.row p1.acts)), .imm (.slice (List.map ClauseT.row p1.clauses)), vI p1.days, .imm (.slice (List.map rowI p1.off)), vI (IntKind.i64.wrap (p2 + 1)), .mslice 1 0 p4, .mslice 2 0 p6, .mslice 3 0 p8]]), (1, .rows 1 (rowsA rowI p3)), (2, .rows 1 (rowsA rowB p5)), (3, .rows 5 (rowsA MarkT.row res))] 0 :=
  Plan.det (R := fun res => .tuple []) (H := fun res => [(0, .rows 11 [[vI p1.parties, .imm (.slice (List.map rowI p1.holders)), .imm (.slice (List.map UnitT.row p1.units)), .imm (.slice (List.map ActT.row p1.acts)), .imm (.slice (List.map ClauseT.row p1.clauses)), vI p1.days, .imm (.slice (List.map rowI p1.off)), vI (IntKind.i64.wrap (p2 + 1)), .mslice 1 0 p4, .mslice 2 0 p6, .mslice 3 0 p8]]), (1, .rows 1 (rowsA rowI p3)), (2, .rows 1 (rowsA rowB p5)), (3, .rows 5 (rowsA MarkT.row res))]) (p_70a p1 p2 p3 p4 p5 p6 p7 p8) (.exp rfl rfl (.rows rfl (.rows rfl (.rows rfl .nil)))) (fun _ => (.exp rfl rfl (.rows rfl (.rows rfl (.rows rfl .nil))))) (by kernel_rfl) (fun _ => by kernel_rfl) (by kernel_rfl) (Plan.run_of hd (by kernel_rfl))

noncomputable def d_doer (c : ContractT) (s : StateT) (act : Int) : Option Int :=
  (Option.bind (idxI c.acts act) fun e1 => (bif (e1.role == (-1)) then some (-1) else (Option.bind (idxI c.acts act) fun e2 => (Option.bind (idxI s.holders e2.role) fun e3 => some e3))))
noncomputable def p_doer (c : ContractT) (s : StateT) (act : Int) : Plan Int :=
  .reg 1 (.ix 1078 ActT.row c.acts act fun e1 => .use 3 1078 (.ite 1076 (e1.role == (-1)) (.sel 1076 (.ret (-1))) (.sel 1076 (.reg 0 (.ix 1080 ActT.row c.acts act fun e2 => .ix 1082 rowI s.holders e2.role fun e3 => .us [(5, 1080), (8, 1082)] (.ret e3))))))
theorem t_doer (c : ContractT) (s : StateT) (act : Int) (res : Int) (hd : d_doer c s act = some res) : APure C0 103 [.agg (ContractT.row c), .agg (StateT.row s), .int .i64 act] (.int .i64 res) :=
  Plan.pure (iv := fun res => .int .i64 res) (p_doer c s act) (by kernel_rfl) (Plan.run_of hd (by kernel_rfl))

noncomputable def d_71a (p1 : Int) (p2 : ContractT) (p3 : Int) (p4 : List Int) (p5 : Nat) (p6 : List Bool) (p7 : Nat) (p8 : List MarkT) (p9 : Nat) : Option (List MarkT) :=
  (Option.bind (idxN p9 p1) fun k1 => (Option.bind (p8[k1]?) fun e1 => (bif e1.paused then some p8 else (Option.bind (d_62a p1 4 p2 p3 p4 p5 p6 p7 p8 p9) fun r1 => some r1))))
noncomputable def p_71a (p1 : Int) (p2 : ContractT) (p3 : Int) (p4 : List Int) (p5 : Nat) (p6 : List Bool) (p7 : Nat) (p8 : List MarkT) (p9 : Nat) : Plan (List MarkT) :=
  .reg 0 (.b1 1102 (idxN p9 p1) (fun k1 => .k k1) (fun k1 hk1 => (midx_side hk1)) fun k1 => .b1 1104 (p8[k1]?) (fun e1 => .ar (rowA (MarkT.row e1))) (fun e1 he1 => (row_side MarkT.row he1)) fun e1 => .us [(6, 1102), (8, 1104)] (.ite 1100 e1.paused (.sel 1101 (.ret p8)) (.sel 1101 (.reg 0 (.b1 1106 (d_62a p1 4 p2 p3 p4 p5 p6 p7 p8 p9) (fun r1 => .c [0, 1, 2, 3] 4 (.tuple []) [(3, .rows 5 (rowsA MarkT.row r1))] 0) (fun r1 hr1 => (call_side (t_62a p1 4 p2 p3 p4 p5 p6 p7 p8 p9 r1 hr1) [0, 1, 2, 3] 16 (.drop rfl rfl (.drop rfl rfl (.drop rfl rfl (.keep .nil)))) (rhR (rhI (rhI (rhI rhN)))) (rhI rhN))) fun r1 => .use 2 1106 (.ret r1))))))
theorem t_71a (p1 : Int) (p2 : ContractT) (p3 : Int) (p4 : List Int) (p5 : Nat) (p6 : List Bool) (p7 : Nat) (p8 : List MarkT) (p9 : Nat) (res : (List MarkT)) (hd : d_71a p1 p2 p3 p4 p5 p6 p7 p8 p9 = some res) : DOk C0 71 [.ptr 0 0 0, vI p1] [(0, .rows 11 [[vI p2.parties, .imm (.slice (List.map rowI p2.holders)), .imm (.slice (List.map UnitT.row p2.units)), .imm (.slice (List.map ActT.row p2.acts)), .imm (.slice (List.map ClauseT.row p2.clauses)), vI p2.days, .imm (.slice (List.map rowI p2.off)), vI p3, .mslice 1 0 p5, .mslice 2 0 p7, .mslice 3 0 p9]]), (1, .rows 1 (rowsA rowI p4)), (2, .rows 1 (rowsA rowB p6)), (3, .rows 5 (rowsA MarkT.row p8))] 4 (.tuple []) [(0, .rows 11 [[vI p2.parties, .imm (.slice (List.map rowI p2.holders)), .imm (.slice (List.map UnitT.row p2.units)), .imm (.slice (List.map ActT.row p2.acts)), .imm (.slice (List.map ClauseT.row p2.clauses)), vI p2.days, .imm (.slice (List.map rowI p2.off)), vI p3, .mslice 1 0 p5, .mslice 2 0 p7, .mslice 3 0 p9]]), (1, .rows 1 (rowsA rowI p4)), (2, .rows 1 (rowsA rowB p6)), (3, .rows 5 (rowsA MarkT.row res))] 0 :=
  Plan.det (R := fun res => .tuple []) (H := fun res => [(0, .rows 11 [[vI p2.parties, .imm (.slice (List.map rowI p2.holders)), .imm (.slice (List.map UnitT.row p2.units)), .imm (.slice (List.map ActT.row p2.acts)), .imm (.slice (List.map ClauseT.row p2.clauses)), vI p2.days, .imm (.slice (List.map rowI p2.off)), vI p3, .mslice 1 0 p5, .mslice 2 0 p7, .mslice 3 0 p9]]), (1, .rows 1 (rowsA rowI p4)), (2, .rows 1 (rowsA rowB p6)), (3, .rows 5 (rowsA MarkT.row res))]) (p_71a p1 p2 p3 p4 p5 p6 p7 p8 p9) (.exp rfl rfl (.rows rfl (.rows rfl (.rows rfl .nil)))) (fun _ => (.exp rfl rfl (.rows rfl (.rows rfl (.rows rfl .nil))))) (by kernel_rfl) (fun _ => by kernel_rfl) (by kernel_rfl) (Plan.run_of hd (by kernel_rfl))

noncomputable def d_65a (p1 : Int) (p2 : ContractT) (p3 : Int) (p4 : List Int) (p5 : Nat) (p6 : List Bool) (p7 : Nat) (p8 : List MarkT) (p9 : Nat) : Option (List MarkT) :=
  (Option.bind (idxN p9 p1) fun k1 => (Option.bind (p8[k1]?) fun e1 => (Option.bind (idxN p9 p1) fun k2 => (Option.bind ((p8.set k1 ({ e1 with got := (IntKind.i64.wrap (e1.got + 1)) } : MarkT))[k2]?) fun e2 => (Option.bind (idxI p2.clauses p1) fun e3 => (bif (e2.got == e3.need) then (Option.bind (d_62a p1 3 p2 p3 p4 p5 p6 p7 (p8.set k1 ({ e1 with got := (IntKind.i64.wrap (e1.got + 1)) } : MarkT)) p9) fun r1 => some r1) else some (p8.set k1 ({ e1 with got := (IntKind.i64.wrap (e1.got + 1)) } : MarkT))))))))
noncomputable def p_65a (p1 : Int) (p2 : ContractT) (p3 : Int) (p4 : List Int) (p5 : Nat) (p6 : List Bool) (p7 : Nat) (p8 : List MarkT) (p9 : Nat) : Plan (List MarkT) :=
  .reg 0 (.b1 1112 (idxN p9 p1) (fun k1 => .k k1) (fun k1 hk1 => (midx_side hk1)) fun k1 => .bind (p8[k1]?) (fun e1 => [(1114, ([.ar (rowA (MarkT.row e1))], _)), (1116, ([.aw (rowA (MarkT.row e1)) (rowsA MarkT.row (p8.set k1 ({ e1 with got := (IntKind.i64.wrap (e1.got + 1)) } : MarkT)))], _))]) (fun e1 he1 => (.c1 (row_side MarkT.row he1) (.c1 (sto_side MarkT.row ({ e1 with got := (IntKind.i64.wrap (e1.got + 1)) } : MarkT) he1) .nil))) fun e1 => .us [(6, 1112), (8, 1114), (10, 1112), (12, 1116)] (.reg 0 (.b1 1118 (idxN p9 p1) (fun k2 => .k k2) (fun k2 hk2 => (midx_side hk2)) fun k2 => .b1 1120 ((p8.set k1 ({ e1 with got := (IntKind.i64.wrap (e1.got + 1)) } : MarkT))[k2]?) (fun e2 => .ar (rowA (MarkT.row e2))) (fun e2 he2 => (row_side MarkT.row he2)) fun e2 => .ix 1122 ClauseT.row p2.clauses p1 fun e3 => .us [(6, 1118), (8, 1120), (15, 1122)] (.ite 1110 (e2.got == e3.need) (.sel 1110 (.reg 0 (.b1 1124 (d_62a p1 3 p2 p3 p4 p5 p6 p7 (p8.set k1 ({ e1 with got := (IntKind.i64.wrap (e1.got + 1)) } : MarkT)) p9) (fun r1 => .c [0, 1, 2, 3] 4 (.tuple []) [(3, .rows 5 (rowsA MarkT.row r1))] 0) (fun r1 hr1 => (call_side (t_62a p1 3 p2 p3 p4 p5 p6 p7 (p8.set k1 ({ e1 with got := (IntKind.i64.wrap (e1.got + 1)) } : MarkT)) p9 r1 hr1) [0, 1, 2, 3] 38 (.drop rfl rfl (.drop rfl rfl (.drop rfl rfl (.keep .nil)))) (rhR (rhI (rhI (rhI rhN)))) (rhI rhN))) fun r1 => .use 2 1124 (.ret r1)))) (.sel 1110 (.ret (p8.set k1 ({ e1 with got := (IntKind.i64.wrap (e1.got + 1)) } : MarkT))))))))
theorem t_65a (p1 : Int) (p2 : ContractT) (p3 : Int) (p4 : List Int) (p5 : Nat) (p6 : List Bool) (p7 : Nat) (p8 : List MarkT) (p9 : Nat) (res : (List MarkT)) (hd : d_65a p1 p2 p3 p4 p5 p6 p7 p8 p9 = some res) : DOk C0 65 [.ptr 0 0 0, vI p1] [(0, .rows 11 [[vI p2.parties, .imm (.slice (List.map rowI p2.holders)), .imm (.slice (List.map UnitT.row p2.units)), .imm (.slice (List.map ActT.row p2.acts)), .imm (.slice (List.map ClauseT.row p2.clauses)), vI p2.days, .imm (.slice (List.map rowI p2.off)), vI p3, .mslice 1 0 p5, .mslice 2 0 p7, .mslice 3 0 p9]]), (1, .rows 1 (rowsA rowI p4)), (2, .rows 1 (rowsA rowB p6)), (3, .rows 5 (rowsA MarkT.row p8))] 4 (.tuple []) [(0, .rows 11 [[vI p2.parties, .imm (.slice (List.map rowI p2.holders)), .imm (.slice (List.map UnitT.row p2.units)), .imm (.slice (List.map ActT.row p2.acts)), .imm (.slice (List.map ClauseT.row p2.clauses)), vI p2.days, .imm (.slice (List.map rowI p2.off)), vI p3, .mslice 1 0 p5, .mslice 2 0 p7, .mslice 3 0 p9]]), (1, .rows 1 (rowsA rowI p4)), (2, .rows 1 (rowsA rowB p6)), (3, .rows 5 (rowsA MarkT.row res))] 0 :=
  Plan.det (R := fun res => .tuple []) (H := fun res => [(0, .rows 11 [[vI p2.parties, .imm (.slice (List.map rowI p2.holders)), .imm (.slice (List.map UnitT.row p2.units)), .imm (.slice (List.map ActT.row p2.acts)), .imm (.slice (List.map ClauseT.row p2.clauses)), vI p2.days, .imm (.slice (List.map rowI p2.off)), vI p3, .mslice 1 0 p5, .mslice 2 0 p7, .mslice 3 0 p9]]), (1, .rows 1 (rowsA rowI p4)), (2, .rows 1 (rowsA rowB p6)), (3, .rows 5 (rowsA MarkT.row res))]) (p_65a p1 p2 p3 p4 p5 p6 p7 p8 p9) (.exp rfl rfl (.rows rfl (.rows rfl (.rows rfl .nil)))) (fun _ => (.exp rfl rfl (.rows rfl (.rows rfl (.rows rfl .nil))))) (by kernel_rfl) (fun _ => by kernel_rfl) (by kernel_rfl) (Plan.run_of hd (by kernel_rfl))

end Go.Proofs.YtieofodomlodhaaDoor
