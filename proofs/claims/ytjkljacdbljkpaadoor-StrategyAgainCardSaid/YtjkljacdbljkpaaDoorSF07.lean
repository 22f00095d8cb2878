/-
  A contract of the library, laid at this program.
  The texts of positions: what the two closures of arena.text do to the bytes at hand.
  The texts of positions: the contract of arena.text.
-/
import Derived.Test.YtjkljacdbljkpaaDoorSF06
import Derived.Shelf.Strconv.AppendIntPublic10
import Derived.Lib.AppendIntMem
import Derived.Lib.ItoaLen
import Derived.Lib.Hide
import Derived.Laws.IdiomStrings
import Derived.OwnWalk
import Derived.OneCell
import Derived.WalkKit
import Derived.BigCall
namespace Go.Proofs.YtjkljacdbljkpaaDoor
open Go.Shelf Go.RowKit
set_option maxRecDepth 100000
def Tryd.laysAI_ren:Go.Shelf.Ren:=⟨fun | 176=>72 | 249=>79 | 288=>86 | 283=>87 | 284=>88 | 285=>89 | 286=>90 | 129=>92 | 317=>91 | 318=>93 | 319=>94 | 320=>95 | 337=>96 | 338=>97 | n=>n,fun | 37=>125 | 2=>2 | 3=>3 | 53=>134 | 4=>4 | 9=>9 | 171=>140 | 0=>0 | 173=>143 | 212=>147 | 51=>148 | 5=>5 | 20=>20 | 213=>149 | 46=>119 | 232=>152 | 233=>153 | n=>n,fun | 17=>0 | 18=>1 | 19=>2 | n=>n⟩
theorem Tryd.laysAI:Go.Proofs.LaysM.n176 Tryd.prog Tryd.laysAI_ren:={
  mixed:=by kernel_rfl,
  f129:=Tryd.func92.trans (congrArg some (by kernel_rfl)),
  f176:=Tryd.func72.trans (congrArg some (by kernel_rfl)),
  f249:=Tryd.func79.trans (congrArg some (by kernel_rfl)),
  f283:=Tryd.func87.trans (congrArg some (by kernel_rfl)),
  f284:=Tryd.func88.trans (congrArg some (by kernel_rfl)),
  f285:=Tryd.func89.trans (congrArg some (by kernel_rfl)),
  f286:=Tryd.func90.trans (congrArg some (by kernel_rfl)),
  f288:=Tryd.func86.trans (congrArg some (by kernel_rfl)),
  f317:=Tryd.func91.trans (congrArg some (by kernel_rfl)),
  f318:=Tryd.func93.trans (congrArg some (by kernel_rfl)),
  f319:=Tryd.func94.trans (congrArg some (by kernel_rfl)),
  f320:=Tryd.func95.trans (congrArg some (by kernel_rfl)),
  f337:=Tryd.func96.trans (congrArg some (by kernel_rfl)),
  f338:=Tryd.func97.trans (congrArg some (by kernel_rfl)),
  t0:=Tryd.underlying0,
  a0:=Tryd.isAgg0,
  z0:=Tryd.sizeOf0,
  v0:=Tryd.zeroValue0,
  t2:=Tryd.underlying2,
  a2:=Tryd.isAgg2,
  z2:=Tryd.sizeOf2,
  v2:=Tryd.zeroValue2,
  t3:=Tryd.underlying3,
  a3:=Tryd.isAgg3,
  z3:=Tryd.sizeOf3,
  v3:=Tryd.zeroValue3,
  t4:=Tryd.underlying4,
  a4:=Tryd.isAgg4,
  z4:=Tryd.sizeOf4,
  v4:=Tryd.zeroValue4,
  t5:=Tryd.underlying5,
  a5:=Tryd.isAgg5,
  z5:=Tryd.sizeOf5,
  v5:=Tryd.zeroValue5,
  t9:=Tryd.underlying9,
  a9:=Tryd.isAgg9,
  z9:=Tryd.sizeOf9,
  v9:=Tryd.zeroValue9,
  t20:=Tryd.underlying20,
  a20:=Tryd.isAgg20,
  z20:=Tryd.sizeOf20,
  v20:=Tryd.zeroValue20,
  t37:=Tryd.underlying125,
  a37:=Tryd.isAgg125,
  z37:=Tryd.sizeOf125,
  v37:=Tryd.zeroValue125,
  t46:=Tryd.underlying119,
  a46:=Tryd.isAgg119,
  z46:=Tryd.sizeOf119,
  v46:=Tryd.zeroValue119,
  t51:=Tryd.underlying148,
  a51:=Tryd.isAgg148,
  z51:=Tryd.sizeOf148,
  v51:=Tryd.zeroValue148,
  t53:=Tryd.underlying134,
  a53:=Tryd.isAgg134,
  z53:=Tryd.sizeOf134,
  v53:=Tryd.zeroValue134,
  t171:=Tryd.underlying140,
  a171:=Tryd.isAgg140,
  z171:=Tryd.sizeOf140,
  v171:=Tryd.zeroValue140,
  t173:=Tryd.underlying143,
  a173:=Tryd.isAgg143,
  z173:=Tryd.sizeOf143,
  v173:=Tryd.zeroValue143,
  t212:=Tryd.underlying147,
  a212:=Tryd.isAgg147,
  z212:=Tryd.sizeOf147,
  v212:=Tryd.zeroValue147,
  t213:=Tryd.underlying149,
  a213:=Tryd.isAgg149,
  z213:=Tryd.sizeOf149,
  t232:=Tryd.underlying152,
  a232:=Tryd.isAgg152,
  z232:=Tryd.sizeOf152,
  v232:=Tryd.zeroValue152,
  t233:=Tryd.underlying153,
  a233:=Tryd.isAgg153,
  z233:=Tryd.sizeOf153,
  v233:=Tryd.zeroValue153,
  g17:=by kernel_rfl,
  g18:=by kernel_rfl,
  g19:=by kernel_rfl,
  i0:=by kernel_rfl,
  i2:=by kernel_rfl,
  i3:=by kernel_rfl,
  i4:=by kernel_rfl,
  i5:=by kernel_rfl,
  i9:=by kernel_rfl,
  i20:=by kernel_rfl,
  i37:=by kernel_rfl,
  i46:=by kernel_rfl,
  i51:=by kernel_rfl,
  i53:=by kernel_rfl,
  i171:=by kernel_rfl,
  i173:=by kernel_rfl,
  i212:=by kernel_rfl,
  i232:=by kernel_rfl,
  i233:=by kernel_rfl,
  m17:=by kernel_rfl,
  m18:=by kernel_rfl,
  m19:=by kernel_rfl}
end Go.Proofs.YtjkljacdbljkpaaDoor
namespace Go.Proofs.YtjkljacdbljkpaaDoor
open Go.RowKit Go.Shelf
set_option linter.unusedVariables false
def numT (n:Int):List UInt8:=Lib.itoa n++[32]
def flagT (b:Bool):List UInt8:=[if b then 43 else 45]
def markT (m:MarkT):List UInt8:=numT m.status++numT m.left++numT m.got++numT m.bearer++flagT m.paused
def textL (p:PosT):List UInt8:=flagT p.own++numT p.state.day++p.state.holders.flatMap numT++p.state.used.flatMap flagT++p.state.marks.flatMap markT
theorem appInt (B n:Nat) (i:Int) (h0 : -9223372036854775808≤i) (h1:i≤9223372036854775807) (sv:Value) (xs:List Value) (w:World) (hown:w.ownsRow B 5 1 sv n xs) (hBw:B≤w.heap.size) (hlim:n+21≤140737488355328)
    (htab : Lib.TabBelow Tryd.prog B w "internal/strconv.uint64pow10" .u64 Lib.pow10Tab) :
    Calls Tryd.prog 72 #[sv,.int .i64 i,.int .i64 10] w fun e w'=>∃ v',e=.returned v'∧w'.ownsRow B 5 1 v' (n+(Lib.itoa i).length) (xs++Lib.byteCells (Lib.itoa i))∧RowKit.Below B w w'∧Lib.OthersKept 5 none w w':=Any.strconv_AppendInt_10 Tryd.laysAI B n i h0 h1 sv xs w hown hBw hlim htab
theorem infoByte:(Tryd.prog.info? 5).map (fun i=>(i.zero,i.size,i.bytes))=some (some (.int .u8 0),1,1):=by kernel_rfl
structure TI (B Bo:Nat) (W:World) (xs:List UInt8) (w:World):Prop where
  below:Below B W w
  lt:B≤Bo
  own:∃ v,w.heap[Bo]?=some (.cells #[v] 125 (0,0))∧w.ownsRow B 5 1 v xs.length (Lib.byteCells xs)
theorem ownBlock_ne {B Bo:Nat} {w:World} {v x:Value} {n:Nat} {xs:List Value} (hv:w.heap[Bo]?=some (.cells #[x] 125 (0,0))) (hown:w.ownsRow B 5 1 v n xs):v.ownBlock≠some Bo:=by
  intro e
  rcases hown.2 with ⟨rfl,_⟩ | ⟨g,cap,cur,rfl,_,hh,_⟩
  · simp [Value.ownBlock] at e
  · simp [Value.ownBlock] at e
    subst e
    rw [hh] at hv
    simp at hv
theorem TI.push {B Bo n:Nat} {W w w2:World} {xs:List UInt8} {ys:List Value} {v v' x:Value} {c:UInt8} {o:Obj} (hb:Below B W w) (hlt:B≤Bo) (hv:w.heap[Bo]?=some (.cells #[x] 125 (0,0))) (hown:w.ownsRow B 5 1 v n ys)
    (hown':w2.ownsRow B 5 1 v' (xs.length+1) (Lib.byteCells xs++[.int .u8 c.toNat])) (hg:(w.alloc o).grownBy w2 v.ownBlock) :
    (∃ g cap,v'=.slice (some ⟨g,0,none⟩) (xs.length+1) cap)∧(w2.heap[Bo]?=some (.cells #[x] 125 (0,0)))∧TI B Bo W (xs++[c]) (w2.setCell ⟨Bo,0,none⟩ v')∧Lib.OthersKept 5 (some Bo) w (w2.setCell ⟨Bo,0,none⟩ v'):=by
  have hBo:=lt_of_block hv
  have h2:w2.heap[Bo]?=some (.cells #[x] 125 (0,0)):=by
    rw [hg.block Bo (by simp;omega) (fun e=>ownBlock_ne hv hown e.symm)]
    exact (Below.heap_alloc _ _ _ hBo).trans hv
  have hbw:Below B W w2:=(hb.alloc (by omega) o).grown hg (by simp;omega) (fun k hk=>(hown.lt k hk).1)
  refine ⟨?_,h2,⟨hbw.setCell (by exact hlt) _,hlt,v',one_setCell h2,?_⟩,?_⟩
  · rcases hown'.2 with ⟨_,h0⟩ | ⟨g,cap,cur,rfl,_⟩
    · omega
    · exact ⟨g,cap,rfl⟩
  · refine ownsRow_setCell_other ?_ (ownBlock_ne h2 hown') _
    simpa [Lib.byteCells] using hown'
  · refine Lib.OthersKept.setCell (b:=Bo) (Lib.OthersKept.grown ((Lib.OthersKept.refl _ _ _).alloc o) hg ?_) ⟨Bo,0,none⟩ rfl _
    intro g hgg
    have:=hown.lt g hgg
    rcases hown.2 with ⟨rfl,_⟩ | ⟨g',cap,cur,rfl,_,hh,_⟩
    · simp [Value.ownBlock] at hgg
    · simp [Value.ownBlock] at hgg
      subst hgg
      exact ⟨cur,(0,0),(Below.heap_alloc _ _ _ this.2).trans hh⟩
set_option maxHeartbeats 1600000 in
set_option maxRecDepth 100000 in
theorem flag_any (B Bo:Nat) (W:World) (xs:List UInt8) (b:Bool) (w:World) (h:TI B Bo W xs w) (hlen:xs.length≤2000000000) :
    Calls Tryd.prog 73 #[.bool b,.pointer (some ⟨Bo,0,none⟩)] w fun e w'=>e=.returned (.tuple #[])∧TI B Bo W (xs++flagT b) w'∧Lib.OthersKept 5 (some Bo) w w':=by
  obtain ⟨hb,hlt,v,hv,hown⟩:=h
  obtain ⟨i0,hi,hz0,hz1,hz2⟩:=info_parts infoByte
  have cW:=cell_of_one hv
  have fW:=free_of_one hv
  have hBo:=lt_of_block hv
  cases b with
  | true=>
    go_enter Tryd.func73,Tryd.ntmps73
    go_wp2_with (at_builtin;refine wpList_append_own _ rfl _ _ 125 rfl B 5 i0 (.int .u8 0) 1 1 Tryd.underlying125 hi hz0 hz1 hz2 rfl (by decide) _ _ _ rfl (hown.alloc _) ⟨w.heap.size,0,none⟩ 1 1 [Value.int .u8 43] rfl rfl ?c1 ?c2 ?c3 ?c4 ?c5 ?_)
    case c1=>
      intro j u hj
      match j,hj with
      | 0,hj=>simp at hj;subst hj;simp [Addr.add]
    case c2=>intro u hu;simp at hu;subst hu;rfl
    case c3=>unfold maxLen;omega
    case c4=>omega
    case c5=>simp;omega
    intro v' w2 hown' hgrow _
    obtain ⟨⟨g',cap',rfl⟩,h2,hT,hK⟩:=TI.push (c:=43) hb hlt hv hown hown' hgrow
    have cW2:=cell_of_one h2
    have fW2:=free_of_one h2
    clear hown' hgrow hown
    go_wp2
    go_end0
    exact ⟨rfl,hT,hK⟩
  | false=>
    go_enter Tryd.func73,Tryd.ntmps73
    go_wp2_with (at_builtin;refine wpList_append_own _ rfl _ _ 125 rfl B 5 i0 (.int .u8 0) 1 1 Tryd.underlying125 hi hz0 hz1 hz2 rfl (by decide) _ _ _ rfl (hown.alloc _) ⟨w.heap.size,0,none⟩ 1 1 [Value.int .u8 45] rfl rfl ?c1 ?c2 ?c3 ?c4 ?c5 ?_)
    case c1=>
      intro j u hj
      match j,hj with
      | 0,hj=>simp at hj;subst hj;simp [Addr.add]
    case c2=>intro u hu;simp at hu;subst hu;rfl
    case c3=>unfold maxLen;omega
    case c4=>omega
    case c5=>simp;omega
    intro v' w2 hown' hgrow _
    obtain ⟨⟨g',cap',rfl⟩,h2,hT,hK⟩:=TI.push (c:=45) hb hlt hv hown hown' hgrow
    have cW2:=cell_of_one h2
    have fW2:=free_of_one h2
    clear hown' hgrow hown
    go_wp2
    go_end0
    exact ⟨rfl,hT,hK⟩
set_option maxHeartbeats 1600000 in
set_option maxRecDepth 100000 in
theorem write_any (B Bo:Nat) (W:World) (xs:List UInt8) (n:Int) (w:World) (h:TI B Bo W xs w) (hlen:xs.length≤2000000000) (h0 : -9223372036854775808≤n) (h1:n≤9223372036854775807)
    (htab : Lib.TabBelow Tryd.prog B W "internal/strconv.uint64pow10" .u64 Lib.pow10Tab) :
    Calls Tryd.prog 71 #[.int .i64 n,.pointer (some ⟨Bo,0,none⟩)] w fun e w'=>e=.returned (.tuple #[])∧TI B Bo W (xs++numT n) w'∧Lib.OthersKept 5 (some Bo) w w':=by
  obtain ⟨hb,hlt,v,hv,hown⟩:=h
  obtain ⟨i0,hi,hz0,hz1,hz2⟩:=info_parts infoByte
  have cW:=cell_of_one hv
  have fW:=free_of_one hv
  have hBo:=lt_of_block hv
  have la:=Lib.itoa_length_le n h0 h1
  go_enter Tryd.func71,Tryd.ntmps71
  go_wp2_with (go_at_call 72;refine (appInt B _ n h0 h1 v _ w hown (by omega) (by omega) (htab.on hb)).mono ?_;rintro e w1 ⟨v1,rfl,hown1,hnx1,hk1⟩;refine Hid.out ?_)
  refine Lib.hid ?_
  rw [←List.length_append,show Lib.byteCells xs++Lib.byteCells (Lib.itoa n)=Lib.byteCells (xs++Lib.itoa n) from by simp [Lib.byteCells]] at hown1
  have hv1:w1.heap[Bo]?=some (.cells #[v] 125 (0,0)):=hk1 Bo _ hv (by simp) (by intro c fz e;simp at e)
  have hb1:Below B W w1:=hb.trans hnx1
  have hBo1:=lt_of_block hv1
  have hl2:(xs++Lib.itoa n).length≤2000000100:=by rw [List.length_append];omega
  obtain ⟨ys,hys⟩:∃ l,l=xs++Lib.itoa n:=⟨_,rfl⟩
  rw [←hys] at hown1 hl2
  have HY:=Lib.hid hys
  clear hys cW fW
  go_wp2_with (at_builtin;refine wpList_append_own _ rfl _ _ 125 rfl B 5 i0 (.int .u8 0) 1 1 Tryd.underlying125 hi hz0 hz1 hz2 rfl (by decide) _ _ _ rfl (hown1.alloc _) ⟨w1.heap.size,0,none⟩ 1 1 [Value.int .u8 32] rfl rfl ?c1 ?c2 ?c3 ?c4 ?c5 ?_)
  case c1=>
    intro j u hj
    match j,hj with
    | 0,hj=>simp at hj;subst hj;simp [Addr.add]
  case c2=>intro u hu;simp at hu;subst hu;rfl
  case c3=>unfold maxLen;omega
  case c4=>omega
  case c5=>simp;omega
  intro v' w2 hown' hgrow _
  obtain ⟨⟨g',cap',rfl⟩,h2,hT,hK⟩:=TI.push (c:=32) hb1 hlt hv1 hown1 hown' hgrow
  have cW2:=cell_of_one h2
  have fW2:=free_of_one h2
  clear hown' hgrow hown hown1
  go_wp2
  go_end0
  have hys:=HY.out
  subst hys
  refine ⟨rfl,?_,?_⟩
  · simpa [numT] using hT
  · exact Lib.OthersKept.trans (fun k o hk _ ho=>hk1 k o hk (by simp) ho) hK
end Go.Proofs.YtjkljacdbljkpaaDoor
namespace Go.Proofs.YtjkljacdbljkpaaDoor
open Go.RowKit Go.Shelf
set_option linter.unusedVariables false
def inI64 (n:Int):Bool:=decide (-9223372036854775808≤n)&&decide (n≤9223372036854775807)
def okP (p:PosT):Bool:=inI64 p.state.day&&p.state.holders.all inI64&&p.state.marks.all (fun m=>inI64 m.status&&inI64 m.left&&inI64 m.got&&inI64 m.bearer)&&decide ((textL p).length≤1000000000)
def d_text (p:PosT):Option ByteArray:=if okP p then some ⟨(textL p).toArray⟩ else none
structure TB (B Bo:Nat) (W:World) (vs:Array Value) (xs:List UInt8) (w:World):Prop where
  ti:TI B Bo W xs w
  bo:B < Bo
  box:w.heap[B]?=some (.cells vs 65 (0,0))
def MB (Bm:Nat) (vs:Array Value) (w:World):Prop:=w.heap[Bm]?=some (.cells vs 80 (0,0))
theorem TB.of {B Bo:Nat} {W w w':World} {vs:Array Value} {xs ys:List UInt8} (h:TB B Bo W vs xs w) (hT:TI B Bo W ys w') (hK:Lib.OthersKept 5 (some Bo) w w'):TB B Bo W vs ys w':=
  ⟨hT,h.bo,hK B _ h.box (by have:=h.bo;simp;omega) (by intro c fz e;simp at e)⟩
theorem MB.of {B Bo Bm:Nat} {W w w':World} {vs ms:Array Value} {xs:List UInt8} (h:TB B Bo W vs xs w) (hm:MB Bm ms w) (hK:Lib.OthersKept 5 (some Bo) w w'):MB Bm ms w':=by
  refine hK Bm _ hm ?_ (by intro c fz e;simp at e)
  intro e
  obtain ⟨v,hv,_⟩:=h.ti.own
  cases e
  unfold MB at hm
  rw [hv] at hm
  simp at hm
theorem flag_tb {B Bo:Nat} {W w:World} {vs:Array Value} {xs:List UInt8} (b:Bool) (h:TB B Bo W vs xs w) (hlen:xs.length≤2000000000) :
    Calls Tryd.prog 73 #[.bool b,.pointer (some ⟨Bo,0,none⟩)] w fun e w'=>e=.returned (.tuple #[])∧TB B Bo W vs (xs++flagT b) w'∧(∀ Bm ms,MB Bm ms w→MB Bm ms w'):=
  (flag_any B Bo W xs b w h.ti hlen).mono fun e w' ⟨h1,h2,h3⟩=>⟨h1,h.of h2 h3,fun _ _ hm=>MB.of h hm h3⟩
theorem write_tb {B Bo:Nat} {W w:World} {vs:Array Value} {xs:List UInt8} (n:Int) (h:TB B Bo W vs xs w) (hlen:xs.length≤2000000000) (hn:inI64 n=true)
    (htab : Lib.TabBelow Tryd.prog B W "internal/strconv.uint64pow10" .u64 Lib.pow10Tab) :
    Calls Tryd.prog 71 #[.int .i64 n,.pointer (some ⟨Bo,0,none⟩)] w fun e w'=>e=.returned (.tuple #[])∧TB B Bo W vs (xs++numT n) w'∧(∀ Bm ms,MB Bm ms w→MB Bm ms w'):=by
  simp only [inI64,Bool.and_eq_true,decide_eq_true_eq] at hn
  exact (write_any B Bo W xs n w h.ti hlen hn.1 hn.2 htab).mono fun e w' ⟨h1,h2,h3⟩=>⟨h1,h.of h2 h3,fun _ _ hm=>MB.of h hm h3⟩
theorem TB.cell {B Bo:Nat} {W w:World} {vs:Array Value} {xs:List UInt8} (h:TB B Bo W vs xs w) (j:Nat):w.cell? ⟨B,j,none⟩=vs[j]?:=by
  have:=h.box
  simp [World.cell?,this]
theorem MB.cell {Bm:Nat} {w:World} {vs:Array Value} (h:MB Bm vs w) (j:Nat):w.cell? ⟨Bm,j,none⟩=vs[j]?:=by
  unfold MB at h
  simp [World.cell?,h]
section
variable {B Bo Bm:Nat} {W w:World} {a b c d e:Value} {xs:List UInt8}
theorem TB.c0 (h:TB B Bo W #[a,b,c,d,e] xs w):w.cell? ⟨B,0,none⟩=some a:=h.cell 0
theorem TB.c1 (h:TB B Bo W #[a,b,c,d,e] xs w):w.cell? ⟨B,1,none⟩=some b:=h.cell 1
theorem TB.c2 (h:TB B Bo W #[a,b,c,d,e] xs w):w.cell? ⟨B,2,none⟩=some c:=h.cell 2
theorem TB.c3 (h:TB B Bo W #[a,b,c,d,e] xs w):w.cell? ⟨B,3,none⟩=some d:=h.cell 3
theorem TB.c4 (h:TB B Bo W #[a,b,c,d,e] xs w):w.cell? ⟨B,4,none⟩=some e:=h.cell 4
theorem MB.c0 (h:MB Bm #[a,b,c,d,e] w):w.cell? ⟨Bm,0,none⟩=some a:=h.cell 0
theorem MB.c1 (h:MB Bm #[a,b,c,d,e] w):w.cell? ⟨Bm,1,none⟩=some b:=h.cell 1
theorem MB.c2 (h:MB Bm #[a,b,c,d,e] w):w.cell? ⟨Bm,2,none⟩=some c:=h.cell 2
theorem MB.c3 (h:MB Bm #[a,b,c,d,e] w):w.cell? ⟨Bm,3,none⟩=some d:=h.cell 3
theorem MB.c4 (h:MB Bm #[a,b,c,d,e] w):w.cell? ⟨Bm,4,none⟩=some e:=h.cell 4
end
def t1 (p:PosT):List UInt8:=flagT p.own++numT p.state.day
def t2 (p:PosT) (k:Nat):List UInt8:=t1 p++(p.state.holders.take k).flatMap numT
def t3 (p:PosT) (k:Nat):List UInt8:=t1 p++p.state.holders.flatMap numT++(p.state.used.take k).flatMap flagT
def t4 (p:PosT) (k:Nat):List UInt8:=t1 p++p.state.holders.flatMap numT++p.state.used.flatMap flagT++(p.state.marks.take k).flatMap markT
theorem flen {α:Type} (f:α→List UInt8) (l:List α) (k:Nat):((l.take k).flatMap f).length≤(l.flatMap f).length:=by
  conv=>rhs;rw [←List.take_append_drop k l]
  rw [List.flatMap_append,List.length_append]
  omega
theorem fsucc {α:Type} (f:α→List UInt8) (l:List α) (k:Nat) (h:k < l.length):(l.take (k+1)).flatMap f=(l.take k).flatMap f++f l[k]:=by
  rw [List.take_succ_eq_append_getElem h,List.flatMap_append];simp
theorem t2_len (p:PosT) (k:Nat):(t2 p k).length≤(textL p).length:=by
  have:=flen numT p.state.holders k
  simp only [t2,t1,textL,List.length_append];omega
theorem t3_len (p:PosT) (k:Nat):(t3 p k).length≤(textL p).length:=by
  have:=flen flagT p.state.used k
  simp only [t3,t1,textL,List.length_append];omega
theorem t4_len (p:PosT) (k:Nat):(t4 p k).length≤(textL p).length:=by
  have:=flen markT p.state.marks k
  simp only [t4,t1,textL,List.length_append];omega
theorem flenC {α:Type} (f:α→List UInt8) (l:List α) (h:∀ a,1≤(f a).length):l.length≤(l.flatMap f).length:=by
  induction l with
  | nil=>simp
  | cons a l ih=>have:=h a;simp only [List.flatMap_cons,List.length_append,List.length_cons];omega
theorem marks_len (p:PosT):p.state.marks.length≤(textL p).length:=by
  have:=flenC markT p.state.marks (fun a=>by simp only [markT,flagT,List.length_append,List.length_cons];omega)
  simp only [textL,List.length_append];omega
theorem used_len (p:PosT):p.state.used.length≤(textL p).length:=by
  have:=flenC flagT p.state.used (fun a=>by simp [flagT])
  simp only [textL,List.length_append];omega
theorem holders_len (p:PosT):p.state.holders.length≤(textL p).length:=by
  have:=flenC numT p.state.holders (fun a=>by simp [numT])
  simp only [textL,List.length_append];omega
set_option maxHeartbeats 6400000 in
set_option maxRecDepth 1000000 in
theorem text_any (p:PosT) (W:World) (ah au am:Option Addr) (ch cu cm:Nat) (hok:okP p=true)
    (htab : Lib.TabBelow Tryd.prog W.heap.size W "internal/strconv.uint64pow10" .u64 Lib.pow10Tab)
    (hh:∀ k (hk:k < p.state.holders.length),∃ b off,ah=some ⟨b,off,none⟩∧b < W.heap.size∧W.cell? ⟨b,off+k,none⟩=some (.int .i64 p.state.holders[k]))
    (hu:∀ k (hk:k < p.state.used.length),∃ b off,au=some ⟨b,off,none⟩∧b < W.heap.size∧W.cell? ⟨b,off+k,none⟩=some (.bool p.state.used[k]))
    (hm:∀ k (hk:k < p.state.marks.length),∃ b off,am=some ⟨b,off,none⟩∧b < W.heap.size∧W.cell? ⟨b,off+k*5,none⟩=some (.int .i64 p.state.marks[k].status)∧W.cell? ⟨b,off+k*5+1,none⟩=some (.int .i64 p.state.marks[k].left) ∧
      W.cell? ⟨b,off+k*5+2,none⟩=some (.int .i64 p.state.marks[k].got)∧W.cell? ⟨b,off+k*5+3,none⟩=some (.int .i64 p.state.marks[k].bearer)∧W.cell? ⟨b,off+k*5+4,none⟩=some (.bool p.state.marks[k].paused)) :
    Calls Tryd.prog 47 #[.agg #[.int .i64 p.state.day,.slice ah p.state.holders.length ch,.slice au p.state.used.length cu,.slice am p.state.marks.length cm,.bool p.own]] W
      fun e w'=>e=.returned (.string ⟨(textL p).toArray⟩)∧Below W.heap.size W w':=by
  have hmf:∀ (fn:Fn) (first cap:Array Value) (w:World),(Instr.makeFunc fn first cap).run Tryd.prog w=.ok (.func fn first cap) w:=fun _ _ _ _=>rfl
  obtain ⟨i0,hi,hz0,hz1,hz2⟩:=info_parts infoByte
  simp only [okP,Bool.and_eq_true,decide_eq_true_eq,List.all_eq_true] at hok
  obtain ⟨⟨⟨hd,hhs⟩,hms⟩,hlen⟩:=hok
  have hml:=marks_len p
  have hul:=used_len p
  have hhl:=holders_len p
  go_enter Tryd.func47,Tryd.ntmps47
  go_wp2_with (at_make;refine wpList_make_own _ rfl _ _ 125 rfl W.heap.size 5 i0 (.int .u8 0) 1 Tryd.underlying125 hi hz0 hz1 .i64 .i64 (32+12*(p.state.marks.length:Int)) (32+12*p.state.marks.length) rfl rfl (by omega) (by rw [hz2];omega) (by unfold maxLen;omega) (by simp) ?_;intro w1 hown hgrow;refine Hid.out ?_)
  refine Lib.hid ?_
  have hbx:w1.heap[W.heap.size]?=some (.cells #[.int .i64 p.state.day,.slice ah p.state.holders.length ch,.slice au p.state.used.length cu,.slice am p.state.marks.length cm,.bool p.own] 65 (0,0)):=by
    rw [hgrow.block W.heap.size (by simp) (by simp)]
    exact heap_alloc_new W _
  have hw1:W.heap.size+1≤w1.heap.size:=by have:=hgrow.size;simpa using this
  have hbw:Below W.heap.size W w1:=((Below.refl _ _).alloc (Nat.le_refl _) _).grown hgrow (by simp) (fun k hk=>by cases hk)
  clear hgrow
  have hT0:TB W.heap.size w1.heap.size W #[.int .i64 p.state.day,.slice ah p.state.holders.length ch,.slice au p.state.used.length cu,.slice am p.state.marks.length cm,.bool p.own] []
      (w1.alloc (.cells #[.slice (some ⟨W.heap.size+1,0,none⟩) 0 (32+12*p.state.marks.length)] 125)):=by
    refine ⟨⟨hbw.alloc (by omega) _,by omega,_,heap_alloc_new _ _,?_⟩,by omega,(Below.heap_alloc _ _ _ (by omega)).trans hbx⟩
    have:=hown.alloc (.cells #[.slice (some ⟨W.heap.size+1,0,none⟩) 0 (32+12*p.state.marks.length)] 125)
    simpa [Lib.byteCells] using this
  have c0:=hT0.c4
  have hl1:(flagT p.own).length≤2000000000:=by simp [flagT]
  have hl2:(t1 p).length≤2000000000:=by have:=t2_len p 0;simp [t2] at this;omega
  clear hown hbx
  go_wp2_with (first
    | (go_at_call 73;refine (flag_tb p.own hT0 (by simp)).mono ?_;rintro e w2 ⟨rfl,h2,_⟩;have c2:=h2.c0)
    | (go_at_call 71;refine (write_tb p.state.day h2 (by simpa using hl1) hd htab).mono ?_;rintro e w3 ⟨rfl,h3,_⟩;have c3:=h3.c1))
  have hT3:TB W.heap.size w1.heap.size W #[.int .i64 p.state.day,.slice ah p.state.holders.length ch,.slice au p.state.used.length cu,.slice am p.state.marks.length cm,.bool p.own] (t2 p 0) w3:=by simpa [t2,t1] using h3
  clear h3 h2 hT0 c0 c2 c3
  go_loopw [34] (fun i wr=>∃ k:Nat,k≤p.state.holders.length∧i=.int .i64 k∧TB W.heap.size w1.heap.size W #[.int .i64 p.state.day,.slice ah p.state.holders.length ch,.slice au p.state.used.length cu,.slice am p.state.marks.length cm,.bool p.own] (t2 p k) wr)
    (fun i _=>p.state.holders.length - (intOf i).toNat)
  case atStart=>exact ⟨0,Nat.zero_le _,rfl,hT3⟩
  case round=>
    obtain ⟨k,hk,rfl,hTr⟩:=hrel
    clear hT3
    have hlk:=t2_len p k
    by_cases hkl:k < p.state.holders.length
    · obtain ⟨b,off,rfl,hbB,hcc⟩:=hh k hkl
      have hck:wr.cell? ⟨b,off+k,none⟩=some (.int .i64 p.state.holders[k]):=(hTr.ti.below.cell (by exact hbB)).trans hcc
      have hin:=hhs _ (List.getElem_mem hkl)
      go_wp2_with (go_at_call 71;refine (write_tb p.state.holders[k] hTr (by omega) hin htab).mono ?_;rintro e w4 ⟨rfl,h4,_⟩)
      go_roundw
      case rel=>exact ⟨k+1,by omega,by go_num,by simpa [t2,fsucc _ _ _ hkl] using h4⟩
      case measure=>simp [intOf];omega
    · have c2:=hTr.c2
      go_wp2
      obtain rfl:k=p.state.holders.length:=by omega
      have hT3:TB W.heap.size w1.heap.size W #[.int .i64 p.state.day,.slice ah p.state.holders.length ch,.slice au p.state.used.length cu,.slice am p.state.marks.length cm,.bool p.own] (t3 p 0) wr:=by simpa [t2,t3] using hTr
      clear hTr c2 hlk
      obtain ⟨wo,rfl⟩:∃ wo:World,wo=wr:=⟨_,rfl⟩
      go_loopw [46] (fun i wr=>∃ k:Nat,k≤p.state.used.length∧i=.int .i64 k∧TB W.heap.size w1.heap.size W #[.int .i64 p.state.day,.slice ah p.state.holders.length ch,.slice au p.state.used.length cu,.slice am p.state.marks.length cm,.bool p.own] (t3 p k) wr)
        (fun i _=>p.state.used.length - (intOf i).toNat)
      case atStart=>exact ⟨0,Nat.zero_le _,rfl,hT3⟩
      case round=>
        obtain ⟨k,hk,rfl,hTr⟩:=hrel
        clear hT3
        have hlk:=t3_len p k
        by_cases hkl:k < p.state.used.length
        · obtain ⟨b,off,rfl,hbB,hcc⟩:=hu k hkl
          have hck:wr.cell? ⟨b,off+k,none⟩=some (.bool p.state.used[k]):=(hTr.ti.below.cell (by exact hbB)).trans hcc
          go_wp2_with (go_at_call 73;refine (flag_tb p.state.used[k] hTr (by omega)).mono ?_;rintro e w4 ⟨rfl,h4,_⟩)
          go_roundw
          case rel=>exact ⟨k+1,by omega,by go_num,by simpa [t3,fsucc _ _ _ hkl] using h4⟩
          case measure=>simp [intOf];omega
        · have c2:=hTr.c3
          go_wp2
          obtain rfl:k=p.state.used.length:=by omega
          have hT3:TB W.heap.size w1.heap.size W #[.int .i64 p.state.day,.slice ah p.state.holders.length ch,.slice au p.state.used.length cu,.slice am p.state.marks.length cm,.bool p.own] (t4 p 0) wr:=by simpa [t3,t4] using hTr
          clear hTr c2 hlk
          obtain ⟨wo2,rfl⟩:∃ wo:World,wo=wr:=⟨_,rfl⟩
          go_loopw [58] (fun i wr=>∃ k:Nat,k≤p.state.marks.length∧i=.int .i64 k∧TB W.heap.size w1.heap.size W #[.int .i64 p.state.day,.slice ah p.state.holders.length ch,.slice au p.state.used.length cu,.slice am p.state.marks.length cm,.bool p.own] (t4 p k) wr)
            (fun i _=>p.state.marks.length - (intOf i).toNat)
          case atStart=>exact ⟨0,Nat.zero_le _,rfl,hT3⟩
          case round=>
            obtain ⟨k,hk,rfl,hTr⟩:=hrel
            clear hT3
            have hlk:=t4_len p k
            by_cases hkl:k < p.state.marks.length
            · obtain ⟨b,off,rfl,hbB,hc0,hc1,hc2,hc3,hc4⟩:=hm k hkl
              have hin:=hms _ (List.getElem_mem hkl)
              have hsucc:t4 p (k+1)=t4 p k++markT p.state.marks[k]:=by simp [t4,fsucc _ _ _ hkl]
              obtain ⟨m,hmk⟩:∃ m,m=p.state.marks[k]:=⟨_,rfl⟩
              rw [←hmk] at hc0 hc1 hc2 hc3 hc4 hin hsucc
              clear hmk
              have hd0:=(hTr.ti.below.cell (p:=⟨b,off+k*5,none⟩) (by exact hbB)).trans hc0
              have hd1:=(hTr.ti.below.cell (p:=⟨b,off+k*5+1,none⟩) (by exact hbB)).trans hc1
              have hd2:=(hTr.ti.below.cell (p:=⟨b,off+k*5+2,none⟩) (by exact hbB)).trans hc2
              have hd3:=(hTr.ti.below.cell (p:=⟨b,off+k*5+3,none⟩) (by exact hbB)).trans hc3
              have hd4:=(hTr.ti.below.cell (p:=⟨b,off+k*5+4,none⟩) (by exact hbB)).trans hc4
              clear hc0 hc1 hc2 hc3 hc4
              have hA1:TB W.heap.size w1.heap.size W #[.int .i64 p.state.day,.slice ah p.state.holders.length ch,.slice au p.state.used.length cu,.slice (some ⟨b,off,none⟩) p.state.marks.length cm,.bool p.own] (t4 p k) (wr.alloc (.cells #[.int .i64 m.status,.int .i64 m.left,.int .i64 m.got,.int .i64 m.bearer,.bool m.paused] 80)):=
                hTr.of ⟨hTr.ti.below.alloc (by have:=hTr.ti.below.size;omega) _,hTr.ti.lt,by obtain ⟨v,hv,ho⟩:=hTr.ti.own;exact ⟨v,(Below.heap_alloc _ _ _ (lt_of_block hv)).trans hv,ho.alloc _⟩⟩ ((Lib.OthersKept.refl _ _ _).alloc _)
              have hM1:MB wr.heap.size #[.int .i64 m.status,.int .i64 m.left,.int .i64 m.got,.int .i64 m.bearer,.bool m.paused] (wr.alloc (.cells #[.int .i64 m.status,.int .i64 m.left,.int .i64 m.got,.int .i64 m.bearer,.bool m.paused] 80)):=heap_alloc_new _ _
              have e1:=hM1.c0
              have l1:(t4 p k++numT m.status).length≤2000000000∧(t4 p k++numT m.status++numT m.left).length≤2000000000∧(t4 p k++numT m.status++numT m.left++numT m.got).length≤2000000000 ∧
                  (t4 p k++numT m.status++numT m.left++numT m.got++numT m.bearer).length≤2000000000:=by
                have:=t4_len p (k+1)
                rw [hsucc] at this
                simp only [markT,List.length_append] at this ⊢
                omega
              have l0:(t4 p k).length≤2000000000:=by omega
              have HL:=Lib.hid l1
              have HS:=Lib.hid hsucc
              clear l1 hTr hsucc
              go_wp2_with (go_at_call 71;refine (write_tb m.status hA1 l0 hin.1.1.1 htab).mono ?_;rintro e w5 ⟨rfl,h5,k5⟩;have m5:=k5 _ _ hM1;have e5:=m5.c1;refine Hid.out ?_)
              refine Lib.hid ?_
              clear hd0 hd1 hd2 hd3 hd4 e1 hA1 hM1 k5
              go_wp2_with (go_at_call 71;refine (write_tb m.left h5 HL.out.1 hin.1.1.2 htab).mono ?_;rintro e w6 ⟨rfl,h6,k6⟩;have m6:=k6 _ _ m5;have e6:=m6.c2;refine Hid.out ?_)
              refine Lib.hid ?_
              clear e5 h5 m5 k6
              go_wp2_with (go_at_call 71;refine (write_tb m.got h6 HL.out.2.1 hin.1.2 htab).mono ?_;rintro e w7 ⟨rfl,h7,k7⟩;have m7:=k7 _ _ m6;have e7:=m7.c3;refine Hid.out ?_)
              refine Lib.hid ?_
              clear e6 h6 m6 k7
              go_wp2_with (go_at_call 71;refine (write_tb m.bearer h7 HL.out.2.2.1 hin.2 htab).mono ?_;rintro e w8 ⟨rfl,h8,k8⟩;have m8:=k8 _ _ m7;have e8:=m8.c4;refine Hid.out ?_)
              refine Lib.hid ?_
              clear e7 h7 m7 k8
              go_wp2_with (go_at_call 73;refine (flag_tb m.paused h8 HL.out.2.2.2).mono ?_;rintro e w9 ⟨rfl,h9,-⟩)
              go_roundw
              case rel=>exact ⟨k+1,by omega,by go_num,by rw [HS.out];simpa [markT] using h9⟩
              case measure=>simp [intOf];omega
            · obtain rfl:k=p.state.marks.length:=by omega
              have hT:TB W.heap.size w1.heap.size W #[.int .i64 p.state.day,.slice ah p.state.holders.length ch,.slice au p.state.used.length cu,.slice am p.state.marks.length cm,.bool p.own] (textL p) wr:=by simpa [t4,textL,t1] using hTr
              obtain ⟨⟨hbe,hlt,v,hv,hown⟩,hbo,hbx⟩:=hT
              have hpos:0 < (textL p).length:=by simp [textL,flagT]
              rcases hown.2 with ⟨-,h0⟩ | ⟨g,cap,cur,rfl,-,-,-,-,-,-⟩
              · omega
              · have cW:=cell_of_one hv
                have hcv:=run_convert_bytes_back (P:=Tryd.prog) wr 125 9 5 ⟨g,0,none⟩ cap (textL p) Tryd.underlying125 Tryd.underlying5 Tryd.underlying9 (fun j hj=>hown.cells (g:=g) rfl j _ (by simp [Lib.byteCells,hj]))
                go_wp2
                go_ret
                exact ⟨rfl,hbe⟩
theorem RI.rows_view {α:Type} {Z:Nat→Nat} {w:World} {f:α→List IV} {l:List α} {v:Value} (sz:Nat) (hf:∀ a,(f a).length=sz) (h0:0 < sz) (hz:∀ b,0 < Z b→b < w.heap.size) (h:RI Z w (.slice (l.map f)) v) :
    ∃ a cap,v=.slice a l.length cap∧∀ k (hk:k < l.length),∃ b off,a=some ⟨b,off,none⟩∧b < w.heap.size∧∀ j c,(f l[k])[j]?=some c→∃ cv,w.cell? ⟨b,off+k*sz+j,none⟩=some cv∧RI Z w c cv:=by
  generalize hx:IV.slice (l.map f)=x at h
  cases h with
  | bool b=>cases hx
  | int k n=>cases hx
  | str s=>cases hx
  | agg cs vs hl h1 hr=>cases hx
  | tuple cs vs hl hr=>cases hx
  | nil=>
    have:l=[]:=by simpa using hx
    subst this
    exact ⟨none,0,rfl,fun k hk=>by simp at hk⟩
  | empty a cap=>
    have:l=[]:=by simpa using hx
    subst this
    exact ⟨some a,cap,rfl,fun k hk=>by simp at hk⟩
  | slice rows b off cap sz' cv hcap hsz hz' hc hr=>
    obtain rfl:l.map f=rows:=by injection hx
    refine ⟨some ⟨b,off,none⟩,cap,by simp,fun k hk=>⟨b,off,rfl,?_,fun j c hj => ?_⟩⟩
    · have hrow:(l.map f)[k]?=some (f l[k]):=by simp [hk]
      have hne:0 < (f l[k]).length:=by rw [hf];exact h0
      have:=hz' k _ 0 _ hrow (List.getElem?_eq_getElem hne)
      exact hz b (by omega)
    · have hrow:(l.map f)[k]?=some (f l[k]):=by simp [hk]
      have h1:=hsz k _ hrow
      rw [hf] at h1
      subst h1
      exact ⟨_,(hc k _ j c hrow hj).1,hr k _ j c hrow hj⟩
theorem RI.int_inv {Z:Nat→Nat} {w:World} {k:IntKind} {n:Int} {v:Value} (h:RI Z w (.int k n) v):v=.int k n:=by cases h;rfl
theorem RI.bool_inv {Z:Nat→Nat} {w:World} {b:Bool} {v:Value} (h:RI Z w (.bool b) v):v=.bool b:=by cases h;rfl
theorem t_text (p:PosT) (res:ByteArray) (hd:d_text p=some res):APure C0 81 [.agg (PosT.row p)] (.str res):=by
  refine ⟨⟨Tryd.f47,by kernel_rfl,by kernel_rfl,by kernel_rfl⟩,fun Z w vs hz hfix hr => ?_⟩
  unfold d_text at hd
  split at hd
  · rename_i hok
    cases hd
    obtain ⟨hl,hr⟩:=hr
    match vs,hl with
    | [v],_=>
      have h0:=hr 0 _ _ rfl rfl
      generalize hx:IV.agg (PosT.row p)=x at h0
      cases h0 with
      | bool b=>cases hx
      | int k n=>cases hx
      | str s=>cases hx
      | nil=>cases hx
      | empty a cap=>cases hx
      | slice rows b off cap sz' cv hcap hsz hz' hc hr=>cases hx
      | tuple cs vs hl hr=>cases hx
      | agg cs vs hl h1 hr2=>
        obtain rfl:PosT.row p=cs:=by injection hx
        match vs,hl with
        | [a,b,c,d,e],_=>
          have r0:=RI.int_inv (hr2 0 _ _ rfl rfl)
          have r4:=RI.bool_inv (hr2 4 _ _ rfl rfl)
          obtain ⟨ah,ch,rfl,vh⟩:=RI.rows_view 1 (fun _=>rfl) (by omega) hz (hr2 1 _ _ rfl rfl)
          obtain ⟨au,cu,rfl,vu⟩:=RI.rows_view 1 (fun _=>rfl) (by omega) hz (hr2 2 _ _ rfl rfl)
          obtain ⟨am,cm,rfl,vm⟩:=RI.rows_view 5 (fun _=>rfl) (by omega) hz (hr2 3 _ _ rfl rfl)
          subst r0 r4
          refine (text_any p w ah au am ch cu cm hok (Lib.tabBelow_of_tabIs hfix.1) (fun k hk => ?_) (fun k hk => ?_) (fun k hk => ?_)).mono fun e w' ⟨he,hb⟩=>⟨_,Z,he,.str _,fun _ _=>rfl,fun b hb'=>Nat.lt_of_lt_of_le (hz b hb') hb.size,hb⟩
          · obtain ⟨b,off,h1,h2,h3⟩:=vh k hk
            obtain ⟨cv,h4,h5⟩:=h3 0 _ rfl
            rw [RI.int_inv h5] at h4
            exact ⟨b,off,h1,h2,by simpa using h4⟩
          · obtain ⟨b,off,h1,h2,h3⟩:=vu k hk
            obtain ⟨cv,h4,h5⟩:=h3 0 _ rfl
            rw [RI.bool_inv h5] at h4
            exact ⟨b,off,h1,h2,by simpa using h4⟩
          · obtain ⟨b,off,h1,h2,h3⟩:=vm k hk
            obtain ⟨c0,g0,q0⟩:=h3 0 _ rfl
            obtain ⟨c1,g1,q1⟩:=h3 1 _ rfl
            obtain ⟨c2,g2,q2⟩:=h3 2 _ rfl
            obtain ⟨c3,g3,q3⟩:=h3 3 _ rfl
            obtain ⟨c4,g4,q4⟩:=h3 4 _ rfl
            rw [RI.int_inv q0] at g0
            rw [RI.int_inv q1] at g1
            rw [RI.int_inv q2] at g2
            rw [RI.int_inv q3] at g3
            rw [RI.bool_inv q4] at g4
            exact ⟨b,off,h1,h2,by simpa using g0,g1,g2,g3,g4⟩
  · cases hd
end Go.Proofs.YtjkljacdbljkpaaDoor
