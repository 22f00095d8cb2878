/-
  A contract of the library, laid at this program.
  The texts of positions: what the two closures of arena.text do to the bytes at hand.
  The texts of positions: the contract of arena.text.
  'witness.text' writes the text of a position (printed from the texts about arena.text).
-/
import Derived.Test.YtcmmhbmgpflmeaaGreatDoorTD07
import Derived.Shelf.Strconv.AppendIntPublic10
import Derived.Lib.AppendIntMem
import Derived.Lib.ItoaLen
import Derived.Lib.Hide
import Derived.Laws.IdiomStrings
import Derived.OwnWalk
import Derived.OneCell
import Derived.WalkKit
import Derived.BigCall
open List renaming length_append → ua, getElem_mem → uc, flatMap_append → ue, length_cons → ug, all_eq_true → uh
open Bool renaming and_eq_true → ub
open Nat renaming zero_le → ud, lt_of_lt_of_le → uf, le_refl → ui
namespace Go.Proofs.YtcmmhbmgpflmeaaGreatDoor
open Go.Shelf Go.RowKit
set_option maxRecDepth 100000
def Tryz.mR:Go.Shelf.Ren:=⟨fun | 176=>52 | 249=>72 | 288=>91 | 283=>104 | 284=>105 | 285=>106 | 286=>107 | 129=>110 | 317=>109 | 318=>111 | 319=>112 | 320=>113 | 337=>114 | 338=>115 | n=>n,fun | 37=>28 | 2=>2 | 3=>3 | 53=>173 | 4=>4 | 9=>9 | 171=>183 | 0=>0 | 173=>186 | 212=>191 | 51=>192 | 5=>5 | 20=>20 | 213=>193 | 46=>177 | 232=>196 | 233=>197 | n=>n,fun | 17=>0 | 18=>1 | 19=>2 | n=>n⟩
theorem Tryz.tu:Go.Proofs.LaysM.n176 Tryz.prog Tryz.mR:={
 mixed:=by kernel_rfl,
 f129:=Tryz.func110.trans (congrArg some (by kernel_rfl)),
 f176:=Tryz.func52.trans (congrArg some (by kernel_rfl)),
 f249:=Tryz.func72.trans (congrArg some (by kernel_rfl)),
 f283:=Tryz.func104.trans (congrArg some (by kernel_rfl)),
 f284:=Tryz.func105.trans (congrArg some (by kernel_rfl)),
 f285:=Tryz.func106.trans (congrArg some (by kernel_rfl)),
 f286:=Tryz.func107.trans (congrArg some (by kernel_rfl)),
 f288:=Tryz.func91.trans (congrArg some (by kernel_rfl)),
 f317:=Tryz.func109.trans (congrArg some (by kernel_rfl)),
 f318:=Tryz.func111.trans (congrArg some (by kernel_rfl)),
 f319:=Tryz.func112.trans (congrArg some (by kernel_rfl)),
 f320:=Tryz.func113.trans (congrArg some (by kernel_rfl)),
 f337:=Tryz.func114.trans (congrArg some (by kernel_rfl)),
 f338:=Tryz.func115.trans (congrArg some (by kernel_rfl)),
 t0:=Tryz.underlying0,
 a0:=Tryz.isAgg0,
 z0:=Tryz.sizeOf0,
 v0:=Tryz.zeroValue0,
 t2:=Tryz.underlying2,
 a2:=Tryz.isAgg2,
 z2:=Tryz.sizeOf2,
 v2:=Tryz.zeroValue2,
 t3:=Tryz.underlying3,
 a3:=Tryz.isAgg3,
 z3:=Tryz.sizeOf3,
 v3:=Tryz.zeroValue3,
 t4:=Tryz.underlying4,
 a4:=Tryz.isAgg4,
 z4:=Tryz.sizeOf4,
 v4:=Tryz.zeroValue4,
 t5:=Tryz.underlying5,
 a5:=Tryz.isAgg5,
 z5:=Tryz.sizeOf5,
 v5:=Tryz.zeroValue5,
 t9:=Tryz.underlying9,
 a9:=Tryz.isAgg9,
 z9:=Tryz.sizeOf9,
 v9:=Tryz.zeroValue9,
 t20:=Tryz.underlying20,
 a20:=Tryz.isAgg20,
 z20:=Tryz.sizeOf20,
 v20:=Tryz.zeroValue20,
 t37:=Tryz.underlying28,
 a37:=Tryz.isAgg28,
 z37:=Tryz.sizeOf28,
 v37:=Tryz.zeroValue28,
 t46:=Tryz.underlying177,
 a46:=Tryz.isAgg177,
 z46:=Tryz.sizeOf177,
 v46:=Tryz.zeroValue177,
 t51:=Tryz.underlying192,
 a51:=Tryz.isAgg192,
 z51:=Tryz.sizeOf192,
 v51:=Tryz.zeroValue192,
 t53:=Tryz.underlying173,
 a53:=Tryz.isAgg173,
 z53:=Tryz.sizeOf173,
 v53:=Tryz.zeroValue173,
 t171:=Tryz.underlying183,
 a171:=Tryz.isAgg183,
 z171:=Tryz.sizeOf183,
 v171:=Tryz.zeroValue183,
 t173:=Tryz.underlying186,
 a173:=Tryz.isAgg186,
 z173:=Tryz.sizeOf186,
 v173:=Tryz.zeroValue186,
 t212:=Tryz.underlying191,
 a212:=Tryz.isAgg191,
 z212:=Tryz.sizeOf191,
 v212:=Tryz.zeroValue191,
 t213:=Tryz.underlying193,
 a213:=Tryz.isAgg193,
 z213:=Tryz.sizeOf193,
 t232:=Tryz.underlying196,
 a232:=Tryz.isAgg196,
 z232:=Tryz.sizeOf196,
 v232:=Tryz.zeroValue196,
 t233:=Tryz.underlying197,
 a233:=Tryz.isAgg197,
 z233:=Tryz.sizeOf197,
 v233:=Tryz.zeroValue197,
 g17:=by kernel_rfl,
 g18:=by kernel_rfl,
 g19:=by kernel_rfl,
 i0:=by kernel_rfl,
 i2:=by kernel_rfl,
 i3:=by kernel_rfl,
 i4:=by kernel_rfl,
 i5:=by kernel_rfl,
 i9:=by kernel_rfl,
 i20:=by kernel_rfl,
 i37:=by kernel_rfl,
 i46:=by kernel_rfl,
 i51:=by kernel_rfl,
 i53:=by kernel_rfl,
 i171:=by kernel_rfl,
 i173:=by kernel_rfl,
 i212:=by kernel_rfl,
 i232:=by kernel_rfl,
 i233:=by kernel_rfl,
 m17:=by kernel_rfl,
 m18:=by kernel_rfl,
 m19:=by kernel_rfl}
end Go.Proofs.YtcmmhbmgpflmeaaGreatDoor
namespace Go.Proofs.YtcmmhbmgpflmeaaGreatDoor
open Go.RowKit Go.Shelf
set_option linter.unusedVariables false
def qa (n:Int):List UInt8:=Lib.itoa n++[32]
def qE (b:Bool):List UInt8:=[if b then 43 else 45]
def xu (m:aq):List UInt8:=qa m.aH++qa m.left++qa m.got++qa m.bg++qE m.aT
def qu (p:aA):List UInt8:=qE p.own++qa p.state.day++p.state.aC.flatMap qa++p.state.used.flatMap qE++p.state.aM.flatMap xu
theorem HV (B n:Nat) (i:Int) (h0 : -9223372036854775808≤i) (h1:i≤9223372036854775807) (sv:Value) (xs:List Value) (w:World) (hown:w.ownsRow B 5 1 sv n xs) (hBw:B≤w.heap.size) (hlim:n+21≤140737488355328)
 (htab : Lib.TabBelow Tryz.prog B w "internal/strconv.uint64pow10" .u64 Lib.pow10Tab) :
 Calls Tryz.prog 52 #[sv,.int .i64 i,.int .i64 10] w fun e w'=>∃ v',e=.returned v'∧w'.ownsRow B 5 1 v' (n+(Lib.itoa i).length) (xs++Lib.byteCells (Lib.itoa i))∧RowKit.Below B w w'∧Lib.OthersKept 5 none w w':=Any.strconv_AppendInt_10 Tryz.tu B n i h0 h1 sv xs w hown hBw hlim htab
theorem yp:(Tryz.prog.info? 5).map (fun i=>(i.zero,i.size,i.bytes))=some (some (.int .u8 0),1,1):=by kernel_rfl
structure TI (B Bo:Nat) (W:World) (xs:List UInt8) (w:World):Prop where
 below:Below B W w
 lt:B≤Bo
 own:∃ v,w.heap[Bo]?=some (.cells #[v] 28 (0,0))∧w.ownsRow B 5 1 v xs.length (Lib.byteCells xs)
theorem Wd {B Bo:Nat} {w:World} {v x:Value} {n:Nat} {xs:List Value} (hv:w.heap[Bo]?=some (.cells #[x] 28 (0,0))) (hown:w.ownsRow B 5 1 v n xs):v.ownBlock≠some Bo:=by
 intro e
 rcases hown.2 with ⟨rfl,_⟩ | ⟨g,cap,cur,rfl,_,hh,_⟩
 ·simp [Value.ownBlock] at e
 ·simp [Value.ownBlock] at e
  subst e
  rw [hh] at hv
  simp at hv
theorem TI.push {B Bo n:Nat} {W w w2:World} {xs:List UInt8} {ys:List Value} {v v' x:Value} {c:UInt8} {o:Obj} (hb:Below B W w) (hlt:B≤Bo) (hv:w.heap[Bo]?=some (.cells #[x] 28 (0,0))) (hown:w.ownsRow B 5 1 v n ys)
  (cY:w2.ownsRow B 5 1 v' (xs.length+1) (Lib.byteCells xs++[.int .u8 c.toNat])) (hg:(w.alloc o).grownBy w2 v.ownBlock) :
  (∃ g cap,v'=.slice (some ⟨g,0,none⟩) (xs.length+1) cap)∧(w2.heap[Bo]?=some (.cells #[x] 28 (0,0)))∧TI B Bo W (xs++[c]) (w2.setCell ⟨Bo,0,none⟩ v')∧Lib.OthersKept 5 (some Bo) w (w2.setCell ⟨Bo,0,none⟩ v'):=by
 have Bn:=lt_of_block hv
 have h2:w2.heap[Bo]?=some (.cells #[x] 28 (0,0)):=by
  rw [hg.block Bo (by simp;omega) (fun e=>Wd hv hown e.symm)]
  exact (Below.heap_alloc _ _ _ Bn).trans hv
 have mO:Below B W w2:=(hb.alloc (by omega) o).grown hg (by simp;omega) (fun k hk=>(hown.lt k hk).1)
 refine ⟨?_,h2,⟨mO.setCell (by exact hlt) _,hlt,v',one_setCell h2,?_⟩,?_⟩
 ·rcases cY.2 with ⟨_,h0⟩ | ⟨g,cap,cur,rfl,_⟩
  ·omega
  ·exact ⟨g,cap,rfl⟩
 ·refine ownsRow_setCell_other ?_ (Wd h2 cY) _
  simpa [Lib.byteCells] using cY
 ·refine Lib.OthersKept.setCell (b:=Bo) (Lib.OthersKept.grown ((Lib.OthersKept.refl _ _ _).alloc o) hg ?_) ⟨Bo,0,none⟩ rfl _
  intro g Cw
  have:=hown.lt g Cw
  rcases hown.2 with ⟨rfl,_⟩ | ⟨g',cap,cur,rfl,_,hh,_⟩
  ·simp [Value.ownBlock] at Cw
  ·simp [Value.ownBlock] at Cw
   subst Cw
   exact ⟨cur,(0,0),(Below.heap_alloc _ _ _ this.2).trans hh⟩
set_option maxHeartbeats 1600000 in
set_option maxRecDepth 100000 in
theorem Pv (B Bo:Nat) (W:World) (xs:List UInt8) (b:Bool) (w:World) (h:TI B Bo W xs w) (hlen:xs.length≤2000000000) :
  Calls Tryz.prog 53 #[.bool b,.pointer (some ⟨Bo,0,none⟩)] w fun e w'=>e=.returned (.tuple #[])∧TI B Bo W (xs++qE b) w'∧Lib.OthersKept 5 (some Bo) w w':=by
 obtain ⟨hb,hlt,v,hv,hown⟩:=h
 obtain ⟨i0,hi,gX,iH,iQ⟩:=info_parts yp
 have cW:=cell_of_one hv
 have fW:=free_of_one hv
 have Bn:=lt_of_block hv
 cases b with
 | true=>
  go_enter Tryz.func53,Tryz.ntmps53
  go_wp2_with (at_builtin;refine wpList_append_own _ rfl _ _ 28 rfl B 5 i0 (.int .u8 0) 1 1 Tryz.underlying28 hi gX iH iQ rfl (by decide) _ _ _ rfl (hown.alloc _) ⟨w.heap.size,0,none⟩ 1 1 [Value.int .u8 43] rfl rfl ?c1 ?c2 ?c3 ?c4 ?c5 ?_)
  case c1=>
   intro j u hj
   match j,hj with
   | 0,hj=>simp at hj;subst hj;simp [Addr.add]
  case c2=>intro u hu;simp at hu;subst hu;rfl
  case c3=>unfold maxLen;omega
  case c4=>omega
  case c5=>simp;omega
  intro v' w2 cY hgrow _
  obtain ⟨⟨g',cap',rfl⟩,h2,hT,hK⟩:=TI.push (c:=43) hb hlt hv hown cY hgrow
  have Bp:=cell_of_one h2
  have Bq:=free_of_one h2
  clear cY hgrow hown
  go_wp2
  go_end0
  exact ⟨rfl,hT,hK⟩
 | false=>
  go_enter Tryz.func53,Tryz.ntmps53
  go_wp2_with (at_builtin;refine wpList_append_own _ rfl _ _ 28 rfl B 5 i0 (.int .u8 0) 1 1 Tryz.underlying28 hi gX iH iQ rfl (by decide) _ _ _ rfl (hown.alloc _) ⟨w.heap.size,0,none⟩ 1 1 [Value.int .u8 45] rfl rfl ?c1 ?c2 ?c3 ?c4 ?c5 ?_)
  case c1=>
   intro j u hj
   match j,hj with
   | 0,hj=>simp at hj;subst hj;simp [Addr.add]
  case c2=>intro u hu;simp at hu;subst hu;rfl
  case c3=>unfold maxLen;omega
  case c4=>omega
  case c5=>simp;omega
  intro v' w2 cY hgrow _
  obtain ⟨⟨g',cap',rfl⟩,h2,hT,hK⟩:=TI.push (c:=45) hb hlt hv hown cY hgrow
  have Bp:=cell_of_one h2
  have Bq:=free_of_one h2
  clear cY hgrow hown
  go_wp2
  go_end0
  exact ⟨rfl,hT,hK⟩
set_option maxHeartbeats 1600000 in
set_option maxRecDepth 100000 in
theorem Pw (B Bo:Nat) (W:World) (xs:List UInt8) (n:Int) (w:World) (h:TI B Bo W xs w) (hlen:xs.length≤2000000000) (h0 : -9223372036854775808≤n) (h1:n≤9223372036854775807)
  (htab : Lib.TabBelow Tryz.prog B W "internal/strconv.uint64pow10" .u64 Lib.pow10Tab) :
  Calls Tryz.prog 51 #[.int .i64 n,.pointer (some ⟨Bo,0,none⟩)] w fun e w'=>e=.returned (.tuple #[])∧TI B Bo W (xs++qa n) w'∧Lib.OthersKept 5 (some Bo) w w':=by
 obtain ⟨hb,hlt,v,hv,hown⟩:=h
 obtain ⟨i0,hi,gX,iH,iQ⟩:=info_parts yp
 have cW:=cell_of_one hv
 have fW:=free_of_one hv
 have Bn:=lt_of_block hv
 have la:=Lib.itoa_length_le n h0 h1
 go_enter Tryz.func51,Tryz.ntmps51
 go_wp2_with (go_at_call 52;refine (HV B _ n h0 h1 v _ w hown (by omega) (by omega) (htab.on hb)).mono ?_;rintro e w1 ⟨v1,rfl,fj,tv,hk1⟩;refine Hid.out ?_)
 refine Lib.hid ?_
 rw [←ua,show Lib.byteCells xs++Lib.byteCells (Lib.itoa n)=Lib.byteCells (xs++Lib.itoa n) from by simp [Lib.byteCells]] at fj
 have lI:w1.heap[Bo]?=some (.cells #[v] 28 (0,0)):=hk1 Bo _ hv (by simp) (by intro c fz e;simp at e)
 have sX:Below B W w1:=hb.trans tv
 have Eh:=lt_of_block lI
 have fY:(xs++Lib.itoa n).length≤2000000100:=by rw [ua];omega
 obtain ⟨ys,hys⟩:∃ l,l=xs++Lib.itoa n:=⟨_,rfl⟩
 rw [←hys] at fj fY
 have HY:=Lib.hid hys
 clear hys cW fW
 go_wp2_with (at_builtin;refine wpList_append_own _ rfl _ _ 28 rfl B 5 i0 (.int .u8 0) 1 1 Tryz.underlying28 hi gX iH iQ rfl (by decide) _ _ _ rfl (fj.alloc _) ⟨w1.heap.size,0,none⟩ 1 1 [Value.int .u8 32] rfl rfl ?c1 ?c2 ?c3 ?c4 ?c5 ?_)
 case c1=>
  intro j u hj
  match j,hj with
  | 0,hj=>simp at hj;subst hj;simp [Addr.add]
 case c2=>intro u hu;simp at hu;subst hu;rfl
 case c3=>unfold maxLen;omega
 case c4=>omega
 case c5=>simp;omega
 intro v' w2 cY hgrow _
 obtain ⟨⟨g',cap',rfl⟩,h2,hT,hK⟩:=TI.push (c:=32) sX hlt lI fj cY hgrow
 have Bp:=cell_of_one h2
 have Bq:=free_of_one h2
 clear cY hgrow hown fj
 go_wp2
 go_end0
 have hys:=HY.out
 subst hys
 refine ⟨rfl,?_,?_⟩
 ·simpa [qa] using hT
 ·exact Lib.OthersKept.trans (fun k o hk _ ho=>hk1 k o hk (by simp) ho) hK
section
def wa (n:Int):Bool:=decide (-9223372036854775808≤n)&&decide (n≤9223372036854775807)
def rQ (p:aA):Bool:=wa p.state.day&&p.state.aC.all wa&&p.state.aM.all (fun m=>wa m.aH&&wa m.left&&wa m.got&&wa m.bg)&&decide ((qu p).length≤1000000000)
def jc (p:aA):Option ByteArray:=if rQ p then some ⟨(qu p).toArray⟩ else none
structure TB (B Bo:Nat) (W:World) (vs:Array Value) (xs:List UInt8) (w:World):Prop where
 ti:TI B Bo W xs w
 bo:B < Bo
 box:w.heap[B]?=some (.cells vs 45 (0,0))
def MB (Bm:Nat) (vs:Array Value) (w:World):Prop:=w.heap[Bm]?=some (.cells vs 86 (0,0))
theorem TB.of {B Bo:Nat} {W w w':World} {vs:Array Value} {xs ys:List UInt8} (h:TB B Bo W vs xs w) (hT:TI B Bo W ys w') (hK:Lib.OthersKept 5 (some Bo) w w'):TB B Bo W vs ys w':=
 ⟨hT,h.bo,hK B _ h.box (by have:=h.bo;simp;omega) (by intro c fz e;simp at e)⟩
theorem MB.of {B Bo Bm:Nat} {W w w':World} {vs ms:Array Value} {xs:List UInt8} (h:TB B Bo W vs xs w) (hm:MB Bm ms w) (hK:Lib.OthersKept 5 (some Bo) w w'):MB Bm ms w':=by
 refine hK Bm _ hm ?_ (by intro c fz e;simp at e)
 intro e
 obtain ⟨v,hv,_⟩:=h.ti.own
 cases e
 unfold MB at hm
 rw [hv] at hm
 simp at hm
theorem Yo {B Bo:Nat} {W w:World} {vs:Array Value} {xs:List UInt8} (b:Bool) (h:TB B Bo W vs xs w) (hlen:xs.length≤2000000000) :
  Calls Tryz.prog 53 #[.bool b,.pointer (some ⟨Bo,0,none⟩)] w fun e w'=>e=.returned (.tuple #[])∧TB B Bo W vs (xs++qE b) w'∧(∀ Bm ms,MB Bm ms w→MB Bm ms w'):=
 (Pv B Bo W xs b w h.ti hlen).mono fun e w' ⟨h1,h2,h3⟩=>⟨h1,h.of h2 h3,fun _ _ hm=>MB.of h hm h3⟩
theorem yq {B Bo:Nat} {W w:World} {vs:Array Value} {xs:List UInt8} (n:Int) (h:TB B Bo W vs xs w) (hlen:xs.length≤2000000000) (hn:wa n=true)
  (htab : Lib.TabBelow Tryz.prog B W "internal/strconv.uint64pow10" .u64 Lib.pow10Tab) :
  Calls Tryz.prog 51 #[.int .i64 n,.pointer (some ⟨Bo,0,none⟩)] w fun e w'=>e=.returned (.tuple #[])∧TB B Bo W vs (xs++qa n) w'∧(∀ Bm ms,MB Bm ms w→MB Bm ms w'):=by
 simp only [wa,ub,decide_eq_true_eq] at hn
 exact (Pw B Bo W xs n w h.ti hlen hn.1 hn.2 htab).mono fun e w' ⟨h1,h2,h3⟩=>⟨h1,h.of h2 h3,fun _ _ hm=>MB.of h hm h3⟩
theorem TB.cell {B Bo:Nat} {W w:World} {vs:Array Value} {xs:List UInt8} (h:TB B Bo W vs xs w) (j:Nat):w.cell? ⟨B,j,none⟩=vs[j]?:=by
 have:=h.box
 simp [World.cell?,this]
theorem MB.cell {Bm:Nat} {w:World} {vs:Array Value} (h:MB Bm vs w) (j:Nat):w.cell? ⟨Bm,j,none⟩=vs[j]?:=by
 unfold MB at h
 simp [World.cell?,h]
section
variable {B Bo Bm:Nat} {W w:World} {a b c d e:Value} {xs:List UInt8}
theorem TB.c0 (h:TB B Bo W #[a,b,c,d,e] xs w):w.cell? ⟨B,0,none⟩=some a:=h.cell 0
theorem TB.c1 (h:TB B Bo W #[a,b,c,d,e] xs w):w.cell? ⟨B,1,none⟩=some b:=h.cell 1
theorem TB.c2 (h:TB B Bo W #[a,b,c,d,e] xs w):w.cell? ⟨B,2,none⟩=some c:=h.cell 2
theorem TB.c3 (h:TB B Bo W #[a,b,c,d,e] xs w):w.cell? ⟨B,3,none⟩=some d:=h.cell 3
theorem TB.c4 (h:TB B Bo W #[a,b,c,d,e] xs w):w.cell? ⟨B,4,none⟩=some e:=h.cell 4
theorem MB.c0 (h:MB Bm #[a,b,c,d,e] w):w.cell? ⟨Bm,0,none⟩=some a:=h.cell 0
theorem MB.c1 (h:MB Bm #[a,b,c,d,e] w):w.cell? ⟨Bm,1,none⟩=some b:=h.cell 1
theorem MB.c2 (h:MB Bm #[a,b,c,d,e] w):w.cell? ⟨Bm,2,none⟩=some c:=h.cell 2
theorem MB.c3 (h:MB Bm #[a,b,c,d,e] w):w.cell? ⟨Bm,3,none⟩=some d:=h.cell 3
theorem MB.c4 (h:MB Bm #[a,b,c,d,e] w):w.cell? ⟨Bm,4,none⟩=some e:=h.cell 4
end
def t1 (p:aA):List UInt8:=qE p.own++qa p.state.day
def t2 (p:aA) (k:Nat):List UInt8:=t1 p++(p.state.aC.take k).flatMap qa
def t3 (p:aA) (k:Nat):List UInt8:=t1 p++p.state.aC.flatMap qa++(p.state.used.take k).flatMap qE
def t4 (p:aA) (k:Nat):List UInt8:=t1 p++p.state.aC.flatMap qa++p.state.used.flatMap qE++(p.state.aM.take k).flatMap xu
theorem Ei {α:Type} (f:α→List UInt8) (l:List α) (k:Nat):((l.take k).flatMap f).length≤(l.flatMap f).length:=by
 conv=>rhs;rw [←List.take_append_drop k l]
 rw [ue,ua]
 omega
theorem XH {α:Type} (f:α→List UInt8) (l:List α) (k:Nat) (h:k < l.length):(l.take (k+1)).flatMap f=(l.take k).flatMap f++f l[k]:=by
 rw [List.take_succ_eq_append_getElem h,ue];simp
theorem Vm (p:aA) (k:Nat):(t2 p k).length≤(qu p).length:=by
 have:=Ei qa p.state.aC k
 simp only [t2,t1,qu,ua];omega
theorem HW (p:aA) (k:Nat):(t3 p k).length≤(qu p).length:=by
 have:=Ei qE p.state.used k
 simp only [t3,t1,qu,ua];omega
theorem Vn (p:aA) (k:Nat):(t4 p k).length≤(qu p).length:=by
 have:=Ei xu p.state.aM k
 simp only [t4,t1,qu,ua];omega
theorem Ej {α:Type} (f:α→List UInt8) (l:List α) (h:∀ a,1≤(f a).length):l.length≤(l.flatMap f).length:=by
 induction l with
 | nil=>simp
 | cons a l ih=>have:=h a;simp only [List.flatMap_cons,ua,ug];omega
theorem Kx (p:aA):p.state.aM.length≤(qu p).length:=by
 have:=Ej xu p.state.aM (fun a=>by simp only [xu,qE,ua,ug];omega)
 simp only [qu,ua];omega
theorem HX (p:aA):p.state.used.length≤(qu p).length:=by
 have:=Ej qE p.state.used (fun a=>by simp [qE])
 simp only [qu,ua];omega
theorem We (p:aA):p.state.aC.length≤(qu p).length:=by
 have:=Ej qa p.state.aC (fun a=>by simp [qa])
 simp only [qu,ua];omega
set_option maxHeartbeats 6400000 in
set_option maxRecDepth 1000000 in
theorem Px (p:aA) (W:World) (ah au am:Option Addr) (ch cu cm:Nat) (hok:rQ p=true)
  (htab : Lib.TabBelow Tryz.prog W.heap.size W "internal/strconv.uint64pow10" .u64 Lib.pow10Tab)
  (hh:∀ k (hk:k < p.state.aC.length),∃ b off,ah=some ⟨b,off,none⟩∧b < W.heap.size∧W.cell? ⟨b,off+k,none⟩=some (.int .i64 p.state.aC[k]))
  (hu:∀ k (hk:k < p.state.used.length),∃ b off,au=some ⟨b,off,none⟩∧b < W.heap.size∧W.cell? ⟨b,off+k,none⟩=some (.bool p.state.used[k]))
  (hm:∀ k (hk:k < p.state.aM.length),∃ b off,am=some ⟨b,off,none⟩∧b < W.heap.size∧W.cell? ⟨b,off+k*5,none⟩=some (.int .i64 p.state.aM[k].aH)∧W.cell? ⟨b,off+k*5+1,none⟩=some (.int .i64 p.state.aM[k].left) ∧
   W.cell? ⟨b,off+k*5+2,none⟩=some (.int .i64 p.state.aM[k].got)∧W.cell? ⟨b,off+k*5+3,none⟩=some (.int .i64 p.state.aM[k].bg)∧W.cell? ⟨b,off+k*5+4,none⟩=some (.bool p.state.aM[k].aT)) :
  Calls Tryz.prog 32 #[.agg #[.int .i64 p.state.day,.slice ah p.state.aC.length ch,.slice au p.state.used.length cu,.slice am p.state.aM.length cm,.bool p.own]] W
   fun e w'=>e=.returned (.string ⟨(qu p).toArray⟩)∧Below W.heap.size W w':=by
 have Py:∀ (fn:Fn) (first cap:Array Value) (w:World),(Instr.makeFunc fn first cap).run Tryz.prog w=.ok (.func fn first cap) w:=fun _ _ _ _=>rfl
 obtain ⟨i0,hi,gX,iH,iQ⟩:=info_parts yp
 simp only [rQ,ub,decide_eq_true_eq,uh] at hok
 obtain ⟨⟨⟨hd,Ek⟩,nN⟩,hlen⟩:=hok
 have hml:=Kx p
 have El:=HX p
 have Pz:=We p
 go_enter Tryz.func32,Tryz.ntmps32
 go_wp2_with (at_make;refine wpList_make_own _ rfl _ _ 28 rfl W.heap.size 5 i0 (.int .u8 0) 1 Tryz.underlying28 hi gX iH .i64 .i64 (32+12*(p.state.aM.length:Int)) (32+12*p.state.aM.length) rfl rfl (by omega) (by rw [iQ];omega) (by unfold maxLen;omega) (by simp) ?_;intro w1 hown hgrow;refine Hid.out ?_)
 refine Lib.hid ?_
 have tA:w1.heap[W.heap.size]?=some (.cells #[.int .i64 p.state.day,.slice ah p.state.aC.length ch,.slice au p.state.used.length cu,.slice am p.state.aM.length cm,.bool p.own] 45 (0,0)):=by
  rw [hgrow.block W.heap.size (by simp) (by simp)]
  exact zX W _
 have hw1:W.heap.size+1≤w1.heap.size:=by have:=hgrow.size;simpa using this
 have mO:Below W.heap.size W w1:=((Below.refl _ _).alloc (ui _) _).grown hgrow (by simp) (fun k hk=>by cases hk)
 clear hgrow
 have tB:TB W.heap.size w1.heap.size W #[.int .i64 p.state.day,.slice ah p.state.aC.length ch,.slice au p.state.used.length cu,.slice am p.state.aM.length cm,.bool p.own] []
   (w1.alloc (.cells #[.slice (some ⟨W.heap.size+1,0,none⟩) 0 (32+12*p.state.aM.length)] 28)):=by
  refine ⟨⟨mO.alloc (by omega) _,by omega,_,zX _ _,?_⟩,by omega,(Below.heap_alloc _ _ _ (by omega)).trans tA⟩
  have:=hown.alloc (.cells #[.slice (some ⟨W.heap.size+1,0,none⟩) 0 (32+12*p.state.aM.length)] 28)
  simpa [Lib.byteCells] using this
 have c0:=tB.c4
 have iE:(qE p.own).length≤2000000000:=by simp [qE]
 have fY:(t1 p).length≤2000000000:=by have:=Vm p 0;simp [t2] at this;omega
 clear hown tA
 go_wp2_with (first
  | (go_at_call 53;refine (Yo p.own tB (by simp)).mono ?_;rintro e w2 ⟨rfl,h2,_⟩;have c2:=h2.c0)
  | (go_at_call 51;refine (yq p.state.day h2 (by simpa using iE) hd htab).mono ?_;rintro e w3 ⟨rfl,h3,_⟩;have c3:=h3.c1))
 have l6:TB W.heap.size w1.heap.size W #[.int .i64 p.state.day,.slice ah p.state.aC.length ch,.slice au p.state.used.length cu,.slice am p.state.aM.length cm,.bool p.own] (t2 p 0) w3:=by simpa [t2,t1] using h3
 clear h3 h2 tB c0 c2 c3
 go_loopw [34] (fun i wr=>∃ k:Nat,k≤p.state.aC.length∧i=.int .i64 k∧TB W.heap.size w1.heap.size W #[.int .i64 p.state.day,.slice ah p.state.aC.length ch,.slice au p.state.used.length cu,.slice am p.state.aM.length cm,.bool p.own] (t2 p k) wr)
  (fun i _=>p.state.aC.length - (intOf i).toNat)
 case atStart=>exact ⟨0,ud _,rfl,l6⟩
 case round=>
  obtain ⟨k,hk,rfl,dU⟩:=hrel
  clear l6
  have hlk:=Vm p k
  by_cases ia:k < p.state.aC.length
  ·obtain ⟨b,off,rfl,lB,oq⟩:=hh k ia
   have tX:wr.cell? ⟨b,off+k,none⟩=some (.int .i64 p.state.aC[k]):=(dU.ti.below.cell (by exact lB)).trans oq
   have hin:=Ek _ (uc ia)
   go_wp2_with (go_at_call 51;refine (yq p.state.aC[k] dU (by omega) hin htab).mono ?_;rintro e w4 ⟨rfl,h4,_⟩)
   go_roundw
   case rel=>exact ⟨k+1,by omega,by go_num,by simpa [t2,XH _ _ _ ia] using h4⟩
   case measure=>simp [intOf];omega
  ·have c2:=dU.c2
   go_wp2
   obtain rfl:k=p.state.aC.length:=by omega
   have l6:TB W.heap.size w1.heap.size W #[.int .i64 p.state.day,.slice ah p.state.aC.length ch,.slice au p.state.used.length cu,.slice am p.state.aM.length cm,.bool p.own] (t3 p 0) wr:=by simpa [t2,t3] using dU
   clear dU c2 hlk
   obtain ⟨wo,rfl⟩:∃ wo:World,wo=wr:=⟨_,rfl⟩
   go_loopw [46] (fun i wr=>∃ k:Nat,k≤p.state.used.length∧i=.int .i64 k∧TB W.heap.size w1.heap.size W #[.int .i64 p.state.day,.slice ah p.state.aC.length ch,.slice au p.state.used.length cu,.slice am p.state.aM.length cm,.bool p.own] (t3 p k) wr)
    (fun i _=>p.state.used.length - (intOf i).toNat)
   case atStart=>exact ⟨0,ud _,rfl,l6⟩
   case round=>
    obtain ⟨k,hk,rfl,dU⟩:=hrel
    clear l6
    have hlk:=HW p k
    by_cases ia:k < p.state.used.length
    ·obtain ⟨b,off,rfl,lB,oq⟩:=hu k ia
     have tX:wr.cell? ⟨b,off+k,none⟩=some (.bool p.state.used[k]):=(dU.ti.below.cell (by exact lB)).trans oq
     go_wp2_with (go_at_call 53;refine (Yo p.state.used[k] dU (by omega)).mono ?_;rintro e w4 ⟨rfl,h4,_⟩)
     go_roundw
     case rel=>exact ⟨k+1,by omega,by go_num,by simpa [t3,XH _ _ _ ia] using h4⟩
     case measure=>simp [intOf];omega
    ·have c2:=dU.c3
     go_wp2
     obtain rfl:k=p.state.used.length:=by omega
     have l6:TB W.heap.size w1.heap.size W #[.int .i64 p.state.day,.slice ah p.state.aC.length ch,.slice au p.state.used.length cu,.slice am p.state.aM.length cm,.bool p.own] (t4 p 0) wr:=by simpa [t3,t4] using dU
     clear dU c2 hlk
     obtain ⟨PA,rfl⟩:∃ wo:World,wo=wr:=⟨_,rfl⟩
     go_loopw [58] (fun i wr=>∃ k:Nat,k≤p.state.aM.length∧i=.int .i64 k∧TB W.heap.size w1.heap.size W #[.int .i64 p.state.day,.slice ah p.state.aC.length ch,.slice au p.state.used.length cu,.slice am p.state.aM.length cm,.bool p.own] (t4 p k) wr)
      (fun i _=>p.state.aM.length - (intOf i).toNat)
     case atStart=>exact ⟨0,ud _,rfl,l6⟩
     case round=>
      obtain ⟨k,hk,rfl,dU⟩:=hrel
      clear l6
      have hlk:=Vn p k
      by_cases ia:k < p.state.aM.length
      ·obtain ⟨b,off,rfl,lB,hc0,eW,eX,nU,tC⟩:=hm k ia
       have hin:=nN _ (uc ia)
       have eG:t4 p (k+1)=t4 p k++xu p.state.aM[k]:=by simp [t4,XH _ _ _ ia]
       obtain ⟨m,hmk⟩:∃ m,m=p.state.aM[k]:=⟨_,rfl⟩
       rw [←hmk] at hc0 eW eX nU tC hin eG
       clear hmk
       have iC:=(dU.ti.below.cell (p:=⟨b,off+k*5,none⟩) (by exact lB)).trans hc0
       have o8:=(dU.ti.below.cell (p:=⟨b,off+k*5+1,none⟩) (by exact lB)).trans eW
       have hd2:=(dU.ti.below.cell (p:=⟨b,off+k*5+2,none⟩) (by exact lB)).trans eX
       have sN:=(dU.ti.below.cell (p:=⟨b,off+k*5+3,none⟩) (by exact lB)).trans nU
       have Em:=(dU.ti.below.cell (p:=⟨b,off+k*5+4,none⟩) (by exact lB)).trans tC
       clear hc0 eW eX nU tC
       have Br:TB W.heap.size w1.heap.size W #[.int .i64 p.state.day,.slice ah p.state.aC.length ch,.slice au p.state.used.length cu,.slice (some ⟨b,off,none⟩) p.state.aM.length cm,.bool p.own] (t4 p k) (wr.alloc (.cells #[.int .i64 m.aH,.int .i64 m.left,.int .i64 m.got,.int .i64 m.bg,.bool m.aT] 86)):=
        dU.of ⟨dU.ti.below.alloc (by have:=dU.ti.below.size;omega) _,dU.ti.lt,by obtain ⟨v,hv,ho⟩:=dU.ti.own;exact ⟨v,(Below.heap_alloc _ _ _ (lt_of_block hv)).trans hv,ho.alloc _⟩⟩ ((Lib.OthersKept.refl _ _ _).alloc _)
       have tD:MB wr.heap.size #[.int .i64 m.aH,.int .i64 m.left,.int .i64 m.got,.int .i64 m.bg,.bool m.aT] (wr.alloc (.cells #[.int .i64 m.aH,.int .i64 m.left,.int .i64 m.got,.int .i64 m.bg,.bool m.aT] 86)):=zX _ _
       have e1:=tD.c0
       have l1:(t4 p k++qa m.aH).length≤2000000000∧(t4 p k++qa m.aH++qa m.left).length≤2000000000∧(t4 p k++qa m.aH++qa m.left++qa m.got).length≤2000000000 ∧
         (t4 p k++qa m.aH++qa m.left++qa m.got++qa m.bg).length≤2000000000:=by
        have:=Vn p (k+1)
        rw [eG] at this
        simp only [xu,ua] at this ⊢
        omega
       have l0:(t4 p k).length≤2000000000:=by omega
       have HL:=Lib.hid l1
       have HS:=Lib.hid eG
       clear l1 dU eG
       go_wp2_with (go_at_call 51;refine (yq m.aH Br l0 hin.1.1.1 htab).mono ?_;rintro e w5 ⟨rfl,h5,k5⟩;have m5:=k5 _ _ tD;have e5:=m5.c1;refine Hid.out ?_)
       refine Lib.hid ?_
       clear iC o8 hd2 sN Em e1 Br tD k5
       go_wp2_with (go_at_call 51;refine (yq m.left h5 HL.out.1 hin.1.1.2 htab).mono ?_;rintro e w6 ⟨rfl,h6,k6⟩;have m6:=k6 _ _ m5;have e6:=m6.c2;refine Hid.out ?_)
       refine Lib.hid ?_
       clear e5 h5 m5 k6
       go_wp2_with (go_at_call 51;refine (yq m.got h6 HL.out.2.1 hin.1.2 htab).mono ?_;rintro e w7 ⟨rfl,h7,k7⟩;have m7:=k7 _ _ m6;have e7:=m7.c3;refine Hid.out ?_)
       refine Lib.hid ?_
       clear e6 h6 m6 k7
       go_wp2_with (go_at_call 51;refine (yq m.bg h7 HL.out.2.2.1 hin.2 htab).mono ?_;rintro e w8 ⟨rfl,h8,k8⟩;have m8:=k8 _ _ m7;have e8:=m8.c4;refine Hid.out ?_)
       refine Lib.hid ?_
       clear e7 h7 m7 k8
       go_wp2_with (go_at_call 53;refine (Yo m.aT h8 HL.out.2.2.2).mono ?_;rintro e w9 ⟨rfl,h9,-⟩)
       go_roundw
       case rel=>exact ⟨k+1,by omega,by go_num,by rw [HS.out];simpa [xu] using h9⟩
       case measure=>simp [intOf];omega
      ·obtain rfl:k=p.state.aM.length:=by omega
       have hT:TB W.heap.size w1.heap.size W #[.int .i64 p.state.day,.slice ah p.state.aC.length ch,.slice au p.state.used.length cu,.slice am p.state.aM.length cm,.bool p.own] (qu p) wr:=by simpa [t4,qu,t1] using dU
       obtain ⟨⟨nW,hlt,v,hv,hown⟩,A9,tA⟩:=hT
       have hpos:0 < (qu p).length:=by simp [qu,qE]
       rcases hown.2 with ⟨-,h0⟩ | ⟨g,cap,cur,rfl,-,-,-,-,-,-⟩
       ·omega
       ·have cW:=cell_of_one hv
        have hcv:=run_convert_bytes_back (P:=Tryz.prog) wr 28 9 5 ⟨g,0,none⟩ cap (qu p) Tryz.underlying28 Tryz.underlying5 Tryz.underlying9 (fun j hj=>hown.cells (g:=g) rfl j _ (by simp [Lib.byteCells,hj]))
        go_wp2
        go_ret
        exact ⟨rfl,nW⟩
theorem RI.dX {α:Type} {Z:Nat→Nat} {w:World} {f:α→List IV} {l:List α} {v:Value} (sz:Nat) (hf:∀ a,(f a).length=sz) (h0:0 < sz) (hz:∀ b,0 < Z b→b < w.heap.size) (h:RI Z w (.slice (l.map f)) v) :
  ∃ a cap,v=.slice a l.length cap∧∀ k (hk:k < l.length),∃ b off,a=some ⟨b,off,none⟩∧b < w.heap.size∧∀ j c,(f l[k])[j]?=some c→∃ cv,w.cell? ⟨b,off+k*sz+j,none⟩=some cv∧RI Z w c cv:=by
 generalize hx:IV.slice (l.map f)=x at h
 cases h with
 | bool b=>cases hx
 | int k n=>cases hx
 | str s=>cases hx
 | agg cs vs hl h1 hr=>cases hx
 | tuple cs vs hl hr=>cases hx
 | iface t x v hr=>cases hx
 | dl=>cases hx
 | eZ=>cases hx
 | nil=>
  have:l=[]:=by simpa using hx
  subst this
  exact ⟨none,0,rfl,fun k hk=>by simp at hk⟩
 | empty a cap=>
  have:l=[]:=by simpa using hx
  subst this
  exact ⟨some a,cap,rfl,fun k hk=>by simp at hk⟩
 | slice af b off cap sz' cv hcap hsz iO hc hr=>
  obtain rfl:l.map f=af:=by injection hx
  refine ⟨some ⟨b,off,none⟩,cap,by simp,fun k hk=>⟨b,off,rfl,?_,fun j c hj => ?_⟩⟩
  ·have hrow:(l.map f)[k]?=some (f l[k]):=by simp [hk]
   have hne:0 < (f l[k]).length:=by rw [hf];exact h0
   have:=iO k _ 0 _ hrow (List.getElem?_eq_getElem hne)
   exact hz b (by omega)
  ·have hrow:(l.map f)[k]?=some (f l[k]):=by simp [hk]
   have h1:=hsz k _ hrow
   rw [hf] at h1
   subst h1
   exact ⟨_,(hc k _ j c hrow hj).1,hr k _ j c hrow hj⟩
theorem RI.cZ {Z:Nat→Nat} {w:World} {k:IntKind} {n:Int} {v:Value} (h:RI Z w (.int k n) v):v=.int k n:=by cases h;rfl
theorem RI.eH {Z:Nat→Nat} {w:World} {b:Bool} {v:Value} (h:RI Z w (.bool b) v):v=.bool b:=by cases h;rfl
theorem Vo (p:aA) (res:ByteArray) (hd:jc p=some res):aO C0 81 [.agg (aA.row p)] (.str res):=by
 refine ⟨⟨Tryz.f32,by kernel_rfl,by kernel_rfl,by kernel_rfl⟩,fun Z w vs hz tE hr => ?_⟩
 unfold jc at hd
 split at hd
 ·rename_i hok
  cases hd
  obtain ⟨hl,hr⟩:=hr
  match vs,hl with
  | [v],_=>
   have h0:=hr 0 _ _ rfl rfl
   generalize hx:IV.agg (aA.row p)=x at h0
   cases h0 with
   | bool b=>cases hx
   | int k n=>cases hx
   | str s=>cases hx
   | nil=>cases hx
   | empty a cap=>cases hx
   | slice af b off cap sz' cv hcap hsz iO hc hr=>cases hx
   | tuple cs vs hl hr=>cases hx
   | iface t x v hr=>cases hx
   | dl=>cases hx
   | eZ=>cases hx
   | agg cs vs hl h1 cg=>
    obtain rfl:aA.row p=cs:=by injection hx
    match vs,hl with
    | [a,b,c,d,e],_=>
     have r0:=RI.cZ (cg 0 _ _ rfl rfl)
     have r4:=RI.eH (cg 4 _ _ rfl rfl)
     obtain ⟨ah,ch,rfl,vh⟩:=RI.dX 1 (fun _=>rfl) (by omega) hz (cg 1 _ _ rfl rfl)
     obtain ⟨au,cu,rfl,vu⟩:=RI.dX 1 (fun _=>rfl) (by omega) hz (cg 2 _ _ rfl rfl)
     obtain ⟨am,cm,rfl,vm⟩:=RI.dX 5 (fun _=>rfl) (by omega) hz (cg 3 _ _ rfl rfl)
     subst r0 r4
     refine (Px p w ah au am ch cu cm hok (Lib.tabBelow_of_tabIs tE.1) (fun k hk => ?_) (fun k hk => ?_) (fun k hk => ?_)).mono fun e w' ⟨he,hb⟩=>⟨_,Z,he,.str _,fun _ _=>rfl,fun b hb'=>uf (hz b hb') hb.size,hb⟩
     ·obtain ⟨b,off,h1,h2,h3⟩:=vh k hk
      obtain ⟨cv,h4,h5⟩:=h3 0 _ rfl
      rw [RI.cZ h5] at h4
      exact ⟨b,off,h1,h2,by simpa using h4⟩
     ·obtain ⟨b,off,h1,h2,h3⟩:=vu k hk
      obtain ⟨cv,h4,h5⟩:=h3 0 _ rfl
      rw [RI.eH h5] at h4
      exact ⟨b,off,h1,h2,by simpa using h4⟩
     ·obtain ⟨b,off,h1,h2,h3⟩:=vm k hk
      obtain ⟨c0,g0,q0⟩:=h3 0 _ rfl
      obtain ⟨c1,g1,q1⟩:=h3 1 _ rfl
      obtain ⟨c2,g2,q2⟩:=h3 2 _ rfl
      obtain ⟨c3,g3,q3⟩:=h3 3 _ rfl
      obtain ⟨c4,g4,q4⟩:=h3 4 _ rfl
      rw [RI.cZ q0] at g0
      rw [RI.cZ q1] at g1
      rw [RI.cZ q2] at g2
      rw [RI.cZ q3] at g3
      rw [RI.eH q4] at g4
      exact ⟨b,off,h1,h2,by simpa using g0,g1,g2,g3,g4⟩
 ·cases hd
end
set_option maxHeartbeats 1600000 in
set_option maxRecDepth 100000 in
theorem PB (B Bo:Nat) (W:World) (xs:List UInt8) (b:Bool) (w:World) (h:TI B Bo W xs w) (hlen:xs.length≤2000000000) :
  Calls Tryz.prog 64 #[.bool b,.pointer (some ⟨Bo,0,none⟩)] w fun e w'=>e=.returned (.tuple #[])∧TI B Bo W (xs++qE b) w'∧Lib.OthersKept 5 (some Bo) w w':=by
 obtain ⟨hb,hlt,v,hv,hown⟩:=h
 obtain ⟨i0,hi,gX,iH,iQ⟩:=info_parts yp
 have cW:=cell_of_one hv
 have fW:=free_of_one hv
 have Bn:=lt_of_block hv
 cases b with
 | true=>
  go_enter Tryz.func64,Tryz.ntmps64
  go_wp2_with (at_builtin;refine wpList_append_own _ rfl _ _ 28 rfl B 5 i0 (.int .u8 0) 1 1 Tryz.underlying28 hi gX iH iQ rfl (by decide) _ _ _ rfl (hown.alloc _) ⟨w.heap.size,0,none⟩ 1 1 [Value.int .u8 43] rfl rfl ?c1 ?c2 ?c3 ?c4 ?c5 ?_)
  case c1=>
   intro j u hj
   match j,hj with
   | 0,hj=>simp at hj;subst hj;simp [Addr.add]
  case c2=>intro u hu;simp at hu;subst hu;rfl
  case c3=>unfold maxLen;omega
  case c4=>omega
  case c5=>simp;omega
  intro v' w2 cY hgrow _
  obtain ⟨⟨g',cap',rfl⟩,h2,hT,hK⟩:=TI.push (c:=43) hb hlt hv hown cY hgrow
  have Bp:=cell_of_one h2
  have Bq:=free_of_one h2
  clear cY hgrow hown
  go_wp2
  go_end0
  exact ⟨rfl,hT,hK⟩
 | false=>
  go_enter Tryz.func64,Tryz.ntmps64
  go_wp2_with (at_builtin;refine wpList_append_own _ rfl _ _ 28 rfl B 5 i0 (.int .u8 0) 1 1 Tryz.underlying28 hi gX iH iQ rfl (by decide) _ _ _ rfl (hown.alloc _) ⟨w.heap.size,0,none⟩ 1 1 [Value.int .u8 45] rfl rfl ?c1 ?c2 ?c3 ?c4 ?c5 ?_)
  case c1=>
   intro j u hj
   match j,hj with
   | 0,hj=>simp at hj;subst hj;simp [Addr.add]
  case c2=>intro u hu;simp at hu;subst hu;rfl
  case c3=>unfold maxLen;omega
  case c4=>omega
  case c5=>simp;omega
  intro v' w2 cY hgrow _
  obtain ⟨⟨g',cap',rfl⟩,h2,hT,hK⟩:=TI.push (c:=45) hb hlt hv hown cY hgrow
  have Bp:=cell_of_one h2
  have Bq:=free_of_one h2
  clear cY hgrow hown
  go_wp2
  go_end0
  exact ⟨rfl,hT,hK⟩
set_option maxHeartbeats 1600000 in
set_option maxRecDepth 100000 in
theorem PC (B Bo:Nat) (W:World) (xs:List UInt8) (n:Int) (w:World) (h:TI B Bo W xs w) (hlen:xs.length≤2000000000) (h0 : -9223372036854775808≤n) (h1:n≤9223372036854775807)
  (htab : Lib.TabBelow Tryz.prog B W "internal/strconv.uint64pow10" .u64 Lib.pow10Tab) :
  Calls Tryz.prog 63 #[.int .i64 n,.pointer (some ⟨Bo,0,none⟩)] w fun e w'=>e=.returned (.tuple #[])∧TI B Bo W (xs++qa n) w'∧Lib.OthersKept 5 (some Bo) w w':=by
 obtain ⟨hb,hlt,v,hv,hown⟩:=h
 obtain ⟨i0,hi,gX,iH,iQ⟩:=info_parts yp
 have cW:=cell_of_one hv
 have fW:=free_of_one hv
 have Bn:=lt_of_block hv
 have la:=Lib.itoa_length_le n h0 h1
 go_enter Tryz.func63,Tryz.ntmps63
 go_wp2_with (go_at_call 52;refine (HV B _ n h0 h1 v _ w hown (by omega) (by omega) (htab.on hb)).mono ?_;rintro e w1 ⟨v1,rfl,fj,tv,hk1⟩;refine Hid.out ?_)
 refine Lib.hid ?_
 rw [←ua,show Lib.byteCells xs++Lib.byteCells (Lib.itoa n)=Lib.byteCells (xs++Lib.itoa n) from by simp [Lib.byteCells]] at fj
 have lI:w1.heap[Bo]?=some (.cells #[v] 28 (0,0)):=hk1 Bo _ hv (by simp) (by intro c fz e;simp at e)
 have sX:Below B W w1:=hb.trans tv
 have Eh:=lt_of_block lI
 have fY:(xs++Lib.itoa n).length≤2000000100:=by rw [ua];omega
 obtain ⟨ys,hys⟩:∃ l,l=xs++Lib.itoa n:=⟨_,rfl⟩
 rw [←hys] at fj fY
 have HY:=Lib.hid hys
 clear hys cW fW
 go_wp2_with (at_builtin;refine wpList_append_own _ rfl _ _ 28 rfl B 5 i0 (.int .u8 0) 1 1 Tryz.underlying28 hi gX iH iQ rfl (by decide) _ _ _ rfl (fj.alloc _) ⟨w1.heap.size,0,none⟩ 1 1 [Value.int .u8 32] rfl rfl ?c1 ?c2 ?c3 ?c4 ?c5 ?_)
 case c1=>
  intro j u hj
  match j,hj with
  | 0,hj=>simp at hj;subst hj;simp [Addr.add]
 case c2=>intro u hu;simp at hu;subst hu;rfl
 case c3=>unfold maxLen;omega
 case c4=>omega
 case c5=>simp;omega
 intro v' w2 cY hgrow _
 obtain ⟨⟨g',cap',rfl⟩,h2,hT,hK⟩:=TI.push (c:=32) sX hlt lI fj cY hgrow
 have Bp:=cell_of_one h2
 have Bq:=free_of_one h2
 clear cY hgrow hown fj
 go_wp2
 go_end0
 have hys:=HY.out
 subst hys
 refine ⟨rfl,?_,?_⟩
 ·simpa [qa] using hT
 ·exact Lib.OthersKept.trans (fun k o hk _ ho=>hk1 k o hk (by simp) ho) hK
theorem Wz {B Bo:Nat} {W w:World} {vs:Array Value} {xs:List UInt8} (b:Bool) (h:TB B Bo W vs xs w) (hlen:xs.length≤2000000000) :
  Calls Tryz.prog 64 #[.bool b,.pointer (some ⟨Bo,0,none⟩)] w fun e w'=>e=.returned (.tuple #[])∧TB B Bo W vs (xs++qE b) w'∧(∀ Bm ms,MB Bm ms w→MB Bm ms w'):=
 (PB B Bo W xs b w h.ti hlen).mono fun e w' ⟨h1,h2,h3⟩=>⟨h1,h.of h2 h3,fun _ _ hm=>MB.of h hm h3⟩
theorem vq {B Bo:Nat} {W w:World} {vs:Array Value} {xs:List UInt8} (n:Int) (h:TB B Bo W vs xs w) (hlen:xs.length≤2000000000) (hn:wa n=true)
  (htab : Lib.TabBelow Tryz.prog B W "internal/strconv.uint64pow10" .u64 Lib.pow10Tab) :
  Calls Tryz.prog 63 #[.int .i64 n,.pointer (some ⟨Bo,0,none⟩)] w fun e w'=>e=.returned (.tuple #[])∧TB B Bo W vs (xs++qa n) w'∧(∀ Bm ms,MB Bm ms w→MB Bm ms w'):=by
 simp only [wa,ub,decide_eq_true_eq] at hn
 exact (PC B Bo W xs n w h.ti hlen hn.1 hn.2 htab).mono fun e w' ⟨h1,h2,h3⟩=>⟨h1,h.of h2 h3,fun _ _ hm=>MB.of h hm h3⟩
set_option maxHeartbeats 6400000 in
set_option maxRecDepth 1000000 in
theorem PD (p:aA) (W:World) (ah au am:Option Addr) (ch cu cm:Nat) (hok:rQ p=true)
  (htab : Lib.TabBelow Tryz.prog W.heap.size W "internal/strconv.uint64pow10" .u64 Lib.pow10Tab)
  (hh:∀ k (hk:k < p.state.aC.length),∃ b off,ah=some ⟨b,off,none⟩∧b < W.heap.size∧W.cell? ⟨b,off+k,none⟩=some (.int .i64 p.state.aC[k]))
  (hu:∀ k (hk:k < p.state.used.length),∃ b off,au=some ⟨b,off,none⟩∧b < W.heap.size∧W.cell? ⟨b,off+k,none⟩=some (.bool p.state.used[k]))
  (hm:∀ k (hk:k < p.state.aM.length),∃ b off,am=some ⟨b,off,none⟩∧b < W.heap.size∧W.cell? ⟨b,off+k*5,none⟩=some (.int .i64 p.state.aM[k].aH)∧W.cell? ⟨b,off+k*5+1,none⟩=some (.int .i64 p.state.aM[k].left) ∧
   W.cell? ⟨b,off+k*5+2,none⟩=some (.int .i64 p.state.aM[k].got)∧W.cell? ⟨b,off+k*5+3,none⟩=some (.int .i64 p.state.aM[k].bg)∧W.cell? ⟨b,off+k*5+4,none⟩=some (.bool p.state.aM[k].aT)) :
  Calls Tryz.prog 43 #[.agg #[.int .i64 p.state.day,.slice ah p.state.aC.length ch,.slice au p.state.used.length cu,.slice am p.state.aM.length cm,.bool p.own]] W
   fun e w'=>e=.returned (.string ⟨(qu p).toArray⟩)∧Below W.heap.size W w':=by
 have Py:∀ (fn:Fn) (first cap:Array Value) (w:World),(Instr.makeFunc fn first cap).run Tryz.prog w=.ok (.func fn first cap) w:=fun _ _ _ _=>rfl
 obtain ⟨i0,hi,gX,iH,iQ⟩:=info_parts yp
 simp only [rQ,ub,decide_eq_true_eq,uh] at hok
 obtain ⟨⟨⟨hd,Ek⟩,nN⟩,hlen⟩:=hok
 have hml:=Kx p
 have El:=HX p
 have Pz:=We p
 go_enter Tryz.func43,Tryz.ntmps43
 go_wp2_with (at_make;refine wpList_make_own _ rfl _ _ 28 rfl W.heap.size 5 i0 (.int .u8 0) 1 Tryz.underlying28 hi gX iH .i64 .i64 (32+12*(p.state.aM.length:Int)) (32+12*p.state.aM.length) rfl rfl (by omega) (by rw [iQ];omega) (by unfold maxLen;omega) (by simp) ?_;intro w1 hown hgrow;refine Hid.out ?_)
 refine Lib.hid ?_
 have tA:w1.heap[W.heap.size]?=some (.cells #[.int .i64 p.state.day,.slice ah p.state.aC.length ch,.slice au p.state.used.length cu,.slice am p.state.aM.length cm,.bool p.own] 45 (0,0)):=by
  rw [hgrow.block W.heap.size (by simp) (by simp)]
  exact zX W _
 have hw1:W.heap.size+1≤w1.heap.size:=by have:=hgrow.size;simpa using this
 have mO:Below W.heap.size W w1:=((Below.refl _ _).alloc (ui _) _).grown hgrow (by simp) (fun k hk=>by cases hk)
 clear hgrow
 have tB:TB W.heap.size w1.heap.size W #[.int .i64 p.state.day,.slice ah p.state.aC.length ch,.slice au p.state.used.length cu,.slice am p.state.aM.length cm,.bool p.own] []
   (w1.alloc (.cells #[.slice (some ⟨W.heap.size+1,0,none⟩) 0 (32+12*p.state.aM.length)] 28)):=by
  refine ⟨⟨mO.alloc (by omega) _,by omega,_,zX _ _,?_⟩,by omega,(Below.heap_alloc _ _ _ (by omega)).trans tA⟩
  have:=hown.alloc (.cells #[.slice (some ⟨W.heap.size+1,0,none⟩) 0 (32+12*p.state.aM.length)] 28)
  simpa [Lib.byteCells] using this
 have c0:=tB.c4
 have iE:(qE p.own).length≤2000000000:=by simp [qE]
 have fY:(t1 p).length≤2000000000:=by have:=Vm p 0;simp [t2] at this;omega
 clear hown tA
 go_wp2_with (first
  | (go_at_call 64;refine (Wz p.own tB (by simp)).mono ?_;rintro e w2 ⟨rfl,h2,_⟩;have c2:=h2.c0)
  | (go_at_call 63;refine (vq p.state.day h2 (by simpa using iE) hd htab).mono ?_;rintro e w3 ⟨rfl,h3,_⟩;have c3:=h3.c1))
 have l6:TB W.heap.size w1.heap.size W #[.int .i64 p.state.day,.slice ah p.state.aC.length ch,.slice au p.state.used.length cu,.slice am p.state.aM.length cm,.bool p.own] (t2 p 0) w3:=by simpa [t2,t1] using h3
 clear h3 h2 tB c0 c2 c3
 go_loopw [34] (fun i wr=>∃ k:Nat,k≤p.state.aC.length∧i=.int .i64 k∧TB W.heap.size w1.heap.size W #[.int .i64 p.state.day,.slice ah p.state.aC.length ch,.slice au p.state.used.length cu,.slice am p.state.aM.length cm,.bool p.own] (t2 p k) wr)
  (fun i _=>p.state.aC.length - (intOf i).toNat)
 case atStart=>exact ⟨0,ud _,rfl,l6⟩
 case round=>
  obtain ⟨k,hk,rfl,dU⟩:=hrel
  clear l6
  have hlk:=Vm p k
  by_cases ia:k < p.state.aC.length
  ·obtain ⟨b,off,rfl,lB,oq⟩:=hh k ia
   have tX:wr.cell? ⟨b,off+k,none⟩=some (.int .i64 p.state.aC[k]):=(dU.ti.below.cell (by exact lB)).trans oq
   have hin:=Ek _ (uc ia)
   go_wp2_with (go_at_call 63;refine (vq p.state.aC[k] dU (by omega) hin htab).mono ?_;rintro e w4 ⟨rfl,h4,_⟩)
   go_roundw
   case rel=>exact ⟨k+1,by omega,by go_num,by simpa [t2,XH _ _ _ ia] using h4⟩
   case measure=>simp [intOf];omega
  ·have c2:=dU.c2
   go_wp2
   obtain rfl:k=p.state.aC.length:=by omega
   have l6:TB W.heap.size w1.heap.size W #[.int .i64 p.state.day,.slice ah p.state.aC.length ch,.slice au p.state.used.length cu,.slice am p.state.aM.length cm,.bool p.own] (t3 p 0) wr:=by simpa [t2,t3] using dU
   clear dU c2 hlk
   obtain ⟨wo,rfl⟩:∃ wo:World,wo=wr:=⟨_,rfl⟩
   go_loopw [46] (fun i wr=>∃ k:Nat,k≤p.state.used.length∧i=.int .i64 k∧TB W.heap.size w1.heap.size W #[.int .i64 p.state.day,.slice ah p.state.aC.length ch,.slice au p.state.used.length cu,.slice am p.state.aM.length cm,.bool p.own] (t3 p k) wr)
    (fun i _=>p.state.used.length - (intOf i).toNat)
   case atStart=>exact ⟨0,ud _,rfl,l6⟩
   case round=>
    obtain ⟨k,hk,rfl,dU⟩:=hrel
    clear l6
    have hlk:=HW p k
    by_cases ia:k < p.state.used.length
    ·obtain ⟨b,off,rfl,lB,oq⟩:=hu k ia
     have tX:wr.cell? ⟨b,off+k,none⟩=some (.bool p.state.used[k]):=(dU.ti.below.cell (by exact lB)).trans oq
     go_wp2_with (go_at_call 64;refine (Wz p.state.used[k] dU (by omega)).mono ?_;rintro e w4 ⟨rfl,h4,_⟩)
     go_roundw
     case rel=>exact ⟨k+1,by omega,by go_num,by simpa [t3,XH _ _ _ ia] using h4⟩
     case measure=>simp [intOf];omega
    ·have c2:=dU.c3
     go_wp2
     obtain rfl:k=p.state.used.length:=by omega
     have l6:TB W.heap.size w1.heap.size W #[.int .i64 p.state.day,.slice ah p.state.aC.length ch,.slice au p.state.used.length cu,.slice am p.state.aM.length cm,.bool p.own] (t4 p 0) wr:=by simpa [t3,t4] using dU
     clear dU c2 hlk
     obtain ⟨PA,rfl⟩:∃ wo:World,wo=wr:=⟨_,rfl⟩
     go_loopw [58] (fun i wr=>∃ k:Nat,k≤p.state.aM.length∧i=.int .i64 k∧TB W.heap.size w1.heap.size W #[.int .i64 p.state.day,.slice ah p.state.aC.length ch,.slice au p.state.used.length cu,.slice am p.state.aM.length cm,.bool p.own] (t4 p k) wr)
      (fun i _=>p.state.aM.length - (intOf i).toNat)
     case atStart=>exact ⟨0,ud _,rfl,l6⟩
     case round=>
      obtain ⟨k,hk,rfl,dU⟩:=hrel
      clear l6
      have hlk:=Vn p k
      by_cases ia:k < p.state.aM.length
      ·obtain ⟨b,off,rfl,lB,hc0,eW,eX,nU,tC⟩:=hm k ia
       have hin:=nN _ (uc ia)
       have eG:t4 p (k+1)=t4 p k++xu p.state.aM[k]:=by simp [t4,XH _ _ _ ia]
       obtain ⟨m,hmk⟩:∃ m,m=p.state.aM[k]:=⟨_,rfl⟩
       rw [←hmk] at hc0 eW eX nU tC hin eG
       clear hmk
       have iC:=(dU.ti.below.cell (p:=⟨b,off+k*5,none⟩) (by exact lB)).trans hc0
       have o8:=(dU.ti.below.cell (p:=⟨b,off+k*5+1,none⟩) (by exact lB)).trans eW
       have hd2:=(dU.ti.below.cell (p:=⟨b,off+k*5+2,none⟩) (by exact lB)).trans eX
       have sN:=(dU.ti.below.cell (p:=⟨b,off+k*5+3,none⟩) (by exact lB)).trans nU
       have Em:=(dU.ti.below.cell (p:=⟨b,off+k*5+4,none⟩) (by exact lB)).trans tC
       clear hc0 eW eX nU tC
       have Br:TB W.heap.size w1.heap.size W #[.int .i64 p.state.day,.slice ah p.state.aC.length ch,.slice au p.state.used.length cu,.slice (some ⟨b,off,none⟩) p.state.aM.length cm,.bool p.own] (t4 p k) (wr.alloc (.cells #[.int .i64 m.aH,.int .i64 m.left,.int .i64 m.got,.int .i64 m.bg,.bool m.aT] 86)):=
        dU.of ⟨dU.ti.below.alloc (by have:=dU.ti.below.size;omega) _,dU.ti.lt,by obtain ⟨v,hv,ho⟩:=dU.ti.own;exact ⟨v,(Below.heap_alloc _ _ _ (lt_of_block hv)).trans hv,ho.alloc _⟩⟩ ((Lib.OthersKept.refl _ _ _).alloc _)
       have tD:MB wr.heap.size #[.int .i64 m.aH,.int .i64 m.left,.int .i64 m.got,.int .i64 m.bg,.bool m.aT] (wr.alloc (.cells #[.int .i64 m.aH,.int .i64 m.left,.int .i64 m.got,.int .i64 m.bg,.bool m.aT] 86)):=zX _ _
       have e1:=tD.c0
       have l1:(t4 p k++qa m.aH).length≤2000000000∧(t4 p k++qa m.aH++qa m.left).length≤2000000000∧(t4 p k++qa m.aH++qa m.left++qa m.got).length≤2000000000 ∧
         (t4 p k++qa m.aH++qa m.left++qa m.got++qa m.bg).length≤2000000000:=by
        have:=Vn p (k+1)
        rw [eG] at this
        simp only [xu,ua] at this ⊢
        omega
       have l0:(t4 p k).length≤2000000000:=by omega
       have HL:=Lib.hid l1
       have HS:=Lib.hid eG
       clear l1 dU eG
       go_wp2_with (go_at_call 63;refine (vq m.aH Br l0 hin.1.1.1 htab).mono ?_;rintro e w5 ⟨rfl,h5,k5⟩;have m5:=k5 _ _ tD;have e5:=m5.c1;refine Hid.out ?_)
       refine Lib.hid ?_
       clear iC o8 hd2 sN Em e1 Br tD k5
       go_wp2_with (go_at_call 63;refine (vq m.left h5 HL.out.1 hin.1.1.2 htab).mono ?_;rintro e w6 ⟨rfl,h6,k6⟩;have m6:=k6 _ _ m5;have e6:=m6.c2;refine Hid.out ?_)
       refine Lib.hid ?_
       clear e5 h5 m5 k6
       go_wp2_with (go_at_call 63;refine (vq m.got h6 HL.out.2.1 hin.1.2 htab).mono ?_;rintro e w7 ⟨rfl,h7,k7⟩;have m7:=k7 _ _ m6;have e7:=m7.c3;refine Hid.out ?_)
       refine Lib.hid ?_
       clear e6 h6 m6 k7
       go_wp2_with (go_at_call 63;refine (vq m.bg h7 HL.out.2.2.1 hin.2 htab).mono ?_;rintro e w8 ⟨rfl,h8,k8⟩;have m8:=k8 _ _ m7;have e8:=m8.c4;refine Hid.out ?_)
       refine Lib.hid ?_
       clear e7 h7 m7 k8
       go_wp2_with (go_at_call 64;refine (Wz m.aT h8 HL.out.2.2.2).mono ?_;rintro e w9 ⟨rfl,h9,-⟩)
       go_roundw
       case rel=>exact ⟨k+1,by omega,by go_num,by rw [HS.out];simpa [xu] using h9⟩
       case measure=>simp [intOf];omega
      ·obtain rfl:k=p.state.aM.length:=by omega
       have hT:TB W.heap.size w1.heap.size W #[.int .i64 p.state.day,.slice ah p.state.aC.length ch,.slice au p.state.used.length cu,.slice am p.state.aM.length cm,.bool p.own] (qu p) wr:=by simpa [t4,qu,t1] using dU
       obtain ⟨⟨nW,hlt,v,hv,hown⟩,A9,tA⟩:=hT
       have hpos:0 < (qu p).length:=by simp [qu,qE]
       rcases hown.2 with ⟨-,h0⟩ | ⟨g,cap,cur,rfl,-,-,-,-,-,-⟩
       ·omega
       ·have cW:=cell_of_one hv
        have hcv:=run_convert_bytes_back (P:=Tryz.prog) wr 28 9 5 ⟨g,0,none⟩ cap (qu p) Tryz.underlying28 Tryz.underlying5 Tryz.underlying9 (fun j hj=>hown.cells (g:=g) rfl j _ (by simp [Lib.byteCells,hj]))
        go_wp2
        go_ret
        exact ⟨rfl,nW⟩
theorem Yp (p:aA) (res:ByteArray) (hd:jc p=some res):aO C0 305 [.agg (aA.row p)] (.str res):=by
 refine ⟨⟨Tryz.f43,by kernel_rfl,by kernel_rfl,by kernel_rfl⟩,fun Z w vs hz tE hr => ?_⟩
 unfold jc at hd
 split at hd
 ·rename_i hok
  cases hd
  obtain ⟨hl,hr⟩:=hr
  match vs,hl with
  | [v],_=>
   have h0:=hr 0 _ _ rfl rfl
   generalize hx:IV.agg (aA.row p)=x at h0
   cases h0 with
   | bool b=>cases hx
   | int k n=>cases hx
   | str s=>cases hx
   | nil=>cases hx
   | empty a cap=>cases hx
   | slice af b off cap sz' cv hcap hsz iO hc hr=>cases hx
   | tuple cs vs hl hr=>cases hx
   | iface t x v hr=>cases hx
   | dl=>cases hx
   | eZ=>cases hx
   | agg cs vs hl h1 cg=>
    obtain rfl:aA.row p=cs:=by injection hx
    match vs,hl with
    | [a,b,c,d,e],_=>
     have r0:=RI.cZ (cg 0 _ _ rfl rfl)
     have r4:=RI.eH (cg 4 _ _ rfl rfl)
     obtain ⟨ah,ch,rfl,vh⟩:=RI.dX 1 (fun _=>rfl) (by omega) hz (cg 1 _ _ rfl rfl)
     obtain ⟨au,cu,rfl,vu⟩:=RI.dX 1 (fun _=>rfl) (by omega) hz (cg 2 _ _ rfl rfl)
     obtain ⟨am,cm,rfl,vm⟩:=RI.dX 5 (fun _=>rfl) (by omega) hz (cg 3 _ _ rfl rfl)
     subst r0 r4
     refine (PD p w ah au am ch cu cm hok (Lib.tabBelow_of_tabIs tE.1) (fun k hk => ?_) (fun k hk => ?_) (fun k hk => ?_)).mono fun e w' ⟨he,hb⟩=>⟨_,Z,he,.str _,fun _ _=>rfl,fun b hb'=>uf (hz b hb') hb.size,hb⟩
     ·obtain ⟨b,off,h1,h2,h3⟩:=vh k hk
      obtain ⟨cv,h4,h5⟩:=h3 0 _ rfl
      rw [RI.cZ h5] at h4
      exact ⟨b,off,h1,h2,by simpa using h4⟩
     ·obtain ⟨b,off,h1,h2,h3⟩:=vu k hk
      obtain ⟨cv,h4,h5⟩:=h3 0 _ rfl
      rw [RI.eH h5] at h4
      exact ⟨b,off,h1,h2,by simpa using h4⟩
     ·obtain ⟨b,off,h1,h2,h3⟩:=vm k hk
      obtain ⟨c0,g0,q0⟩:=h3 0 _ rfl
      obtain ⟨c1,g1,q1⟩:=h3 1 _ rfl
      obtain ⟨c2,g2,q2⟩:=h3 2 _ rfl
      obtain ⟨c3,g3,q3⟩:=h3 3 _ rfl
      obtain ⟨c4,g4,q4⟩:=h3 4 _ rfl
      rw [RI.cZ q0] at g0
      rw [RI.cZ q1] at g1
      rw [RI.cZ q2] at g2
      rw [RI.cZ q3] at g3
      rw [RI.eH q4] at g4
      exact ⟨b,off,h1,h2,by simpa using g0,g1,g2,g3,g4⟩
 ·cases hd
end Go.Proofs.YtcmmhbmgpflmeaaGreatDoor
