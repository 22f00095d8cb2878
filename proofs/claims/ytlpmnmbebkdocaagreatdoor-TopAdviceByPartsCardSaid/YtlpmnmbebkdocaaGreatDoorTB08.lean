/-
  A contract of the library, laid at this program.
  The texts of positions: what the two closures of arena.text do to the bytes at hand.
  The texts of positions: the contract of arena.text.
  'trap.text' writes the text of a state (printed from the texts about arena.text).
-/
import Derived.Test.YtlpmnmbebkdocaaGreatDoorTB06
import Derived.Shelf.Strconv.AppendIntPublic10
import Derived.Lib.AppendIntMem
import Derived.Lib.ItoaLen
import Derived.Lib.Hide
import Derived.Laws.IdiomStrings
import Derived.OwnWalk
import Derived.OneCell
import Derived.WalkKit
import Derived.BigCall
open List renaming length_append → ua, getElem_mem → uc, length_cons → ue, flatMap_append → ug, all_eq_true → ui
open Bool renaming and_eq_true → ub
open Nat renaming zero_le → ud, lt_of_lt_of_le → uh, le_refl → uj
namespace Go.Proofs.YtlpmnmbebkdocaaGreatDoor
open Go.Shelf Go.RowKit
set_option maxRecDepth 100000
def Tryz.mP:Go.Shelf.Ren:=⟨fun | 176=>122 | 249=>142 | 288=>152 | 283=>153 | 284=>154 | 285=>155 | 286=>156 | 129=>158 | 317=>157 | 318=>159 | 319=>160 | 320=>161 | 337=>162 | 338=>163 | n=>n,fun | 37=>172 | 2=>2 | 3=>3 | 53=>193 | 4=>4 | 9=>9 | 171=>201 | 0=>0 | 173=>204 | 212=>207 | 51=>208 | 5=>5 | 20=>20 | 213=>209 | 46=>184 | 232=>212 | 233=>213 | n=>n,fun | 17=>0 | 18=>1 | 19=>2 | n=>n⟩
theorem Tryz.sN:Go.Proofs.LaysM.n176 Tryz.prog Tryz.mP:={
 mixed:=by kernel_rfl,
 f129:=Tryz.func158.trans (congrArg some (by kernel_rfl)),
 f176:=Tryz.func122.trans (congrArg some (by kernel_rfl)),
 f249:=Tryz.func142.trans (congrArg some (by kernel_rfl)),
 f283:=Tryz.func153.trans (congrArg some (by kernel_rfl)),
 f284:=Tryz.func154.trans (congrArg some (by kernel_rfl)),
 f285:=Tryz.func155.trans (congrArg some (by kernel_rfl)),
 f286:=Tryz.func156.trans (congrArg some (by kernel_rfl)),
 f288:=Tryz.func152.trans (congrArg some (by kernel_rfl)),
 f317:=Tryz.func157.trans (congrArg some (by kernel_rfl)),
 f318:=Tryz.func159.trans (congrArg some (by kernel_rfl)),
 f319:=Tryz.func160.trans (congrArg some (by kernel_rfl)),
 f320:=Tryz.func161.trans (congrArg some (by kernel_rfl)),
 f337:=Tryz.func162.trans (congrArg some (by kernel_rfl)),
 f338:=Tryz.func163.trans (congrArg some (by kernel_rfl)),
 t0:=Tryz.underlying0,
 a0:=Tryz.isAgg0,
 z0:=Tryz.sizeOf0,
 v0:=Tryz.zeroValue0,
 t2:=Tryz.underlying2,
 a2:=Tryz.isAgg2,
 z2:=Tryz.sizeOf2,
 v2:=Tryz.zeroValue2,
 t3:=Tryz.underlying3,
 a3:=Tryz.isAgg3,
 z3:=Tryz.sizeOf3,
 v3:=Tryz.zeroValue3,
 t4:=Tryz.underlying4,
 a4:=Tryz.isAgg4,
 z4:=Tryz.sizeOf4,
 v4:=Tryz.zeroValue4,
 t5:=Tryz.underlying5,
 a5:=Tryz.isAgg5,
 z5:=Tryz.sizeOf5,
 v5:=Tryz.zeroValue5,
 t9:=Tryz.underlying9,
 a9:=Tryz.isAgg9,
 z9:=Tryz.sizeOf9,
 v9:=Tryz.zeroValue9,
 t20:=Tryz.underlying20,
 a20:=Tryz.isAgg20,
 z20:=Tryz.sizeOf20,
 v20:=Tryz.zeroValue20,
 t37:=Tryz.underlying172,
 a37:=Tryz.isAgg172,
 z37:=Tryz.sizeOf172,
 v37:=Tryz.zeroValue172,
 t46:=Tryz.underlying184,
 a46:=Tryz.isAgg184,
 z46:=Tryz.sizeOf184,
 v46:=Tryz.zeroValue184,
 t51:=Tryz.underlying208,
 a51:=Tryz.isAgg208,
 z51:=Tryz.sizeOf208,
 v51:=Tryz.zeroValue208,
 t53:=Tryz.underlying193,
 a53:=Tryz.isAgg193,
 z53:=Tryz.sizeOf193,
 v53:=Tryz.zeroValue193,
 t171:=Tryz.underlying201,
 a171:=Tryz.isAgg201,
 z171:=Tryz.sizeOf201,
 v171:=Tryz.zeroValue201,
 t173:=Tryz.underlying204,
 a173:=Tryz.isAgg204,
 z173:=Tryz.sizeOf204,
 v173:=Tryz.zeroValue204,
 t212:=Tryz.underlying207,
 a212:=Tryz.isAgg207,
 z212:=Tryz.sizeOf207,
 v212:=Tryz.zeroValue207,
 t213:=Tryz.underlying209,
 a213:=Tryz.isAgg209,
 z213:=Tryz.sizeOf209,
 t232:=Tryz.underlying212,
 a232:=Tryz.isAgg212,
 z232:=Tryz.sizeOf212,
 v232:=Tryz.zeroValue212,
 t233:=Tryz.underlying213,
 a233:=Tryz.isAgg213,
 z233:=Tryz.sizeOf213,
 v233:=Tryz.zeroValue213,
 g17:=by kernel_rfl,
 g18:=by kernel_rfl,
 g19:=by kernel_rfl,
 i0:=by kernel_rfl,
 i2:=by kernel_rfl,
 i3:=by kernel_rfl,
 i4:=by kernel_rfl,
 i5:=by kernel_rfl,
 i9:=by kernel_rfl,
 i20:=by kernel_rfl,
 i37:=by kernel_rfl,
 i46:=by kernel_rfl,
 i51:=by kernel_rfl,
 i53:=by kernel_rfl,
 i171:=by kernel_rfl,
 i173:=by kernel_rfl,
 i212:=by kernel_rfl,
 i232:=by kernel_rfl,
 i233:=by kernel_rfl,
 m17:=by kernel_rfl,
 m18:=by kernel_rfl,
 m19:=by kernel_rfl}
end Go.Proofs.YtlpmnmbebkdocaaGreatDoor
namespace Go.Proofs.YtlpmnmbebkdocaaGreatDoor
open Go.RowKit Go.Shelf
set_option linter.unusedVariables false
def zK (n:Int):List UInt8:=Lib.itoa n++[32]
def qi (b:Bool):List UInt8:=[if b then 43 else 45]
def je (m:aj):List UInt8:=zK m.aR++zK m.left++zK m.got++zK m.bz++qi m.bQ
def qH (p:aH):List UInt8:=qi p.own++zK p.state.day++p.state.aE.flatMap zK++p.state.used.flatMap qi++p.state.aI.flatMap je
theorem Iu (B n:Nat) (i:Int) (h0 : -9223372036854775808≤i) (h1:i≤9223372036854775807) (sv:Value) (xs:List Value) (w:World) (hown:w.ownsRow B 5 1 sv n xs) (hBw:B≤w.heap.size) (hlim:n+21≤140737488355328)
 (htab : Lib.TabBelow Tryz.prog B w "internal/strconv.uint64pow10" .u64 Lib.pow10Tab) :
 Calls Tryz.prog 122 #[sv,.int .i64 i,.int .i64 10] w fun e w'=>∃ v',e=.returned v'∧w'.ownsRow B 5 1 v' (n+(Lib.itoa i).length) (xs++Lib.byteCells (Lib.itoa i))∧RowKit.Below B w w'∧Lib.OthersKept 5 none w w':=Any.strconv_AppendInt_10 Tryz.sN B n i h0 h1 sv xs w hown hBw hlim htab
theorem yC:(Tryz.prog.info? 5).map (fun i=>(i.zero,i.size,i.bytes))=some (some (.int .u8 0),1,1):=by kernel_rfl
structure TI (B Bo:Nat) (W:World) (xs:List UInt8) (w:World):Prop where
 below:Below B W w
 lt:B≤Bo
 own:∃ v,w.heap[Bo]?=some (.cells #[v] 172 (0,0))∧w.ownsRow B 5 1 v xs.length (Lib.byteCells xs)
theorem W4 {B Bo:Nat} {w:World} {v x:Value} {n:Nat} {xs:List Value} (hv:w.heap[Bo]?=some (.cells #[x] 172 (0,0))) (hown:w.ownsRow B 5 1 v n xs):v.ownBlock≠some Bo:=by
 intro e
 rcases hown.2 with ⟨rfl,_⟩ | ⟨g,cap,cur,rfl,_,hh,_⟩
 ·simp [Value.ownBlock] at e
 ·simp [Value.ownBlock] at e
  subst e
  rw [hh] at hv
  simp at hv
theorem TI.push {B Bo n:Nat} {W w w2:World} {xs:List UInt8} {ys:List Value} {v v' x:Value} {c:UInt8} {o:Obj} (hb:Below B W w) (hlt:B≤Bo) (hv:w.heap[Bo]?=some (.cells #[x] 172 (0,0))) (hown:w.ownsRow B 5 1 v n ys)
  (cV:w2.ownsRow B 5 1 v' (xs.length+1) (Lib.byteCells xs++[.int .u8 c.toNat])) (hg:(w.alloc o).grownBy w2 v.ownBlock) :
  (∃ g cap,v'=.slice (some ⟨g,0,none⟩) (xs.length+1) cap)∧(w2.heap[Bo]?=some (.cells #[x] 172 (0,0)))∧TI B Bo W (xs++[c]) (w2.setCell ⟨Bo,0,none⟩ v')∧Lib.OthersKept 5 (some Bo) w (w2.setCell ⟨Bo,0,none⟩ v'):=by
 have A9:=lt_of_block hv
 have h2:w2.heap[Bo]?=some (.cells #[x] 172 (0,0)):=by
  rw [hg.block Bo (by simp;omega) (fun e=>W4 hv hown e.symm)]
  exact (Below.heap_alloc _ _ _ A9).trans hv
 have mK:Below B W w2:=(hb.alloc (by omega) o).grown hg (by simp;omega) (fun k hk=>(hown.lt k hk).1)
 refine ⟨?_,h2,⟨mK.setCell (by exact hlt) _,hlt,v',one_setCell h2,?_⟩,?_⟩
 ·rcases cV.2 with ⟨_,h0⟩ | ⟨g,cap,cur,rfl,_⟩
  ·omega
  ·exact ⟨g,cap,rfl⟩
 ·refine ownsRow_setCell_other ?_ (W4 h2 cV) _
  simpa [Lib.byteCells] using cV
 ·refine Lib.OthersKept.setCell (b:=Bo) (Lib.OthersKept.grown ((Lib.OthersKept.refl _ _ _).alloc o) hg ?_) ⟨Bo,0,none⟩ rfl _
  intro g Ci
  have:=hown.lt g Ci
  rcases hown.2 with ⟨rfl,_⟩ | ⟨g',cap,cur,rfl,_,hh,_⟩
  ·simp [Value.ownBlock] at Ci
  ·simp [Value.ownBlock] at Ci
   subst Ci
   exact ⟨cur,(0,0),(Below.heap_alloc _ _ _ this.2).trans hh⟩
set_option maxHeartbeats 1600000 in
set_option maxRecDepth 100000 in
theorem R5 (B Bo:Nat) (W:World) (xs:List UInt8) (b:Bool) (w:World) (h:TI B Bo W xs w) (hlen:xs.length≤2000000000) :
  Calls Tryz.prog 123 #[.bool b,.pointer (some ⟨Bo,0,none⟩)] w fun e w'=>e=.returned (.tuple #[])∧TI B Bo W (xs++qi b) w'∧Lib.OthersKept 5 (some Bo) w w':=by
 obtain ⟨hb,hlt,v,hv,hown⟩:=h
 obtain ⟨i0,hi,gM,iq,iF⟩:=info_parts yC
 have cW:=cell_of_one hv
 have fW:=free_of_one hv
 have A9:=lt_of_block hv
 cases b with
 | true=>
  go_enter Tryz.func123,Tryz.ntmps123
  go_wp2_with (at_builtin;refine wpList_append_own _ rfl _ _ 172 rfl B 5 i0 (.int .u8 0) 1 1 Tryz.underlying172 hi gM iq iF rfl (by decide) _ _ _ rfl (hown.alloc _) ⟨w.heap.size,0,none⟩ 1 1 [Value.int .u8 43] rfl rfl ?c1 ?c2 ?c3 ?c4 ?c5 ?_)
  case c1=>
   intro j u hj
   match j,hj with
   | 0,hj=>simp at hj;subst hj;simp [Addr.add]
  case c2=>intro u hu;simp at hu;subst hu;rfl
  case c3=>unfold maxLen;omega
  case c4=>omega
  case c5=>simp;omega
  intro v' w2 cV hgrow _
  obtain ⟨⟨g',cap',rfl⟩,h2,hT,hK⟩:=TI.push (c:=43) hb hlt hv hown cV hgrow
  have Ba:=cell_of_one h2
  have Bb:=free_of_one h2
  clear cV hgrow hown
  go_wp2
  go_end0
  exact ⟨rfl,hT,hK⟩
 | false=>
  go_enter Tryz.func123,Tryz.ntmps123
  go_wp2_with (at_builtin;refine wpList_append_own _ rfl _ _ 172 rfl B 5 i0 (.int .u8 0) 1 1 Tryz.underlying172 hi gM iq iF rfl (by decide) _ _ _ rfl (hown.alloc _) ⟨w.heap.size,0,none⟩ 1 1 [Value.int .u8 45] rfl rfl ?c1 ?c2 ?c3 ?c4 ?c5 ?_)
  case c1=>
   intro j u hj
   match j,hj with
   | 0,hj=>simp at hj;subst hj;simp [Addr.add]
  case c2=>intro u hu;simp at hu;subst hu;rfl
  case c3=>unfold maxLen;omega
  case c4=>omega
  case c5=>simp;omega
  intro v' w2 cV hgrow _
  obtain ⟨⟨g',cap',rfl⟩,h2,hT,hK⟩:=TI.push (c:=45) hb hlt hv hown cV hgrow
  have Ba:=cell_of_one h2
  have Bb:=free_of_one h2
  clear cV hgrow hown
  go_wp2
  go_end0
  exact ⟨rfl,hT,hK⟩
set_option maxHeartbeats 1600000 in
set_option maxRecDepth 100000 in
theorem R6 (B Bo:Nat) (W:World) (xs:List UInt8) (n:Int) (w:World) (h:TI B Bo W xs w) (hlen:xs.length≤2000000000) (h0 : -9223372036854775808≤n) (h1:n≤9223372036854775807)
  (htab : Lib.TabBelow Tryz.prog B W "internal/strconv.uint64pow10" .u64 Lib.pow10Tab) :
  Calls Tryz.prog 121 #[.int .i64 n,.pointer (some ⟨Bo,0,none⟩)] w fun e w'=>e=.returned (.tuple #[])∧TI B Bo W (xs++zK n) w'∧Lib.OthersKept 5 (some Bo) w w':=by
 obtain ⟨hb,hlt,v,hv,hown⟩:=h
 obtain ⟨i0,hi,gM,iq,iF⟩:=info_parts yC
 have cW:=cell_of_one hv
 have fW:=free_of_one hv
 have A9:=lt_of_block hv
 have la:=Lib.itoa_length_le n h0 h1
 go_enter Tryz.func121,Tryz.ntmps121
 go_wp2_with (go_at_call 122;refine (Iu B _ n h0 h1 v _ w hown (by omega) (by omega) (htab.on hb)).mono ?_;rintro e w1 ⟨v1,rfl,ff,sO,hk1⟩;refine Hid.out ?_)
 refine Lib.hid ?_
 rw [←ua,show Lib.byteCells xs++Lib.byteCells (Lib.itoa n)=Lib.byteCells (xs++Lib.itoa n) from by simp [Lib.byteCells]] at ff
 have gD:w1.heap[Bo]?=some (.cells #[v] 172 (0,0)):=hk1 Bo _ hv (by simp) (by intro c fz e;simp at e)
 have pN:Below B W w1:=hb.trans sO
 have D9:=lt_of_block gD
 have gI:(xs++Lib.itoa n).length≤2000000100:=by rw [ua];omega
 obtain ⟨ys,hys⟩:∃ l,l=xs++Lib.itoa n:=⟨_,rfl⟩
 rw [←hys] at ff gI
 have HY:=Lib.hid hys
 clear hys cW fW
 go_wp2_with (at_builtin;refine wpList_append_own _ rfl _ _ 172 rfl B 5 i0 (.int .u8 0) 1 1 Tryz.underlying172 hi gM iq iF rfl (by decide) _ _ _ rfl (ff.alloc _) ⟨w1.heap.size,0,none⟩ 1 1 [Value.int .u8 32] rfl rfl ?c1 ?c2 ?c3 ?c4 ?c5 ?_)
 case c1=>
  intro j u hj
  match j,hj with
  | 0,hj=>simp at hj;subst hj;simp [Addr.add]
 case c2=>intro u hu;simp at hu;subst hu;rfl
 case c3=>unfold maxLen;omega
 case c4=>omega
 case c5=>simp;omega
 intro v' w2 cV hgrow _
 obtain ⟨⟨g',cap',rfl⟩,h2,hT,hK⟩:=TI.push (c:=32) pN hlt gD ff cV hgrow
 have Ba:=cell_of_one h2
 have Bb:=free_of_one h2
 clear cV hgrow hown ff
 go_wp2
 go_end0
 have hys:=HY.out
 subst hys
 refine ⟨rfl,?_,?_⟩
 ·simpa [zK] using hT
 ·exact Lib.OthersKept.trans (fun k o hk _ ho=>hk1 k o hk (by simp) ho) hK
section
def jA (n:Int):Bool:=decide (-9223372036854775808≤n)&&decide (n≤9223372036854775807)
def tX (p:aH):Bool:=jA p.state.day&&p.state.aE.all jA&&p.state.aI.all (fun m=>jA m.aR&&jA m.left&&jA m.got&&jA m.bz)&&decide ((qH p).length≤1000000000)
def xl (p:aH):Option ByteArray:=if tX p then some ⟨(qH p).toArray⟩ else none
structure TB (B Bo:Nat) (W:World) (vs:Array Value) (xs:List UInt8) (w:World):Prop where
 ti:TI B Bo W xs w
 bo:B < Bo
 box:w.heap[B]?=some (.cells vs 52 (0,0))
def MB (Bm:Nat) (vs:Array Value) (w:World):Prop:=w.heap[Bm]?=some (.cells vs 79 (0,0))
theorem TB.of {B Bo:Nat} {W w w':World} {vs:Array Value} {xs ys:List UInt8} (h:TB B Bo W vs xs w) (hT:TI B Bo W ys w') (hK:Lib.OthersKept 5 (some Bo) w w'):TB B Bo W vs ys w':=
 ⟨hT,h.bo,hK B _ h.box (by have:=h.bo;simp;omega) (by intro c fz e;simp at e)⟩
theorem MB.of {B Bo Bm:Nat} {W w w':World} {vs ms:Array Value} {xs:List UInt8} (h:TB B Bo W vs xs w) (hm:MB Bm ms w) (hK:Lib.OthersKept 5 (some Bo) w w'):MB Bm ms w':=by
 refine hK Bm _ hm ?_ (by intro c fz e;simp at e)
 intro e
 obtain ⟨v,hv,_⟩:=h.ti.own
 cases e
 unfold MB at hm
 rw [hv] at hm
 simp at hm
theorem Kr {B Bo:Nat} {W w:World} {vs:Array Value} {xs:List UInt8} (b:Bool) (h:TB B Bo W vs xs w) (hlen:xs.length≤2000000000) :
  Calls Tryz.prog 123 #[.bool b,.pointer (some ⟨Bo,0,none⟩)] w fun e w'=>e=.returned (.tuple #[])∧TB B Bo W vs (xs++qi b) w'∧(∀ Bm ms,MB Bm ms w→MB Bm ms w'):=
 (R5 B Bo W xs b w h.ti hlen).mono fun e w' ⟨h1,h2,h3⟩=>⟨h1,h.of h2 h3,fun _ _ hm=>MB.of h hm h3⟩
theorem yD {B Bo:Nat} {W w:World} {vs:Array Value} {xs:List UInt8} (n:Int) (h:TB B Bo W vs xs w) (hlen:xs.length≤2000000000) (hn:jA n=true)
  (htab : Lib.TabBelow Tryz.prog B W "internal/strconv.uint64pow10" .u64 Lib.pow10Tab) :
  Calls Tryz.prog 121 #[.int .i64 n,.pointer (some ⟨Bo,0,none⟩)] w fun e w'=>e=.returned (.tuple #[])∧TB B Bo W vs (xs++zK n) w'∧(∀ Bm ms,MB Bm ms w→MB Bm ms w'):=by
 simp only [jA,ub,decide_eq_true_eq] at hn
 exact (R6 B Bo W xs n w h.ti hlen hn.1 hn.2 htab).mono fun e w' ⟨h1,h2,h3⟩=>⟨h1,h.of h2 h3,fun _ _ hm=>MB.of h hm h3⟩
theorem TB.cell {B Bo:Nat} {W w:World} {vs:Array Value} {xs:List UInt8} (h:TB B Bo W vs xs w) (j:Nat):w.cell? ⟨B,j,none⟩=vs[j]?:=by
 have:=h.box
 simp [World.cell?,this]
theorem MB.cell {Bm:Nat} {w:World} {vs:Array Value} (h:MB Bm vs w) (j:Nat):w.cell? ⟨Bm,j,none⟩=vs[j]?:=by
 unfold MB at h
 simp [World.cell?,h]
section
variable {B Bo Bm:Nat} {W w:World} {a b c d e:Value} {xs:List UInt8}
theorem TB.c0 (h:TB B Bo W #[a,b,c,d,e] xs w):w.cell? ⟨B,0,none⟩=some a:=h.cell 0
theorem TB.c1 (h:TB B Bo W #[a,b,c,d,e] xs w):w.cell? ⟨B,1,none⟩=some b:=h.cell 1
theorem TB.c2 (h:TB B Bo W #[a,b,c,d,e] xs w):w.cell? ⟨B,2,none⟩=some c:=h.cell 2
theorem TB.c3 (h:TB B Bo W #[a,b,c,d,e] xs w):w.cell? ⟨B,3,none⟩=some d:=h.cell 3
theorem TB.c4 (h:TB B Bo W #[a,b,c,d,e] xs w):w.cell? ⟨B,4,none⟩=some e:=h.cell 4
theorem MB.c0 (h:MB Bm #[a,b,c,d,e] w):w.cell? ⟨Bm,0,none⟩=some a:=h.cell 0
theorem MB.c1 (h:MB Bm #[a,b,c,d,e] w):w.cell? ⟨Bm,1,none⟩=some b:=h.cell 1
theorem MB.c2 (h:MB Bm #[a,b,c,d,e] w):w.cell? ⟨Bm,2,none⟩=some c:=h.cell 2
theorem MB.c3 (h:MB Bm #[a,b,c,d,e] w):w.cell? ⟨Bm,3,none⟩=some d:=h.cell 3
theorem MB.c4 (h:MB Bm #[a,b,c,d,e] w):w.cell? ⟨Bm,4,none⟩=some e:=h.cell 4
end
def t1 (p:aH):List UInt8:=qi p.own++zK p.state.day
def t2 (p:aH) (k:Nat):List UInt8:=t1 p++(p.state.aE.take k).flatMap zK
def t3 (p:aH) (k:Nat):List UInt8:=t1 p++p.state.aE.flatMap zK++(p.state.used.take k).flatMap qi
def t4 (p:aH) (k:Nat):List UInt8:=t1 p++p.state.aE.flatMap zK++p.state.used.flatMap qi++(p.state.aI.take k).flatMap je
theorem Ks {α:Type} (f:α→List UInt8) (l:List α) (k:Nat):((l.take k).flatMap f).length≤(l.flatMap f).length:=by
 conv=>rhs;rw [←List.take_append_drop k l]
 rw [ug,ua]
 omega
theorem Wt {α:Type} (f:α→List UInt8) (l:List α) (k:Nat) (h:k < l.length):(l.take (k+1)).flatMap f=(l.take k).flatMap f++f l[k]:=by
 rw [List.take_succ_eq_append_getElem h,ug];simp
theorem Iv (p:aH) (k:Nat):(t2 p k).length≤(qH p).length:=by
 have:=Ks zK p.state.aE k
 simp only [t2,t1,qH,ua];omega
theorem R7 (p:aH) (k:Nat):(t3 p k).length≤(qH p).length:=by
 have:=Ks qi p.state.used k
 simp only [t3,t1,qH,ua];omega
theorem Iw (p:aH) (k:Nat):(t4 p k).length≤(qH p).length:=by
 have:=Ks je p.state.aI k
 simp only [t4,t1,qH,ua];omega
theorem Wu {α:Type} (f:α→List UInt8) (l:List α) (h:∀ a,1≤(f a).length):l.length≤(l.flatMap f).length:=by
 induction l with
 | nil=>simp
 | cons a l ih=>have:=h a;simp only [List.flatMap_cons,ua,ue];omega
theorem R8 (p:aH):p.state.aI.length≤(qH p).length:=by
 have:=Wu je p.state.aI (fun a=>by simp only [je,qi,ua,ue];omega)
 simp only [qH,ua];omega
theorem R9 (p:aH):p.state.used.length≤(qH p).length:=by
 have:=Wu qi p.state.used (fun a=>by simp [qi])
 simp only [qH,ua];omega
theorem Sa (p:aH):p.state.aE.length≤(qH p).length:=by
 have:=Wu zK p.state.aE (fun a=>by simp [zK])
 simp only [qH,ua];omega
set_option maxHeartbeats 6400000 in
set_option maxRecDepth 1000000 in
theorem Sb (p:aH) (W:World) (ah au am:Option Addr) (ch cu cm:Nat) (hok:tX p=true)
  (htab : Lib.TabBelow Tryz.prog W.heap.size W "internal/strconv.uint64pow10" .u64 Lib.pow10Tab)
  (hh:∀ k (hk:k < p.state.aE.length),∃ b off,ah=some ⟨b,off,none⟩∧b < W.heap.size∧W.cell? ⟨b,off+k,none⟩=some (.int .i64 p.state.aE[k]))
  (hu:∀ k (hk:k < p.state.used.length),∃ b off,au=some ⟨b,off,none⟩∧b < W.heap.size∧W.cell? ⟨b,off+k,none⟩=some (.bool p.state.used[k]))
  (hm:∀ k (hk:k < p.state.aI.length),∃ b off,am=some ⟨b,off,none⟩∧b < W.heap.size∧W.cell? ⟨b,off+k*5,none⟩=some (.int .i64 p.state.aI[k].aR)∧W.cell? ⟨b,off+k*5+1,none⟩=some (.int .i64 p.state.aI[k].left) ∧
   W.cell? ⟨b,off+k*5+2,none⟩=some (.int .i64 p.state.aI[k].got)∧W.cell? ⟨b,off+k*5+3,none⟩=some (.int .i64 p.state.aI[k].bz)∧W.cell? ⟨b,off+k*5+4,none⟩=some (.bool p.state.aI[k].bQ)) :
  Calls Tryz.prog 77 #[.agg #[.int .i64 p.state.day,.slice ah p.state.aE.length ch,.slice au p.state.used.length cu,.slice am p.state.aI.length cm,.bool p.own]] W
   fun e w'=>e=.returned (.string ⟨(qH p).toArray⟩)∧Below W.heap.size W w':=by
 have Sc:∀ (fn:Fn) (first cap:Array Value) (w:World),(Instr.makeFunc fn first cap).run Tryz.prog w=.ok (.func fn first cap) w:=fun _ _ _ _=>rfl
 obtain ⟨i0,hi,gM,iq,iF⟩:=info_parts yC
 simp only [tX,ub,decide_eq_true_eq,ui] at hok
 obtain ⟨⟨⟨hd,Bc⟩,nM⟩,hlen⟩:=hok
 have hml:=R8 p
 have Sd:=R9 p
 have Se:=Sa p
 go_enter Tryz.func77,Tryz.ntmps77
 go_wp2_with (at_make;refine wpList_make_own _ rfl _ _ 172 rfl W.heap.size 5 i0 (.int .u8 0) 1 Tryz.underlying172 hi gM iq .i64 .i64 (32+12*(p.state.aI.length:Int)) (32+12*p.state.aI.length) rfl rfl (by omega) (by rw [iF];omega) (by unfold maxLen;omega) (by simp) ?_;intro w1 hown hgrow;refine Hid.out ?_)
 refine Lib.hid ?_
 have sP:w1.heap[W.heap.size]?=some (.cells #[.int .i64 p.state.day,.slice ah p.state.aE.length ch,.slice au p.state.used.length cu,.slice am p.state.aI.length cm,.bool p.own] 52 (0,0)):=by
  rw [hgrow.block W.heap.size (by simp) (by simp)]
  exact zY W _
 have hw1:W.heap.size+1≤w1.heap.size:=by have:=hgrow.size;simpa using this
 have mK:Below W.heap.size W w1:=((Below.refl _ _).alloc (uj _) _).grown hgrow (by simp) (fun k hk=>by cases hk)
 clear hgrow
 have sQ:TB W.heap.size w1.heap.size W #[.int .i64 p.state.day,.slice ah p.state.aE.length ch,.slice au p.state.used.length cu,.slice am p.state.aI.length cm,.bool p.own] []
   (w1.alloc (.cells #[.slice (some ⟨W.heap.size+1,0,none⟩) 0 (32+12*p.state.aI.length)] 172)):=by
  refine ⟨⟨mK.alloc (by omega) _,by omega,_,zY _ _,?_⟩,by omega,(Below.heap_alloc _ _ _ (by omega)).trans sP⟩
  have:=hown.alloc (.cells #[.slice (some ⟨W.heap.size+1,0,none⟩) 0 (32+12*p.state.aI.length)] 172)
  simpa [Lib.byteCells] using this
 have c0:=sQ.c4
 have gJ:(qi p.own).length≤2000000000:=by simp [qi]
 have gI:(t1 p).length≤2000000000:=by have:=Iv p 0;simp [t2] at this;omega
 clear hown sP
 go_wp2_with (first
  | (go_at_call 123;refine (Kr p.own sQ (by simp)).mono ?_;rintro e w2 ⟨rfl,h2,_⟩;have c2:=h2.c0)
  | (go_at_call 121;refine (yD p.state.day h2 (by simpa using gJ) hd htab).mono ?_;rintro e w3 ⟨rfl,h3,_⟩;have c3:=h3.c1))
 have lZ:TB W.heap.size w1.heap.size W #[.int .i64 p.state.day,.slice ah p.state.aE.length ch,.slice au p.state.used.length cu,.slice am p.state.aI.length cm,.bool p.own] (t2 p 0) w3:=by simpa [t2,t1] using h3
 clear h3 h2 sQ c0 c2 c3
 go_loopw [34] (fun i wr=>∃ k:Nat,k≤p.state.aE.length∧i=.int .i64 k∧TB W.heap.size w1.heap.size W #[.int .i64 p.state.day,.slice ah p.state.aE.length ch,.slice au p.state.used.length cu,.slice am p.state.aI.length cm,.bool p.own] (t2 p k) wr)
  (fun i _=>p.state.aE.length - (intOf i).toNat)
 case atStart=>exact ⟨0,ud _,rfl,lZ⟩
 case round=>
  obtain ⟨k,hk,rfl,dQ⟩:=hrel
  clear lZ
  have hlk:=Iv p k
  by_cases fA:k < p.state.aE.length
  ·obtain ⟨b,off,rfl,iW,ol⟩:=hh k fA
   have tI:wr.cell? ⟨b,off+k,none⟩=some (.int .i64 p.state.aE[k]):=(dQ.ti.below.cell (by exact iW)).trans ol
   have hin:=Bc _ (uc fA)
   go_wp2_with (go_at_call 121;refine (yD p.state.aE[k] dQ (by omega) hin htab).mono ?_;rintro e w4 ⟨rfl,h4,_⟩)
   go_roundw
   case rel=>exact ⟨k+1,by omega,by go_num,by simpa [t2,Wt _ _ _ fA] using h4⟩
   case measure=>simp [intOf];omega
  ·have c2:=dQ.c2
   go_wp2
   obtain rfl:k=p.state.aE.length:=by omega
   have lZ:TB W.heap.size w1.heap.size W #[.int .i64 p.state.day,.slice ah p.state.aE.length ch,.slice au p.state.used.length cu,.slice am p.state.aI.length cm,.bool p.own] (t3 p 0) wr:=by simpa [t2,t3] using dQ
   clear dQ c2 hlk
   obtain ⟨wo,rfl⟩:∃ wo:World,wo=wr:=⟨_,rfl⟩
   go_loopw [46] (fun i wr=>∃ k:Nat,k≤p.state.used.length∧i=.int .i64 k∧TB W.heap.size w1.heap.size W #[.int .i64 p.state.day,.slice ah p.state.aE.length ch,.slice au p.state.used.length cu,.slice am p.state.aI.length cm,.bool p.own] (t3 p k) wr)
    (fun i _=>p.state.used.length - (intOf i).toNat)
   case atStart=>exact ⟨0,ud _,rfl,lZ⟩
   case round=>
    obtain ⟨k,hk,rfl,dQ⟩:=hrel
    clear lZ
    have hlk:=R7 p k
    by_cases fA:k < p.state.used.length
    ·obtain ⟨b,off,rfl,iW,ol⟩:=hu k fA
     have tI:wr.cell? ⟨b,off+k,none⟩=some (.bool p.state.used[k]):=(dQ.ti.below.cell (by exact iW)).trans ol
     go_wp2_with (go_at_call 123;refine (Kr p.state.used[k] dQ (by omega)).mono ?_;rintro e w4 ⟨rfl,h4,_⟩)
     go_roundw
     case rel=>exact ⟨k+1,by omega,by go_num,by simpa [t3,Wt _ _ _ fA] using h4⟩
     case measure=>simp [intOf];omega
    ·have c2:=dQ.c3
     go_wp2
     obtain rfl:k=p.state.used.length:=by omega
     have lZ:TB W.heap.size w1.heap.size W #[.int .i64 p.state.day,.slice ah p.state.aE.length ch,.slice au p.state.used.length cu,.slice am p.state.aI.length cm,.bool p.own] (t4 p 0) wr:=by simpa [t3,t4] using dQ
     clear dQ c2 hlk
     obtain ⟨Sf,rfl⟩:∃ wo:World,wo=wr:=⟨_,rfl⟩
     go_loopw [58] (fun i wr=>∃ k:Nat,k≤p.state.aI.length∧i=.int .i64 k∧TB W.heap.size w1.heap.size W #[.int .i64 p.state.day,.slice ah p.state.aE.length ch,.slice au p.state.used.length cu,.slice am p.state.aI.length cm,.bool p.own] (t4 p k) wr)
      (fun i _=>p.state.aI.length - (intOf i).toNat)
     case atStart=>exact ⟨0,ud _,rfl,lZ⟩
     case round=>
      obtain ⟨k,hk,rfl,dQ⟩:=hrel
      clear lZ
      have hlk:=Iw p k
      by_cases fA:k < p.state.aI.length
      ·obtain ⟨b,off,rfl,iW,hc0,eV,eW,nU,sR⟩:=hm k fA
       have hin:=nM _ (uc fA)
       have eD:t4 p (k+1)=t4 p k++je p.state.aI[k]:=by simp [t4,Wt _ _ _ fA]
       obtain ⟨m,hmk⟩:∃ m,m=p.state.aI[k]:=⟨_,rfl⟩
       rw [←hmk] at hc0 eV eW nU sR hin eD
       clear hmk
       have lJ:=(dQ.ti.below.cell (p:=⟨b,off+k*5,none⟩) (by exact iW)).trans hc0
       have iG:=(dQ.ti.below.cell (p:=⟨b,off+k*5+1,none⟩) (by exact iW)).trans eV
       have hd2:=(dQ.ti.below.cell (p:=⟨b,off+k*5+2,none⟩) (by exact iW)).trans eW
       have o6:=(dQ.ti.below.cell (p:=⟨b,off+k*5+3,none⟩) (by exact iW)).trans nU
       have Ea:=(dQ.ti.below.cell (p:=⟨b,off+k*5+4,none⟩) (by exact iW)).trans sR
       clear hc0 eV eW nU sR
       have Bd:TB W.heap.size w1.heap.size W #[.int .i64 p.state.day,.slice ah p.state.aE.length ch,.slice au p.state.used.length cu,.slice (some ⟨b,off,none⟩) p.state.aI.length cm,.bool p.own] (t4 p k) (wr.alloc (.cells #[.int .i64 m.aR,.int .i64 m.left,.int .i64 m.got,.int .i64 m.bz,.bool m.bQ] 79)):=
        dQ.of ⟨dQ.ti.below.alloc (by have:=dQ.ti.below.size;omega) _,dQ.ti.lt,by obtain ⟨v,hv,ho⟩:=dQ.ti.own;exact ⟨v,(Below.heap_alloc _ _ _ (lt_of_block hv)).trans hv,ho.alloc _⟩⟩ ((Lib.OthersKept.refl _ _ _).alloc _)
       have sS:MB wr.heap.size #[.int .i64 m.aR,.int .i64 m.left,.int .i64 m.got,.int .i64 m.bz,.bool m.bQ] (wr.alloc (.cells #[.int .i64 m.aR,.int .i64 m.left,.int .i64 m.got,.int .i64 m.bz,.bool m.bQ] 79)):=zY _ _
       have e1:=sS.c0
       have l1:(t4 p k++zK m.aR).length≤2000000000∧(t4 p k++zK m.aR++zK m.left).length≤2000000000∧(t4 p k++zK m.aR++zK m.left++zK m.got).length≤2000000000 ∧
         (t4 p k++zK m.aR++zK m.left++zK m.got++zK m.bz).length≤2000000000:=by
        have:=Iw p (k+1)
        rw [eD] at this
        simp only [je,ua] at this ⊢
        omega
       have l0:(t4 p k).length≤2000000000:=by omega
       have HL:=Lib.hid l1
       have HS:=Lib.hid eD
       clear l1 dQ eD
       go_wp2_with (go_at_call 121;refine (yD m.aR Bd l0 hin.1.1.1 htab).mono ?_;rintro e w5 ⟨rfl,h5,k5⟩;have m5:=k5 _ _ sS;have e5:=m5.c1;refine Hid.out ?_)
       refine Lib.hid ?_
       clear lJ iG hd2 o6 Ea e1 Bd sS k5
       go_wp2_with (go_at_call 121;refine (yD m.left h5 HL.out.1 hin.1.1.2 htab).mono ?_;rintro e w6 ⟨rfl,h6,k6⟩;have m6:=k6 _ _ m5;have e6:=m6.c2;refine Hid.out ?_)
       refine Lib.hid ?_
       clear e5 h5 m5 k6
       go_wp2_with (go_at_call 121;refine (yD m.got h6 HL.out.2.1 hin.1.2 htab).mono ?_;rintro e w7 ⟨rfl,h7,k7⟩;have m7:=k7 _ _ m6;have e7:=m7.c3;refine Hid.out ?_)
       refine Lib.hid ?_
       clear e6 h6 m6 k7
       go_wp2_with (go_at_call 121;refine (yD m.bz h7 HL.out.2.2.1 hin.2 htab).mono ?_;rintro e w8 ⟨rfl,h8,k8⟩;have m8:=k8 _ _ m7;have e8:=m8.c4;refine Hid.out ?_)
       refine Lib.hid ?_
       clear e7 h7 m7 k8
       go_wp2_with (go_at_call 123;refine (Kr m.bQ h8 HL.out.2.2.2).mono ?_;rintro e w9 ⟨rfl,h9,-⟩)
       go_roundw
       case rel=>exact ⟨k+1,by omega,by go_num,by rw [HS.out];simpa [je] using h9⟩
       case measure=>simp [intOf];omega
      ·obtain rfl:k=p.state.aI.length:=by omega
       have hT:TB W.heap.size w1.heap.size W #[.int .i64 p.state.day,.slice ah p.state.aE.length ch,.slice au p.state.used.length cu,.slice am p.state.aI.length cm,.bool p.own] (qH p) wr:=by simpa [t4,qH,t1] using dQ
       obtain ⟨⟨nW,hlt,v,hv,hown⟩,AX,sP⟩:=hT
       have hpos:0 < (qH p).length:=by simp [qH,qi]
       rcases hown.2 with ⟨-,h0⟩ | ⟨g,cap,cur,rfl,-,-,-,-,-,-⟩
       ·omega
       ·have cW:=cell_of_one hv
        have hcv:=run_convert_bytes_back (P:=Tryz.prog) wr 172 9 5 ⟨g,0,none⟩ cap (qH p) Tryz.underlying172 Tryz.underlying5 Tryz.underlying9 (fun j hj=>hown.cells (g:=g) rfl j _ (by simp [Lib.byteCells,hj]))
        go_wp2
        go_ret
        exact ⟨rfl,nW⟩
theorem RI.dS {α:Type} {Z:Nat→Nat} {w:World} {f:α→List IV} {l:List α} {v:Value} (sz:Nat) (hf:∀ a,(f a).length=sz) (h0:0 < sz) (hz:∀ b,0 < Z b→b < w.heap.size) (h:RI Z w (.slice (l.map f)) v) :
  ∃ a cap,v=.slice a l.length cap∧∀ k (hk:k < l.length),∃ b off,a=some ⟨b,off,none⟩∧b < w.heap.size∧∀ j c,(f l[k])[j]?=some c→∃ cv,w.cell? ⟨b,off+k*sz+j,none⟩=some cv∧RI Z w c cv:=by
 generalize hx:IV.slice (l.map f)=x at h
 cases h with
 | bool b=>cases hx
 | int k n=>cases hx
 | str s=>cases hx
 | agg cs vs hl h1 hr=>cases hx
 | tuple cs vs hl hr=>cases hx
 | iface t x v hr=>cases hx
 | cQ=>cases hx
 | eH=>cases hx
 | nil=>
  have:l=[]:=by simpa using hx
  subst this
  exact ⟨none,0,rfl,fun k hk=>by simp at hk⟩
 | empty a cap=>
  have:l=[]:=by simpa using hx
  subst this
  exact ⟨some a,cap,rfl,fun k hk=>by simp at hk⟩
 | slice af b off cap sz' cv hcap hsz gB hc hr=>
  obtain rfl:l.map f=af:=by injection hx
  refine ⟨some ⟨b,off,none⟩,cap,by simp,fun k hk=>⟨b,off,rfl,?_,fun j c hj => ?_⟩⟩
  ·have hrow:(l.map f)[k]?=some (f l[k]):=by simp [hk]
   have hne:0 < (f l[k]).length:=by rw [hf];exact h0
   have:=gB k _ 0 _ hrow (List.getElem?_eq_getElem hne)
   exact hz b (by omega)
  ·have hrow:(l.map f)[k]?=some (f l[k]):=by simp [hk]
   have h1:=hsz k _ hrow
   rw [hf] at h1
   subst h1
   exact ⟨_,(hc k _ j c hrow hj).1,hr k _ j c hrow hj⟩
theorem RI.cX {Z:Nat→Nat} {w:World} {k:IntKind} {n:Int} {v:Value} (h:RI Z w (.int k n) v):v=.int k n:=by cases h;rfl
theorem RI.fj {Z:Nat→Nat} {w:World} {b:Bool} {v:Value} (h:RI Z w (.bool b) v):v=.bool b:=by cases h;rfl
theorem QQ (p:aH) (res:ByteArray) (hd:xl p=some res):aJ C0 81 [.agg (aH.row p)] (.str res):=by
 refine ⟨⟨Tryz.f77,by kernel_rfl,by kernel_rfl,by kernel_rfl⟩,fun Z w vs hz sU hr => ?_⟩
 unfold xl at hd
 split at hd
 ·rename_i hok
  cases hd
  obtain ⟨hl,hr⟩:=hr
  match vs,hl with
  | [v],_=>
   have h0:=hr 0 _ _ rfl rfl
   generalize hx:IV.agg (aH.row p)=x at h0
   cases h0 with
   | bool b=>cases hx
   | int k n=>cases hx
   | str s=>cases hx
   | nil=>cases hx
   | empty a cap=>cases hx
   | slice af b off cap sz' cv hcap hsz gB hc hr=>cases hx
   | tuple cs vs hl hr=>cases hx
   | iface t x v hr=>cases hx
   | cQ=>cases hx
   | eH=>cases hx
   | agg cs vs hl h1 cy=>
    obtain rfl:aH.row p=cs:=by injection hx
    match vs,hl with
    | [a,b,c,d,e],_=>
     have r0:=RI.cX (cy 0 _ _ rfl rfl)
     have r4:=RI.fj (cy 4 _ _ rfl rfl)
     obtain ⟨ah,ch,rfl,vh⟩:=RI.dS 1 (fun _=>rfl) (by omega) hz (cy 1 _ _ rfl rfl)
     obtain ⟨au,cu,rfl,vu⟩:=RI.dS 1 (fun _=>rfl) (by omega) hz (cy 2 _ _ rfl rfl)
     obtain ⟨am,cm,rfl,vm⟩:=RI.dS 5 (fun _=>rfl) (by omega) hz (cy 3 _ _ rfl rfl)
     subst r0 r4
     refine (Sb p w ah au am ch cu cm hok (Lib.tabBelow_of_tabIs sU.1) (fun k hk => ?_) (fun k hk => ?_) (fun k hk => ?_)).mono fun e w' ⟨he,hb⟩=>⟨_,Z,he,.str _,fun _ _=>rfl,fun b hb'=>uh (hz b hb') hb.size,hb⟩
     ·obtain ⟨b,off,h1,h2,h3⟩:=vh k hk
      obtain ⟨cv,h4,h5⟩:=h3 0 _ rfl
      rw [RI.cX h5] at h4
      exact ⟨b,off,h1,h2,by simpa using h4⟩
     ·obtain ⟨b,off,h1,h2,h3⟩:=vu k hk
      obtain ⟨cv,h4,h5⟩:=h3 0 _ rfl
      rw [RI.fj h5] at h4
      exact ⟨b,off,h1,h2,by simpa using h4⟩
     ·obtain ⟨b,off,h1,h2,h3⟩:=vm k hk
      obtain ⟨c0,g0,q0⟩:=h3 0 _ rfl
      obtain ⟨c1,g1,q1⟩:=h3 1 _ rfl
      obtain ⟨c2,g2,q2⟩:=h3 2 _ rfl
      obtain ⟨c3,g3,q3⟩:=h3 3 _ rfl
      obtain ⟨c4,g4,q4⟩:=h3 4 _ rfl
      rw [RI.cX q0] at g0
      rw [RI.cX q1] at g1
      rw [RI.cX q2] at g2
      rw [RI.cX q3] at g3
      rw [RI.fj q4] at g4
      exact ⟨b,off,h1,h2,by simpa using g0,g1,g2,g3,g4⟩
 ·cases hd
end
def qN (p:aG):List UInt8:=zK p.day++p.aE.flatMap zK++p.used.flatMap qi++p.aI.flatMap je
set_option maxHeartbeats 1600000 in
set_option maxRecDepth 100000 in
theorem Sg (B Bo:Nat) (W:World) (xs:List UInt8) (b:Bool) (w:World) (h:TI B Bo W xs w) (hlen:xs.length≤2000000000) :
  Calls Tryz.prog 151 #[.bool b,.pointer (some ⟨Bo,0,none⟩)] w fun e w'=>e=.returned (.tuple #[])∧TI B Bo W (xs++qi b) w'∧Lib.OthersKept 5 (some Bo) w w':=by
 obtain ⟨hb,hlt,v,hv,hown⟩:=h
 obtain ⟨i0,hi,gM,iq,iF⟩:=info_parts yC
 have cW:=cell_of_one hv
 have fW:=free_of_one hv
 have A9:=lt_of_block hv
 cases b with
 | true=>
  go_enter Tryz.func151,Tryz.ntmps151
  go_wp2_with (at_builtin;refine wpList_append_own _ rfl _ _ 172 rfl B 5 i0 (.int .u8 0) 1 1 Tryz.underlying172 hi gM iq iF rfl (by decide) _ _ _ rfl (hown.alloc _) ⟨w.heap.size,0,none⟩ 1 1 [Value.int .u8 43] rfl rfl ?c1 ?c2 ?c3 ?c4 ?c5 ?_)
  case c1=>
   intro j u hj
   match j,hj with
   | 0,hj=>simp at hj;subst hj;simp [Addr.add]
  case c2=>intro u hu;simp at hu;subst hu;rfl
  case c3=>unfold maxLen;omega
  case c4=>omega
  case c5=>simp;omega
  intro v' w2 cV hgrow _
  obtain ⟨⟨g',cap',rfl⟩,h2,hT,hK⟩:=TI.push (c:=43) hb hlt hv hown cV hgrow
  have Ba:=cell_of_one h2
  have Bb:=free_of_one h2
  clear cV hgrow hown
  go_wp2
  go_end0
  exact ⟨rfl,hT,hK⟩
 | false=>
  go_enter Tryz.func151,Tryz.ntmps151
  go_wp2_with (at_builtin;refine wpList_append_own _ rfl _ _ 172 rfl B 5 i0 (.int .u8 0) 1 1 Tryz.underlying172 hi gM iq iF rfl (by decide) _ _ _ rfl (hown.alloc _) ⟨w.heap.size,0,none⟩ 1 1 [Value.int .u8 45] rfl rfl ?c1 ?c2 ?c3 ?c4 ?c5 ?_)
  case c1=>
   intro j u hj
   match j,hj with
   | 0,hj=>simp at hj;subst hj;simp [Addr.add]
  case c2=>intro u hu;simp at hu;subst hu;rfl
  case c3=>unfold maxLen;omega
  case c4=>omega
  case c5=>simp;omega
  intro v' w2 cV hgrow _
  obtain ⟨⟨g',cap',rfl⟩,h2,hT,hK⟩:=TI.push (c:=45) hb hlt hv hown cV hgrow
  have Ba:=cell_of_one h2
  have Bb:=free_of_one h2
  clear cV hgrow hown
  go_wp2
  go_end0
  exact ⟨rfl,hT,hK⟩
set_option maxHeartbeats 1600000 in
set_option maxRecDepth 100000 in
theorem Sh (B Bo:Nat) (W:World) (xs:List UInt8) (n:Int) (w:World) (h:TI B Bo W xs w) (hlen:xs.length≤2000000000) (h0 : -9223372036854775808≤n) (h1:n≤9223372036854775807)
  (htab : Lib.TabBelow Tryz.prog B W "internal/strconv.uint64pow10" .u64 Lib.pow10Tab) :
  Calls Tryz.prog 150 #[.int .i64 n,.pointer (some ⟨Bo,0,none⟩)] w fun e w'=>e=.returned (.tuple #[])∧TI B Bo W (xs++zK n) w'∧Lib.OthersKept 5 (some Bo) w w':=by
 obtain ⟨hb,hlt,v,hv,hown⟩:=h
 obtain ⟨i0,hi,gM,iq,iF⟩:=info_parts yC
 have cW:=cell_of_one hv
 have fW:=free_of_one hv
 have A9:=lt_of_block hv
 have la:=Lib.itoa_length_le n h0 h1
 go_enter Tryz.func150,Tryz.ntmps150
 go_wp2_with (go_at_call 122;refine (Iu B _ n h0 h1 v _ w hown (by omega) (by omega) (htab.on hb)).mono ?_;rintro e w1 ⟨v1,rfl,ff,sO,hk1⟩;refine Hid.out ?_)
 refine Lib.hid ?_
 rw [←ua,show Lib.byteCells xs++Lib.byteCells (Lib.itoa n)=Lib.byteCells (xs++Lib.itoa n) from by simp [Lib.byteCells]] at ff
 have gD:w1.heap[Bo]?=some (.cells #[v] 172 (0,0)):=hk1 Bo _ hv (by simp) (by intro c fz e;simp at e)
 have pN:Below B W w1:=hb.trans sO
 have D9:=lt_of_block gD
 have gI:(xs++Lib.itoa n).length≤2000000100:=by rw [ua];omega
 obtain ⟨ys,hys⟩:∃ l,l=xs++Lib.itoa n:=⟨_,rfl⟩
 rw [←hys] at ff gI
 have HY:=Lib.hid hys
 clear hys cW fW
 go_wp2_with (at_builtin;refine wpList_append_own _ rfl _ _ 172 rfl B 5 i0 (.int .u8 0) 1 1 Tryz.underlying172 hi gM iq iF rfl (by decide) _ _ _ rfl (ff.alloc _) ⟨w1.heap.size,0,none⟩ 1 1 [Value.int .u8 32] rfl rfl ?c1 ?c2 ?c3 ?c4 ?c5 ?_)
 case c1=>
  intro j u hj
  match j,hj with
  | 0,hj=>simp at hj;subst hj;simp [Addr.add]
 case c2=>intro u hu;simp at hu;subst hu;rfl
 case c3=>unfold maxLen;omega
 case c4=>omega
 case c5=>simp;omega
 intro v' w2 cV hgrow _
 obtain ⟨⟨g',cap',rfl⟩,h2,hT,hK⟩:=TI.push (c:=32) pN hlt gD ff cV hgrow
 have Ba:=cell_of_one h2
 have Bb:=free_of_one h2
 clear cV hgrow hown ff
 go_wp2
 go_end0
 have hys:=HY.out
 subst hys
 refine ⟨rfl,?_,?_⟩
 ·simpa [zK] using hT
 ·exact Lib.OthersKept.trans (fun k o hk _ ho=>hk1 k o hk (by simp) ho) hK
def Cj (p:aG):Bool:=jA p.day&&p.aE.all jA&&p.aI.all (fun m=>jA m.aR&&jA m.left&&jA m.got&&jA m.bz)&&decide ((qN p).length≤1000000000)
def Zp (p:aG):Option ByteArray:=if Cj p then some ⟨(qN p).toArray⟩ else none
structure fS (B Bo:Nat) (W:World) (vs:Array Value) (xs:List UInt8) (w:World):Prop where
 ti:TI B Bo W xs w
 bo:B < Bo
 box:w.heap[B]?=some (.cells vs 37 (0,0))
theorem fS.of {B Bo:Nat} {W w w':World} {vs:Array Value} {xs ys:List UInt8} (h:fS B Bo W vs xs w) (hT:TI B Bo W ys w') (hK:Lib.OthersKept 5 (some Bo) w w'):fS B Bo W vs ys w':=
 ⟨hT,h.bo,hK B _ h.box (by have:=h.bo;simp;omega) (by intro c fz e;simp at e)⟩
theorem MB.Iy {B Bo Bm:Nat} {W w w':World} {vs ms:Array Value} {xs:List UInt8} (h:fS B Bo W vs xs w) (hm:MB Bm ms w) (hK:Lib.OthersKept 5 (some Bo) w w'):MB Bm ms w':=by
 refine hK Bm _ hm ?_ (by intro c fz e;simp at e)
 intro e
 obtain ⟨v,hv,_⟩:=h.ti.own
 cases e
 unfold MB at hm
 rw [hv] at hm
 simp at hm
theorem Iz {B Bo:Nat} {W w:World} {vs:Array Value} {xs:List UInt8} (b:Bool) (h:fS B Bo W vs xs w) (hlen:xs.length≤2000000000) :
  Calls Tryz.prog 151 #[.bool b,.pointer (some ⟨Bo,0,none⟩)] w fun e w'=>e=.returned (.tuple #[])∧fS B Bo W vs (xs++qi b) w'∧(∀ Bm ms,MB Bm ms w→MB Bm ms w'):=
 (Sg B Bo W xs b w h.ti hlen).mono fun e w' ⟨h1,h2,h3⟩=>⟨h1,h.of h2 h3,fun _ _ hm=>MB.Iy h hm h3⟩
theorem vE {B Bo:Nat} {W w:World} {vs:Array Value} {xs:List UInt8} (n:Int) (h:fS B Bo W vs xs w) (hlen:xs.length≤2000000000) (hn:jA n=true)
  (htab : Lib.TabBelow Tryz.prog B W "internal/strconv.uint64pow10" .u64 Lib.pow10Tab) :
  Calls Tryz.prog 150 #[.int .i64 n,.pointer (some ⟨Bo,0,none⟩)] w fun e w'=>e=.returned (.tuple #[])∧fS B Bo W vs (xs++zK n) w'∧(∀ Bm ms,MB Bm ms w→MB Bm ms w'):=by
 simp only [jA,ub,decide_eq_true_eq] at hn
 exact (Sh B Bo W xs n w h.ti hlen hn.1 hn.2 htab).mono fun e w' ⟨h1,h2,h3⟩=>⟨h1,h.of h2 h3,fun _ _ hm=>MB.Iy h hm h3⟩
theorem fS.cell {B Bo:Nat} {W w:World} {vs:Array Value} {xs:List UInt8} (h:fS B Bo W vs xs w) (j:Nat):w.cell? ⟨B,j,none⟩=vs[j]?:=by
 have:=h.box
 simp [World.cell?,this]
theorem fS.c0 {B Bo:Nat} {W w:World} {a b c d:Value} {xs:List UInt8} (h:fS B Bo W #[a,b,c,d] xs w):w.cell? ⟨B,0,none⟩=some a:=h.cell 0
theorem fS.c1 {B Bo:Nat} {W w:World} {a b c d:Value} {xs:List UInt8} (h:fS B Bo W #[a,b,c,d] xs w):w.cell? ⟨B,1,none⟩=some b:=h.cell 1
theorem fS.c2 {B Bo:Nat} {W w:World} {a b c d:Value} {xs:List UInt8} (h:fS B Bo W #[a,b,c,d] xs w):w.cell? ⟨B,2,none⟩=some c:=h.cell 2
theorem fS.c3 {B Bo:Nat} {W w:World} {a b c d:Value} {xs:List UInt8} (h:fS B Bo W #[a,b,c,d] xs w):w.cell? ⟨B,3,none⟩=some d:=h.cell 3
def pP (p:aG):List UInt8:=zK p.day
def rH (p:aG) (k:Nat):List UInt8:=pP p++(p.aE.take k).flatMap zK
def sV (p:aG) (k:Nat):List UInt8:=pP p++p.aE.flatMap zK++(p.used.take k).flatMap qi
def mQ (p:aG) (k:Nat):List UInt8:=pP p++p.aE.flatMap zK++p.used.flatMap qi++(p.aI.take k).flatMap je
theorem IA (p:aG) (k:Nat):(rH p k).length≤(qN p).length:=by
 have:=Ks zK p.aE k
 simp only [rH,pP,qN,ua];omega
theorem Si (p:aG) (k:Nat):(sV p k).length≤(qN p).length:=by
 have:=Ks qi p.used k
 simp only [sV,pP,qN,ua];omega
theorem IB (p:aG) (k:Nat):(mQ p k).length≤(qN p).length:=by
 have:=Ks je p.aI k
 simp only [mQ,pP,qN,ua];omega
theorem Sj (p:aG):p.aI.length≤(qN p).length:=by
 have:=Wu je p.aI (fun a=>by simp only [je,qi,ua,ue];omega)
 simp only [qN,ua];omega
theorem Sk (p:aG):p.used.length≤(qN p).length:=by
 have:=Wu qi p.used (fun a=>by simp [qi])
 simp only [qN,ua];omega
theorem Sl (p:aG):p.aE.length≤(qN p).length:=by
 have:=Wu zK p.aE (fun a=>by simp [zK])
 simp only [qN,ua];omega
set_option maxHeartbeats 6400000 in
set_option maxRecDepth 1000000 in
theorem Sm (p:aG) (W:World) (ah au am:Option Addr) (ch cu cm:Nat) (hok:Cj p=true)
  (htab : Lib.TabBelow Tryz.prog W.heap.size W "internal/strconv.uint64pow10" .u64 Lib.pow10Tab)
  (hh:∀ k (hk:k < p.aE.length),∃ b off,ah=some ⟨b,off,none⟩∧b < W.heap.size∧W.cell? ⟨b,off+k,none⟩=some (.int .i64 p.aE[k]))
  (hu:∀ k (hk:k < p.used.length),∃ b off,au=some ⟨b,off,none⟩∧b < W.heap.size∧W.cell? ⟨b,off+k,none⟩=some (.bool p.used[k]))
  (hm:∀ k (hk:k < p.aI.length),∃ b off,am=some ⟨b,off,none⟩∧b < W.heap.size∧W.cell? ⟨b,off+k*5,none⟩=some (.int .i64 p.aI[k].aR)∧W.cell? ⟨b,off+k*5+1,none⟩=some (.int .i64 p.aI[k].left) ∧
   W.cell? ⟨b,off+k*5+2,none⟩=some (.int .i64 p.aI[k].got)∧W.cell? ⟨b,off+k*5+3,none⟩=some (.int .i64 p.aI[k].bz)∧W.cell? ⟨b,off+k*5+4,none⟩=some (.bool p.aI[k].bQ)) :
  Calls Tryz.prog 140 #[.agg #[.int .i64 p.day,.slice ah p.aE.length ch,.slice au p.used.length cu,.slice am p.aI.length cm]] W
   fun e w'=>e=.returned (.string ⟨(qN p).toArray⟩)∧Below W.heap.size W w':=by
 have Sc:∀ (fn:Fn) (first cap:Array Value) (w:World),(Instr.makeFunc fn first cap).run Tryz.prog w=.ok (.func fn first cap) w:=fun _ _ _ _=>rfl
 obtain ⟨i0,hi,gM,iq,iF⟩:=info_parts yC
 simp only [Cj,ub,decide_eq_true_eq,ui] at hok
 obtain ⟨⟨⟨hd,Bc⟩,nM⟩,hlen⟩:=hok
 have hml:=Sj p
 have Sd:=Sk p
 have Se:=Sl p
 go_enter Tryz.func140,Tryz.ntmps140
 go_wp2_with (at_make;refine wpList_make_own _ rfl _ _ 172 rfl W.heap.size 5 i0 (.int .u8 0) 1 Tryz.underlying172 hi gM iq .i64 .i64 (32+12*(p.aI.length:Int)) (32+12*p.aI.length) rfl rfl (by omega) (by rw [iF];omega) (by unfold maxLen;omega) (by simp) ?_;intro w1 hown hgrow;refine Hid.out ?_)
 refine Lib.hid ?_
 have sP:w1.heap[W.heap.size]?=some (.cells #[.int .i64 p.day,.slice ah p.aE.length ch,.slice au p.used.length cu,.slice am p.aI.length cm] 37 (0,0)):=by
  rw [hgrow.block W.heap.size (by simp) (by simp)]
  exact zY W _
 have hw1:W.heap.size+1≤w1.heap.size:=by have:=hgrow.size;simpa using this
 have mK:Below W.heap.size W w1:=((Below.refl _ _).alloc (uj _) _).grown hgrow (by simp) (fun k hk=>by cases hk)
 clear hgrow
 have sQ:fS W.heap.size w1.heap.size W #[.int .i64 p.day,.slice ah p.aE.length ch,.slice au p.used.length cu,.slice am p.aI.length cm] []
   (w1.alloc (.cells #[.slice (some ⟨W.heap.size+1,0,none⟩) 0 (32+12*p.aI.length)] 172)):=by
  refine ⟨⟨mK.alloc (by omega) _,by omega,_,zY _ _,?_⟩,by omega,(Below.heap_alloc _ _ _ (by omega)).trans sP⟩
  have:=hown.alloc (.cells #[.slice (some ⟨W.heap.size+1,0,none⟩) 0 (32+12*p.aI.length)] 172)
  simpa [Lib.byteCells] using this
 have c0:=sQ.c0
 have gI:(pP p).length≤2000000000:=by have:=IA p 0;simp [rH] at this;omega
 clear hown sP
 go_wp2_with (go_at_call 150;refine (vE p.day sQ (by simp) hd htab).mono ?_;rintro e w3 ⟨rfl,h3,_⟩;have c3:=h3.c1)
 have lZ:fS W.heap.size w1.heap.size W #[.int .i64 p.day,.slice ah p.aE.length ch,.slice au p.used.length cu,.slice am p.aI.length cm] (rH p 0) w3:=by simpa [rH,pP] using h3
 clear h3 sQ c0 c3
 go_loopw [27] (fun i wr=>∃ k:Nat,k≤p.aE.length∧i=.int .i64 k∧fS W.heap.size w1.heap.size W #[.int .i64 p.day,.slice ah p.aE.length ch,.slice au p.used.length cu,.slice am p.aI.length cm] (rH p k) wr)
  (fun i _=>p.aE.length - (intOf i).toNat)
 case atStart=>exact ⟨0,ud _,rfl,lZ⟩
 case round=>
  obtain ⟨k,hk,rfl,dQ⟩:=hrel
  clear lZ
  have hlk:=IA p k
  by_cases fA:k < p.aE.length
  ·obtain ⟨b,off,rfl,iW,ol⟩:=hh k fA
   have tI:wr.cell? ⟨b,off+k,none⟩=some (.int .i64 p.aE[k]):=(dQ.ti.below.cell (by exact iW)).trans ol
   have hin:=Bc _ (uc fA)
   go_wp2_with (go_at_call 150;refine (vE p.aE[k] dQ (by omega) hin htab).mono ?_;rintro e w4 ⟨rfl,h4,_⟩)
   go_roundw
   case rel=>exact ⟨k+1,by omega,by go_num,by simpa [rH,Wt _ _ _ fA] using h4⟩
   case measure=>simp [intOf];omega
  ·have c2:=dQ.c2
   go_wp2
   obtain rfl:k=p.aE.length:=by omega
   have lZ:fS W.heap.size w1.heap.size W #[.int .i64 p.day,.slice ah p.aE.length ch,.slice au p.used.length cu,.slice am p.aI.length cm] (sV p 0) wr:=by simpa [rH,sV] using dQ
   clear dQ c2 hlk
   obtain ⟨wo,rfl⟩:∃ wo:World,wo=wr:=⟨_,rfl⟩
   go_loopw [38] (fun i wr=>∃ k:Nat,k≤p.used.length∧i=.int .i64 k∧fS W.heap.size w1.heap.size W #[.int .i64 p.day,.slice ah p.aE.length ch,.slice au p.used.length cu,.slice am p.aI.length cm] (sV p k) wr)
    (fun i _=>p.used.length - (intOf i).toNat)
   case atStart=>exact ⟨0,ud _,rfl,lZ⟩
   case round=>
    obtain ⟨k,hk,rfl,dQ⟩:=hrel
    clear lZ
    have hlk:=Si p k
    by_cases fA:k < p.used.length
    ·obtain ⟨b,off,rfl,iW,ol⟩:=hu k fA
     have tI:wr.cell? ⟨b,off+k,none⟩=some (.bool p.used[k]):=(dQ.ti.below.cell (by exact iW)).trans ol
     go_wp2_with (go_at_call 151;refine (Iz p.used[k] dQ (by omega)).mono ?_;rintro e w4 ⟨rfl,h4,_⟩)
     go_roundw
     case rel=>exact ⟨k+1,by omega,by go_num,by simpa [sV,Wt _ _ _ fA] using h4⟩
     case measure=>simp [intOf];omega
    ·have c2:=dQ.c3
     go_wp2
     obtain rfl:k=p.used.length:=by omega
     have lZ:fS W.heap.size w1.heap.size W #[.int .i64 p.day,.slice ah p.aE.length ch,.slice au p.used.length cu,.slice am p.aI.length cm] (mQ p 0) wr:=by simpa [sV,mQ] using dQ
     clear dQ c2 hlk
     obtain ⟨Sf,rfl⟩:∃ wo:World,wo=wr:=⟨_,rfl⟩
     go_loopw [49] (fun i wr=>∃ k:Nat,k≤p.aI.length∧i=.int .i64 k∧fS W.heap.size w1.heap.size W #[.int .i64 p.day,.slice ah p.aE.length ch,.slice au p.used.length cu,.slice am p.aI.length cm] (mQ p k) wr)
      (fun i _=>p.aI.length - (intOf i).toNat)
     case atStart=>exact ⟨0,ud _,rfl,lZ⟩
     case round=>
      obtain ⟨k,hk,rfl,dQ⟩:=hrel
      clear lZ
      have hlk:=IB p k
      by_cases fA:k < p.aI.length
      ·obtain ⟨b,off,rfl,iW,hc0,eV,eW,nU,sR⟩:=hm k fA
       have hin:=nM _ (uc fA)
       have eD:mQ p (k+1)=mQ p k++je p.aI[k]:=by simp [mQ,Wt _ _ _ fA]
       obtain ⟨m,hmk⟩:∃ m,m=p.aI[k]:=⟨_,rfl⟩
       rw [←hmk] at hc0 eV eW nU sR hin eD
       clear hmk
       have lJ:=(dQ.ti.below.cell (p:=⟨b,off+k*5,none⟩) (by exact iW)).trans hc0
       have iG:=(dQ.ti.below.cell (p:=⟨b,off+k*5+1,none⟩) (by exact iW)).trans eV
       have hd2:=(dQ.ti.below.cell (p:=⟨b,off+k*5+2,none⟩) (by exact iW)).trans eW
       have o6:=(dQ.ti.below.cell (p:=⟨b,off+k*5+3,none⟩) (by exact iW)).trans nU
       have Ea:=(dQ.ti.below.cell (p:=⟨b,off+k*5+4,none⟩) (by exact iW)).trans sR
       clear hc0 eV eW nU sR
       have Bd:fS W.heap.size w1.heap.size W #[.int .i64 p.day,.slice ah p.aE.length ch,.slice au p.used.length cu,.slice (some ⟨b,off,none⟩) p.aI.length cm] (mQ p k) (wr.alloc (.cells #[.int .i64 m.aR,.int .i64 m.left,.int .i64 m.got,.int .i64 m.bz,.bool m.bQ] 79)):=
        dQ.of ⟨dQ.ti.below.alloc (by have:=dQ.ti.below.size;omega) _,dQ.ti.lt,by obtain ⟨v,hv,ho⟩:=dQ.ti.own;exact ⟨v,(Below.heap_alloc _ _ _ (lt_of_block hv)).trans hv,ho.alloc _⟩⟩ ((Lib.OthersKept.refl _ _ _).alloc _)
       have sS:MB wr.heap.size #[.int .i64 m.aR,.int .i64 m.left,.int .i64 m.got,.int .i64 m.bz,.bool m.bQ] (wr.alloc (.cells #[.int .i64 m.aR,.int .i64 m.left,.int .i64 m.got,.int .i64 m.bz,.bool m.bQ] 79)):=zY _ _
       have e1:=sS.c0
       have l1:(mQ p k++zK m.aR).length≤2000000000∧(mQ p k++zK m.aR++zK m.left).length≤2000000000∧(mQ p k++zK m.aR++zK m.left++zK m.got).length≤2000000000 ∧
         (mQ p k++zK m.aR++zK m.left++zK m.got++zK m.bz).length≤2000000000:=by
        have:=IB p (k+1)
        rw [eD] at this
        simp only [je,ua] at this ⊢
        omega
       have l0:(mQ p k).length≤2000000000:=by omega
       have HL:=Lib.hid l1
       have HS:=Lib.hid eD
       clear l1 dQ eD
       go_wp2_with (go_at_call 150;refine (vE m.aR Bd l0 hin.1.1.1 htab).mono ?_;rintro e w5 ⟨rfl,h5,k5⟩;have m5:=k5 _ _ sS;have e5:=m5.c1;refine Hid.out ?_)
       refine Lib.hid ?_
       clear lJ iG hd2 o6 Ea e1 Bd sS k5
       go_wp2_with (go_at_call 150;refine (vE m.left h5 HL.out.1 hin.1.1.2 htab).mono ?_;rintro e w6 ⟨rfl,h6,k6⟩;have m6:=k6 _ _ m5;have e6:=m6.c2;refine Hid.out ?_)
       refine Lib.hid ?_
       clear e5 h5 m5 k6
       go_wp2_with (go_at_call 150;refine (vE m.got h6 HL.out.2.1 hin.1.2 htab).mono ?_;rintro e w7 ⟨rfl,h7,k7⟩;have m7:=k7 _ _ m6;have e7:=m7.c3;refine Hid.out ?_)
       refine Lib.hid ?_
       clear e6 h6 m6 k7
       go_wp2_with (go_at_call 150;refine (vE m.bz h7 HL.out.2.2.1 hin.2 htab).mono ?_;rintro e w8 ⟨rfl,h8,k8⟩;have m8:=k8 _ _ m7;have e8:=m8.c4;refine Hid.out ?_)
       refine Lib.hid ?_
       clear e7 h7 m7 k8
       go_wp2_with (go_at_call 151;refine (Iz m.bQ h8 HL.out.2.2.2).mono ?_;rintro e w9 ⟨rfl,h9,-⟩)
       go_roundw
       case rel=>exact ⟨k+1,by omega,by go_num,by rw [HS.out];simpa [je] using h9⟩
       case measure=>simp [intOf];omega
      ·obtain rfl:k=p.aI.length:=by omega
       have hT:fS W.heap.size w1.heap.size W #[.int .i64 p.day,.slice ah p.aE.length ch,.slice au p.used.length cu,.slice am p.aI.length cm] (qN p) wr:=by simpa [mQ,qN,pP] using dQ
       obtain ⟨⟨nW,hlt,v,hv,hown⟩,AX,sP⟩:=hT
       have hpos:0 < (qN p).length:=by simp [qN,zK];omega
       rcases hown.2 with ⟨-,h0⟩ | ⟨g,cap,cur,rfl,-,-,-,-,-,-⟩
       ·omega
       ·have cW:=cell_of_one hv
        have hcv:=run_convert_bytes_back (P:=Tryz.prog) wr 172 9 5 ⟨g,0,none⟩ cap (qN p) Tryz.underlying172 Tryz.underlying5 Tryz.underlying9 (fun j hj=>hown.cells (g:=g) rfl j _ (by simp [Lib.byteCells,hj]))
        go_wp2
        go_ret
        exact ⟨rfl,nW⟩
theorem IC (p:aG) (res:ByteArray) (hd:Zp p=some res):aJ C0 207 [.agg (aG.row p)] (.str res):=by
 refine ⟨⟨Tryz.f140,by kernel_rfl,by kernel_rfl,by kernel_rfl⟩,fun Z w vs hz sU hr => ?_⟩
 unfold Zp at hd
 split at hd
 ·rename_i hok
  cases hd
  obtain ⟨hl,hr⟩:=hr
  match vs,hl with
  | [v],_=>
   have h0:=hr 0 _ _ rfl rfl
   generalize hx:IV.agg (aG.row p)=x at h0
   cases h0 with
   | bool b=>cases hx
   | int k n=>cases hx
   | str s=>cases hx
   | nil=>cases hx
   | empty a cap=>cases hx
   | slice af b off cap sz' cv hcap hsz gB hc hr=>cases hx
   | tuple cs vs hl hr=>cases hx
   | iface t x v hr=>cases hx
   | cQ=>cases hx
   | eH=>cases hx
   | agg cs vs hl h1 cy=>
    obtain rfl:aG.row p=cs:=by injection hx
    match vs,hl with
    | [a,b,c,d],_=>
     have r0:=RI.cX (cy 0 _ _ rfl rfl)
     obtain ⟨ah,ch,rfl,vh⟩:=RI.dS 1 (fun _=>rfl) (by omega) hz (cy 1 _ _ rfl rfl)
     obtain ⟨au,cu,rfl,vu⟩:=RI.dS 1 (fun _=>rfl) (by omega) hz (cy 2 _ _ rfl rfl)
     obtain ⟨am,cm,rfl,vm⟩:=RI.dS 5 (fun _=>rfl) (by omega) hz (cy 3 _ _ rfl rfl)
     subst r0
     refine (Sm p w ah au am ch cu cm hok (Lib.tabBelow_of_tabIs sU.1) (fun k hk => ?_) (fun k hk => ?_) (fun k hk => ?_)).mono fun e w' ⟨he,hb⟩=>⟨_,Z,he,.str _,fun _ _=>rfl,fun b hb'=>uh (hz b hb') hb.size,hb⟩
     ·obtain ⟨b,off,h1,h2,h3⟩:=vh k hk
      obtain ⟨cv,h4,h5⟩:=h3 0 _ rfl
      rw [RI.cX h5] at h4
      exact ⟨b,off,h1,h2,by simpa using h4⟩
     ·obtain ⟨b,off,h1,h2,h3⟩:=vu k hk
      obtain ⟨cv,h4,h5⟩:=h3 0 _ rfl
      rw [RI.fj h5] at h4
      exact ⟨b,off,h1,h2,by simpa using h4⟩
     ·obtain ⟨b,off,h1,h2,h3⟩:=vm k hk
      obtain ⟨c0,g0,q0⟩:=h3 0 _ rfl
      obtain ⟨c1,g1,q1⟩:=h3 1 _ rfl
      obtain ⟨c2,g2,q2⟩:=h3 2 _ rfl
      obtain ⟨c3,g3,q3⟩:=h3 3 _ rfl
      obtain ⟨c4,g4,q4⟩:=h3 4 _ rfl
      rw [RI.cX q0] at g0
      rw [RI.cX q1] at g1
      rw [RI.cX q2] at g2
      rw [RI.cX q3] at g3
      rw [RI.fj q4] at g4
      exact ⟨b,off,h1,h2,by simpa using g0,g1,g2,g3,g4⟩
 ·cases hd
end Go.Proofs.YtlpmnmbebkdocaaGreatDoor
