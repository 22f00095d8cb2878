/-
  A contract of the library, laid at this program.
  The texts of positions: what the two closures of arena.text do to the bytes at hand.
  The texts of positions: the contract of arena.text.
  'trap.text' writes the text of a state (printed from the texts about arena.text).
-/
import Derived.Test.YtlpmnmbebkdocaaGreatDoorTG06
import Derived.Shelf.Strconv.AppendIntPublic10
import Derived.Lib.AppendIntMem
import Derived.Lib.ItoaLen
import Derived.Lib.Hide
import Derived.Laws.IdiomStrings
import Derived.OwnWalk
import Derived.OneCell
import Derived.WalkKit
import Derived.BigCall
open List renaming length_append → ua, getElem_mem → uc, length_cons → ue, flatMap_append → ug, all_eq_true → ui
open Bool renaming and_eq_true → ub
open Nat renaming zero_le → ud, lt_of_lt_of_le → uh, le_refl → uj
namespace Go.Proofs.YtlpmnmbebkdocaaGreatDoor
open Go.Shelf Go.RowKit
set_option maxRecDepth 100000
def Tryz.mT:Go.Shelf.Ren:=⟨fun | 176=>122 | 249=>142 | 288=>152 | 283=>153 | 284=>154 | 285=>155 | 286=>156 | 129=>158 | 317=>157 | 318=>159 | 319=>160 | 320=>161 | 337=>162 | 338=>163 | n=>n,fun | 37=>172 | 2=>2 | 3=>3 | 53=>193 | 4=>4 | 9=>9 | 171=>201 | 0=>0 | 173=>204 | 212=>207 | 51=>208 | 5=>5 | 20=>20 | 213=>209 | 46=>184 | 232=>212 | 233=>213 | n=>n,fun | 17=>0 | 18=>1 | 19=>2 | n=>n⟩
theorem Tryz.sQ:Go.Proofs.LaysM.n176 Tryz.prog Tryz.mT:={
 mixed:=by kernel_rfl,
 f129:=Tryz.func158.trans (congrArg some (by kernel_rfl)),
 f176:=Tryz.func122.trans (congrArg some (by kernel_rfl)),
 f249:=Tryz.func142.trans (congrArg some (by kernel_rfl)),
 f283:=Tryz.func153.trans (congrArg some (by kernel_rfl)),
 f284:=Tryz.func154.trans (congrArg some (by kernel_rfl)),
 f285:=Tryz.func155.trans (congrArg some (by kernel_rfl)),
 f286:=Tryz.func156.trans (congrArg some (by kernel_rfl)),
 f288:=Tryz.func152.trans (congrArg some (by kernel_rfl)),
 f317:=Tryz.func157.trans (congrArg some (by kernel_rfl)),
 f318:=Tryz.func159.trans (congrArg some (by kernel_rfl)),
 f319:=Tryz.func160.trans (congrArg some (by kernel_rfl)),
 f320:=Tryz.func161.trans (congrArg some (by kernel_rfl)),
 f337:=Tryz.func162.trans (congrArg some (by kernel_rfl)),
 f338:=Tryz.func163.trans (congrArg some (by kernel_rfl)),
 t0:=Tryz.underlying0,
 a0:=Tryz.isAgg0,
 z0:=Tryz.sizeOf0,
 v0:=Tryz.zeroValue0,
 t2:=Tryz.underlying2,
 a2:=Tryz.isAgg2,
 z2:=Tryz.sizeOf2,
 v2:=Tryz.zeroValue2,
 t3:=Tryz.underlying3,
 a3:=Tryz.isAgg3,
 z3:=Tryz.sizeOf3,
 v3:=Tryz.zeroValue3,
 t4:=Tryz.underlying4,
 a4:=Tryz.isAgg4,
 z4:=Tryz.sizeOf4,
 v4:=Tryz.zeroValue4,
 t5:=Tryz.underlying5,
 a5:=Tryz.isAgg5,
 z5:=Tryz.sizeOf5,
 v5:=Tryz.zeroValue5,
 t9:=Tryz.underlying9,
 a9:=Tryz.isAgg9,
 z9:=Tryz.sizeOf9,
 v9:=Tryz.zeroValue9,
 t20:=Tryz.underlying20,
 a20:=Tryz.isAgg20,
 z20:=Tryz.sizeOf20,
 v20:=Tryz.zeroValue20,
 t37:=Tryz.underlying172,
 a37:=Tryz.isAgg172,
 z37:=Tryz.sizeOf172,
 v37:=Tryz.zeroValue172,
 t46:=Tryz.underlying184,
 a46:=Tryz.isAgg184,
 z46:=Tryz.sizeOf184,
 v46:=Tryz.zeroValue184,
 t51:=Tryz.underlying208,
 a51:=Tryz.isAgg208,
 z51:=Tryz.sizeOf208,
 v51:=Tryz.zeroValue208,
 t53:=Tryz.underlying193,
 a53:=Tryz.isAgg193,
 z53:=Tryz.sizeOf193,
 v53:=Tryz.zeroValue193,
 t171:=Tryz.underlying201,
 a171:=Tryz.isAgg201,
 z171:=Tryz.sizeOf201,
 v171:=Tryz.zeroValue201,
 t173:=Tryz.underlying204,
 a173:=Tryz.isAgg204,
 z173:=Tryz.sizeOf204,
 v173:=Tryz.zeroValue204,
 t212:=Tryz.underlying207,
 a212:=Tryz.isAgg207,
 z212:=Tryz.sizeOf207,
 v212:=Tryz.zeroValue207,
 t213:=Tryz.underlying209,
 a213:=Tryz.isAgg209,
 z213:=Tryz.sizeOf209,
 t232:=Tryz.underlying212,
 a232:=Tryz.isAgg212,
 z232:=Tryz.sizeOf212,
 v232:=Tryz.zeroValue212,
 t233:=Tryz.underlying213,
 a233:=Tryz.isAgg213,
 z233:=Tryz.sizeOf213,
 v233:=Tryz.zeroValue213,
 g17:=by kernel_rfl,
 g18:=by kernel_rfl,
 g19:=by kernel_rfl,
 i0:=by kernel_rfl,
 i2:=by kernel_rfl,
 i3:=by kernel_rfl,
 i4:=by kernel_rfl,
 i5:=by kernel_rfl,
 i9:=by kernel_rfl,
 i20:=by kernel_rfl,
 i37:=by kernel_rfl,
 i46:=by kernel_rfl,
 i51:=by kernel_rfl,
 i53:=by kernel_rfl,
 i171:=by kernel_rfl,
 i173:=by kernel_rfl,
 i212:=by kernel_rfl,
 i232:=by kernel_rfl,
 i233:=by kernel_rfl,
 m17:=by kernel_rfl,
 m18:=by kernel_rfl,
 m19:=by kernel_rfl}
end Go.Proofs.YtlpmnmbebkdocaaGreatDoor
namespace Go.Proofs.YtlpmnmbebkdocaaGreatDoor
open Go.RowKit Go.Shelf
set_option linter.unusedVariables false
def zK (n:Int):List UInt8:=Lib.itoa n++[32]
def qe (b:Bool):List UInt8:=[if b then 43 else 45]
def jb (m:ak):List UInt8:=zK m.aR++zK m.left++zK m.got++zK m.bC++qe m.bR
def qD (p:aG):List UInt8:=qe p.own++zK p.state.day++p.state.aF.flatMap zK++p.state.used.flatMap qe++p.state.aO.flatMap jb
theorem HZ (B n:Nat) (i:Int) (h0 : -9223372036854775808≤i) (h1:i≤9223372036854775807) (sv:Value) (xs:List Value) (w:World) (hown:w.ownsRow B 5 1 sv n xs) (hBw:B≤w.heap.size) (hlim:n+21≤140737488355328)
 (htab : Lib.TabBelow Tryz.prog B w "internal/strconv.uint64pow10" .u64 Lib.pow10Tab) :
 Calls Tryz.prog 122 #[sv,.int .i64 i,.int .i64 10] w fun e w'=>∃ v',e=.returned v'∧w'.ownsRow B 5 1 v' (n+(Lib.itoa i).length) (xs++Lib.byteCells (Lib.itoa i))∧RowKit.Below B w w'∧Lib.OthersKept 5 none w w':=Any.strconv_AppendInt_10 Tryz.sQ B n i h0 h1 sv xs w hown hBw hlim htab
theorem yv:(Tryz.prog.info? 5).map (fun i=>(i.zero,i.size,i.bytes))=some (some (.int .u8 0),1,1):=by kernel_rfl
structure TI (B Bo:Nat) (W:World) (xs:List UInt8) (w:World):Prop where
 below:Below B W w
 lt:B≤Bo
 own:∃ v,w.heap[Bo]?=some (.cells #[v] 172 (0,0))∧w.ownsRow B 5 1 v xs.length (Lib.byteCells xs)
theorem WS {B Bo:Nat} {w:World} {v x:Value} {n:Nat} {xs:List Value} (hv:w.heap[Bo]?=some (.cells #[x] 172 (0,0))) (hown:w.ownsRow B 5 1 v n xs):v.ownBlock≠some Bo:=by
 intro e
 rcases hown.2 with ⟨rfl,_⟩ | ⟨g,cap,cur,rfl,_,hh,_⟩
 ·simp [Value.ownBlock] at e
 ·simp [Value.ownBlock] at e
  subst e
  rw [hh] at hv
  simp at hv
theorem TI.push {B Bo n:Nat} {W w w2:World} {xs:List UInt8} {ys:List Value} {v v' x:Value} {c:UInt8} {o:Obj} (hb:Below B W w) (hlt:B≤Bo) (hv:w.heap[Bo]?=some (.cells #[x] 172 (0,0))) (hown:w.ownsRow B 5 1 v n ys)
  (cS:w2.ownsRow B 5 1 v' (xs.length+1) (Lib.byteCells xs++[.int .u8 c.toNat])) (hg:(w.alloc o).grownBy w2 v.ownBlock) :
  (∃ g cap,v'=.slice (some ⟨g,0,none⟩) (xs.length+1) cap)∧(w2.heap[Bo]?=some (.cells #[x] 172 (0,0)))∧TI B Bo W (xs++[c]) (w2.setCell ⟨Bo,0,none⟩ v')∧Lib.OthersKept 5 (some Bo) w (w2.setCell ⟨Bo,0,none⟩ v'):=by
 have A8:=lt_of_block hv
 have h2:w2.heap[Bo]?=some (.cells #[x] 172 (0,0)):=by
  rw [hg.block Bo (by simp;omega) (fun e=>WS hv hown e.symm)]
  exact (Below.heap_alloc _ _ _ A8).trans hv
 have mO:Below B W w2:=(hb.alloc (by omega) o).grown hg (by simp;omega) (fun k hk=>(hown.lt k hk).1)
 refine ⟨?_,h2,⟨mO.setCell (by exact hlt) _,hlt,v',one_setCell h2,?_⟩,?_⟩
 ·rcases cS.2 with ⟨_,h0⟩ | ⟨g,cap,cur,rfl,_⟩
  ·omega
  ·exact ⟨g,cap,rfl⟩
 ·refine ownsRow_setCell_other ?_ (WS h2 cS) _
  simpa [Lib.byteCells] using cS
 ·refine Lib.OthersKept.setCell (b:=Bo) (Lib.OthersKept.grown ((Lib.OthersKept.refl _ _ _).alloc o) hg ?_) ⟨Bo,0,none⟩ rfl _
  intro g Cd
  have:=hown.lt g Cd
  rcases hown.2 with ⟨rfl,_⟩ | ⟨g',cap,cur,rfl,_,hh,_⟩
  ·simp [Value.ownBlock] at Cd
  ·simp [Value.ownBlock] at Cd
   subst Cd
   exact ⟨cur,(0,0),(Below.heap_alloc _ _ _ this.2).trans hh⟩
set_option maxHeartbeats 1600000 in
set_option maxRecDepth 100000 in
theorem Rr (B Bo:Nat) (W:World) (xs:List UInt8) (b:Bool) (w:World) (h:TI B Bo W xs w) (hlen:xs.length≤2000000000) :
  Calls Tryz.prog 123 #[.bool b,.pointer (some ⟨Bo,0,none⟩)] w fun e w'=>e=.returned (.tuple #[])∧TI B Bo W (xs++qe b) w'∧Lib.OthersKept 5 (some Bo) w w':=by
 obtain ⟨hb,hlt,v,hv,hown⟩:=h
 obtain ⟨i0,hi,gO,iz,iH⟩:=info_parts yv
 have cW:=cell_of_one hv
 have fW:=free_of_one hv
 have A8:=lt_of_block hv
 cases b with
 | true=>
  go_enter Tryz.func123,Tryz.ntmps123
  go_wp2_with (at_builtin;refine wpList_append_own _ rfl _ _ 172 rfl B 5 i0 (.int .u8 0) 1 1 Tryz.underlying172 hi gO iz iH rfl (by decide) _ _ _ rfl (hown.alloc _) ⟨w.heap.size,0,none⟩ 1 1 [Value.int .u8 43] rfl rfl ?c1 ?c2 ?c3 ?c4 ?c5 ?_)
  case c1=>
   intro j u hj
   match j,hj with
   | 0,hj=>simp at hj;subst hj;simp [Addr.add]
  case c2=>intro u hu;simp at hu;subst hu;rfl
  case c3=>unfold maxLen;omega
  case c4=>omega
  case c5=>simp;omega
  intro v' w2 cS hgrow _
  obtain ⟨⟨g',cap',rfl⟩,h2,hT,hK⟩:=TI.push (c:=43) hb hlt hv hown cS hgrow
  have A9:=cell_of_one h2
  have Ba:=free_of_one h2
  clear cS hgrow hown
  go_wp2
  go_end0
  exact ⟨rfl,hT,hK⟩
 | false=>
  go_enter Tryz.func123,Tryz.ntmps123
  go_wp2_with (at_builtin;refine wpList_append_own _ rfl _ _ 172 rfl B 5 i0 (.int .u8 0) 1 1 Tryz.underlying172 hi gO iz iH rfl (by decide) _ _ _ rfl (hown.alloc _) ⟨w.heap.size,0,none⟩ 1 1 [Value.int .u8 45] rfl rfl ?c1 ?c2 ?c3 ?c4 ?c5 ?_)
  case c1=>
   intro j u hj
   match j,hj with
   | 0,hj=>simp at hj;subst hj;simp [Addr.add]
  case c2=>intro u hu;simp at hu;subst hu;rfl
  case c3=>unfold maxLen;omega
  case c4=>omega
  case c5=>simp;omega
  intro v' w2 cS hgrow _
  obtain ⟨⟨g',cap',rfl⟩,h2,hT,hK⟩:=TI.push (c:=45) hb hlt hv hown cS hgrow
  have A9:=cell_of_one h2
  have Ba:=free_of_one h2
  clear cS hgrow hown
  go_wp2
  go_end0
  exact ⟨rfl,hT,hK⟩
set_option maxHeartbeats 1600000 in
set_option maxRecDepth 100000 in
theorem Rs (B Bo:Nat) (W:World) (xs:List UInt8) (n:Int) (w:World) (h:TI B Bo W xs w) (hlen:xs.length≤2000000000) (h0 : -9223372036854775808≤n) (h1:n≤9223372036854775807)
  (htab : Lib.TabBelow Tryz.prog B W "internal/strconv.uint64pow10" .u64 Lib.pow10Tab) :
  Calls Tryz.prog 121 #[.int .i64 n,.pointer (some ⟨Bo,0,none⟩)] w fun e w'=>e=.returned (.tuple #[])∧TI B Bo W (xs++zK n) w'∧Lib.OthersKept 5 (some Bo) w w':=by
 obtain ⟨hb,hlt,v,hv,hown⟩:=h
 obtain ⟨i0,hi,gO,iz,iH⟩:=info_parts yv
 have cW:=cell_of_one hv
 have fW:=free_of_one hv
 have A8:=lt_of_block hv
 have la:=Lib.itoa_length_le n h0 h1
 go_enter Tryz.func121,Tryz.ntmps121
 go_wp2_with (go_at_call 122;refine (HZ B _ n h0 h1 v _ w hown (by omega) (by omega) (htab.on hb)).mono ?_;rintro e w1 ⟨v1,rfl,fk,sR,hk1⟩;refine Hid.out ?_)
 refine Lib.hid ?_
 rw [←ua,show Lib.byteCells xs++Lib.byteCells (Lib.itoa n)=Lib.byteCells (xs++Lib.itoa n) from by simp [Lib.byteCells]] at fk
 have ni:w1.heap[Bo]?=some (.cells #[v] 172 (0,0)):=hk1 Bo _ hv (by simp) (by intro c fz e;simp at e)
 have pM:Below B W w1:=hb.trans sR
 have D0:=lt_of_block ni
 have ig:(xs++Lib.itoa n).length≤2000000100:=by rw [ua];omega
 obtain ⟨ys,hys⟩:∃ l,l=xs++Lib.itoa n:=⟨_,rfl⟩
 rw [←hys] at fk ig
 have HY:=Lib.hid hys
 clear hys cW fW
 go_wp2_with (at_builtin;refine wpList_append_own _ rfl _ _ 172 rfl B 5 i0 (.int .u8 0) 1 1 Tryz.underlying172 hi gO iz iH rfl (by decide) _ _ _ rfl (fk.alloc _) ⟨w1.heap.size,0,none⟩ 1 1 [Value.int .u8 32] rfl rfl ?c1 ?c2 ?c3 ?c4 ?c5 ?_)
 case c1=>
  intro j u hj
  match j,hj with
  | 0,hj=>simp at hj;subst hj;simp [Addr.add]
 case c2=>intro u hu;simp at hu;subst hu;rfl
 case c3=>unfold maxLen;omega
 case c4=>omega
 case c5=>simp;omega
 intro v' w2 cS hgrow _
 obtain ⟨⟨g',cap',rfl⟩,h2,hT,hK⟩:=TI.push (c:=32) pM hlt ni fk cS hgrow
 have A9:=cell_of_one h2
 have Ba:=free_of_one h2
 clear cS hgrow hown fk
 go_wp2
 go_end0
 have hys:=HY.out
 subst hys
 refine ⟨rfl,?_,?_⟩
 ·simpa [zK] using hT
 ·exact Lib.OthersKept.trans (fun k o hk _ ho=>hk1 k o hk (by simp) ho) hK
section
def jz (n:Int):Bool:=decide (-9223372036854775808≤n)&&decide (n≤9223372036854775807)
def tW (p:aG):Bool:=jz p.state.day&&p.state.aF.all jz&&p.state.aO.all (fun m=>jz m.aR&&jz m.left&&jz m.got&&jz m.bC)&&decide ((qD p).length≤1000000000)
def xj (p:aG):Option ByteArray:=if tW p then some ⟨(qD p).toArray⟩ else none
structure TB (B Bo:Nat) (W:World) (vs:Array Value) (xs:List UInt8) (w:World):Prop where
 ti:TI B Bo W xs w
 bo:B < Bo
 box:w.heap[B]?=some (.cells vs 52 (0,0))
def MB (Bm:Nat) (vs:Array Value) (w:World):Prop:=w.heap[Bm]?=some (.cells vs 79 (0,0))
theorem TB.of {B Bo:Nat} {W w w':World} {vs:Array Value} {xs ys:List UInt8} (h:TB B Bo W vs xs w) (hT:TI B Bo W ys w') (hK:Lib.OthersKept 5 (some Bo) w w'):TB B Bo W vs ys w':=
 ⟨hT,h.bo,hK B _ h.box (by have:=h.bo;simp;omega) (by intro c fz e;simp at e)⟩
theorem MB.of {B Bo Bm:Nat} {W w w':World} {vs ms:Array Value} {xs:List UInt8} (h:TB B Bo W vs xs w) (hm:MB Bm ms w) (hK:Lib.OthersKept 5 (some Bo) w w'):MB Bm ms w':=by
 refine hK Bm _ hm ?_ (by intro c fz e;simp at e)
 intro e
 obtain ⟨v,hv,_⟩:=h.ti.own
 cases e
 unfold MB at hm
 rw [hv] at hm
 simp at hm
theorem Kf {B Bo:Nat} {W w:World} {vs:Array Value} {xs:List UInt8} (b:Bool) (h:TB B Bo W vs xs w) (hlen:xs.length≤2000000000) :
  Calls Tryz.prog 123 #[.bool b,.pointer (some ⟨Bo,0,none⟩)] w fun e w'=>e=.returned (.tuple #[])∧TB B Bo W vs (xs++qe b) w'∧(∀ Bm ms,MB Bm ms w→MB Bm ms w'):=
 (Rr B Bo W xs b w h.ti hlen).mono fun e w' ⟨h1,h2,h3⟩=>⟨h1,h.of h2 h3,fun _ _ hm=>MB.of h hm h3⟩
theorem yw {B Bo:Nat} {W w:World} {vs:Array Value} {xs:List UInt8} (n:Int) (h:TB B Bo W vs xs w) (hlen:xs.length≤2000000000) (hn:jz n=true)
  (htab : Lib.TabBelow Tryz.prog B W "internal/strconv.uint64pow10" .u64 Lib.pow10Tab) :
  Calls Tryz.prog 121 #[.int .i64 n,.pointer (some ⟨Bo,0,none⟩)] w fun e w'=>e=.returned (.tuple #[])∧TB B Bo W vs (xs++zK n) w'∧(∀ Bm ms,MB Bm ms w→MB Bm ms w'):=by
 simp only [jz,ub,decide_eq_true_eq] at hn
 exact (Rs B Bo W xs n w h.ti hlen hn.1 hn.2 htab).mono fun e w' ⟨h1,h2,h3⟩=>⟨h1,h.of h2 h3,fun _ _ hm=>MB.of h hm h3⟩
theorem TB.cell {B Bo:Nat} {W w:World} {vs:Array Value} {xs:List UInt8} (h:TB B Bo W vs xs w) (j:Nat):w.cell? ⟨B,j,none⟩=vs[j]?:=by
 have:=h.box
 simp [World.cell?,this]
theorem MB.cell {Bm:Nat} {w:World} {vs:Array Value} (h:MB Bm vs w) (j:Nat):w.cell? ⟨Bm,j,none⟩=vs[j]?:=by
 unfold MB at h
 simp [World.cell?,h]
section
variable {B Bo Bm:Nat} {W w:World} {a b c d e:Value} {xs:List UInt8}
theorem TB.c0 (h:TB B Bo W #[a,b,c,d,e] xs w):w.cell? ⟨B,0,none⟩=some a:=h.cell 0
theorem TB.c1 (h:TB B Bo W #[a,b,c,d,e] xs w):w.cell? ⟨B,1,none⟩=some b:=h.cell 1
theorem TB.c2 (h:TB B Bo W #[a,b,c,d,e] xs w):w.cell? ⟨B,2,none⟩=some c:=h.cell 2
theorem TB.c3 (h:TB B Bo W #[a,b,c,d,e] xs w):w.cell? ⟨B,3,none⟩=some d:=h.cell 3
theorem TB.c4 (h:TB B Bo W #[a,b,c,d,e] xs w):w.cell? ⟨B,4,none⟩=some e:=h.cell 4
theorem MB.c0 (h:MB Bm #[a,b,c,d,e] w):w.cell? ⟨Bm,0,none⟩=some a:=h.cell 0
theorem MB.c1 (h:MB Bm #[a,b,c,d,e] w):w.cell? ⟨Bm,1,none⟩=some b:=h.cell 1
theorem MB.c2 (h:MB Bm #[a,b,c,d,e] w):w.cell? ⟨Bm,2,none⟩=some c:=h.cell 2
theorem MB.c3 (h:MB Bm #[a,b,c,d,e] w):w.cell? ⟨Bm,3,none⟩=some d:=h.cell 3
theorem MB.c4 (h:MB Bm #[a,b,c,d,e] w):w.cell? ⟨Bm,4,none⟩=some e:=h.cell 4
end
def t1 (p:aG):List UInt8:=qe p.own++zK p.state.day
def t2 (p:aG) (k:Nat):List UInt8:=t1 p++(p.state.aF.take k).flatMap zK
def t3 (p:aG) (k:Nat):List UInt8:=t1 p++p.state.aF.flatMap zK++(p.state.used.take k).flatMap qe
def t4 (p:aG) (k:Nat):List UInt8:=t1 p++p.state.aF.flatMap zK++p.state.used.flatMap qe++(p.state.aO.take k).flatMap jb
theorem Kg {α:Type} (f:α→List UInt8) (l:List α) (k:Nat):((l.take k).flatMap f).length≤(l.flatMap f).length:=by
 conv=>rhs;rw [←List.take_append_drop k l]
 rw [ug,ua]
 omega
theorem Wg {α:Type} (f:α→List UInt8) (l:List α) (k:Nat) (h:k < l.length):(l.take (k+1)).flatMap f=(l.take k).flatMap f++f l[k]:=by
 rw [List.take_succ_eq_append_getElem h,ug];simp
theorem H6 (p:aG) (k:Nat):(t2 p k).length≤(qD p).length:=by
 have:=Kg zK p.state.aF k
 simp only [t2,t1,qD,ua];omega
theorem Rt (p:aG) (k:Nat):(t3 p k).length≤(qD p).length:=by
 have:=Kg qe p.state.used k
 simp only [t3,t1,qD,ua];omega
theorem H7 (p:aG) (k:Nat):(t4 p k).length≤(qD p).length:=by
 have:=Kg jb p.state.aO k
 simp only [t4,t1,qD,ua];omega
theorem Wh {α:Type} (f:α→List UInt8) (l:List α) (h:∀ a,1≤(f a).length):l.length≤(l.flatMap f).length:=by
 induction l with
 | nil=>simp
 | cons a l ih=>have:=h a;simp only [List.flatMap_cons,ua,ue];omega
theorem Ru (p:aG):p.state.aO.length≤(qD p).length:=by
 have:=Wh jb p.state.aO (fun a=>by simp only [jb,qe,ua,ue];omega)
 simp only [qD,ua];omega
theorem Rv (p:aG):p.state.used.length≤(qD p).length:=by
 have:=Wh qe p.state.used (fun a=>by simp [qe])
 simp only [qD,ua];omega
theorem Rw (p:aG):p.state.aF.length≤(qD p).length:=by
 have:=Wh zK p.state.aF (fun a=>by simp [zK])
 simp only [qD,ua];omega
set_option maxHeartbeats 6400000 in
set_option maxRecDepth 1000000 in
theorem Rx (p:aG) (W:World) (ah au am:Option Addr) (ch cu cm:Nat) (hok:tW p=true)
  (htab : Lib.TabBelow Tryz.prog W.heap.size W "internal/strconv.uint64pow10" .u64 Lib.pow10Tab)
  (hh:∀ k (hk:k < p.state.aF.length),∃ b off,ah=some ⟨b,off,none⟩∧b < W.heap.size∧W.cell? ⟨b,off+k,none⟩=some (.int .i64 p.state.aF[k]))
  (hu:∀ k (hk:k < p.state.used.length),∃ b off,au=some ⟨b,off,none⟩∧b < W.heap.size∧W.cell? ⟨b,off+k,none⟩=some (.bool p.state.used[k]))
  (hm:∀ k (hk:k < p.state.aO.length),∃ b off,am=some ⟨b,off,none⟩∧b < W.heap.size∧W.cell? ⟨b,off+k*5,none⟩=some (.int .i64 p.state.aO[k].aR)∧W.cell? ⟨b,off+k*5+1,none⟩=some (.int .i64 p.state.aO[k].left) ∧
   W.cell? ⟨b,off+k*5+2,none⟩=some (.int .i64 p.state.aO[k].got)∧W.cell? ⟨b,off+k*5+3,none⟩=some (.int .i64 p.state.aO[k].bC)∧W.cell? ⟨b,off+k*5+4,none⟩=some (.bool p.state.aO[k].bR)) :
  Calls Tryz.prog 77 #[.agg #[.int .i64 p.state.day,.slice ah p.state.aF.length ch,.slice au p.state.used.length cu,.slice am p.state.aO.length cm,.bool p.own]] W
   fun e w'=>e=.returned (.string ⟨(qD p).toArray⟩)∧Below W.heap.size W w':=by
 have Ry:∀ (fn:Fn) (first cap:Array Value) (w:World),(Instr.makeFunc fn first cap).run Tryz.prog w=.ok (.func fn first cap) w:=fun _ _ _ _=>rfl
 obtain ⟨i0,hi,gO,iz,iH⟩:=info_parts yv
 simp only [tW,ub,decide_eq_true_eq,ui] at hok
 obtain ⟨⟨⟨hd,Bb⟩,nL⟩,hlen⟩:=hok
 have hml:=Ru p
 have Rz:=Rv p
 have RA:=Rw p
 go_enter Tryz.func77,Tryz.ntmps77
 go_wp2_with (at_make;refine wpList_make_own _ rfl _ _ 172 rfl W.heap.size 5 i0 (.int .u8 0) 1 Tryz.underlying172 hi gO iz .i64 .i64 (32+12*(p.state.aO.length:Int)) (32+12*p.state.aO.length) rfl rfl (by omega) (by rw [iH];omega) (by unfold maxLen;omega) (by simp) ?_;intro w1 hown hgrow;refine Hid.out ?_)
 refine Lib.hid ?_
 have sS:w1.heap[W.heap.size]?=some (.cells #[.int .i64 p.state.day,.slice ah p.state.aF.length ch,.slice au p.state.used.length cu,.slice am p.state.aO.length cm,.bool p.own] 52 (0,0)):=by
  rw [hgrow.block W.heap.size (by simp) (by simp)]
  exact zW W _
 have hw1:W.heap.size+1≤w1.heap.size:=by have:=hgrow.size;simpa using this
 have mO:Below W.heap.size W w1:=((Below.refl _ _).alloc (uj _) _).grown hgrow (by simp) (fun k hk=>by cases hk)
 clear hgrow
 have sU:TB W.heap.size w1.heap.size W #[.int .i64 p.state.day,.slice ah p.state.aF.length ch,.slice au p.state.used.length cu,.slice am p.state.aO.length cm,.bool p.own] []
   (w1.alloc (.cells #[.slice (some ⟨W.heap.size+1,0,none⟩) 0 (32+12*p.state.aO.length)] 172)):=by
  refine ⟨⟨mO.alloc (by omega) _,by omega,_,zW _ _,?_⟩,by omega,(Below.heap_alloc _ _ _ (by omega)).trans sS⟩
  have:=hown.alloc (.cells #[.slice (some ⟨W.heap.size+1,0,none⟩) 0 (32+12*p.state.aO.length)] 172)
  simpa [Lib.byteCells] using this
 have c0:=sU.c4
 have lI:(qe p.own).length≤2000000000:=by simp [qe]
 have ig:(t1 p).length≤2000000000:=by have:=H6 p 0;simp [t2] at this;omega
 clear hown sS
 go_wp2_with (first
  | (go_at_call 123;refine (Kf p.own sU (by simp)).mono ?_;rintro e w2 ⟨rfl,h2,_⟩;have c2:=h2.c0)
  | (go_at_call 121;refine (yw p.state.day h2 (by simpa using lI) hd htab).mono ?_;rintro e w3 ⟨rfl,h3,_⟩;have c3:=h3.c1))
 have l7:TB W.heap.size w1.heap.size W #[.int .i64 p.state.day,.slice ah p.state.aF.length ch,.slice au p.state.used.length cu,.slice am p.state.aO.length cm,.bool p.own] (t2 p 0) w3:=by simpa [t2,t1] using h3
 clear h3 h2 sU c0 c2 c3
 go_loopw [34] (fun i wr=>∃ k:Nat,k≤p.state.aF.length∧i=.int .i64 k∧TB W.heap.size w1.heap.size W #[.int .i64 p.state.day,.slice ah p.state.aF.length ch,.slice au p.state.used.length cu,.slice am p.state.aO.length cm,.bool p.own] (t2 p k) wr)
  (fun i _=>p.state.aF.length - (intOf i).toNat)
 case atStart=>exact ⟨0,ud _,rfl,l7⟩
 case round=>
  obtain ⟨k,hk,rfl,dM⟩:=hrel
  clear l7
  have hlk:=H6 p k
  by_cases fF:k < p.state.aF.length
  ·obtain ⟨b,off,rfl,iZ,n9⟩:=hh k fF
   have tH:wr.cell? ⟨b,off+k,none⟩=some (.int .i64 p.state.aF[k]):=(dM.ti.below.cell (by exact iZ)).trans n9
   have hin:=Bb _ (uc fF)
   go_wp2_with (go_at_call 121;refine (yw p.state.aF[k] dM (by omega) hin htab).mono ?_;rintro e w4 ⟨rfl,h4,_⟩)
   go_roundw
   case rel=>exact ⟨k+1,by omega,by go_num,by simpa [t2,Wg _ _ _ fF] using h4⟩
   case measure=>simp [intOf];omega
  ·have c2:=dM.c2
   go_wp2
   obtain rfl:k=p.state.aF.length:=by omega
   have l7:TB W.heap.size w1.heap.size W #[.int .i64 p.state.day,.slice ah p.state.aF.length ch,.slice au p.state.used.length cu,.slice am p.state.aO.length cm,.bool p.own] (t3 p 0) wr:=by simpa [t2,t3] using dM
   clear dM c2 hlk
   obtain ⟨wo,rfl⟩:∃ wo:World,wo=wr:=⟨_,rfl⟩
   go_loopw [46] (fun i wr=>∃ k:Nat,k≤p.state.used.length∧i=.int .i64 k∧TB W.heap.size w1.heap.size W #[.int .i64 p.state.day,.slice ah p.state.aF.length ch,.slice au p.state.used.length cu,.slice am p.state.aO.length cm,.bool p.own] (t3 p k) wr)
    (fun i _=>p.state.used.length - (intOf i).toNat)
   case atStart=>exact ⟨0,ud _,rfl,l7⟩
   case round=>
    obtain ⟨k,hk,rfl,dM⟩:=hrel
    clear l7
    have hlk:=Rt p k
    by_cases fF:k < p.state.used.length
    ·obtain ⟨b,off,rfl,iZ,n9⟩:=hu k fF
     have tH:wr.cell? ⟨b,off+k,none⟩=some (.bool p.state.used[k]):=(dM.ti.below.cell (by exact iZ)).trans n9
     go_wp2_with (go_at_call 123;refine (Kf p.state.used[k] dM (by omega)).mono ?_;rintro e w4 ⟨rfl,h4,_⟩)
     go_roundw
     case rel=>exact ⟨k+1,by omega,by go_num,by simpa [t3,Wg _ _ _ fF] using h4⟩
     case measure=>simp [intOf];omega
    ·have c2:=dM.c3
     go_wp2
     obtain rfl:k=p.state.used.length:=by omega
     have l7:TB W.heap.size w1.heap.size W #[.int .i64 p.state.day,.slice ah p.state.aF.length ch,.slice au p.state.used.length cu,.slice am p.state.aO.length cm,.bool p.own] (t4 p 0) wr:=by simpa [t3,t4] using dM
     clear dM c2 hlk
     obtain ⟨RB,rfl⟩:∃ wo:World,wo=wr:=⟨_,rfl⟩
     go_loopw [58] (fun i wr=>∃ k:Nat,k≤p.state.aO.length∧i=.int .i64 k∧TB W.heap.size w1.heap.size W #[.int .i64 p.state.day,.slice ah p.state.aF.length ch,.slice au p.state.used.length cu,.slice am p.state.aO.length cm,.bool p.own] (t4 p k) wr)
      (fun i _=>p.state.aO.length - (intOf i).toNat)
     case atStart=>exact ⟨0,ud _,rfl,l7⟩
     case round=>
      obtain ⟨k,hk,rfl,dM⟩:=hrel
      clear l7
      have hlk:=H7 p k
      by_cases fF:k < p.state.aO.length
      ·obtain ⟨b,off,rfl,iZ,hc0,eX,eY,nQ,sV⟩:=hm k fF
       have hin:=nL _ (uc fF)
       have eF:t4 p (k+1)=t4 p k++jb p.state.aO[k]:=by simp [t4,Wg _ _ _ fF]
       obtain ⟨m,hmk⟩:∃ m,m=p.state.aO[k]:=⟨_,rfl⟩
       rw [←hmk] at hc0 eX eY nQ sV hin eF
       clear hmk
       have lN:=(dM.ti.below.cell (p:=⟨b,off+k*5,none⟩) (by exact iZ)).trans hc0
       have o4:=(dM.ti.below.cell (p:=⟨b,off+k*5+1,none⟩) (by exact iZ)).trans eX
       have hd2:=(dM.ti.below.cell (p:=⟨b,off+k*5+2,none⟩) (by exact iZ)).trans eY
       have sB:=(dM.ti.below.cell (p:=⟨b,off+k*5+3,none⟩) (by exact iZ)).trans nQ
       have D1:=(dM.ti.below.cell (p:=⟨b,off+k*5+4,none⟩) (by exact iZ)).trans sV
       clear hc0 eX eY nQ sV
       have Be:TB W.heap.size w1.heap.size W #[.int .i64 p.state.day,.slice ah p.state.aF.length ch,.slice au p.state.used.length cu,.slice (some ⟨b,off,none⟩) p.state.aO.length cm,.bool p.own] (t4 p k) (wr.alloc (.cells #[.int .i64 m.aR,.int .i64 m.left,.int .i64 m.got,.int .i64 m.bC,.bool m.bR] 79)):=
        dM.of ⟨dM.ti.below.alloc (by have:=dM.ti.below.size;omega) _,dM.ti.lt,by obtain ⟨v,hv,ho⟩:=dM.ti.own;exact ⟨v,(Below.heap_alloc _ _ _ (lt_of_block hv)).trans hv,ho.alloc _⟩⟩ ((Lib.OthersKept.refl _ _ _).alloc _)
       have sW:MB wr.heap.size #[.int .i64 m.aR,.int .i64 m.left,.int .i64 m.got,.int .i64 m.bC,.bool m.bR] (wr.alloc (.cells #[.int .i64 m.aR,.int .i64 m.left,.int .i64 m.got,.int .i64 m.bC,.bool m.bR] 79)):=zW _ _
       have e1:=sW.c0
       have l1:(t4 p k++zK m.aR).length≤2000000000∧(t4 p k++zK m.aR++zK m.left).length≤2000000000∧(t4 p k++zK m.aR++zK m.left++zK m.got).length≤2000000000 ∧
         (t4 p k++zK m.aR++zK m.left++zK m.got++zK m.bC).length≤2000000000:=by
        have:=H7 p (k+1)
        rw [eF] at this
        simp only [jb,ua] at this ⊢
        omega
       have l0:(t4 p k).length≤2000000000:=by omega
       have HL:=Lib.hid l1
       have HS:=Lib.hid eF
       clear l1 dM eF
       go_wp2_with (go_at_call 121;refine (yw m.aR Be l0 hin.1.1.1 htab).mono ?_;rintro e w5 ⟨rfl,h5,k5⟩;have m5:=k5 _ _ sW;have e5:=m5.c1;refine Hid.out ?_)
       refine Lib.hid ?_
       clear lN o4 hd2 sB D1 e1 Be sW k5
       go_wp2_with (go_at_call 121;refine (yw m.left h5 HL.out.1 hin.1.1.2 htab).mono ?_;rintro e w6 ⟨rfl,h6,k6⟩;have m6:=k6 _ _ m5;have e6:=m6.c2;refine Hid.out ?_)
       refine Lib.hid ?_
       clear e5 h5 m5 k6
       go_wp2_with (go_at_call 121;refine (yw m.got h6 HL.out.2.1 hin.1.2 htab).mono ?_;rintro e w7 ⟨rfl,h7,k7⟩;have m7:=k7 _ _ m6;have e7:=m7.c3;refine Hid.out ?_)
       refine Lib.hid ?_
       clear e6 h6 m6 k7
       go_wp2_with (go_at_call 121;refine (yw m.bC h7 HL.out.2.2.1 hin.2 htab).mono ?_;rintro e w8 ⟨rfl,h8,k8⟩;have m8:=k8 _ _ m7;have e8:=m8.c4;refine Hid.out ?_)
       refine Lib.hid ?_
       clear e7 h7 m7 k8
       go_wp2_with (go_at_call 123;refine (Kf m.bR h8 HL.out.2.2.2).mono ?_;rintro e w9 ⟨rfl,h9,-⟩)
       go_roundw
       case rel=>exact ⟨k+1,by omega,by go_num,by rw [HS.out];simpa [jb] using h9⟩
       case measure=>simp [intOf];omega
      ·obtain rfl:k=p.state.aO.length:=by omega
       have hT:TB W.heap.size w1.heap.size W #[.int .i64 p.state.day,.slice ah p.state.aF.length ch,.slice au p.state.used.length cu,.slice am p.state.aO.length cm,.bool p.own] (qD p) wr:=by simpa [t4,qD,t1] using dM
       obtain ⟨⟨nS,hlt,v,hv,hown⟩,AW,sS⟩:=hT
       have hpos:0 < (qD p).length:=by simp [qD,qe]
       rcases hown.2 with ⟨-,h0⟩ | ⟨g,cap,cur,rfl,-,-,-,-,-,-⟩
       ·omega
       ·have cW:=cell_of_one hv
        have hcv:=run_convert_bytes_back (P:=Tryz.prog) wr 172 9 5 ⟨g,0,none⟩ cap (qD p) Tryz.underlying172 Tryz.underlying5 Tryz.underlying9 (fun j hj=>hown.cells (g:=g) rfl j _ (by simp [Lib.byteCells,hj]))
        go_wp2
        go_ret
        exact ⟨rfl,nS⟩
theorem RI.dN {α:Type} {Z:Nat→Nat} {w:World} {f:α→List IV} {l:List α} {v:Value} (sz:Nat) (hf:∀ a,(f a).length=sz) (h0:0 < sz) (hz:∀ b,0 < Z b→b < w.heap.size) (h:RI Z w (.slice (l.map f)) v) :
  ∃ a cap,v=.slice a l.length cap∧∀ k (hk:k < l.length),∃ b off,a=some ⟨b,off,none⟩∧b < w.heap.size∧∀ j c,(f l[k])[j]?=some c→∃ cv,w.cell? ⟨b,off+k*sz+j,none⟩=some cv∧RI Z w c cv:=by
 generalize hx:IV.slice (l.map f)=x at h
 cases h with
 | bool b=>cases hx
 | int k n=>cases hx
 | str s=>cases hx
 | agg cs vs hl h1 hr=>cases hx
 | tuple cs vs hl hr=>cases hx
 | iface t x v hr=>cases hx
 | cP=>cases hx
 | eI=>cases hx
 | nil=>
  have:l=[]:=by simpa using hx
  subst this
  exact ⟨none,0,rfl,fun k hk=>by simp at hk⟩
 | empty a cap=>
  have:l=[]:=by simpa using hx
  subst this
  exact ⟨some a,cap,rfl,fun k hk=>by simp at hk⟩
 | slice af b off cap sz' cv hcap hsz gL hc hr=>
  obtain rfl:l.map f=af:=by injection hx
  refine ⟨some ⟨b,off,none⟩,cap,by simp,fun k hk=>⟨b,off,rfl,?_,fun j c hj => ?_⟩⟩
  ·have hrow:(l.map f)[k]?=some (f l[k]):=by simp [hk]
   have hne:0 < (f l[k]).length:=by rw [hf];exact h0
   have:=gL k _ 0 _ hrow (List.getElem?_eq_getElem hne)
   exact hz b (by omega)
  ·have hrow:(l.map f)[k]?=some (f l[k]):=by simp [hk]
   have h1:=hsz k _ hrow
   rw [hf] at h1
   subst h1
   exact ⟨_,(hc k _ j c hrow hj).1,hr k _ j c hrow hj⟩
theorem RI.cT {Z:Nat→Nat} {w:World} {k:IntKind} {n:Int} {v:Value} (h:RI Z w (.int k n) v):v=.int k n:=by cases h;rfl
theorem RI.fp {Z:Nat→Nat} {w:World} {b:Bool} {v:Value} (h:RI Z w (.bool b) v):v=.bool b:=by cases h;rfl
theorem QH (p:aG) (res:ByteArray) (hd:xj p=some res):aJ C0 81 [.agg (aG.row p)] (.str res):=by
 refine ⟨⟨Tryz.f77,by kernel_rfl,by kernel_rfl,by kernel_rfl⟩,fun Z w vs hz sX hr => ?_⟩
 unfold xj at hd
 split at hd
 ·rename_i hok
  cases hd
  obtain ⟨hl,hr⟩:=hr
  match vs,hl with
  | [v],_=>
   have h0:=hr 0 _ _ rfl rfl
   generalize hx:IV.agg (aG.row p)=x at h0
   cases h0 with
   | bool b=>cases hx
   | int k n=>cases hx
   | str s=>cases hx
   | nil=>cases hx
   | empty a cap=>cases hx
   | slice af b off cap sz' cv hcap hsz gL hc hr=>cases hx
   | tuple cs vs hl hr=>cases hx
   | iface t x v hr=>cases hx
   | cP=>cases hx
   | eI=>cases hx
   | agg cs vs hl h1 cz=>
    obtain rfl:aG.row p=cs:=by injection hx
    match vs,hl with
    | [a,b,c,d,e],_=>
     have r0:=RI.cT (cz 0 _ _ rfl rfl)
     have r4:=RI.fp (cz 4 _ _ rfl rfl)
     obtain ⟨ah,ch,rfl,vh⟩:=RI.dN 1 (fun _=>rfl) (by omega) hz (cz 1 _ _ rfl rfl)
     obtain ⟨au,cu,rfl,vu⟩:=RI.dN 1 (fun _=>rfl) (by omega) hz (cz 2 _ _ rfl rfl)
     obtain ⟨am,cm,rfl,vm⟩:=RI.dN 5 (fun _=>rfl) (by omega) hz (cz 3 _ _ rfl rfl)
     subst r0 r4
     refine (Rx p w ah au am ch cu cm hok (Lib.tabBelow_of_tabIs sX.1) (fun k hk => ?_) (fun k hk => ?_) (fun k hk => ?_)).mono fun e w' ⟨he,hb⟩=>⟨_,Z,he,.str _,fun _ _=>rfl,fun b hb'=>uh (hz b hb') hb.size,hb⟩
     ·obtain ⟨b,off,h1,h2,h3⟩:=vh k hk
      obtain ⟨cv,h4,h5⟩:=h3 0 _ rfl
      rw [RI.cT h5] at h4
      exact ⟨b,off,h1,h2,by simpa using h4⟩
     ·obtain ⟨b,off,h1,h2,h3⟩:=vu k hk
      obtain ⟨cv,h4,h5⟩:=h3 0 _ rfl
      rw [RI.fp h5] at h4
      exact ⟨b,off,h1,h2,by simpa using h4⟩
     ·obtain ⟨b,off,h1,h2,h3⟩:=vm k hk
      obtain ⟨c0,g0,q0⟩:=h3 0 _ rfl
      obtain ⟨c1,g1,q1⟩:=h3 1 _ rfl
      obtain ⟨c2,g2,q2⟩:=h3 2 _ rfl
      obtain ⟨c3,g3,q3⟩:=h3 3 _ rfl
      obtain ⟨c4,g4,q4⟩:=h3 4 _ rfl
      rw [RI.cT q0] at g0
      rw [RI.cT q1] at g1
      rw [RI.cT q2] at g2
      rw [RI.cT q3] at g3
      rw [RI.fp q4] at g4
      exact ⟨b,off,h1,h2,by simpa using g0,g1,g2,g3,g4⟩
 ·cases hd
end
def qG (p:aH):List UInt8:=zK p.day++p.aF.flatMap zK++p.used.flatMap qe++p.aO.flatMap jb
set_option maxHeartbeats 1600000 in
set_option maxRecDepth 100000 in
theorem RC (B Bo:Nat) (W:World) (xs:List UInt8) (b:Bool) (w:World) (h:TI B Bo W xs w) (hlen:xs.length≤2000000000) :
  Calls Tryz.prog 151 #[.bool b,.pointer (some ⟨Bo,0,none⟩)] w fun e w'=>e=.returned (.tuple #[])∧TI B Bo W (xs++qe b) w'∧Lib.OthersKept 5 (some Bo) w w':=by
 obtain ⟨hb,hlt,v,hv,hown⟩:=h
 obtain ⟨i0,hi,gO,iz,iH⟩:=info_parts yv
 have cW:=cell_of_one hv
 have fW:=free_of_one hv
 have A8:=lt_of_block hv
 cases b with
 | true=>
  go_enter Tryz.func151,Tryz.ntmps151
  go_wp2_with (at_builtin;refine wpList_append_own _ rfl _ _ 172 rfl B 5 i0 (.int .u8 0) 1 1 Tryz.underlying172 hi gO iz iH rfl (by decide) _ _ _ rfl (hown.alloc _) ⟨w.heap.size,0,none⟩ 1 1 [Value.int .u8 43] rfl rfl ?c1 ?c2 ?c3 ?c4 ?c5 ?_)
  case c1=>
   intro j u hj
   match j,hj with
   | 0,hj=>simp at hj;subst hj;simp [Addr.add]
  case c2=>intro u hu;simp at hu;subst hu;rfl
  case c3=>unfold maxLen;omega
  case c4=>omega
  case c5=>simp;omega
  intro v' w2 cS hgrow _
  obtain ⟨⟨g',cap',rfl⟩,h2,hT,hK⟩:=TI.push (c:=43) hb hlt hv hown cS hgrow
  have A9:=cell_of_one h2
  have Ba:=free_of_one h2
  clear cS hgrow hown
  go_wp2
  go_end0
  exact ⟨rfl,hT,hK⟩
 | false=>
  go_enter Tryz.func151,Tryz.ntmps151
  go_wp2_with (at_builtin;refine wpList_append_own _ rfl _ _ 172 rfl B 5 i0 (.int .u8 0) 1 1 Tryz.underlying172 hi gO iz iH rfl (by decide) _ _ _ rfl (hown.alloc _) ⟨w.heap.size,0,none⟩ 1 1 [Value.int .u8 45] rfl rfl ?c1 ?c2 ?c3 ?c4 ?c5 ?_)
  case c1=>
   intro j u hj
   match j,hj with
   | 0,hj=>simp at hj;subst hj;simp [Addr.add]
  case c2=>intro u hu;simp at hu;subst hu;rfl
  case c3=>unfold maxLen;omega
  case c4=>omega
  case c5=>simp;omega
  intro v' w2 cS hgrow _
  obtain ⟨⟨g',cap',rfl⟩,h2,hT,hK⟩:=TI.push (c:=45) hb hlt hv hown cS hgrow
  have A9:=cell_of_one h2
  have Ba:=free_of_one h2
  clear cS hgrow hown
  go_wp2
  go_end0
  exact ⟨rfl,hT,hK⟩
set_option maxHeartbeats 1600000 in
set_option maxRecDepth 100000 in
theorem RD (B Bo:Nat) (W:World) (xs:List UInt8) (n:Int) (w:World) (h:TI B Bo W xs w) (hlen:xs.length≤2000000000) (h0 : -9223372036854775808≤n) (h1:n≤9223372036854775807)
  (htab : Lib.TabBelow Tryz.prog B W "internal/strconv.uint64pow10" .u64 Lib.pow10Tab) :
  Calls Tryz.prog 150 #[.int .i64 n,.pointer (some ⟨Bo,0,none⟩)] w fun e w'=>e=.returned (.tuple #[])∧TI B Bo W (xs++zK n) w'∧Lib.OthersKept 5 (some Bo) w w':=by
 obtain ⟨hb,hlt,v,hv,hown⟩:=h
 obtain ⟨i0,hi,gO,iz,iH⟩:=info_parts yv
 have cW:=cell_of_one hv
 have fW:=free_of_one hv
 have A8:=lt_of_block hv
 have la:=Lib.itoa_length_le n h0 h1
 go_enter Tryz.func150,Tryz.ntmps150
 go_wp2_with (go_at_call 122;refine (HZ B _ n h0 h1 v _ w hown (by omega) (by omega) (htab.on hb)).mono ?_;rintro e w1 ⟨v1,rfl,fk,sR,hk1⟩;refine Hid.out ?_)
 refine Lib.hid ?_
 rw [←ua,show Lib.byteCells xs++Lib.byteCells (Lib.itoa n)=Lib.byteCells (xs++Lib.itoa n) from by simp [Lib.byteCells]] at fk
 have ni:w1.heap[Bo]?=some (.cells #[v] 172 (0,0)):=hk1 Bo _ hv (by simp) (by intro c fz e;simp at e)
 have pM:Below B W w1:=hb.trans sR
 have D0:=lt_of_block ni
 have ig:(xs++Lib.itoa n).length≤2000000100:=by rw [ua];omega
 obtain ⟨ys,hys⟩:∃ l,l=xs++Lib.itoa n:=⟨_,rfl⟩
 rw [←hys] at fk ig
 have HY:=Lib.hid hys
 clear hys cW fW
 go_wp2_with (at_builtin;refine wpList_append_own _ rfl _ _ 172 rfl B 5 i0 (.int .u8 0) 1 1 Tryz.underlying172 hi gO iz iH rfl (by decide) _ _ _ rfl (fk.alloc _) ⟨w1.heap.size,0,none⟩ 1 1 [Value.int .u8 32] rfl rfl ?c1 ?c2 ?c3 ?c4 ?c5 ?_)
 case c1=>
  intro j u hj
  match j,hj with
  | 0,hj=>simp at hj;subst hj;simp [Addr.add]
 case c2=>intro u hu;simp at hu;subst hu;rfl
 case c3=>unfold maxLen;omega
 case c4=>omega
 case c5=>simp;omega
 intro v' w2 cS hgrow _
 obtain ⟨⟨g',cap',rfl⟩,h2,hT,hK⟩:=TI.push (c:=32) pM hlt ni fk cS hgrow
 have A9:=cell_of_one h2
 have Ba:=free_of_one h2
 clear cS hgrow hown fk
 go_wp2
 go_end0
 have hys:=HY.out
 subst hys
 refine ⟨rfl,?_,?_⟩
 ·simpa [zK] using hT
 ·exact Lib.OthersKept.trans (fun k o hk _ ho=>hk1 k o hk (by simp) ho) hK
def Ce (p:aH):Bool:=jz p.day&&p.aF.all jz&&p.aO.all (fun m=>jz m.aR&&jz m.left&&jz m.got&&jz m.bC)&&decide ((qG p).length≤1000000000)
def Zf (p:aH):Option ByteArray:=if Ce p then some ⟨(qG p).toArray⟩ else none
structure fX (B Bo:Nat) (W:World) (vs:Array Value) (xs:List UInt8) (w:World):Prop where
 ti:TI B Bo W xs w
 bo:B < Bo
 box:w.heap[B]?=some (.cells vs 37 (0,0))
theorem fX.of {B Bo:Nat} {W w w':World} {vs:Array Value} {xs ys:List UInt8} (h:fX B Bo W vs xs w) (hT:TI B Bo W ys w') (hK:Lib.OthersKept 5 (some Bo) w w'):fX B Bo W vs ys w':=
 ⟨hT,h.bo,hK B _ h.box (by have:=h.bo;simp;omega) (by intro c fz e;simp at e)⟩
theorem MB.H8 {B Bo Bm:Nat} {W w w':World} {vs ms:Array Value} {xs:List UInt8} (h:fX B Bo W vs xs w) (hm:MB Bm ms w) (hK:Lib.OthersKept 5 (some Bo) w w'):MB Bm ms w':=by
 refine hK Bm _ hm ?_ (by intro c fz e;simp at e)
 intro e
 obtain ⟨v,hv,_⟩:=h.ti.own
 cases e
 unfold MB at hm
 rw [hv] at hm
 simp at hm
theorem H9 {B Bo:Nat} {W w:World} {vs:Array Value} {xs:List UInt8} (b:Bool) (h:fX B Bo W vs xs w) (hlen:xs.length≤2000000000) :
  Calls Tryz.prog 151 #[.bool b,.pointer (some ⟨Bo,0,none⟩)] w fun e w'=>e=.returned (.tuple #[])∧fX B Bo W vs (xs++qe b) w'∧(∀ Bm ms,MB Bm ms w→MB Bm ms w'):=
 (RC B Bo W xs b w h.ti hlen).mono fun e w' ⟨h1,h2,h3⟩=>⟨h1,h.of h2 h3,fun _ _ hm=>MB.H8 h hm h3⟩
theorem vw {B Bo:Nat} {W w:World} {vs:Array Value} {xs:List UInt8} (n:Int) (h:fX B Bo W vs xs w) (hlen:xs.length≤2000000000) (hn:jz n=true)
  (htab : Lib.TabBelow Tryz.prog B W "internal/strconv.uint64pow10" .u64 Lib.pow10Tab) :
  Calls Tryz.prog 150 #[.int .i64 n,.pointer (some ⟨Bo,0,none⟩)] w fun e w'=>e=.returned (.tuple #[])∧fX B Bo W vs (xs++zK n) w'∧(∀ Bm ms,MB Bm ms w→MB Bm ms w'):=by
 simp only [jz,ub,decide_eq_true_eq] at hn
 exact (RD B Bo W xs n w h.ti hlen hn.1 hn.2 htab).mono fun e w' ⟨h1,h2,h3⟩=>⟨h1,h.of h2 h3,fun _ _ hm=>MB.H8 h hm h3⟩
theorem fX.cell {B Bo:Nat} {W w:World} {vs:Array Value} {xs:List UInt8} (h:fX B Bo W vs xs w) (j:Nat):w.cell? ⟨B,j,none⟩=vs[j]?:=by
 have:=h.box
 simp [World.cell?,this]
theorem fX.c0 {B Bo:Nat} {W w:World} {a b c d:Value} {xs:List UInt8} (h:fX B Bo W #[a,b,c,d] xs w):w.cell? ⟨B,0,none⟩=some a:=h.cell 0
theorem fX.c1 {B Bo:Nat} {W w:World} {a b c d:Value} {xs:List UInt8} (h:fX B Bo W #[a,b,c,d] xs w):w.cell? ⟨B,1,none⟩=some b:=h.cell 1
theorem fX.c2 {B Bo:Nat} {W w:World} {a b c d:Value} {xs:List UInt8} (h:fX B Bo W #[a,b,c,d] xs w):w.cell? ⟨B,2,none⟩=some c:=h.cell 2
theorem fX.c3 {B Bo:Nat} {W w:World} {a b c d:Value} {xs:List UInt8} (h:fX B Bo W #[a,b,c,d] xs w):w.cell? ⟨B,3,none⟩=some d:=h.cell 3
def pO (p:aH):List UInt8:=zK p.day
def rH (p:aH) (k:Nat):List UInt8:=pO p++(p.aF.take k).flatMap zK
def sY (p:aH) (k:Nat):List UInt8:=pO p++p.aF.flatMap zK++(p.used.take k).flatMap qe
def mU (p:aH) (k:Nat):List UInt8:=pO p++p.aF.flatMap zK++p.used.flatMap qe++(p.aO.take k).flatMap jb
theorem Ia (p:aH) (k:Nat):(rH p k).length≤(qG p).length:=by
 have:=Kg zK p.aF k
 simp only [rH,pO,qG,ua];omega
theorem RF (p:aH) (k:Nat):(sY p k).length≤(qG p).length:=by
 have:=Kg qe p.used k
 simp only [sY,pO,qG,ua];omega
theorem Ib (p:aH) (k:Nat):(mU p k).length≤(qG p).length:=by
 have:=Kg jb p.aO k
 simp only [mU,pO,qG,ua];omega
theorem RG (p:aH):p.aO.length≤(qG p).length:=by
 have:=Wh jb p.aO (fun a=>by simp only [jb,qe,ua,ue];omega)
 simp only [qG,ua];omega
theorem RJ (p:aH):p.used.length≤(qG p).length:=by
 have:=Wh qe p.used (fun a=>by simp [qe])
 simp only [qG,ua];omega
theorem RK (p:aH):p.aF.length≤(qG p).length:=by
 have:=Wh zK p.aF (fun a=>by simp [zK])
 simp only [qG,ua];omega
set_option maxHeartbeats 6400000 in
set_option maxRecDepth 1000000 in
theorem RL (p:aH) (W:World) (ah au am:Option Addr) (ch cu cm:Nat) (hok:Ce p=true)
  (htab : Lib.TabBelow Tryz.prog W.heap.size W "internal/strconv.uint64pow10" .u64 Lib.pow10Tab)
  (hh:∀ k (hk:k < p.aF.length),∃ b off,ah=some ⟨b,off,none⟩∧b < W.heap.size∧W.cell? ⟨b,off+k,none⟩=some (.int .i64 p.aF[k]))
  (hu:∀ k (hk:k < p.used.length),∃ b off,au=some ⟨b,off,none⟩∧b < W.heap.size∧W.cell? ⟨b,off+k,none⟩=some (.bool p.used[k]))
  (hm:∀ k (hk:k < p.aO.length),∃ b off,am=some ⟨b,off,none⟩∧b < W.heap.size∧W.cell? ⟨b,off+k*5,none⟩=some (.int .i64 p.aO[k].aR)∧W.cell? ⟨b,off+k*5+1,none⟩=some (.int .i64 p.aO[k].left) ∧
   W.cell? ⟨b,off+k*5+2,none⟩=some (.int .i64 p.aO[k].got)∧W.cell? ⟨b,off+k*5+3,none⟩=some (.int .i64 p.aO[k].bC)∧W.cell? ⟨b,off+k*5+4,none⟩=some (.bool p.aO[k].bR)) :
  Calls Tryz.prog 140 #[.agg #[.int .i64 p.day,.slice ah p.aF.length ch,.slice au p.used.length cu,.slice am p.aO.length cm]] W
   fun e w'=>e=.returned (.string ⟨(qG p).toArray⟩)∧Below W.heap.size W w':=by
 have Ry:∀ (fn:Fn) (first cap:Array Value) (w:World),(Instr.makeFunc fn first cap).run Tryz.prog w=.ok (.func fn first cap) w:=fun _ _ _ _=>rfl
 obtain ⟨i0,hi,gO,iz,iH⟩:=info_parts yv
 simp only [Ce,ub,decide_eq_true_eq,ui] at hok
 obtain ⟨⟨⟨hd,Bb⟩,nL⟩,hlen⟩:=hok
 have hml:=RG p
 have Rz:=RJ p
 have RA:=RK p
 go_enter Tryz.func140,Tryz.ntmps140
 go_wp2_with (at_make;refine wpList_make_own _ rfl _ _ 172 rfl W.heap.size 5 i0 (.int .u8 0) 1 Tryz.underlying172 hi gO iz .i64 .i64 (32+12*(p.aO.length:Int)) (32+12*p.aO.length) rfl rfl (by omega) (by rw [iH];omega) (by unfold maxLen;omega) (by simp) ?_;intro w1 hown hgrow;refine Hid.out ?_)
 refine Lib.hid ?_
 have sS:w1.heap[W.heap.size]?=some (.cells #[.int .i64 p.day,.slice ah p.aF.length ch,.slice au p.used.length cu,.slice am p.aO.length cm] 37 (0,0)):=by
  rw [hgrow.block W.heap.size (by simp) (by simp)]
  exact zW W _
 have hw1:W.heap.size+1≤w1.heap.size:=by have:=hgrow.size;simpa using this
 have mO:Below W.heap.size W w1:=((Below.refl _ _).alloc (uj _) _).grown hgrow (by simp) (fun k hk=>by cases hk)
 clear hgrow
 have sU:fX W.heap.size w1.heap.size W #[.int .i64 p.day,.slice ah p.aF.length ch,.slice au p.used.length cu,.slice am p.aO.length cm] []
   (w1.alloc (.cells #[.slice (some ⟨W.heap.size+1,0,none⟩) 0 (32+12*p.aO.length)] 172)):=by
  refine ⟨⟨mO.alloc (by omega) _,by omega,_,zW _ _,?_⟩,by omega,(Below.heap_alloc _ _ _ (by omega)).trans sS⟩
  have:=hown.alloc (.cells #[.slice (some ⟨W.heap.size+1,0,none⟩) 0 (32+12*p.aO.length)] 172)
  simpa [Lib.byteCells] using this
 have c0:=sU.c0
 have ig:(pO p).length≤2000000000:=by have:=Ia p 0;simp [rH] at this;omega
 clear hown sS
 go_wp2_with (go_at_call 150;refine (vw p.day sU (by simp) hd htab).mono ?_;rintro e w3 ⟨rfl,h3,_⟩;have c3:=h3.c1)
 have l7:fX W.heap.size w1.heap.size W #[.int .i64 p.day,.slice ah p.aF.length ch,.slice au p.used.length cu,.slice am p.aO.length cm] (rH p 0) w3:=by simpa [rH,pO] using h3
 clear h3 sU c0 c3
 go_loopw [27] (fun i wr=>∃ k:Nat,k≤p.aF.length∧i=.int .i64 k∧fX W.heap.size w1.heap.size W #[.int .i64 p.day,.slice ah p.aF.length ch,.slice au p.used.length cu,.slice am p.aO.length cm] (rH p k) wr)
  (fun i _=>p.aF.length - (intOf i).toNat)
 case atStart=>exact ⟨0,ud _,rfl,l7⟩
 case round=>
  obtain ⟨k,hk,rfl,dM⟩:=hrel
  clear l7
  have hlk:=Ia p k
  by_cases fF:k < p.aF.length
  ·obtain ⟨b,off,rfl,iZ,n9⟩:=hh k fF
   have tH:wr.cell? ⟨b,off+k,none⟩=some (.int .i64 p.aF[k]):=(dM.ti.below.cell (by exact iZ)).trans n9
   have hin:=Bb _ (uc fF)
   go_wp2_with (go_at_call 150;refine (vw p.aF[k] dM (by omega) hin htab).mono ?_;rintro e w4 ⟨rfl,h4,_⟩)
   go_roundw
   case rel=>exact ⟨k+1,by omega,by go_num,by simpa [rH,Wg _ _ _ fF] using h4⟩
   case measure=>simp [intOf];omega
  ·have c2:=dM.c2
   go_wp2
   obtain rfl:k=p.aF.length:=by omega
   have l7:fX W.heap.size w1.heap.size W #[.int .i64 p.day,.slice ah p.aF.length ch,.slice au p.used.length cu,.slice am p.aO.length cm] (sY p 0) wr:=by simpa [rH,sY] using dM
   clear dM c2 hlk
   obtain ⟨wo,rfl⟩:∃ wo:World,wo=wr:=⟨_,rfl⟩
   go_loopw [38] (fun i wr=>∃ k:Nat,k≤p.used.length∧i=.int .i64 k∧fX W.heap.size w1.heap.size W #[.int .i64 p.day,.slice ah p.aF.length ch,.slice au p.used.length cu,.slice am p.aO.length cm] (sY p k) wr)
    (fun i _=>p.used.length - (intOf i).toNat)
   case atStart=>exact ⟨0,ud _,rfl,l7⟩
   case round=>
    obtain ⟨k,hk,rfl,dM⟩:=hrel
    clear l7
    have hlk:=RF p k
    by_cases fF:k < p.used.length
    ·obtain ⟨b,off,rfl,iZ,n9⟩:=hu k fF
     have tH:wr.cell? ⟨b,off+k,none⟩=some (.bool p.used[k]):=(dM.ti.below.cell (by exact iZ)).trans n9
     go_wp2_with (go_at_call 151;refine (H9 p.used[k] dM (by omega)).mono ?_;rintro e w4 ⟨rfl,h4,_⟩)
     go_roundw
     case rel=>exact ⟨k+1,by omega,by go_num,by simpa [sY,Wg _ _ _ fF] using h4⟩
     case measure=>simp [intOf];omega
    ·have c2:=dM.c3
     go_wp2
     obtain rfl:k=p.used.length:=by omega
     have l7:fX W.heap.size w1.heap.size W #[.int .i64 p.day,.slice ah p.aF.length ch,.slice au p.used.length cu,.slice am p.aO.length cm] (mU p 0) wr:=by simpa [sY,mU] using dM
     clear dM c2 hlk
     obtain ⟨RB,rfl⟩:∃ wo:World,wo=wr:=⟨_,rfl⟩
     go_loopw [49] (fun i wr=>∃ k:Nat,k≤p.aO.length∧i=.int .i64 k∧fX W.heap.size w1.heap.size W #[.int .i64 p.day,.slice ah p.aF.length ch,.slice au p.used.length cu,.slice am p.aO.length cm] (mU p k) wr)
      (fun i _=>p.aO.length - (intOf i).toNat)
     case atStart=>exact ⟨0,ud _,rfl,l7⟩
     case round=>
      obtain ⟨k,hk,rfl,dM⟩:=hrel
      clear l7
      have hlk:=Ib p k
      by_cases fF:k < p.aO.length
      ·obtain ⟨b,off,rfl,iZ,hc0,eX,eY,nQ,sV⟩:=hm k fF
       have hin:=nL _ (uc fF)
       have eF:mU p (k+1)=mU p k++jb p.aO[k]:=by simp [mU,Wg _ _ _ fF]
       obtain ⟨m,hmk⟩:∃ m,m=p.aO[k]:=⟨_,rfl⟩
       rw [←hmk] at hc0 eX eY nQ sV hin eF
       clear hmk
       have lN:=(dM.ti.below.cell (p:=⟨b,off+k*5,none⟩) (by exact iZ)).trans hc0
       have o4:=(dM.ti.below.cell (p:=⟨b,off+k*5+1,none⟩) (by exact iZ)).trans eX
       have hd2:=(dM.ti.below.cell (p:=⟨b,off+k*5+2,none⟩) (by exact iZ)).trans eY
       have sB:=(dM.ti.below.cell (p:=⟨b,off+k*5+3,none⟩) (by exact iZ)).trans nQ
       have D1:=(dM.ti.below.cell (p:=⟨b,off+k*5+4,none⟩) (by exact iZ)).trans sV
       clear hc0 eX eY nQ sV
       have Be:fX W.heap.size w1.heap.size W #[.int .i64 p.day,.slice ah p.aF.length ch,.slice au p.used.length cu,.slice (some ⟨b,off,none⟩) p.aO.length cm] (mU p k) (wr.alloc (.cells #[.int .i64 m.aR,.int .i64 m.left,.int .i64 m.got,.int .i64 m.bC,.bool m.bR] 79)):=
        dM.of ⟨dM.ti.below.alloc (by have:=dM.ti.below.size;omega) _,dM.ti.lt,by obtain ⟨v,hv,ho⟩:=dM.ti.own;exact ⟨v,(Below.heap_alloc _ _ _ (lt_of_block hv)).trans hv,ho.alloc _⟩⟩ ((Lib.OthersKept.refl _ _ _).alloc _)
       have sW:MB wr.heap.size #[.int .i64 m.aR,.int .i64 m.left,.int .i64 m.got,.int .i64 m.bC,.bool m.bR] (wr.alloc (.cells #[.int .i64 m.aR,.int .i64 m.left,.int .i64 m.got,.int .i64 m.bC,.bool m.bR] 79)):=zW _ _
       have e1:=sW.c0
       have l1:(mU p k++zK m.aR).length≤2000000000∧(mU p k++zK m.aR++zK m.left).length≤2000000000∧(mU p k++zK m.aR++zK m.left++zK m.got).length≤2000000000 ∧
         (mU p k++zK m.aR++zK m.left++zK m.got++zK m.bC).length≤2000000000:=by
        have:=Ib p (k+1)
        rw [eF] at this
        simp only [jb,ua] at this ⊢
        omega
       have l0:(mU p k).length≤2000000000:=by omega
       have HL:=Lib.hid l1
       have HS:=Lib.hid eF
       clear l1 dM eF
       go_wp2_with (go_at_call 150;refine (vw m.aR Be l0 hin.1.1.1 htab).mono ?_;rintro e w5 ⟨rfl,h5,k5⟩;have m5:=k5 _ _ sW;have e5:=m5.c1;refine Hid.out ?_)
       refine Lib.hid ?_
       clear lN o4 hd2 sB D1 e1 Be sW k5
       go_wp2_with (go_at_call 150;refine (vw m.left h5 HL.out.1 hin.1.1.2 htab).mono ?_;rintro e w6 ⟨rfl,h6,k6⟩;have m6:=k6 _ _ m5;have e6:=m6.c2;refine Hid.out ?_)
       refine Lib.hid ?_
       clear e5 h5 m5 k6
       go_wp2_with (go_at_call 150;refine (vw m.got h6 HL.out.2.1 hin.1.2 htab).mono ?_;rintro e w7 ⟨rfl,h7,k7⟩;have m7:=k7 _ _ m6;have e7:=m7.c3;refine Hid.out ?_)
       refine Lib.hid ?_
       clear e6 h6 m6 k7
       go_wp2_with (go_at_call 150;refine (vw m.bC h7 HL.out.2.2.1 hin.2 htab).mono ?_;rintro e w8 ⟨rfl,h8,k8⟩;have m8:=k8 _ _ m7;have e8:=m8.c4;refine Hid.out ?_)
       refine Lib.hid ?_
       clear e7 h7 m7 k8
       go_wp2_with (go_at_call 151;refine (H9 m.bR h8 HL.out.2.2.2).mono ?_;rintro e w9 ⟨rfl,h9,-⟩)
       go_roundw
       case rel=>exact ⟨k+1,by omega,by go_num,by rw [HS.out];simpa [jb] using h9⟩
       case measure=>simp [intOf];omega
      ·obtain rfl:k=p.aO.length:=by omega
       have hT:fX W.heap.size w1.heap.size W #[.int .i64 p.day,.slice ah p.aF.length ch,.slice au p.used.length cu,.slice am p.aO.length cm] (qG p) wr:=by simpa [mU,qG,pO] using dM
       obtain ⟨⟨nS,hlt,v,hv,hown⟩,AW,sS⟩:=hT
       have hpos:0 < (qG p).length:=by simp [qG,zK];omega
       rcases hown.2 with ⟨-,h0⟩ | ⟨g,cap,cur,rfl,-,-,-,-,-,-⟩
       ·omega
       ·have cW:=cell_of_one hv
        have hcv:=run_convert_bytes_back (P:=Tryz.prog) wr 172 9 5 ⟨g,0,none⟩ cap (qG p) Tryz.underlying172 Tryz.underlying5 Tryz.underlying9 (fun j hj=>hown.cells (g:=g) rfl j _ (by simp [Lib.byteCells,hj]))
        go_wp2
        go_ret
        exact ⟨rfl,nS⟩
theorem Ie (p:aH) (res:ByteArray) (hd:Zf p=some res):aJ C0 207 [.agg (aH.row p)] (.str res):=by
 refine ⟨⟨Tryz.f140,by kernel_rfl,by kernel_rfl,by kernel_rfl⟩,fun Z w vs hz sX hr => ?_⟩
 unfold Zf at hd
 split at hd
 ·rename_i hok
  cases hd
  obtain ⟨hl,hr⟩:=hr
  match vs,hl with
  | [v],_=>
   have h0:=hr 0 _ _ rfl rfl
   generalize hx:IV.agg (aH.row p)=x at h0
   cases h0 with
   | bool b=>cases hx
   | int k n=>cases hx
   | str s=>cases hx
   | nil=>cases hx
   | empty a cap=>cases hx
   | slice af b off cap sz' cv hcap hsz gL hc hr=>cases hx
   | tuple cs vs hl hr=>cases hx
   | iface t x v hr=>cases hx
   | cP=>cases hx
   | eI=>cases hx
   | agg cs vs hl h1 cz=>
    obtain rfl:aH.row p=cs:=by injection hx
    match vs,hl with
    | [a,b,c,d],_=>
     have r0:=RI.cT (cz 0 _ _ rfl rfl)
     obtain ⟨ah,ch,rfl,vh⟩:=RI.dN 1 (fun _=>rfl) (by omega) hz (cz 1 _ _ rfl rfl)
     obtain ⟨au,cu,rfl,vu⟩:=RI.dN 1 (fun _=>rfl) (by omega) hz (cz 2 _ _ rfl rfl)
     obtain ⟨am,cm,rfl,vm⟩:=RI.dN 5 (fun _=>rfl) (by omega) hz (cz 3 _ _ rfl rfl)
     subst r0
     refine (RL p w ah au am ch cu cm hok (Lib.tabBelow_of_tabIs sX.1) (fun k hk => ?_) (fun k hk => ?_) (fun k hk => ?_)).mono fun e w' ⟨he,hb⟩=>⟨_,Z,he,.str _,fun _ _=>rfl,fun b hb'=>uh (hz b hb') hb.size,hb⟩
     ·obtain ⟨b,off,h1,h2,h3⟩:=vh k hk
      obtain ⟨cv,h4,h5⟩:=h3 0 _ rfl
      rw [RI.cT h5] at h4
      exact ⟨b,off,h1,h2,by simpa using h4⟩
     ·obtain ⟨b,off,h1,h2,h3⟩:=vu k hk
      obtain ⟨cv,h4,h5⟩:=h3 0 _ rfl
      rw [RI.fp h5] at h4
      exact ⟨b,off,h1,h2,by simpa using h4⟩
     ·obtain ⟨b,off,h1,h2,h3⟩:=vm k hk
      obtain ⟨c0,g0,q0⟩:=h3 0 _ rfl
      obtain ⟨c1,g1,q1⟩:=h3 1 _ rfl
      obtain ⟨c2,g2,q2⟩:=h3 2 _ rfl
      obtain ⟨c3,g3,q3⟩:=h3 3 _ rfl
      obtain ⟨c4,g4,q4⟩:=h3 4 _ rfl
      rw [RI.cT q0] at g0
      rw [RI.cT q1] at g1
      rw [RI.cT q2] at g2
      rw [RI.cT q3] at g3
      rw [RI.fp q4] at g4
      exact ⟨b,off,h1,h2,by simpa using g0,g1,g2,g3,g4⟩
 ·cases hd
end Go.Proofs.YtlpmnmbebkdocaaGreatDoor
