/-
  A contract of the library, laid at this program.
  The texts of positions: what the two closures of arena.text do to the bytes at hand.
  The texts of positions: the contract of arena.text.
  'trap.text' writes the text of a state (printed from the texts about arena.text).
-/
import Derived.Test.YtlpmnmbebkdocaaGreatDoorTC06
import Derived.Shelf.Strconv.AppendIntPublic10
import Derived.Lib.AppendIntMem
import Derived.Lib.ItoaLen
import Derived.Lib.Hide
import Derived.Laws.IdiomStrings
import Derived.OwnWalk
import Derived.OneCell
import Derived.WalkKit
import Derived.BigCall
namespace Go.Proofs.YtlpmnmbebkdocaaGreatDoor
open Go.Shelf Go.RowKit
set_option maxRecDepth 100000
def Tryz.laysAI_ren:Go.Shelf.Ren:=⟨fun | 176=>122 | 249=>142 | 288=>152 | 283=>153 | 284=>154 | 285=>155 | 286=>156 | 129=>158 | 317=>157 | 318=>159 | 319=>160 | 320=>161 | 337=>162 | 338=>163 | n=>n,fun | 37=>172 | 2=>2 | 3=>3 | 53=>193 | 4=>4 | 9=>9 | 171=>201 | 0=>0 | 173=>204 | 212=>207 | 51=>208 | 5=>5 | 20=>20 | 213=>209 | 46=>184 | 232=>212 | 233=>213 | n=>n,fun | 17=>0 | 18=>1 | 19=>2 | n=>n⟩
theorem Tryz.laysAI:Go.Proofs.LaysM.n176 Tryz.prog Tryz.laysAI_ren:={
  mixed:=by kernel_rfl,
  f129:=Tryz.func158.trans (congrArg some (by kernel_rfl)),
  f176:=Tryz.func122.trans (congrArg some (by kernel_rfl)),
  f249:=Tryz.func142.trans (congrArg some (by kernel_rfl)),
  f283:=Tryz.func153.trans (congrArg some (by kernel_rfl)),
  f284:=Tryz.func154.trans (congrArg some (by kernel_rfl)),
  f285:=Tryz.func155.trans (congrArg some (by kernel_rfl)),
  f286:=Tryz.func156.trans (congrArg some (by kernel_rfl)),
  f288:=Tryz.func152.trans (congrArg some (by kernel_rfl)),
  f317:=Tryz.func157.trans (congrArg some (by kernel_rfl)),
  f318:=Tryz.func159.trans (congrArg some (by kernel_rfl)),
  f319:=Tryz.func160.trans (congrArg some (by kernel_rfl)),
  f320:=Tryz.func161.trans (congrArg some (by kernel_rfl)),
  f337:=Tryz.func162.trans (congrArg some (by kernel_rfl)),
  f338:=Tryz.func163.trans (congrArg some (by kernel_rfl)),
  t0:=Tryz.underlying0,
  a0:=Tryz.isAgg0,
  z0:=Tryz.sizeOf0,
  v0:=Tryz.zeroValue0,
  t2:=Tryz.underlying2,
  a2:=Tryz.isAgg2,
  z2:=Tryz.sizeOf2,
  v2:=Tryz.zeroValue2,
  t3:=Tryz.underlying3,
  a3:=Tryz.isAgg3,
  z3:=Tryz.sizeOf3,
  v3:=Tryz.zeroValue3,
  t4:=Tryz.underlying4,
  a4:=Tryz.isAgg4,
  z4:=Tryz.sizeOf4,
  v4:=Tryz.zeroValue4,
  t5:=Tryz.underlying5,
  a5:=Tryz.isAgg5,
  z5:=Tryz.sizeOf5,
  v5:=Tryz.zeroValue5,
  t9:=Tryz.underlying9,
  a9:=Tryz.isAgg9,
  z9:=Tryz.sizeOf9,
  v9:=Tryz.zeroValue9,
  t20:=Tryz.underlying20,
  a20:=Tryz.isAgg20,
  z20:=Tryz.sizeOf20,
  v20:=Tryz.zeroValue20,
  t37:=Tryz.underlying172,
  a37:=Tryz.isAgg172,
  z37:=Tryz.sizeOf172,
  v37:=Tryz.zeroValue172,
  t46:=Tryz.underlying184,
  a46:=Tryz.isAgg184,
  z46:=Tryz.sizeOf184,
  v46:=Tryz.zeroValue184,
  t51:=Tryz.underlying208,
  a51:=Tryz.isAgg208,
  z51:=Tryz.sizeOf208,
  v51:=Tryz.zeroValue208,
  t53:=Tryz.underlying193,
  a53:=Tryz.isAgg193,
  z53:=Tryz.sizeOf193,
  v53:=Tryz.zeroValue193,
  t171:=Tryz.underlying201,
  a171:=Tryz.isAgg201,
  z171:=Tryz.sizeOf201,
  v171:=Tryz.zeroValue201,
  t173:=Tryz.underlying204,
  a173:=Tryz.isAgg204,
  z173:=Tryz.sizeOf204,
  v173:=Tryz.zeroValue204,
  t212:=Tryz.underlying207,
  a212:=Tryz.isAgg207,
  z212:=Tryz.sizeOf207,
  v212:=Tryz.zeroValue207,
  t213:=Tryz.underlying209,
  a213:=Tryz.isAgg209,
  z213:=Tryz.sizeOf209,
  t232:=Tryz.underlying212,
  a232:=Tryz.isAgg212,
  z232:=Tryz.sizeOf212,
  v232:=Tryz.zeroValue212,
  t233:=Tryz.underlying213,
  a233:=Tryz.isAgg213,
  z233:=Tryz.sizeOf213,
  v233:=Tryz.zeroValue213,
  g17:=by kernel_rfl,
  g18:=by kernel_rfl,
  g19:=by kernel_rfl,
  i0:=by kernel_rfl,
  i2:=by kernel_rfl,
  i3:=by kernel_rfl,
  i4:=by kernel_rfl,
  i5:=by kernel_rfl,
  i9:=by kernel_rfl,
  i20:=by kernel_rfl,
  i37:=by kernel_rfl,
  i46:=by kernel_rfl,
  i51:=by kernel_rfl,
  i53:=by kernel_rfl,
  i171:=by kernel_rfl,
  i173:=by kernel_rfl,
  i212:=by kernel_rfl,
  i232:=by kernel_rfl,
  i233:=by kernel_rfl,
  m17:=by kernel_rfl,
  m18:=by kernel_rfl,
  m19:=by kernel_rfl}
end Go.Proofs.YtlpmnmbebkdocaaGreatDoor
namespace Go.Proofs.YtlpmnmbebkdocaaGreatDoor
open Go.RowKit Go.Shelf
set_option linter.unusedVariables false
def zB (n:Int):List UInt8:=Lib.itoa n++[32]
def zV (b:Bool):List UInt8:=[if b then 43 else 45]
def qP (m:zw):List UInt8:=zB m.Zam++zB m.left++zB m.got++zB m.Zau++zV m.ZaA
def qo (p:Zah):List UInt8:=zV p.own++zB p.state.day++p.state.Zae.flatMap zB++p.state.used.flatMap zV++p.state.Zaj.flatMap qP
theorem zd2 (B n:Nat) (i:Int) (h0 : -9223372036854775808≤i) (h1:i≤9223372036854775807) (sv:Value) (xs:List Value) (w:World) (hown:w.ownsRow B 5 1 sv n xs) (hBw:B≤w.heap.size) (hlim:n+21≤140737488355328)
    (htab : Lib.TabBelow Tryz.prog B w "internal/strconv.uint64pow10" .u64 Lib.pow10Tab) :
    Calls Tryz.prog 122 #[sv,.int .i64 i,.int .i64 10] w fun e w'=>∃ v',e=.returned v'∧w'.ownsRow B 5 1 v' (n+(Lib.itoa i).length) (xs++Lib.byteCells (Lib.itoa i))∧RowKit.Below B w w'∧Lib.OthersKept 5 none w w':=Any.strconv_AppendInt_10 Tryz.laysAI B n i h0 h1 sv xs w hown hBw hlim htab
theorem vv:(Tryz.prog.info? 5).map (fun i=>(i.zero,i.size,i.bytes))=some (some (.int .u8 0),1,1):=by kernel_rfl
structure TI (B Bo:Nat) (W:World) (xs:List UInt8) (w:World):Prop where
  below:Below B W w
  lt:B≤Bo
  own:∃ v,w.heap[Bo]?=some (.cells #[v] 172 (0,0))∧w.ownsRow B 5 1 v xs.length (Lib.byteCells xs)
theorem Xe {B Bo:Nat} {w:World} {v x:Value} {n:Nat} {xs:List Value} (hv:w.heap[Bo]?=some (.cells #[x] 172 (0,0))) (hown:w.ownsRow B 5 1 v n xs):v.ownBlock≠some Bo:=by
  intro e
  rcases hown.2 with ⟨rfl,_⟩ | ⟨g,cap,cur,rfl,_,hh,_⟩
  · simp [Value.ownBlock] at e
  · simp [Value.ownBlock] at e
    subst e
    rw [hh] at hv
    simp at hv
theorem TI.push {B Bo n:Nat} {W w w2:World} {xs:List UInt8} {ys:List Value} {v v' x:Value} {c:UInt8} {o:Obj} (hb:Below B W w) (hlt:B≤Bo) (hv:w.heap[Bo]?=some (.cells #[x] 172 (0,0))) (hown:w.ownsRow B 5 1 v n ys)
    (hown':w2.ownsRow B 5 1 v' (xs.length+1) (Lib.byteCells xs++[.int .u8 c.toNat])) (hg:(w.alloc o).grownBy w2 v.ownBlock) :
    (∃ g cap,v'=.slice (some ⟨g,0,none⟩) (xs.length+1) cap)∧(w2.heap[Bo]?=some (.cells #[x] 172 (0,0)))∧TI B Bo W (xs++[c]) (w2.setCell ⟨Bo,0,none⟩ v')∧Lib.OthersKept 5 (some Bo) w (w2.setCell ⟨Bo,0,none⟩ v'):=by
  have hBo:=lt_of_block hv
  have h2:w2.heap[Bo]?=some (.cells #[x] 172 (0,0)):=by
    rw [hg.block Bo (by simp;omega) (fun e=>Xe hv hown e.symm)]
    exact (Below.heap_alloc _ _ _ hBo).trans hv
  have hbw:Below B W w2:=(hb.alloc (by omega) o).grown hg (by simp;omega) (fun k hk=>(hown.lt k hk).1)
  refine ⟨?_,h2,⟨hbw.setCell (by exact hlt) _,hlt,v',one_setCell h2,?_⟩,?_⟩
  · rcases hown'.2 with ⟨_,h0⟩ | ⟨g,cap,cur,rfl,_⟩
    · omega
    · exact ⟨g,cap,rfl⟩
  · refine ownsRow_setCell_other ?_ (Xe h2 hown') _
    simpa [Lib.byteCells] using hown'
  · refine Lib.OthersKept.setCell (b:=Bo) (Lib.OthersKept.grown ((Lib.OthersKept.refl _ _ _).alloc o) hg ?_) ⟨Bo,0,none⟩ rfl _
    intro g hgg
    have:=hown.lt g hgg
    rcases hown.2 with ⟨rfl,_⟩ | ⟨g',cap,cur,rfl,_,hh,_⟩
    · simp [Value.ownBlock] at hgg
    · simp [Value.ownBlock] at hgg
      subst hgg
      exact ⟨cur,(0,0),(Below.heap_alloc _ _ _ this.2).trans hh⟩
set_option maxHeartbeats 1600000 in
set_option maxRecDepth 100000 in
theorem zfE (B Bo:Nat) (W:World) (xs:List UInt8) (b:Bool) (w:World) (h:TI B Bo W xs w) (hlen:xs.length≤2000000000) :
    Calls Tryz.prog 123 #[.bool b,.pointer (some ⟨Bo,0,none⟩)] w fun e w'=>e=.returned (.tuple #[])∧TI B Bo W (xs++zV b) w'∧Lib.OthersKept 5 (some Bo) w w':=by
  obtain ⟨hb,hlt,v,hv,hown⟩:=h
  obtain ⟨i0,hi,hz0,hz1,hz2⟩:=info_parts vv
  have cW:=cell_of_one hv
  have fW:=free_of_one hv
  have hBo:=lt_of_block hv
  cases b with
  | true=>
    go_enter Tryz.func123,Tryz.ntmps123
    go_wp2_with (at_builtin;refine wpList_append_own _ rfl _ _ 172 rfl B 5 i0 (.int .u8 0) 1 1 Tryz.underlying172 hi hz0 hz1 hz2 rfl (by decide) _ _ _ rfl (hown.alloc _) ⟨w.heap.size,0,none⟩ 1 1 [Value.int .u8 43] rfl rfl ?c1 ?c2 ?c3 ?c4 ?c5 ?_)
    case c1=>
      intro j u hj
      match j,hj with
      | 0,hj=>simp at hj;subst hj;simp [Addr.add]
    case c2=>intro u hu;simp at hu;subst hu;rfl
    case c3=>unfold maxLen;omega
    case c4=>omega
    case c5=>simp;omega
    intro v' w2 hown' hgrow _
    obtain ⟨⟨g',cap',rfl⟩,h2,hT,hK⟩:=TI.push (c:=43) hb hlt hv hown hown' hgrow
    have cW2:=cell_of_one h2
    have fW2:=free_of_one h2
    clear hown' hgrow hown
    go_wp2
    go_end0
    exact ⟨rfl,hT,hK⟩
  | false=>
    go_enter Tryz.func123,Tryz.ntmps123
    go_wp2_with (at_builtin;refine wpList_append_own _ rfl _ _ 172 rfl B 5 i0 (.int .u8 0) 1 1 Tryz.underlying172 hi hz0 hz1 hz2 rfl (by decide) _ _ _ rfl (hown.alloc _) ⟨w.heap.size,0,none⟩ 1 1 [Value.int .u8 45] rfl rfl ?c1 ?c2 ?c3 ?c4 ?c5 ?_)
    case c1=>
      intro j u hj
      match j,hj with
      | 0,hj=>simp at hj;subst hj;simp [Addr.add]
    case c2=>intro u hu;simp at hu;subst hu;rfl
    case c3=>unfold maxLen;omega
    case c4=>omega
    case c5=>simp;omega
    intro v' w2 hown' hgrow _
    obtain ⟨⟨g',cap',rfl⟩,h2,hT,hK⟩:=TI.push (c:=45) hb hlt hv hown hown' hgrow
    have cW2:=cell_of_one h2
    have fW2:=free_of_one h2
    clear hown' hgrow hown
    go_wp2
    go_end0
    exact ⟨rfl,hT,hK⟩
set_option maxHeartbeats 1600000 in
set_option maxRecDepth 100000 in
theorem zd3 (B Bo:Nat) (W:World) (xs:List UInt8) (n:Int) (w:World) (h:TI B Bo W xs w) (hlen:xs.length≤2000000000) (h0 : -9223372036854775808≤n) (h1:n≤9223372036854775807)
    (htab : Lib.TabBelow Tryz.prog B W "internal/strconv.uint64pow10" .u64 Lib.pow10Tab) :
    Calls Tryz.prog 121 #[.int .i64 n,.pointer (some ⟨Bo,0,none⟩)] w fun e w'=>e=.returned (.tuple #[])∧TI B Bo W (xs++zB n) w'∧Lib.OthersKept 5 (some Bo) w w':=by
  obtain ⟨hb,hlt,v,hv,hown⟩:=h
  obtain ⟨i0,hi,hz0,hz1,hz2⟩:=info_parts vv
  have cW:=cell_of_one hv
  have fW:=free_of_one hv
  have hBo:=lt_of_block hv
  have la:=Lib.itoa_length_le n h0 h1
  go_enter Tryz.func121,Tryz.ntmps121
  go_wp2_with (go_at_call 122;refine (zd2 B _ n h0 h1 v _ w hown (by omega) (by omega) (htab.on hb)).mono ?_;rintro e w1 ⟨v1,rfl,hown1,hnx1,hk1⟩;refine Hid.out ?_)
  refine Lib.hid ?_
  rw [←List.length_append,show Lib.byteCells xs++Lib.byteCells (Lib.itoa n)=Lib.byteCells (xs++Lib.itoa n) from by simp [Lib.byteCells]] at hown1
  have hv1:w1.heap[Bo]?=some (.cells #[v] 172 (0,0)):=hk1 Bo _ hv (by simp) (by intro c fz e;simp at e)
  have hb1:Below B W w1:=hb.trans hnx1
  have hBo1:=lt_of_block hv1
  have hl2:(xs++Lib.itoa n).length≤2000000100:=by rw [List.length_append];omega
  obtain ⟨ys,hys⟩:∃ l,l=xs++Lib.itoa n:=⟨_,rfl⟩
  rw [←hys] at hown1 hl2
  have HY:=Lib.hid hys
  clear hys cW fW
  go_wp2_with (at_builtin;refine wpList_append_own _ rfl _ _ 172 rfl B 5 i0 (.int .u8 0) 1 1 Tryz.underlying172 hi hz0 hz1 hz2 rfl (by decide) _ _ _ rfl (hown1.alloc _) ⟨w1.heap.size,0,none⟩ 1 1 [Value.int .u8 32] rfl rfl ?c1 ?c2 ?c3 ?c4 ?c5 ?_)
  case c1=>
    intro j u hj
    match j,hj with
    | 0,hj=>simp at hj;subst hj;simp [Addr.add]
  case c2=>intro u hu;simp at hu;subst hu;rfl
  case c3=>unfold maxLen;omega
  case c4=>omega
  case c5=>simp;omega
  intro v' w2 hown' hgrow _
  obtain ⟨⟨g',cap',rfl⟩,h2,hT,hK⟩:=TI.push (c:=32) hb1 hlt hv1 hown1 hown' hgrow
  have cW2:=cell_of_one h2
  have fW2:=free_of_one h2
  clear hown' hgrow hown hown1
  go_wp2
  go_end0
  have hys:=HY.out
  subst hys
  refine ⟨rfl,?_,?_⟩
  · simpa [zB] using hT
  · exact Lib.OthersKept.trans (fun k o hk _ ho=>hk1 k o hk (by simp) ho) hK
section
def je (n:Int):Bool:=decide (-9223372036854775808≤n)&&decide (n≤9223372036854775807)
def okP (p:Zah):Bool:=je p.state.day&&p.state.Zae.all je&&p.state.Zaj.all (fun m=>je m.Zam&&je m.left&&je m.got&&je m.Zau)&&decide ((qo p).length≤1000000000)
def jI (p:Zah):Option ByteArray:=if okP p then some ⟨(qo p).toArray⟩ else none
structure TB (B Bo:Nat) (W:World) (vs:Array Value) (xs:List UInt8) (w:World):Prop where
  ti:TI B Bo W xs w
  bo:B < Bo
  box:w.heap[B]?=some (.cells vs 52 (0,0))
def MB (Bm:Nat) (vs:Array Value) (w:World):Prop:=w.heap[Bm]?=some (.cells vs 79 (0,0))
theorem TB.of {B Bo:Nat} {W w w':World} {vs:Array Value} {xs ys:List UInt8} (h:TB B Bo W vs xs w) (hT:TI B Bo W ys w') (hK:Lib.OthersKept 5 (some Bo) w w'):TB B Bo W vs ys w':=
  ⟨hT,h.bo,hK B _ h.box (by have:=h.bo;simp;omega) (by intro c fz e;simp at e)⟩
theorem MB.of {B Bo Bm:Nat} {W w w':World} {vs ms:Array Value} {xs:List UInt8} (h:TB B Bo W vs xs w) (hm:MB Bm ms w) (hK:Lib.OthersKept 5 (some Bo) w w'):MB Bm ms w':=by
  refine hK Bm _ hm ?_ (by intro c fz e;simp at e)
  intro e
  obtain ⟨v,hv,_⟩:=h.ti.own
  cases e
  unfold MB at hm
  rw [hv] at hm
  simp at hm
theorem Vu {B Bo:Nat} {W w:World} {vs:Array Value} {xs:List UInt8} (b:Bool) (h:TB B Bo W vs xs w) (hlen:xs.length≤2000000000) :
    Calls Tryz.prog 123 #[.bool b,.pointer (some ⟨Bo,0,none⟩)] w fun e w'=>e=.returned (.tuple #[])∧TB B Bo W vs (xs++zV b) w'∧(∀ Bm ms,MB Bm ms w→MB Bm ms w'):=
  (zfE B Bo W xs b w h.ti hlen).mono fun e w' ⟨h1,h2,h3⟩=>⟨h1,h.of h2 h3,fun _ _ hm=>MB.of h hm h3⟩
theorem vw {B Bo:Nat} {W w:World} {vs:Array Value} {xs:List UInt8} (n:Int) (h:TB B Bo W vs xs w) (hlen:xs.length≤2000000000) (hn:je n=true)
    (htab : Lib.TabBelow Tryz.prog B W "internal/strconv.uint64pow10" .u64 Lib.pow10Tab) :
    Calls Tryz.prog 121 #[.int .i64 n,.pointer (some ⟨Bo,0,none⟩)] w fun e w'=>e=.returned (.tuple #[])∧TB B Bo W vs (xs++zB n) w'∧(∀ Bm ms,MB Bm ms w→MB Bm ms w'):=by
  simp only [je,Bool.and_eq_true,decide_eq_true_eq] at hn
  exact (zd3 B Bo W xs n w h.ti hlen hn.1 hn.2 htab).mono fun e w' ⟨h1,h2,h3⟩=>⟨h1,h.of h2 h3,fun _ _ hm=>MB.of h hm h3⟩
theorem TB.cell {B Bo:Nat} {W w:World} {vs:Array Value} {xs:List UInt8} (h:TB B Bo W vs xs w) (j:Nat):w.cell? ⟨B,j,none⟩=vs[j]?:=by
  have:=h.box
  simp [World.cell?,this]
theorem MB.cell {Bm:Nat} {w:World} {vs:Array Value} (h:MB Bm vs w) (j:Nat):w.cell? ⟨Bm,j,none⟩=vs[j]?:=by
  unfold MB at h
  simp [World.cell?,h]
section
variable {B Bo Bm:Nat} {W w:World} {a b c d e:Value} {xs:List UInt8}
theorem TB.c0 (h:TB B Bo W #[a,b,c,d,e] xs w):w.cell? ⟨B,0,none⟩=some a:=h.cell 0
theorem TB.c1 (h:TB B Bo W #[a,b,c,d,e] xs w):w.cell? ⟨B,1,none⟩=some b:=h.cell 1
theorem TB.c2 (h:TB B Bo W #[a,b,c,d,e] xs w):w.cell? ⟨B,2,none⟩=some c:=h.cell 2
theorem TB.c3 (h:TB B Bo W #[a,b,c,d,e] xs w):w.cell? ⟨B,3,none⟩=some d:=h.cell 3
theorem TB.c4 (h:TB B Bo W #[a,b,c,d,e] xs w):w.cell? ⟨B,4,none⟩=some e:=h.cell 4
theorem MB.c0 (h:MB Bm #[a,b,c,d,e] w):w.cell? ⟨Bm,0,none⟩=some a:=h.cell 0
theorem MB.c1 (h:MB Bm #[a,b,c,d,e] w):w.cell? ⟨Bm,1,none⟩=some b:=h.cell 1
theorem MB.c2 (h:MB Bm #[a,b,c,d,e] w):w.cell? ⟨Bm,2,none⟩=some c:=h.cell 2
theorem MB.c3 (h:MB Bm #[a,b,c,d,e] w):w.cell? ⟨Bm,3,none⟩=some d:=h.cell 3
theorem MB.c4 (h:MB Bm #[a,b,c,d,e] w):w.cell? ⟨Bm,4,none⟩=some e:=h.cell 4
end
def t1 (p:Zah):List UInt8:=zV p.own++zB p.state.day
def t2 (p:Zah) (k:Nat):List UInt8:=t1 p++(p.state.Zae.take k).flatMap zB
def t3 (p:Zah) (k:Nat):List UInt8:=t1 p++p.state.Zae.flatMap zB++(p.state.used.take k).flatMap zV
def t4 (p:Zah) (k:Nat):List UInt8:=t1 p++p.state.Zae.flatMap zB++p.state.used.flatMap zV++(p.state.Zaj.take k).flatMap qP
theorem Vv {α:Type} (f:α→List UInt8) (l:List α) (k:Nat):((l.take k).flatMap f).length≤(l.flatMap f).length:=by
  conv=>rhs;rw [←List.take_append_drop k l]
  rw [List.flatMap_append,List.length_append]
  omega
theorem JN {α:Type} (f:α→List UInt8) (l:List α) (k:Nat) (h:k < l.length):(l.take (k+1)).flatMap f=(l.take k).flatMap f++f l[k]:=by
  rw [List.take_succ_eq_append_getElem h,List.flatMap_append];simp
theorem zd4 (p:Zah) (k:Nat):(t2 p k).length≤(qo p).length:=by
  have:=Vv zB p.state.Zae k
  simp only [t2,t1,qo,List.length_append];omega
theorem zir (p:Zah) (k:Nat):(t3 p k).length≤(qo p).length:=by
  have:=Vv zV p.state.used k
  simp only [t3,t1,qo,List.length_append];omega
theorem zd5 (p:Zah) (k:Nat):(t4 p k).length≤(qo p).length:=by
  have:=Vv qP p.state.Zaj k
  simp only [t4,t1,qo,List.length_append];omega
theorem JO {α:Type} (f:α→List UInt8) (l:List α) (h:∀ a,1≤(f a).length):l.length≤(l.flatMap f).length:=by
  induction l with
  | nil=>simp
  | cons a l ih=>have:=h a;simp only [List.flatMap_cons,List.length_append,List.length_cons];omega
theorem zd6 (p:Zah):p.state.Zaj.length≤(qo p).length:=by
  have:=JO qP p.state.Zaj (fun a=>by simp only [qP,zV,List.length_append,List.length_cons];omega)
  simp only [qo,List.length_append];omega
theorem zfF (p:Zah):p.state.used.length≤(qo p).length:=by
  have:=JO zV p.state.used (fun a=>by simp [zV])
  simp only [qo,List.length_append];omega
theorem za6 (p:Zah):p.state.Zae.length≤(qo p).length:=by
  have:=JO zB p.state.Zae (fun a=>by simp [zB])
  simp only [qo,List.length_append];omega
set_option maxHeartbeats 6400000 in
set_option maxRecDepth 1000000 in
theorem zfG (p:Zah) (W:World) (ah au am:Option Addr) (ch cu cm:Nat) (hok:okP p=true)
    (htab : Lib.TabBelow Tryz.prog W.heap.size W "internal/strconv.uint64pow10" .u64 Lib.pow10Tab)
    (hh:∀ k (hk:k < p.state.Zae.length),∃ b off,ah=some ⟨b,off,none⟩∧b < W.heap.size∧W.cell? ⟨b,off+k,none⟩=some (.int .i64 p.state.Zae[k]))
    (hu:∀ k (hk:k < p.state.used.length),∃ b off,au=some ⟨b,off,none⟩∧b < W.heap.size∧W.cell? ⟨b,off+k,none⟩=some (.bool p.state.used[k]))
    (hm:∀ k (hk:k < p.state.Zaj.length),∃ b off,am=some ⟨b,off,none⟩∧b < W.heap.size∧W.cell? ⟨b,off+k*5,none⟩=some (.int .i64 p.state.Zaj[k].Zam)∧W.cell? ⟨b,off+k*5+1,none⟩=some (.int .i64 p.state.Zaj[k].left) ∧
      W.cell? ⟨b,off+k*5+2,none⟩=some (.int .i64 p.state.Zaj[k].got)∧W.cell? ⟨b,off+k*5+3,none⟩=some (.int .i64 p.state.Zaj[k].Zau)∧W.cell? ⟨b,off+k*5+4,none⟩=some (.bool p.state.Zaj[k].ZaA)) :
    Calls Tryz.prog 77 #[.agg #[.int .i64 p.state.day,.slice ah p.state.Zae.length ch,.slice au p.state.used.length cu,.slice am p.state.Zaj.length cm,.bool p.own]] W
      fun e w'=>e=.returned (.string ⟨(qo p).toArray⟩)∧Below W.heap.size W w':=by
  have hmf:∀ (fn:Fn) (first cap:Array Value) (w:World),(Instr.makeFunc fn first cap).run Tryz.prog w=.ok (.func fn first cap) w:=fun _ _ _ _=>rfl
  obtain ⟨i0,hi,hz0,hz1,hz2⟩:=info_parts vv
  simp only [okP,Bool.and_eq_true,decide_eq_true_eq,List.all_eq_true] at hok
  obtain ⟨⟨⟨hd,hhs⟩,hms⟩,hlen⟩:=hok
  have hml:=zd6 p
  have hul:=zfF p
  have hhl:=za6 p
  go_enter Tryz.func77,Tryz.ntmps77
  go_wp2_with (at_make;refine wpList_make_own _ rfl _ _ 172 rfl W.heap.size 5 i0 (.int .u8 0) 1 Tryz.underlying172 hi hz0 hz1 .i64 .i64 (32+12*(p.state.Zaj.length:Int)) (32+12*p.state.Zaj.length) rfl rfl (by omega) (by rw [hz2];omega) (by unfold maxLen;omega) (by simp) ?_;intro w1 hown hgrow;refine Hid.out ?_)
  refine Lib.hid ?_
  have hbx:w1.heap[W.heap.size]?=some (.cells #[.int .i64 p.state.day,.slice ah p.state.Zae.length ch,.slice au p.state.used.length cu,.slice am p.state.Zaj.length cm,.bool p.own] 52 (0,0)):=by
    rw [hgrow.block W.heap.size (by simp) (by simp)]
    exact zK W _
  have hw1:W.heap.size+1≤w1.heap.size:=by have:=hgrow.size;simpa using this
  have hbw:Below W.heap.size W w1:=((Below.refl _ _).alloc (Nat.le_refl _) _).grown hgrow (by simp) (fun k hk=>by cases hk)
  clear hgrow
  have hT0:TB W.heap.size w1.heap.size W #[.int .i64 p.state.day,.slice ah p.state.Zae.length ch,.slice au p.state.used.length cu,.slice am p.state.Zaj.length cm,.bool p.own] []
      (w1.alloc (.cells #[.slice (some ⟨W.heap.size+1,0,none⟩) 0 (32+12*p.state.Zaj.length)] 172)):=by
    refine ⟨⟨hbw.alloc (by omega) _,by omega,_,zK _ _,?_⟩,by omega,(Below.heap_alloc _ _ _ (by omega)).trans hbx⟩
    have:=hown.alloc (.cells #[.slice (some ⟨W.heap.size+1,0,none⟩) 0 (32+12*p.state.Zaj.length)] 172)
    simpa [Lib.byteCells] using this
  have c0:=hT0.c4
  have hl1:(zV p.own).length≤2000000000:=by simp [zV]
  have hl2:(t1 p).length≤2000000000:=by have:=zd4 p 0;simp [t2] at this;omega
  clear hown hbx
  go_wp2_with (first
    | (go_at_call 123;refine (Vu p.own hT0 (by simp)).mono ?_;rintro e w2 ⟨rfl,h2,_⟩;have c2:=h2.c0)
    | (go_at_call 121;refine (vw p.state.day h2 (by simpa using hl1) hd htab).mono ?_;rintro e w3 ⟨rfl,h3,_⟩;have c3:=h3.c1))
  have hT3:TB W.heap.size w1.heap.size W #[.int .i64 p.state.day,.slice ah p.state.Zae.length ch,.slice au p.state.used.length cu,.slice am p.state.Zaj.length cm,.bool p.own] (t2 p 0) w3:=by simpa [t2,t1] using h3
  clear h3 h2 hT0 c0 c2 c3
  go_loopw [34] (fun i wr=>∃ k:Nat,k≤p.state.Zae.length∧i=.int .i64 k∧TB W.heap.size w1.heap.size W #[.int .i64 p.state.day,.slice ah p.state.Zae.length ch,.slice au p.state.used.length cu,.slice am p.state.Zaj.length cm,.bool p.own] (t2 p k) wr)
    (fun i _=>p.state.Zae.length - (intOf i).toNat)
  case atStart=>exact ⟨0,Nat.zero_le _,rfl,hT3⟩
  case round=>
    obtain ⟨k,hk,rfl,hTr⟩:=hrel
    clear hT3
    have hlk:=zd4 p k
    by_cases hkl:k < p.state.Zae.length
    · obtain ⟨b,off,rfl,hbB,hcc⟩:=hh k hkl
      have hck:wr.cell? ⟨b,off+k,none⟩=some (.int .i64 p.state.Zae[k]):=(hTr.ti.below.cell (by exact hbB)).trans hcc
      have hin:=hhs _ (List.getElem_mem hkl)
      go_wp2_with (go_at_call 121;refine (vw p.state.Zae[k] hTr (by omega) hin htab).mono ?_;rintro e w4 ⟨rfl,h4,_⟩)
      go_roundw
      case rel=>exact ⟨k+1,by omega,by go_num,by simpa [t2,JN _ _ _ hkl] using h4⟩
      case measure=>simp [intOf];omega
    · have c2:=hTr.c2
      go_wp2
      obtain rfl:k=p.state.Zae.length:=by omega
      have hT3:TB W.heap.size w1.heap.size W #[.int .i64 p.state.day,.slice ah p.state.Zae.length ch,.slice au p.state.used.length cu,.slice am p.state.Zaj.length cm,.bool p.own] (t3 p 0) wr:=by simpa [t2,t3] using hTr
      clear hTr c2 hlk
      obtain ⟨wo,rfl⟩:∃ wo:World,wo=wr:=⟨_,rfl⟩
      go_loopw [46] (fun i wr=>∃ k:Nat,k≤p.state.used.length∧i=.int .i64 k∧TB W.heap.size w1.heap.size W #[.int .i64 p.state.day,.slice ah p.state.Zae.length ch,.slice au p.state.used.length cu,.slice am p.state.Zaj.length cm,.bool p.own] (t3 p k) wr)
        (fun i _=>p.state.used.length - (intOf i).toNat)
      case atStart=>exact ⟨0,Nat.zero_le _,rfl,hT3⟩
      case round=>
        obtain ⟨k,hk,rfl,hTr⟩:=hrel
        clear hT3
        have hlk:=zir p k
        by_cases hkl:k < p.state.used.length
        · obtain ⟨b,off,rfl,hbB,hcc⟩:=hu k hkl
          have hck:wr.cell? ⟨b,off+k,none⟩=some (.bool p.state.used[k]):=(hTr.ti.below.cell (by exact hbB)).trans hcc
          go_wp2_with (go_at_call 123;refine (Vu p.state.used[k] hTr (by omega)).mono ?_;rintro e w4 ⟨rfl,h4,_⟩)
          go_roundw
          case rel=>exact ⟨k+1,by omega,by go_num,by simpa [t3,JN _ _ _ hkl] using h4⟩
          case measure=>simp [intOf];omega
        · have c2:=hTr.c3
          go_wp2
          obtain rfl:k=p.state.used.length:=by omega
          have hT3:TB W.heap.size w1.heap.size W #[.int .i64 p.state.day,.slice ah p.state.Zae.length ch,.slice au p.state.used.length cu,.slice am p.state.Zaj.length cm,.bool p.own] (t4 p 0) wr:=by simpa [t3,t4] using hTr
          clear hTr c2 hlk
          obtain ⟨wo2,rfl⟩:∃ wo:World,wo=wr:=⟨_,rfl⟩
          go_loopw [58] (fun i wr=>∃ k:Nat,k≤p.state.Zaj.length∧i=.int .i64 k∧TB W.heap.size w1.heap.size W #[.int .i64 p.state.day,.slice ah p.state.Zae.length ch,.slice au p.state.used.length cu,.slice am p.state.Zaj.length cm,.bool p.own] (t4 p k) wr)
            (fun i _=>p.state.Zaj.length - (intOf i).toNat)
          case atStart=>exact ⟨0,Nat.zero_le _,rfl,hT3⟩
          case round=>
            obtain ⟨k,hk,rfl,hTr⟩:=hrel
            clear hT3
            have hlk:=zd5 p k
            by_cases hkl:k < p.state.Zaj.length
            · obtain ⟨b,off,rfl,hbB,hc0,hc1,hc2,hc3,hc4⟩:=hm k hkl
              have hin:=hms _ (List.getElem_mem hkl)
              have hsucc:t4 p (k+1)=t4 p k++qP p.state.Zaj[k]:=by simp [t4,JN _ _ _ hkl]
              obtain ⟨m,hmk⟩:∃ m,m=p.state.Zaj[k]:=⟨_,rfl⟩
              rw [←hmk] at hc0 hc1 hc2 hc3 hc4 hin hsucc
              clear hmk
              have hd0:=(hTr.ti.below.cell (p:=⟨b,off+k*5,none⟩) (by exact hbB)).trans hc0
              have hd1:=(hTr.ti.below.cell (p:=⟨b,off+k*5+1,none⟩) (by exact hbB)).trans hc1
              have hd2:=(hTr.ti.below.cell (p:=⟨b,off+k*5+2,none⟩) (by exact hbB)).trans hc2
              have hd3:=(hTr.ti.below.cell (p:=⟨b,off+k*5+3,none⟩) (by exact hbB)).trans hc3
              have hd4:=(hTr.ti.below.cell (p:=⟨b,off+k*5+4,none⟩) (by exact hbB)).trans hc4
              clear hc0 hc1 hc2 hc3 hc4
              have hA1:TB W.heap.size w1.heap.size W #[.int .i64 p.state.day,.slice ah p.state.Zae.length ch,.slice au p.state.used.length cu,.slice (some ⟨b,off,none⟩) p.state.Zaj.length cm,.bool p.own] (t4 p k) (wr.alloc (.cells #[.int .i64 m.Zam,.int .i64 m.left,.int .i64 m.got,.int .i64 m.Zau,.bool m.ZaA] 79)):=
                hTr.of ⟨hTr.ti.below.alloc (by have:=hTr.ti.below.size;omega) _,hTr.ti.lt,by obtain ⟨v,hv,ho⟩:=hTr.ti.own;exact ⟨v,(Below.heap_alloc _ _ _ (lt_of_block hv)).trans hv,ho.alloc _⟩⟩ ((Lib.OthersKept.refl _ _ _).alloc _)
              have hM1:MB wr.heap.size #[.int .i64 m.Zam,.int .i64 m.left,.int .i64 m.got,.int .i64 m.Zau,.bool m.ZaA] (wr.alloc (.cells #[.int .i64 m.Zam,.int .i64 m.left,.int .i64 m.got,.int .i64 m.Zau,.bool m.ZaA] 79)):=zK _ _
              have e1:=hM1.c0
              have l1:(t4 p k++zB m.Zam).length≤2000000000∧(t4 p k++zB m.Zam++zB m.left).length≤2000000000∧(t4 p k++zB m.Zam++zB m.left++zB m.got).length≤2000000000 ∧
                  (t4 p k++zB m.Zam++zB m.left++zB m.got++zB m.Zau).length≤2000000000:=by
                have:=zd5 p (k+1)
                rw [hsucc] at this
                simp only [qP,List.length_append] at this ⊢
                omega
              have l0:(t4 p k).length≤2000000000:=by omega
              have HL:=Lib.hid l1
              have HS:=Lib.hid hsucc
              clear l1 hTr hsucc
              go_wp2_with (go_at_call 121;refine (vw m.Zam hA1 l0 hin.1.1.1 htab).mono ?_;rintro e w5 ⟨rfl,h5,k5⟩;have m5:=k5 _ _ hM1;have e5:=m5.c1;refine Hid.out ?_)
              refine Lib.hid ?_
              clear hd0 hd1 hd2 hd3 hd4 e1 hA1 hM1 k5
              go_wp2_with (go_at_call 121;refine (vw m.left h5 HL.out.1 hin.1.1.2 htab).mono ?_;rintro e w6 ⟨rfl,h6,k6⟩;have m6:=k6 _ _ m5;have e6:=m6.c2;refine Hid.out ?_)
              refine Lib.hid ?_
              clear e5 h5 m5 k6
              go_wp2_with (go_at_call 121;refine (vw m.got h6 HL.out.2.1 hin.1.2 htab).mono ?_;rintro e w7 ⟨rfl,h7,k7⟩;have m7:=k7 _ _ m6;have e7:=m7.c3;refine Hid.out ?_)
              refine Lib.hid ?_
              clear e6 h6 m6 k7
              go_wp2_with (go_at_call 121;refine (vw m.Zau h7 HL.out.2.2.1 hin.2 htab).mono ?_;rintro e w8 ⟨rfl,h8,k8⟩;have m8:=k8 _ _ m7;have e8:=m8.c4;refine Hid.out ?_)
              refine Lib.hid ?_
              clear e7 h7 m7 k8
              go_wp2_with (go_at_call 123;refine (Vu m.ZaA h8 HL.out.2.2.2).mono ?_;rintro e w9 ⟨rfl,h9,-⟩)
              go_roundw
              case rel=>exact ⟨k+1,by omega,by go_num,by rw [HS.out];simpa [qP] using h9⟩
              case measure=>simp [intOf];omega
            · obtain rfl:k=p.state.Zaj.length:=by omega
              have hT:TB W.heap.size w1.heap.size W #[.int .i64 p.state.day,.slice ah p.state.Zae.length ch,.slice au p.state.used.length cu,.slice am p.state.Zaj.length cm,.bool p.own] (qo p) wr:=by simpa [t4,qo,t1] using hTr
              obtain ⟨⟨hbe,hlt,v,hv,hown⟩,hbo,hbx⟩:=hT
              have hpos:0 < (qo p).length:=by simp [qo,zV]
              rcases hown.2 with ⟨-,h0⟩ | ⟨g,cap,cur,rfl,-,-,-,-,-,-⟩
              · omega
              · have cW:=cell_of_one hv
                have hcv:=run_convert_bytes_back (P:=Tryz.prog) wr 172 9 5 ⟨g,0,none⟩ cap (qo p) Tryz.underlying172 Tryz.underlying5 Tryz.underlying9 (fun j hj=>hown.cells (g:=g) rfl j _ (by simp [Lib.byteCells,hj]))
                go_wp2
                go_ret
                exact ⟨rfl,hbe⟩
theorem RI.rows_view {α:Type} {Z:Nat→Nat} {w:World} {f:α→List IV} {l:List α} {v:Value} (sz:Nat) (hf:∀ a,(f a).length=sz) (h0:0 < sz) (hz:∀ b,0 < Z b→b < w.heap.size) (h:RI Z w (.slice (l.map f)) v) :
    ∃ a cap,v=.slice a l.length cap∧∀ k (hk:k < l.length),∃ b off,a=some ⟨b,off,none⟩∧b < w.heap.size∧∀ j c,(f l[k])[j]?=some c→∃ cv,w.cell? ⟨b,off+k*sz+j,none⟩=some cv∧RI Z w c cv:=by
  generalize hx:IV.slice (l.map f)=x at h
  cases h with
  | bool b=>cases hx
  | int k n=>cases hx
  | str s=>cases hx
  | agg cs vs hl h1 hr=>cases hx
  | tuple cs vs hl hr=>cases hx
  | iface t x v hr=>cases hx
  | nomap=>cases hx
  | omap=>cases hx
  | nil=>
    have:l=[]:=by simpa using hx
    subst this
    exact ⟨none,0,rfl,fun k hk=>by simp at hk⟩
  | empty a cap=>
    have:l=[]:=by simpa using hx
    subst this
    exact ⟨some a,cap,rfl,fun k hk=>by simp at hk⟩
  | slice rows b off cap sz' cv hcap hsz hz' hc hr=>
    obtain rfl:l.map f=rows:=by injection hx
    refine ⟨some ⟨b,off,none⟩,cap,by simp,fun k hk=>⟨b,off,rfl,?_,fun j c hj => ?_⟩⟩
    · have hrow:(l.map f)[k]?=some (f l[k]):=by simp [hk]
      have hne:0 < (f l[k]).length:=by rw [hf];exact h0
      have:=hz' k _ 0 _ hrow (List.getElem?_eq_getElem hne)
      exact hz b (by omega)
    · have hrow:(l.map f)[k]?=some (f l[k]):=by simp [hk]
      have h1:=hsz k _ hrow
      rw [hf] at h1
      subst h1
      exact ⟨_,(hc k _ j c hrow hj).1,hr k _ j c hrow hj⟩
theorem RI.int_inv {Z:Nat→Nat} {w:World} {k:IntKind} {n:Int} {v:Value} (h:RI Z w (.int k n) v):v=.int k n:=by cases h;rfl
theorem RI.bool_inv {Z:Nat→Nat} {w:World} {b:Bool} {v:Value} (h:RI Z w (.bool b) v):v=.bool b:=by cases h;rfl
theorem Zu (p:Zah) (res:ByteArray) (hd:jI p=some res):APure C0 81 [.agg (Zah.row p)] (.str res):=by
  refine ⟨⟨Tryz.f77,by kernel_rfl,by kernel_rfl,by kernel_rfl⟩,fun Z w vs hz hfix hr => ?_⟩
  unfold jI at hd
  split at hd
  · rename_i hok
    cases hd
    obtain ⟨hl,hr⟩:=hr
    match vs,hl with
    | [v],_=>
      have h0:=hr 0 _ _ rfl rfl
      generalize hx:IV.agg (Zah.row p)=x at h0
      cases h0 with
      | bool b=>cases hx
      | int k n=>cases hx
      | str s=>cases hx
      | nil=>cases hx
      | empty a cap=>cases hx
      | slice rows b off cap sz' cv hcap hsz hz' hc hr=>cases hx
      | tuple cs vs hl hr=>cases hx
      | iface t x v hr=>cases hx
      | nomap=>cases hx
      | omap=>cases hx
      | agg cs vs hl h1 hr2=>
        obtain rfl:Zah.row p=cs:=by injection hx
        match vs,hl with
        | [a,b,c,d,e],_=>
          have r0:=RI.int_inv (hr2 0 _ _ rfl rfl)
          have r4:=RI.bool_inv (hr2 4 _ _ rfl rfl)
          obtain ⟨ah,ch,rfl,vh⟩:=RI.rows_view 1 (fun _=>rfl) (by omega) hz (hr2 1 _ _ rfl rfl)
          obtain ⟨au,cu,rfl,vu⟩:=RI.rows_view 1 (fun _=>rfl) (by omega) hz (hr2 2 _ _ rfl rfl)
          obtain ⟨am,cm,rfl,vm⟩:=RI.rows_view 5 (fun _=>rfl) (by omega) hz (hr2 3 _ _ rfl rfl)
          subst r0 r4
          refine (zfG p w ah au am ch cu cm hok (Lib.tabBelow_of_tabIs hfix.1) (fun k hk => ?_) (fun k hk => ?_) (fun k hk => ?_)).mono fun e w' ⟨he,hb⟩=>⟨_,Z,he,.str _,fun _ _=>rfl,fun b hb'=>Nat.lt_of_lt_of_le (hz b hb') hb.size,hb⟩
          · obtain ⟨b,off,h1,h2,h3⟩:=vh k hk
            obtain ⟨cv,h4,h5⟩:=h3 0 _ rfl
            rw [RI.int_inv h5] at h4
            exact ⟨b,off,h1,h2,by simpa using h4⟩
          · obtain ⟨b,off,h1,h2,h3⟩:=vu k hk
            obtain ⟨cv,h4,h5⟩:=h3 0 _ rfl
            rw [RI.bool_inv h5] at h4
            exact ⟨b,off,h1,h2,by simpa using h4⟩
          · obtain ⟨b,off,h1,h2,h3⟩:=vm k hk
            obtain ⟨c0,g0,q0⟩:=h3 0 _ rfl
            obtain ⟨c1,g1,q1⟩:=h3 1 _ rfl
            obtain ⟨c2,g2,q2⟩:=h3 2 _ rfl
            obtain ⟨c3,g3,q3⟩:=h3 3 _ rfl
            obtain ⟨c4,g4,q4⟩:=h3 4 _ rfl
            rw [RI.int_inv q0] at g0
            rw [RI.int_inv q1] at g1
            rw [RI.int_inv q2] at g2
            rw [RI.int_inv q3] at g3
            rw [RI.bool_inv q4] at g4
            exact ⟨b,off,h1,h2,by simpa using g0,g1,g2,g3,g4⟩
  · cases hd
end
def qh (p:Zac):List UInt8:=zB p.day++p.Zae.flatMap zB++p.used.flatMap zV++p.Zaj.flatMap qP
set_option maxHeartbeats 1600000 in
set_option maxRecDepth 100000 in
theorem zd7 (B Bo:Nat) (W:World) (xs:List UInt8) (b:Bool) (w:World) (h:TI B Bo W xs w) (hlen:xs.length≤2000000000) :
    Calls Tryz.prog 151 #[.bool b,.pointer (some ⟨Bo,0,none⟩)] w fun e w'=>e=.returned (.tuple #[])∧TI B Bo W (xs++zV b) w'∧Lib.OthersKept 5 (some Bo) w w':=by
  obtain ⟨hb,hlt,v,hv,hown⟩:=h
  obtain ⟨i0,hi,hz0,hz1,hz2⟩:=info_parts vv
  have cW:=cell_of_one hv
  have fW:=free_of_one hv
  have hBo:=lt_of_block hv
  cases b with
  | true=>
    go_enter Tryz.func151,Tryz.ntmps151
    go_wp2_with (at_builtin;refine wpList_append_own _ rfl _ _ 172 rfl B 5 i0 (.int .u8 0) 1 1 Tryz.underlying172 hi hz0 hz1 hz2 rfl (by decide) _ _ _ rfl (hown.alloc _) ⟨w.heap.size,0,none⟩ 1 1 [Value.int .u8 43] rfl rfl ?c1 ?c2 ?c3 ?c4 ?c5 ?_)
    case c1=>
      intro j u hj
      match j,hj with
      | 0,hj=>simp at hj;subst hj;simp [Addr.add]
    case c2=>intro u hu;simp at hu;subst hu;rfl
    case c3=>unfold maxLen;omega
    case c4=>omega
    case c5=>simp;omega
    intro v' w2 hown' hgrow _
    obtain ⟨⟨g',cap',rfl⟩,h2,hT,hK⟩:=TI.push (c:=43) hb hlt hv hown hown' hgrow
    have cW2:=cell_of_one h2
    have fW2:=free_of_one h2
    clear hown' hgrow hown
    go_wp2
    go_end0
    exact ⟨rfl,hT,hK⟩
  | false=>
    go_enter Tryz.func151,Tryz.ntmps151
    go_wp2_with (at_builtin;refine wpList_append_own _ rfl _ _ 172 rfl B 5 i0 (.int .u8 0) 1 1 Tryz.underlying172 hi hz0 hz1 hz2 rfl (by decide) _ _ _ rfl (hown.alloc _) ⟨w.heap.size,0,none⟩ 1 1 [Value.int .u8 45] rfl rfl ?c1 ?c2 ?c3 ?c4 ?c5 ?_)
    case c1=>
      intro j u hj
      match j,hj with
      | 0,hj=>simp at hj;subst hj;simp [Addr.add]
    case c2=>intro u hu;simp at hu;subst hu;rfl
    case c3=>unfold maxLen;omega
    case c4=>omega
    case c5=>simp;omega
    intro v' w2 hown' hgrow _
    obtain ⟨⟨g',cap',rfl⟩,h2,hT,hK⟩:=TI.push (c:=45) hb hlt hv hown hown' hgrow
    have cW2:=cell_of_one h2
    have fW2:=free_of_one h2
    clear hown' hgrow hown
    go_wp2
    go_end0
    exact ⟨rfl,hT,hK⟩
set_option maxHeartbeats 1600000 in
set_option maxRecDepth 100000 in
theorem zcz (B Bo:Nat) (W:World) (xs:List UInt8) (n:Int) (w:World) (h:TI B Bo W xs w) (hlen:xs.length≤2000000000) (h0 : -9223372036854775808≤n) (h1:n≤9223372036854775807)
    (htab : Lib.TabBelow Tryz.prog B W "internal/strconv.uint64pow10" .u64 Lib.pow10Tab) :
    Calls Tryz.prog 150 #[.int .i64 n,.pointer (some ⟨Bo,0,none⟩)] w fun e w'=>e=.returned (.tuple #[])∧TI B Bo W (xs++zB n) w'∧Lib.OthersKept 5 (some Bo) w w':=by
  obtain ⟨hb,hlt,v,hv,hown⟩:=h
  obtain ⟨i0,hi,hz0,hz1,hz2⟩:=info_parts vv
  have cW:=cell_of_one hv
  have fW:=free_of_one hv
  have hBo:=lt_of_block hv
  have la:=Lib.itoa_length_le n h0 h1
  go_enter Tryz.func150,Tryz.ntmps150
  go_wp2_with (go_at_call 122;refine (zd2 B _ n h0 h1 v _ w hown (by omega) (by omega) (htab.on hb)).mono ?_;rintro e w1 ⟨v1,rfl,hown1,hnx1,hk1⟩;refine Hid.out ?_)
  refine Lib.hid ?_
  rw [←List.length_append,show Lib.byteCells xs++Lib.byteCells (Lib.itoa n)=Lib.byteCells (xs++Lib.itoa n) from by simp [Lib.byteCells]] at hown1
  have hv1:w1.heap[Bo]?=some (.cells #[v] 172 (0,0)):=hk1 Bo _ hv (by simp) (by intro c fz e;simp at e)
  have hb1:Below B W w1:=hb.trans hnx1
  have hBo1:=lt_of_block hv1
  have hl2:(xs++Lib.itoa n).length≤2000000100:=by rw [List.length_append];omega
  obtain ⟨ys,hys⟩:∃ l,l=xs++Lib.itoa n:=⟨_,rfl⟩
  rw [←hys] at hown1 hl2
  have HY:=Lib.hid hys
  clear hys cW fW
  go_wp2_with (at_builtin;refine wpList_append_own _ rfl _ _ 172 rfl B 5 i0 (.int .u8 0) 1 1 Tryz.underlying172 hi hz0 hz1 hz2 rfl (by decide) _ _ _ rfl (hown1.alloc _) ⟨w1.heap.size,0,none⟩ 1 1 [Value.int .u8 32] rfl rfl ?c1 ?c2 ?c3 ?c4 ?c5 ?_)
  case c1=>
    intro j u hj
    match j,hj with
    | 0,hj=>simp at hj;subst hj;simp [Addr.add]
  case c2=>intro u hu;simp at hu;subst hu;rfl
  case c3=>unfold maxLen;omega
  case c4=>omega
  case c5=>simp;omega
  intro v' w2 hown' hgrow _
  obtain ⟨⟨g',cap',rfl⟩,h2,hT,hK⟩:=TI.push (c:=32) hb1 hlt hv1 hown1 hown' hgrow
  have cW2:=cell_of_one h2
  have fW2:=free_of_one h2
  clear hown' hgrow hown hown1
  go_wp2
  go_end0
  have hys:=HY.out
  subst hys
  refine ⟨rfl,?_,?_⟩
  · simpa [zB] using hT
  · exact Lib.OthersKept.trans (fun k o hk _ ho=>hk1 k o hk (by simp) ho) hK
def zag (p:Zac):Bool:=je p.day&&p.Zae.all je&&p.Zaj.all (fun m=>je m.Zam&&je m.left&&je m.got&&je m.Zau)&&decide ((qh p).length≤1000000000)
def wD (p:Zac):Option ByteArray:=if zag p then some ⟨(qh p).toArray⟩ else none
structure TBS (B Bo:Nat) (W:World) (vs:Array Value) (xs:List UInt8) (w:World):Prop where
  ti:TI B Bo W xs w
  bo:B < Bo
  box:w.heap[B]?=some (.cells vs 37 (0,0))
theorem TBS.of {B Bo:Nat} {W w w':World} {vs:Array Value} {xs ys:List UInt8} (h:TBS B Bo W vs xs w) (hT:TI B Bo W ys w') (hK:Lib.OthersKept 5 (some Bo) w w'):TBS B Bo W vs ys w':=
  ⟨hT,h.bo,hK B _ h.box (by have:=h.bo;simp;omega) (by intro c fz e;simp at e)⟩
theorem MB.ofS {B Bo Bm:Nat} {W w w':World} {vs ms:Array Value} {xs:List UInt8} (h:TBS B Bo W vs xs w) (hm:MB Bm ms w) (hK:Lib.OthersKept 5 (some Bo) w w'):MB Bm ms w':=by
  refine hK Bm _ hm ?_ (by intro c fz e;simp at e)
  intro e
  obtain ⟨v,hv,_⟩:=h.ti.own
  cases e
  unfold MB at hm
  rw [hv] at hm
  simp at hm
theorem zah {B Bo:Nat} {W w:World} {vs:Array Value} {xs:List UInt8} (b:Bool) (h:TBS B Bo W vs xs w) (hlen:xs.length≤2000000000) :
    Calls Tryz.prog 151 #[.bool b,.pointer (some ⟨Bo,0,none⟩)] w fun e w'=>e=.returned (.tuple #[])∧TBS B Bo W vs (xs++zV b) w'∧(∀ Bm ms,MB Bm ms w→MB Bm ms w'):=
  (zd7 B Bo W xs b w h.ti hlen).mono fun e w' ⟨h1,h2,h3⟩=>⟨h1,h.of h2 h3,fun _ _ hm=>MB.ofS h hm h3⟩
theorem wE {B Bo:Nat} {W w:World} {vs:Array Value} {xs:List UInt8} (n:Int) (h:TBS B Bo W vs xs w) (hlen:xs.length≤2000000000) (hn:je n=true)
    (htab : Lib.TabBelow Tryz.prog B W "internal/strconv.uint64pow10" .u64 Lib.pow10Tab) :
    Calls Tryz.prog 150 #[.int .i64 n,.pointer (some ⟨Bo,0,none⟩)] w fun e w'=>e=.returned (.tuple #[])∧TBS B Bo W vs (xs++zB n) w'∧(∀ Bm ms,MB Bm ms w→MB Bm ms w'):=by
  simp only [je,Bool.and_eq_true,decide_eq_true_eq] at hn
  exact (zcz B Bo W xs n w h.ti hlen hn.1 hn.2 htab).mono fun e w' ⟨h1,h2,h3⟩=>⟨h1,h.of h2 h3,fun _ _ hm=>MB.ofS h hm h3⟩
theorem TBS.cell {B Bo:Nat} {W w:World} {vs:Array Value} {xs:List UInt8} (h:TBS B Bo W vs xs w) (j:Nat):w.cell? ⟨B,j,none⟩=vs[j]?:=by
  have:=h.box
  simp [World.cell?,this]
theorem TBS.c0 {B Bo:Nat} {W w:World} {a b c d:Value} {xs:List UInt8} (h:TBS B Bo W #[a,b,c,d] xs w):w.cell? ⟨B,0,none⟩=some a:=h.cell 0
theorem TBS.c1 {B Bo:Nat} {W w:World} {a b c d:Value} {xs:List UInt8} (h:TBS B Bo W #[a,b,c,d] xs w):w.cell? ⟨B,1,none⟩=some b:=h.cell 1
theorem TBS.c2 {B Bo:Nat} {W w:World} {a b c d:Value} {xs:List UInt8} (h:TBS B Bo W #[a,b,c,d] xs w):w.cell? ⟨B,2,none⟩=some c:=h.cell 2
theorem TBS.c3 {B Bo:Nat} {W w:World} {a b c d:Value} {xs:List UInt8} (h:TBS B Bo W #[a,b,c,d] xs w):w.cell? ⟨B,3,none⟩=some d:=h.cell 3
def t1S (p:Zac):List UInt8:=zB p.day
def t2S (p:Zac) (k:Nat):List UInt8:=t1S p++(p.Zae.take k).flatMap zB
def t3S (p:Zac) (k:Nat):List UInt8:=t1S p++p.Zae.flatMap zB++(p.used.take k).flatMap zV
def t4S (p:Zac) (k:Nat):List UInt8:=t1S p++p.Zae.flatMap zB++p.used.flatMap zV++(p.Zaj.take k).flatMap qP
theorem zbB (p:Zac) (k:Nat):(t2S p k).length≤(qh p).length:=by
  have:=Vv zB p.Zae k
  simp only [t2S,t1S,qh,List.length_append];omega
theorem zhg (p:Zac) (k:Nat):(t3S p k).length≤(qh p).length:=by
  have:=Vv zV p.used k
  simp only [t3S,t1S,qh,List.length_append];omega
theorem zbC (p:Zac) (k:Nat):(t4S p k).length≤(qh p).length:=by
  have:=Vv qP p.Zaj k
  simp only [t4S,t1S,qh,List.length_append];omega
theorem zcA (p:Zac):p.Zaj.length≤(qh p).length:=by
  have:=JO qP p.Zaj (fun a=>by simp only [qP,zV,List.length_append,List.length_cons];omega)
  simp only [qh,List.length_append];omega
theorem zd8 (p:Zac):p.used.length≤(qh p).length:=by
  have:=JO zV p.used (fun a=>by simp [zV])
  simp only [qh,List.length_append];omega
theorem zai (p:Zac):p.Zae.length≤(qh p).length:=by
  have:=JO zB p.Zae (fun a=>by simp [zB])
  simp only [qh,List.length_append];omega
set_option maxHeartbeats 6400000 in
set_option maxRecDepth 1000000 in
theorem zd9 (p:Zac) (W:World) (ah au am:Option Addr) (ch cu cm:Nat) (hok:zag p=true)
    (htab : Lib.TabBelow Tryz.prog W.heap.size W "internal/strconv.uint64pow10" .u64 Lib.pow10Tab)
    (hh:∀ k (hk:k < p.Zae.length),∃ b off,ah=some ⟨b,off,none⟩∧b < W.heap.size∧W.cell? ⟨b,off+k,none⟩=some (.int .i64 p.Zae[k]))
    (hu:∀ k (hk:k < p.used.length),∃ b off,au=some ⟨b,off,none⟩∧b < W.heap.size∧W.cell? ⟨b,off+k,none⟩=some (.bool p.used[k]))
    (hm:∀ k (hk:k < p.Zaj.length),∃ b off,am=some ⟨b,off,none⟩∧b < W.heap.size∧W.cell? ⟨b,off+k*5,none⟩=some (.int .i64 p.Zaj[k].Zam)∧W.cell? ⟨b,off+k*5+1,none⟩=some (.int .i64 p.Zaj[k].left) ∧
      W.cell? ⟨b,off+k*5+2,none⟩=some (.int .i64 p.Zaj[k].got)∧W.cell? ⟨b,off+k*5+3,none⟩=some (.int .i64 p.Zaj[k].Zau)∧W.cell? ⟨b,off+k*5+4,none⟩=some (.bool p.Zaj[k].ZaA)) :
    Calls Tryz.prog 140 #[.agg #[.int .i64 p.day,.slice ah p.Zae.length ch,.slice au p.used.length cu,.slice am p.Zaj.length cm]] W
      fun e w'=>e=.returned (.string ⟨(qh p).toArray⟩)∧Below W.heap.size W w':=by
  have hmf:∀ (fn:Fn) (first cap:Array Value) (w:World),(Instr.makeFunc fn first cap).run Tryz.prog w=.ok (.func fn first cap) w:=fun _ _ _ _=>rfl
  obtain ⟨i0,hi,hz0,hz1,hz2⟩:=info_parts vv
  simp only [zag,Bool.and_eq_true,decide_eq_true_eq,List.all_eq_true] at hok
  obtain ⟨⟨⟨hd,hhs⟩,hms⟩,hlen⟩:=hok
  have hml:=zcA p
  have hul:=zd8 p
  have hhl:=zai p
  go_enter Tryz.func140,Tryz.ntmps140
  go_wp2_with (at_make;refine wpList_make_own _ rfl _ _ 172 rfl W.heap.size 5 i0 (.int .u8 0) 1 Tryz.underlying172 hi hz0 hz1 .i64 .i64 (32+12*(p.Zaj.length:Int)) (32+12*p.Zaj.length) rfl rfl (by omega) (by rw [hz2];omega) (by unfold maxLen;omega) (by simp) ?_;intro w1 hown hgrow;refine Hid.out ?_)
  refine Lib.hid ?_
  have hbx:w1.heap[W.heap.size]?=some (.cells #[.int .i64 p.day,.slice ah p.Zae.length ch,.slice au p.used.length cu,.slice am p.Zaj.length cm] 37 (0,0)):=by
    rw [hgrow.block W.heap.size (by simp) (by simp)]
    exact zK W _
  have hw1:W.heap.size+1≤w1.heap.size:=by have:=hgrow.size;simpa using this
  have hbw:Below W.heap.size W w1:=((Below.refl _ _).alloc (Nat.le_refl _) _).grown hgrow (by simp) (fun k hk=>by cases hk)
  clear hgrow
  have hT0:TBS W.heap.size w1.heap.size W #[.int .i64 p.day,.slice ah p.Zae.length ch,.slice au p.used.length cu,.slice am p.Zaj.length cm] []
      (w1.alloc (.cells #[.slice (some ⟨W.heap.size+1,0,none⟩) 0 (32+12*p.Zaj.length)] 172)):=by
    refine ⟨⟨hbw.alloc (by omega) _,by omega,_,zK _ _,?_⟩,by omega,(Below.heap_alloc _ _ _ (by omega)).trans hbx⟩
    have:=hown.alloc (.cells #[.slice (some ⟨W.heap.size+1,0,none⟩) 0 (32+12*p.Zaj.length)] 172)
    simpa [Lib.byteCells] using this
  have c0:=hT0.c0
  have hl2:(t1S p).length≤2000000000:=by have:=zbB p 0;simp [t2S] at this;omega
  clear hown hbx
  go_wp2_with (go_at_call 150;refine (wE p.day hT0 (by simp) hd htab).mono ?_;rintro e w3 ⟨rfl,h3,_⟩;have c3:=h3.c1)
  have hT3:TBS W.heap.size w1.heap.size W #[.int .i64 p.day,.slice ah p.Zae.length ch,.slice au p.used.length cu,.slice am p.Zaj.length cm] (t2S p 0) w3:=by simpa [t2S,t1S] using h3
  clear h3 hT0 c0 c3
  go_loopw [27] (fun i wr=>∃ k:Nat,k≤p.Zae.length∧i=.int .i64 k∧TBS W.heap.size w1.heap.size W #[.int .i64 p.day,.slice ah p.Zae.length ch,.slice au p.used.length cu,.slice am p.Zaj.length cm] (t2S p k) wr)
    (fun i _=>p.Zae.length - (intOf i).toNat)
  case atStart=>exact ⟨0,Nat.zero_le _,rfl,hT3⟩
  case round=>
    obtain ⟨k,hk,rfl,hTr⟩:=hrel
    clear hT3
    have hlk:=zbB p k
    by_cases hkl:k < p.Zae.length
    · obtain ⟨b,off,rfl,hbB,hcc⟩:=hh k hkl
      have hck:wr.cell? ⟨b,off+k,none⟩=some (.int .i64 p.Zae[k]):=(hTr.ti.below.cell (by exact hbB)).trans hcc
      have hin:=hhs _ (List.getElem_mem hkl)
      go_wp2_with (go_at_call 150;refine (wE p.Zae[k] hTr (by omega) hin htab).mono ?_;rintro e w4 ⟨rfl,h4,_⟩)
      go_roundw
      case rel=>exact ⟨k+1,by omega,by go_num,by simpa [t2S,JN _ _ _ hkl] using h4⟩
      case measure=>simp [intOf];omega
    · have c2:=hTr.c2
      go_wp2
      obtain rfl:k=p.Zae.length:=by omega
      have hT3:TBS W.heap.size w1.heap.size W #[.int .i64 p.day,.slice ah p.Zae.length ch,.slice au p.used.length cu,.slice am p.Zaj.length cm] (t3S p 0) wr:=by simpa [t2S,t3S] using hTr
      clear hTr c2 hlk
      obtain ⟨wo,rfl⟩:∃ wo:World,wo=wr:=⟨_,rfl⟩
      go_loopw [38] (fun i wr=>∃ k:Nat,k≤p.used.length∧i=.int .i64 k∧TBS W.heap.size w1.heap.size W #[.int .i64 p.day,.slice ah p.Zae.length ch,.slice au p.used.length cu,.slice am p.Zaj.length cm] (t3S p k) wr)
        (fun i _=>p.used.length - (intOf i).toNat)
      case atStart=>exact ⟨0,Nat.zero_le _,rfl,hT3⟩
      case round=>
        obtain ⟨k,hk,rfl,hTr⟩:=hrel
        clear hT3
        have hlk:=zhg p k
        by_cases hkl:k < p.used.length
        · obtain ⟨b,off,rfl,hbB,hcc⟩:=hu k hkl
          have hck:wr.cell? ⟨b,off+k,none⟩=some (.bool p.used[k]):=(hTr.ti.below.cell (by exact hbB)).trans hcc
          go_wp2_with (go_at_call 151;refine (zah p.used[k] hTr (by omega)).mono ?_;rintro e w4 ⟨rfl,h4,_⟩)
          go_roundw
          case rel=>exact ⟨k+1,by omega,by go_num,by simpa [t3S,JN _ _ _ hkl] using h4⟩
          case measure=>simp [intOf];omega
        · have c2:=hTr.c3
          go_wp2
          obtain rfl:k=p.used.length:=by omega
          have hT3:TBS W.heap.size w1.heap.size W #[.int .i64 p.day,.slice ah p.Zae.length ch,.slice au p.used.length cu,.slice am p.Zaj.length cm] (t4S p 0) wr:=by simpa [t3S,t4S] using hTr
          clear hTr c2 hlk
          obtain ⟨wo2,rfl⟩:∃ wo:World,wo=wr:=⟨_,rfl⟩
          go_loopw [49] (fun i wr=>∃ k:Nat,k≤p.Zaj.length∧i=.int .i64 k∧TBS W.heap.size w1.heap.size W #[.int .i64 p.day,.slice ah p.Zae.length ch,.slice au p.used.length cu,.slice am p.Zaj.length cm] (t4S p k) wr)
            (fun i _=>p.Zaj.length - (intOf i).toNat)
          case atStart=>exact ⟨0,Nat.zero_le _,rfl,hT3⟩
          case round=>
            obtain ⟨k,hk,rfl,hTr⟩:=hrel
            clear hT3
            have hlk:=zbC p k
            by_cases hkl:k < p.Zaj.length
            · obtain ⟨b,off,rfl,hbB,hc0,hc1,hc2,hc3,hc4⟩:=hm k hkl
              have hin:=hms _ (List.getElem_mem hkl)
              have hsucc:t4S p (k+1)=t4S p k++qP p.Zaj[k]:=by simp [t4S,JN _ _ _ hkl]
              obtain ⟨m,hmk⟩:∃ m,m=p.Zaj[k]:=⟨_,rfl⟩
              rw [←hmk] at hc0 hc1 hc2 hc3 hc4 hin hsucc
              clear hmk
              have hd0:=(hTr.ti.below.cell (p:=⟨b,off+k*5,none⟩) (by exact hbB)).trans hc0
              have hd1:=(hTr.ti.below.cell (p:=⟨b,off+k*5+1,none⟩) (by exact hbB)).trans hc1
              have hd2:=(hTr.ti.below.cell (p:=⟨b,off+k*5+2,none⟩) (by exact hbB)).trans hc2
              have hd3:=(hTr.ti.below.cell (p:=⟨b,off+k*5+3,none⟩) (by exact hbB)).trans hc3
              have hd4:=(hTr.ti.below.cell (p:=⟨b,off+k*5+4,none⟩) (by exact hbB)).trans hc4
              clear hc0 hc1 hc2 hc3 hc4
              have hA1:TBS W.heap.size w1.heap.size W #[.int .i64 p.day,.slice ah p.Zae.length ch,.slice au p.used.length cu,.slice (some ⟨b,off,none⟩) p.Zaj.length cm] (t4S p k) (wr.alloc (.cells #[.int .i64 m.Zam,.int .i64 m.left,.int .i64 m.got,.int .i64 m.Zau,.bool m.ZaA] 79)):=
                hTr.of ⟨hTr.ti.below.alloc (by have:=hTr.ti.below.size;omega) _,hTr.ti.lt,by obtain ⟨v,hv,ho⟩:=hTr.ti.own;exact ⟨v,(Below.heap_alloc _ _ _ (lt_of_block hv)).trans hv,ho.alloc _⟩⟩ ((Lib.OthersKept.refl _ _ _).alloc _)
              have hM1:MB wr.heap.size #[.int .i64 m.Zam,.int .i64 m.left,.int .i64 m.got,.int .i64 m.Zau,.bool m.ZaA] (wr.alloc (.cells #[.int .i64 m.Zam,.int .i64 m.left,.int .i64 m.got,.int .i64 m.Zau,.bool m.ZaA] 79)):=zK _ _
              have e1:=hM1.c0
              have l1:(t4S p k++zB m.Zam).length≤2000000000∧(t4S p k++zB m.Zam++zB m.left).length≤2000000000∧(t4S p k++zB m.Zam++zB m.left++zB m.got).length≤2000000000 ∧
                  (t4S p k++zB m.Zam++zB m.left++zB m.got++zB m.Zau).length≤2000000000:=by
                have:=zbC p (k+1)
                rw [hsucc] at this
                simp only [qP,List.length_append] at this ⊢
                omega
              have l0:(t4S p k).length≤2000000000:=by omega
              have HL:=Lib.hid l1
              have HS:=Lib.hid hsucc
              clear l1 hTr hsucc
              go_wp2_with (go_at_call 150;refine (wE m.Zam hA1 l0 hin.1.1.1 htab).mono ?_;rintro e w5 ⟨rfl,h5,k5⟩;have m5:=k5 _ _ hM1;have e5:=m5.c1;refine Hid.out ?_)
              refine Lib.hid ?_
              clear hd0 hd1 hd2 hd3 hd4 e1 hA1 hM1 k5
              go_wp2_with (go_at_call 150;refine (wE m.left h5 HL.out.1 hin.1.1.2 htab).mono ?_;rintro e w6 ⟨rfl,h6,k6⟩;have m6:=k6 _ _ m5;have e6:=m6.c2;refine Hid.out ?_)
              refine Lib.hid ?_
              clear e5 h5 m5 k6
              go_wp2_with (go_at_call 150;refine (wE m.got h6 HL.out.2.1 hin.1.2 htab).mono ?_;rintro e w7 ⟨rfl,h7,k7⟩;have m7:=k7 _ _ m6;have e7:=m7.c3;refine Hid.out ?_)
              refine Lib.hid ?_
              clear e6 h6 m6 k7
              go_wp2_with (go_at_call 150;refine (wE m.Zau h7 HL.out.2.2.1 hin.2 htab).mono ?_;rintro e w8 ⟨rfl,h8,k8⟩;have m8:=k8 _ _ m7;have e8:=m8.c4;refine Hid.out ?_)
              refine Lib.hid ?_
              clear e7 h7 m7 k8
              go_wp2_with (go_at_call 151;refine (zah m.ZaA h8 HL.out.2.2.2).mono ?_;rintro e w9 ⟨rfl,h9,-⟩)
              go_roundw
              case rel=>exact ⟨k+1,by omega,by go_num,by rw [HS.out];simpa [qP] using h9⟩
              case measure=>simp [intOf];omega
            · obtain rfl:k=p.Zaj.length:=by omega
              have hT:TBS W.heap.size w1.heap.size W #[.int .i64 p.day,.slice ah p.Zae.length ch,.slice au p.used.length cu,.slice am p.Zaj.length cm] (qh p) wr:=by simpa [t4S,qh,t1S] using hTr
              obtain ⟨⟨hbe,hlt,v,hv,hown⟩,hbo,hbx⟩:=hT
              have hpos:0 < (qh p).length:=by simp [qh,zB];omega
              rcases hown.2 with ⟨-,h0⟩ | ⟨g,cap,cur,rfl,-,-,-,-,-,-⟩
              · omega
              · have cW:=cell_of_one hv
                have hcv:=run_convert_bytes_back (P:=Tryz.prog) wr 172 9 5 ⟨g,0,none⟩ cap (qh p) Tryz.underlying172 Tryz.underlying5 Tryz.underlying9 (fun j hj=>hown.cells (g:=g) rfl j _ (by simp [Lib.byteCells,hj]))
                go_wp2
                go_ret
                exact ⟨rfl,hbe⟩
theorem zbD (p:Zac) (res:ByteArray) (hd:wD p=some res):APure C0 207 [.agg (Zac.row p)] (.str res):=by
  refine ⟨⟨Tryz.f140,by kernel_rfl,by kernel_rfl,by kernel_rfl⟩,fun Z w vs hz hfix hr => ?_⟩
  unfold wD at hd
  split at hd
  · rename_i hok
    cases hd
    obtain ⟨hl,hr⟩:=hr
    match vs,hl with
    | [v],_=>
      have h0:=hr 0 _ _ rfl rfl
      generalize hx:IV.agg (Zac.row p)=x at h0
      cases h0 with
      | bool b=>cases hx
      | int k n=>cases hx
      | str s=>cases hx
      | nil=>cases hx
      | empty a cap=>cases hx
      | slice rows b off cap sz' cv hcap hsz hz' hc hr=>cases hx
      | tuple cs vs hl hr=>cases hx
      | iface t x v hr=>cases hx
      | nomap=>cases hx
      | omap=>cases hx
      | agg cs vs hl h1 hr2=>
        obtain rfl:Zac.row p=cs:=by injection hx
        match vs,hl with
        | [a,b,c,d],_=>
          have r0:=RI.int_inv (hr2 0 _ _ rfl rfl)
          obtain ⟨ah,ch,rfl,vh⟩:=RI.rows_view 1 (fun _=>rfl) (by omega) hz (hr2 1 _ _ rfl rfl)
          obtain ⟨au,cu,rfl,vu⟩:=RI.rows_view 1 (fun _=>rfl) (by omega) hz (hr2 2 _ _ rfl rfl)
          obtain ⟨am,cm,rfl,vm⟩:=RI.rows_view 5 (fun _=>rfl) (by omega) hz (hr2 3 _ _ rfl rfl)
          subst r0
          refine (zd9 p w ah au am ch cu cm hok (Lib.tabBelow_of_tabIs hfix.1) (fun k hk => ?_) (fun k hk => ?_) (fun k hk => ?_)).mono fun e w' ⟨he,hb⟩=>⟨_,Z,he,.str _,fun _ _=>rfl,fun b hb'=>Nat.lt_of_lt_of_le (hz b hb') hb.size,hb⟩
          · obtain ⟨b,off,h1,h2,h3⟩:=vh k hk
            obtain ⟨cv,h4,h5⟩:=h3 0 _ rfl
            rw [RI.int_inv h5] at h4
            exact ⟨b,off,h1,h2,by simpa using h4⟩
          · obtain ⟨b,off,h1,h2,h3⟩:=vu k hk
            obtain ⟨cv,h4,h5⟩:=h3 0 _ rfl
            rw [RI.bool_inv h5] at h4
            exact ⟨b,off,h1,h2,by simpa using h4⟩
          · obtain ⟨b,off,h1,h2,h3⟩:=vm k hk
            obtain ⟨c0,g0,q0⟩:=h3 0 _ rfl
            obtain ⟨c1,g1,q1⟩:=h3 1 _ rfl
            obtain ⟨c2,g2,q2⟩:=h3 2 _ rfl
            obtain ⟨c3,g3,q3⟩:=h3 3 _ rfl
            obtain ⟨c4,g4,q4⟩:=h3 4 _ rfl
            rw [RI.int_inv q0] at g0
            rw [RI.int_inv q1] at g1
            rw [RI.int_inv q2] at g2
            rw [RI.int_inv q3] at g3
            rw [RI.bool_inv q4] at g4
            exact ⟨b,off,h1,h2,by simpa using g0,g1,g2,g3,g4⟩
  · cases hd
end Go.Proofs.YtlpmnmbebkdocaaGreatDoor
