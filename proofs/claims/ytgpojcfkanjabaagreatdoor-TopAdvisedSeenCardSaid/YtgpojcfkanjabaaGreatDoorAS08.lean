/-
  A contract of the library, laid at this program.
  The texts of positions: what the two closures of arena.text do to the bytes at hand.
  The texts of positions: the contract of arena.text.
  The texts of states: the contract of validate.Encode.
  Contracts of generic functions of the library, laid at this program.
  slices.Sorted(maps.Keys(m)): what it computes; the contract.
-/
import Derived.Test.YtgpojcfkanjabaaGreatDoorAS06
import Derived.Shelf.Strconv.AppendIntPublic10
import Derived.Lib.AppendIntMem
import Derived.Lib.ItoaLen
import Derived.Lib.Hide
import Derived.Laws.IdiomStrings
import Derived.OwnWalk
import Derived.OneCell
import Derived.WalkKit
import Derived.BigCall
import Derived.Shelf.SlIter.Nil
import Derived.Shelf.SortM.Plain
import Derived.Shelf.SortM.SortNone
open List renaming length_append → ua, length_singleton → ub, pairwise_cons → ud, getElem_mem → ue, take_succ_eq_append_getElem → uh, all_eq_true → ui, getElem?_map → uj, length_cons → uk, length_nil → um, getElem?_eq_none → un, flatMap_append → uo, mem_cons → uq, mem_map → ut, map_map → uu, length_take → uv, flatMap_nil → uw, Perm → ux, length → uy, take_zero → uz
open Option renaming map_eq_some_iff → ul
open Bool renaming and_eq_true → uc
open Nat renaming zero_le → ug, lt_of_lt_of_le → ur, le_refl → uA
namespace Go.Proofs.YtgpojcfkanjabaaGreatDoor
open Go.Shelf Go.RowKit
set_option maxRecDepth 100000
def Tryz.mP:Go.Shelf.Ren:=⟨fun | 176=>97 | 249=>121 | 288=>132 | 283=>144 | 284=>145 | 285=>146 | 286=>147 | 129=>143 | 317=>154 | 318=>155 | 319=>156 | 320=>157 | 337=>159 | 338=>160 | n=>n,fun | 37=>163 | 2=>2 | 3=>3 | 53=>179 | 4=>4 | 9=>9 | 171=>206 | 0=>0 | 173=>208 | 212=>217 | 51=>203 | 5=>5 | 20=>20 | 213=>218 | 46=>183 | 232=>222 | 233=>223 | n=>n,fun | 17=>0 | 18=>1 | 19=>2 | n=>n⟩
theorem Tryz.sM:Go.Proofs.LaysM.n176 Tryz.prog Tryz.mP:={
 mixed:=by kernel_rfl,
 f129:=Tryz.func143.trans (congrArg some (by kernel_rfl)),
 f176:=Tryz.func97.trans (congrArg some (by kernel_rfl)),
 f249:=Tryz.func121.trans (congrArg some (by kernel_rfl)),
 f283:=Tryz.func144.trans (congrArg some (by kernel_rfl)),
 f284:=Tryz.func145.trans (congrArg some (by kernel_rfl)),
 f285:=Tryz.func146.trans (congrArg some (by kernel_rfl)),
 f286:=Tryz.func147.trans (congrArg some (by kernel_rfl)),
 f288:=Tryz.func132.trans (congrArg some (by kernel_rfl)),
 f317:=Tryz.func154.trans (congrArg some (by kernel_rfl)),
 f318:=Tryz.func155.trans (congrArg some (by kernel_rfl)),
 f319:=Tryz.func156.trans (congrArg some (by kernel_rfl)),
 f320:=Tryz.func157.trans (congrArg some (by kernel_rfl)),
 f337:=Tryz.func159.trans (congrArg some (by kernel_rfl)),
 f338:=Tryz.func160.trans (congrArg some (by kernel_rfl)),
 t0:=Tryz.underlying0,
 a0:=Tryz.isAgg0,
 z0:=Tryz.sizeOf0,
 v0:=Tryz.zeroValue0,
 t2:=Tryz.underlying2,
 a2:=Tryz.isAgg2,
 z2:=Tryz.sizeOf2,
 v2:=Tryz.zeroValue2,
 t3:=Tryz.underlying3,
 a3:=Tryz.isAgg3,
 z3:=Tryz.sizeOf3,
 v3:=Tryz.zeroValue3,
 t4:=Tryz.underlying4,
 a4:=Tryz.isAgg4,
 z4:=Tryz.sizeOf4,
 v4:=Tryz.zeroValue4,
 t5:=Tryz.underlying5,
 a5:=Tryz.isAgg5,
 z5:=Tryz.sizeOf5,
 v5:=Tryz.zeroValue5,
 t9:=Tryz.underlying9,
 a9:=Tryz.isAgg9,
 z9:=Tryz.sizeOf9,
 v9:=Tryz.zeroValue9,
 t20:=Tryz.underlying20,
 a20:=Tryz.isAgg20,
 z20:=Tryz.sizeOf20,
 v20:=Tryz.zeroValue20,
 t37:=Tryz.underlying163,
 a37:=Tryz.isAgg163,
 z37:=Tryz.sizeOf163,
 v37:=Tryz.zeroValue163,
 t46:=Tryz.underlying183,
 a46:=Tryz.isAgg183,
 z46:=Tryz.sizeOf183,
 v46:=Tryz.zeroValue183,
 t51:=Tryz.underlying203,
 a51:=Tryz.isAgg203,
 z51:=Tryz.sizeOf203,
 v51:=Tryz.zeroValue203,
 t53:=Tryz.underlying179,
 a53:=Tryz.isAgg179,
 z53:=Tryz.sizeOf179,
 v53:=Tryz.zeroValue179,
 t171:=Tryz.underlying206,
 a171:=Tryz.isAgg206,
 z171:=Tryz.sizeOf206,
 v171:=Tryz.zeroValue206,
 t173:=Tryz.underlying208,
 a173:=Tryz.isAgg208,
 z173:=Tryz.sizeOf208,
 v173:=Tryz.zeroValue208,
 t212:=Tryz.underlying217,
 a212:=Tryz.isAgg217,
 z212:=Tryz.sizeOf217,
 v212:=Tryz.zeroValue217,
 t213:=Tryz.underlying218,
 a213:=Tryz.isAgg218,
 z213:=Tryz.sizeOf218,
 t232:=Tryz.underlying222,
 a232:=Tryz.isAgg222,
 z232:=Tryz.sizeOf222,
 v232:=Tryz.zeroValue222,
 t233:=Tryz.underlying223,
 a233:=Tryz.isAgg223,
 z233:=Tryz.sizeOf223,
 v233:=Tryz.zeroValue223,
 g17:=by kernel_rfl,
 g18:=by kernel_rfl,
 g19:=by kernel_rfl,
 i0:=by kernel_rfl,
 i2:=by kernel_rfl,
 i3:=by kernel_rfl,
 i4:=by kernel_rfl,
 i5:=by kernel_rfl,
 i9:=by kernel_rfl,
 i20:=by kernel_rfl,
 i37:=by kernel_rfl,
 i46:=by kernel_rfl,
 i51:=by kernel_rfl,
 i53:=by kernel_rfl,
 i171:=by kernel_rfl,
 i173:=by kernel_rfl,
 i212:=by kernel_rfl,
 i232:=by kernel_rfl,
 i233:=by kernel_rfl,
 m17:=by kernel_rfl,
 m18:=by kernel_rfl,
 m19:=by kernel_rfl}
end Go.Proofs.YtgpojcfkanjabaaGreatDoor
namespace Go.Proofs.YtgpojcfkanjabaaGreatDoor
open Go.RowKit Go.Shelf
set_option linter.unusedVariables false
def qQ (n:Int):List UInt8:=Lib.itoa n++[32]
def jj (b:Bool):List UInt8:=[if b then 43 else 45]
def wU (m:aj):List UInt8:=qQ m.aN++qQ m.left++qQ m.got++qQ m.bw++jj m.bN
def qJ (p:aK):List UInt8:=jj p.own++qQ p.state.day++p.state.aE.flatMap qQ++p.state.used.flatMap jj++p.state.aI.flatMap wU
theorem HQ (B n:Nat) (i:Int) (h0 : -9223372036854775808≤i) (h1:i≤9223372036854775807) (sv:Value) (xs:List Value) (w:World) (hown:w.ownsRow B 5 1 sv n xs) (hBw:B≤w.heap.size) (hlim:n+21≤140737488355328)
 (htab : Lib.TabBelow Tryz.prog B w "internal/strconv.uint64pow10" .u64 Lib.pow10Tab) :
 Calls Tryz.prog 97 #[sv,.int .i64 i,.int .i64 10] w fun e w'=>∃ v',e=.returned v'∧w'.ownsRow B 5 1 v' (n+(Lib.itoa i).length) (xs++Lib.byteCells (Lib.itoa i))∧RowKit.Below B w w'∧Lib.OthersKept 5 none w w':=Any.strconv_AppendInt_10 Tryz.sM B n i h0 h1 sv xs w hown hBw hlim htab
theorem yA:(Tryz.prog.info? 5).map (fun i=>(i.zero,i.size,i.bytes))=some (some (.int .u8 0),1,1):=by kernel_rfl
structure TI (B Bo:Nat) (W:World) (xs:List UInt8) (w:World):Prop where
 below:Below B W w
 lt:B≤Bo
 own:∃ v,w.heap[Bo]?=some (.cells #[v] 163 (0,0))∧w.ownsRow B 5 1 v xs.length (Lib.byteCells xs)
theorem WG {B Bo:Nat} {w:World} {v x:Value} {n:Nat} {xs:List Value} (hv:w.heap[Bo]?=some (.cells #[x] 163 (0,0))) (hown:w.ownsRow B 5 1 v n xs):v.ownBlock≠some Bo:=by
 intro e
 rcases hown.2 with ⟨rfl,_⟩ | ⟨g,cap,cur,rfl,_,hh,_⟩
 ·simp [Value.ownBlock] at e
 ·simp [Value.ownBlock] at e
  subst e
  rw [hh] at hv
  simp at hv
theorem TI.push {B Bo n:Nat} {W w w2:World} {xs:List UInt8} {ys:List Value} {v v' x:Value} {c:UInt8} {o:Obj} (hb:Below B W w) (hlt:B≤Bo) (hv:w.heap[Bo]?=some (.cells #[x] 163 (0,0))) (hown:w.ownsRow B 5 1 v n ys)
  (di:w2.ownsRow B 5 1 v' (xs.length+1) (Lib.byteCells xs++[.int .u8 c.toNat])) (hg:(w.alloc o).grownBy w2 v.ownBlock) :
  (∃ g cap,v'=.slice (some ⟨g,0,none⟩) (xs.length+1) cap)∧(w2.heap[Bo]?=some (.cells #[x] 163 (0,0)))∧TI B Bo W (xs++[c]) (w2.setCell ⟨Bo,0,none⟩ v')∧Lib.OthersKept 5 (some Bo) w (w2.setCell ⟨Bo,0,none⟩ v'):=by
 have Eh:=lt_of_block hv
 have h2:w2.heap[Bo]?=some (.cells #[x] 163 (0,0)):=by
  rw [hg.block Bo (by simp;omega) (fun e=>WG hv hown e.symm)]
  exact (Below.heap_alloc _ _ _ Eh).trans hv
 have nI:Below B W w2:=(hb.alloc (by omega) o).grown hg (by simp;omega) (fun k hk=>(hown.lt k hk).1)
 refine ⟨?_,h2,⟨nI.setCell (by exact hlt) _,hlt,v',one_setCell h2,?_⟩,?_⟩
 ·rcases di.2 with ⟨_,h0⟩ | ⟨g,cap,cur,rfl,_⟩
  ·omega
  ·exact ⟨g,cap,rfl⟩
 ·refine ownsRow_setCell_other ?_ (WG h2 di) _
  simpa [Lib.byteCells] using di
 ·refine Lib.OthersKept.setCell (b:=Bo) (Lib.OthersKept.grown ((Lib.OthersKept.refl _ _ _).alloc o) hg ?_) ⟨Bo,0,none⟩ rfl _
  intro g pT
  have:=hown.lt g pT
  rcases hown.2 with ⟨rfl,_⟩ | ⟨g',cap,cur,rfl,_,hh,_⟩
  ·simp [Value.ownBlock] at pT
  ·simp [Value.ownBlock] at pT
   subst pT
   exact ⟨cur,(0,0),(Below.heap_alloc _ _ _ this.2).trans hh⟩
set_option maxHeartbeats 1600000 in
set_option maxRecDepth 100000 in
theorem Rz (B Bo:Nat) (W:World) (xs:List UInt8) (b:Bool) (w:World) (h:TI B Bo W xs w) (hlen:xs.length≤2000000000) :
  Calls Tryz.prog 98 #[.bool b,.pointer (some ⟨Bo,0,none⟩)] w fun e w'=>e=.returned (.tuple #[])∧TI B Bo W (xs++jj b) w'∧Lib.OthersKept 5 (some Bo) w w':=by
 obtain ⟨hb,hlt,v,hv,hown⟩:=h
 obtain ⟨i0,hi,gG,iR,lz⟩:=info_parts yA
 have cW:=cell_of_one hv
 have fW:=free_of_one hv
 have Eh:=lt_of_block hv
 cases b with
 | true=>
  go_enter Tryz.func98,Tryz.ntmps98
  go_wp2_with (at_builtin;refine wpList_append_own _ rfl _ _ 163 rfl B 5 i0 (.int .u8 0) 1 1 Tryz.underlying163 hi gG iR lz rfl (by decide) _ _ _ rfl (hown.alloc _) ⟨w.heap.size,0,none⟩ 1 1 [Value.int .u8 43] rfl rfl ?c1 ?c2 ?c3 ?c4 ?c5 ?_)
  case c1=>
   intro j u hj
   match j,hj with
   | 0,hj=>simp at hj;subst hj;simp [Addr.add]
  case c2=>intro u hu;simp at hu;subst hu;rfl
  case c3=>unfold maxLen;omega
  case c4=>omega
  case c5=>simp;omega
  intro v' w2 di hgrow _
  obtain ⟨⟨g',cap',rfl⟩,h2,hT,hK⟩:=TI.push (c:=43) hb hlt hv hown di hgrow
  have HR:=cell_of_one h2
  have HT:=free_of_one h2
  clear di hgrow hown
  go_wp2
  go_end0
  exact ⟨rfl,hT,hK⟩
 | false=>
  go_enter Tryz.func98,Tryz.ntmps98
  go_wp2_with (at_builtin;refine wpList_append_own _ rfl _ _ 163 rfl B 5 i0 (.int .u8 0) 1 1 Tryz.underlying163 hi gG iR lz rfl (by decide) _ _ _ rfl (hown.alloc _) ⟨w.heap.size,0,none⟩ 1 1 [Value.int .u8 45] rfl rfl ?c1 ?c2 ?c3 ?c4 ?c5 ?_)
  case c1=>
   intro j u hj
   match j,hj with
   | 0,hj=>simp at hj;subst hj;simp [Addr.add]
  case c2=>intro u hu;simp at hu;subst hu;rfl
  case c3=>unfold maxLen;omega
  case c4=>omega
  case c5=>simp;omega
  intro v' w2 di hgrow _
  obtain ⟨⟨g',cap',rfl⟩,h2,hT,hK⟩:=TI.push (c:=45) hb hlt hv hown di hgrow
  have HR:=cell_of_one h2
  have HT:=free_of_one h2
  clear di hgrow hown
  go_wp2
  go_end0
  exact ⟨rfl,hT,hK⟩
set_option maxHeartbeats 1600000 in
set_option maxRecDepth 100000 in
theorem RA (B Bo:Nat) (W:World) (xs:List UInt8) (n:Int) (w:World) (h:TI B Bo W xs w) (hlen:xs.length≤2000000000) (h0 : -9223372036854775808≤n) (h1:n≤9223372036854775807)
  (htab : Lib.TabBelow Tryz.prog B W "internal/strconv.uint64pow10" .u64 Lib.pow10Tab) :
  Calls Tryz.prog 96 #[.int .i64 n,.pointer (some ⟨Bo,0,none⟩)] w fun e w'=>e=.returned (.tuple #[])∧TI B Bo W (xs++qQ n) w'∧Lib.OthersKept 5 (some Bo) w w':=by
 obtain ⟨hb,hlt,v,hv,hown⟩:=h
 obtain ⟨i0,hi,gG,iR,lz⟩:=info_parts yA
 have cW:=cell_of_one hv
 have fW:=free_of_one hv
 have Eh:=lt_of_block hv
 have la:=Lib.itoa_length_le n h0 h1
 go_enter Tryz.func96,Tryz.ntmps96
 go_wp2_with (go_at_call 97;refine (HQ B _ n h0 h1 v _ w hown (by omega) (by omega) (htab.on hb)).mono ?_;rintro e w1 ⟨v1,rfl,fY,pU,hk1⟩;refine Hid.out ?_)
 refine Lib.hid ?_
 rw [←ua,show Lib.byteCells xs++Lib.byteCells (Lib.itoa n)=Lib.byteCells (xs++Lib.itoa n) from by simp [Lib.byteCells]] at fY
 have lB:w1.heap[Bo]?=some (.cells #[v] 163 (0,0)):=hk1 Bo _ hv (by simp) (by intro c fz e;simp at e)
 have sG:Below B W w1:=hb.trans pU
 have RB:=lt_of_block lB
 have hl2:(xs++Lib.itoa n).length≤2000000100:=by rw [ua];omega
 obtain ⟨ys,hys⟩:∃ l,l=xs++Lib.itoa n:=⟨_,rfl⟩
 rw [←hys] at fY hl2
 have HY:=Lib.hid hys
 clear hys cW fW
 go_wp2_with (at_builtin;refine wpList_append_own _ rfl _ _ 163 rfl B 5 i0 (.int .u8 0) 1 1 Tryz.underlying163 hi gG iR lz rfl (by decide) _ _ _ rfl (fY.alloc _) ⟨w1.heap.size,0,none⟩ 1 1 [Value.int .u8 32] rfl rfl ?c1 ?c2 ?c3 ?c4 ?c5 ?_)
 case c1=>
  intro j u hj
  match j,hj with
  | 0,hj=>simp at hj;subst hj;simp [Addr.add]
 case c2=>intro u hu;simp at hu;subst hu;rfl
 case c3=>unfold maxLen;omega
 case c4=>omega
 case c5=>simp;omega
 intro v' w2 di hgrow _
 obtain ⟨⟨g',cap',rfl⟩,h2,hT,hK⟩:=TI.push (c:=32) sG hlt lB fY di hgrow
 have HR:=cell_of_one h2
 have HT:=free_of_one h2
 clear di hgrow hown fY
 go_wp2
 go_end0
 have hys:=HY.out
 subst hys
 refine ⟨rfl,?_,?_⟩
 ·simpa [qQ] using hT
 ·exact Lib.OthersKept.trans (fun k o hk _ ho=>hk1 k o hk (by simp) ho) hK
section
def qK (n:Int):Bool:=decide (-9223372036854775808≤n)&&decide (n≤9223372036854775807)
def A1 (p:aK):Bool:=qK p.state.day&&p.state.aE.all qK&&p.state.aI.all (fun m=>qK m.aN&&qK m.left&&qK m.got&&qK m.bw)&&decide ((qJ p).length≤1000000000)
def vX (p:aK):Option ByteArray:=if A1 p then some ⟨(qJ p).toArray⟩ else none
structure TB (B Bo:Nat) (W:World) (vs:Array Value) (xs:List UInt8) (w:World):Prop where
 ti:TI B Bo W xs w
 bo:B < Bo
 box:w.heap[B]?=some (.cells vs 40 (0,0))
def MB (Bm:Nat) (vs:Array Value) (w:World):Prop:=w.heap[Bm]?=some (.cells vs 53 (0,0))
theorem TB.of {B Bo:Nat} {W w w':World} {vs:Array Value} {xs ys:List UInt8} (h:TB B Bo W vs xs w) (hT:TI B Bo W ys w') (hK:Lib.OthersKept 5 (some Bo) w w'):TB B Bo W vs ys w':=
 ⟨hT,h.bo,hK B _ h.box (by have:=h.bo;simp;omega) (by intro c fz e;simp at e)⟩
theorem MB.of {B Bo Bm:Nat} {W w w':World} {vs ms:Array Value} {xs:List UInt8} (h:TB B Bo W vs xs w) (hm:MB Bm ms w) (hK:Lib.OthersKept 5 (some Bo) w w'):MB Bm ms w':=by
 refine hK Bm _ hm ?_ (by intro c fz e;simp at e)
 intro e
 obtain ⟨v,hv,_⟩:=h.ti.own
 cases e
 unfold MB at hm
 rw [hv] at hm
 simp at hm
theorem Kb {B Bo:Nat} {W w:World} {vs:Array Value} {xs:List UInt8} (b:Bool) (h:TB B Bo W vs xs w) (hlen:xs.length≤2000000000) :
  Calls Tryz.prog 98 #[.bool b,.pointer (some ⟨Bo,0,none⟩)] w fun e w'=>e=.returned (.tuple #[])∧TB B Bo W vs (xs++jj b) w'∧(∀ Bm ms,MB Bm ms w→MB Bm ms w'):=
 (Rz B Bo W xs b w h.ti hlen).mono fun e w' ⟨h1,h2,h3⟩=>⟨h1,h.of h2 h3,fun _ _ hm=>MB.of h hm h3⟩
theorem yB {B Bo:Nat} {W w:World} {vs:Array Value} {xs:List UInt8} (n:Int) (h:TB B Bo W vs xs w) (hlen:xs.length≤2000000000) (hn:qK n=true)
  (htab : Lib.TabBelow Tryz.prog B W "internal/strconv.uint64pow10" .u64 Lib.pow10Tab) :
  Calls Tryz.prog 96 #[.int .i64 n,.pointer (some ⟨Bo,0,none⟩)] w fun e w'=>e=.returned (.tuple #[])∧TB B Bo W vs (xs++qQ n) w'∧(∀ Bm ms,MB Bm ms w→MB Bm ms w'):=by
 simp only [qK,uc,decide_eq_true_eq] at hn
 exact (RA B Bo W xs n w h.ti hlen hn.1 hn.2 htab).mono fun e w' ⟨h1,h2,h3⟩=>⟨h1,h.of h2 h3,fun _ _ hm=>MB.of h hm h3⟩
theorem TB.cell {B Bo:Nat} {W w:World} {vs:Array Value} {xs:List UInt8} (h:TB B Bo W vs xs w) (j:Nat):w.cell? ⟨B,j,none⟩=vs[j]?:=by
 have:=h.box
 simp [World.cell?,this]
theorem MB.cell {Bm:Nat} {w:World} {vs:Array Value} (h:MB Bm vs w) (j:Nat):w.cell? ⟨Bm,j,none⟩=vs[j]?:=by
 unfold MB at h
 simp [World.cell?,h]
section
variable {B Bo Bm:Nat} {W w:World} {a b c d e:Value} {xs:List UInt8}
theorem TB.c0 (h:TB B Bo W #[a,b,c,d,e] xs w):w.cell? ⟨B,0,none⟩=some a:=h.cell 0
theorem TB.c1 (h:TB B Bo W #[a,b,c,d,e] xs w):w.cell? ⟨B,1,none⟩=some b:=h.cell 1
theorem TB.c2 (h:TB B Bo W #[a,b,c,d,e] xs w):w.cell? ⟨B,2,none⟩=some c:=h.cell 2
theorem TB.c3 (h:TB B Bo W #[a,b,c,d,e] xs w):w.cell? ⟨B,3,none⟩=some d:=h.cell 3
theorem TB.c4 (h:TB B Bo W #[a,b,c,d,e] xs w):w.cell? ⟨B,4,none⟩=some e:=h.cell 4
theorem MB.c0 (h:MB Bm #[a,b,c,d,e] w):w.cell? ⟨Bm,0,none⟩=some a:=h.cell 0
theorem MB.c1 (h:MB Bm #[a,b,c,d,e] w):w.cell? ⟨Bm,1,none⟩=some b:=h.cell 1
theorem MB.c2 (h:MB Bm #[a,b,c,d,e] w):w.cell? ⟨Bm,2,none⟩=some c:=h.cell 2
theorem MB.c3 (h:MB Bm #[a,b,c,d,e] w):w.cell? ⟨Bm,3,none⟩=some d:=h.cell 3
theorem MB.c4 (h:MB Bm #[a,b,c,d,e] w):w.cell? ⟨Bm,4,none⟩=some e:=h.cell 4
end
def t1 (p:aK):List UInt8:=jj p.own++qQ p.state.day
def t2 (p:aK) (k:Nat):List UInt8:=t1 p++(p.state.aE.take k).flatMap qQ
def t3 (p:aK) (k:Nat):List UInt8:=t1 p++p.state.aE.flatMap qQ++(p.state.used.take k).flatMap jj
def t4 (p:aK) (k:Nat):List UInt8:=t1 p++p.state.aE.flatMap qQ++p.state.used.flatMap jj++(p.state.aI.take k).flatMap wU
theorem Kc {α:Type} (f:α→List UInt8) (l:List α) (k:Nat):((l.take k).flatMap f).length≤(l.flatMap f).length:=by
 conv=>rhs;rw [←List.take_append_drop k l]
 rw [uo,ua]
 omega
theorem Wa {α:Type} (f:α→List UInt8) (l:List α) (k:Nat) (h:k < l.length):(l.take (k+1)).flatMap f=(l.take k).flatMap f++f l[k]:=by
 rw [uh h,uo];simp
theorem HU (p:aK) (k:Nat):(t2 p k).length≤(qJ p).length:=by
 have:=Kc qQ p.state.aE k
 simp only [t2,t1,qJ,ua];omega
theorem RC (p:aK) (k:Nat):(t3 p k).length≤(qJ p).length:=by
 have:=Kc jj p.state.used k
 simp only [t3,t1,qJ,ua];omega
theorem HV (p:aK) (k:Nat):(t4 p k).length≤(qJ p).length:=by
 have:=Kc wU p.state.aI k
 simp only [t4,t1,qJ,ua];omega
theorem Wb {α:Type} (f:α→List UInt8) (l:List α) (h:∀ a,1≤(f a).length):l.length≤(l.flatMap f).length:=by
 induction l with
 | nil=>simp
 | cons a l ih=>have:=h a;simp only [List.flatMap_cons,ua,uk];omega
theorem RD (p:aK):p.state.aI.length≤(qJ p).length:=by
 have:=Wb wU p.state.aI (fun a=>by simp only [wU,jj,ua,uk];omega)
 simp only [qJ,ua];omega
theorem RF (p:aK):p.state.used.length≤(qJ p).length:=by
 have:=Wb jj p.state.used (fun a=>by simp [jj])
 simp only [qJ,ua];omega
theorem zdt (p:aK):p.state.aE.length≤(qJ p).length:=by
 have:=Wb qQ p.state.aE (fun a=>by simp [qQ])
 simp only [qJ,ua];omega
set_option maxHeartbeats 6400000 in
set_option maxRecDepth 1000000 in
theorem RG (p:aK) (W:World) (ah au am:Option Addr) (ch cu cm:Nat) (hok:A1 p=true)
  (htab : Lib.TabBelow Tryz.prog W.heap.size W "internal/strconv.uint64pow10" .u64 Lib.pow10Tab)
  (hh:∀ k (hk:k < p.state.aE.length),∃ b off,ah=some ⟨b,off,none⟩∧b < W.heap.size∧W.cell? ⟨b,off+k,none⟩=some (.int .i64 p.state.aE[k]))
  (hu:∀ k (hk:k < p.state.used.length),∃ b off,au=some ⟨b,off,none⟩∧b < W.heap.size∧W.cell? ⟨b,off+k,none⟩=some (.bool p.state.used[k]))
  (hm:∀ k (hk:k < p.state.aI.length),∃ b off,am=some ⟨b,off,none⟩∧b < W.heap.size∧W.cell? ⟨b,off+k*5,none⟩=some (.int .i64 p.state.aI[k].aN)∧W.cell? ⟨b,off+k*5+1,none⟩=some (.int .i64 p.state.aI[k].left) ∧
   W.cell? ⟨b,off+k*5+2,none⟩=some (.int .i64 p.state.aI[k].got)∧W.cell? ⟨b,off+k*5+3,none⟩=some (.int .i64 p.state.aI[k].bw)∧W.cell? ⟨b,off+k*5+4,none⟩=some (.bool p.state.aI[k].bN)) :
  Calls Tryz.prog 64 #[.agg #[.int .i64 p.state.day,.slice ah p.state.aE.length ch,.slice au p.state.used.length cu,.slice am p.state.aI.length cm,.bool p.own]] W
   fun e w'=>e=.returned (.string ⟨(qJ p).toArray⟩)∧Below W.heap.size W w':=by
 have hmf:∀ (fn:Fn) (first cap:Array Value) (w:World),(Instr.makeFunc fn first cap).run Tryz.prog w=.ok (.func fn first cap) w:=fun _ _ _ _=>rfl
 obtain ⟨i0,hi,gG,iR,lz⟩:=info_parts yA
 simp only [A1,uc,decide_eq_true_eq,ui] at hok
 obtain ⟨⟨⟨hd,A4⟩,nL⟩,hlen⟩:=hok
 have hml:=RD p
 have RJ:=RF p
 have RK:=zdt p
 go_enter Tryz.func64,Tryz.ntmps64
 go_wp2_with (at_make;refine wpList_make_own _ rfl _ _ 163 rfl W.heap.size 5 i0 (.int .u8 0) 1 Tryz.underlying163 hi gG iR .i64 .i64 (32+12*(p.state.aI.length:Int)) (32+12*p.state.aI.length) rfl rfl (by omega) (by rw [lz];omega) (by unfold maxLen;omega) (by simp) ?_;intro w1 hown hgrow;refine Hid.out ?_)
 refine Lib.hid ?_
 have Ch:w1.heap[W.heap.size]?=some (.cells #[.int .i64 p.state.day,.slice ah p.state.aE.length ch,.slice au p.state.used.length cu,.slice am p.state.aI.length cm,.bool p.own] 40 (0,0)):=by
  rw [hgrow.block W.heap.size (by simp) (by simp)]
  exact zW W _
 have hw1:W.heap.size+1≤w1.heap.size:=by have:=hgrow.size;simpa using this
 have nI:Below W.heap.size W w1:=((Below.refl _ _).alloc (uA _) _).grown hgrow (by simp) (fun k hk=>by cases hk)
 clear hgrow
 have sN:TB W.heap.size w1.heap.size W #[.int .i64 p.state.day,.slice ah p.state.aE.length ch,.slice au p.state.used.length cu,.slice am p.state.aI.length cm,.bool p.own] []
   (w1.alloc (.cells #[.slice (some ⟨W.heap.size+1,0,none⟩) 0 (32+12*p.state.aI.length)] 163)):=by
  refine ⟨⟨nI.alloc (by omega) _,by omega,_,zW _ _,?_⟩,by omega,(Below.heap_alloc _ _ _ (by omega)).trans Ch⟩
  have:=hown.alloc (.cells #[.slice (some ⟨W.heap.size+1,0,none⟩) 0 (32+12*p.state.aI.length)] 163)
  simpa [Lib.byteCells] using this
 have c0:=sN.c4
 have fK:(jj p.own).length≤2000000000:=by simp [jj]
 have hl2:(t1 p).length≤2000000000:=by have:=HU p 0;simp [t2] at this;omega
 clear hown Ch
 go_wp2_with (first
  | (go_at_call 98;refine (Kb p.own sN (by simp)).mono ?_;rintro e w2 ⟨rfl,h2,_⟩;have c2:=h2.c0)
  | (go_at_call 96;refine (yB p.state.day h2 (by simpa using fK) hd htab).mono ?_;rintro e w3 ⟨rfl,h3,_⟩;have c3:=h3.c1))
 have oJ:TB W.heap.size w1.heap.size W #[.int .i64 p.state.day,.slice ah p.state.aE.length ch,.slice au p.state.used.length cu,.slice am p.state.aI.length cm,.bool p.own] (t2 p 0) w3:=by simpa [t2,t1] using h3
 clear h3 h2 sN c0 c2 c3
 go_loopw [34] (fun i wr=>∃ k:Nat,k≤p.state.aE.length∧i=.int .i64 k∧TB W.heap.size w1.heap.size W #[.int .i64 p.state.day,.slice ah p.state.aE.length ch,.slice au p.state.used.length cu,.slice am p.state.aI.length cm,.bool p.own] (t2 p k) wr)
  (fun i _=>p.state.aE.length - (intOf i).toNat)
 case atStart=>exact ⟨0,ug _,rfl,oJ⟩
 case round=>
  obtain ⟨k,hk,rfl,dM⟩:=hrel
  clear oJ
  have hlk:=HU p k
  by_cases eX:k < p.state.aE.length
  ·obtain ⟨b,off,rfl,iJ,nT⟩:=hh k eX
   have pJ:wr.cell? ⟨b,off+k,none⟩=some (.int .i64 p.state.aE[k]):=(dM.ti.below.cell (by exact iJ)).trans nT
   have hin:=A4 _ (ue eX)
   go_wp2_with (go_at_call 96;refine (yB p.state.aE[k] dM (by omega) hin htab).mono ?_;rintro e w4 ⟨rfl,h4,_⟩)
   go_roundw
   case rel=>exact ⟨k+1,by omega,by go_num,by simpa [t2,Wa _ _ _ eX] using h4⟩
   case measure=>simp [intOf];omega
  ·have c2:=dM.c2
   go_wp2
   obtain rfl:k=p.state.aE.length:=by omega
   have oJ:TB W.heap.size w1.heap.size W #[.int .i64 p.state.day,.slice ah p.state.aE.length ch,.slice au p.state.used.length cu,.slice am p.state.aI.length cm,.bool p.own] (t3 p 0) wr:=by simpa [t2,t3] using dM
   clear dM c2 hlk
   obtain ⟨wo,rfl⟩:∃ wo:World,wo=wr:=⟨_,rfl⟩
   go_loopw [46] (fun i wr=>∃ k:Nat,k≤p.state.used.length∧i=.int .i64 k∧TB W.heap.size w1.heap.size W #[.int .i64 p.state.day,.slice ah p.state.aE.length ch,.slice au p.state.used.length cu,.slice am p.state.aI.length cm,.bool p.own] (t3 p k) wr)
    (fun i _=>p.state.used.length - (intOf i).toNat)
   case atStart=>exact ⟨0,ug _,rfl,oJ⟩
   case round=>
    obtain ⟨k,hk,rfl,dM⟩:=hrel
    clear oJ
    have hlk:=RC p k
    by_cases eX:k < p.state.used.length
    ·obtain ⟨b,off,rfl,iJ,nT⟩:=hu k eX
     have pJ:wr.cell? ⟨b,off+k,none⟩=some (.bool p.state.used[k]):=(dM.ti.below.cell (by exact iJ)).trans nT
     go_wp2_with (go_at_call 98;refine (Kb p.state.used[k] dM (by omega)).mono ?_;rintro e w4 ⟨rfl,h4,_⟩)
     go_roundw
     case rel=>exact ⟨k+1,by omega,by go_num,by simpa [t3,Wa _ _ _ eX] using h4⟩
     case measure=>simp [intOf];omega
    ·have c2:=dM.c3
     go_wp2
     obtain rfl:k=p.state.used.length:=by omega
     have oJ:TB W.heap.size w1.heap.size W #[.int .i64 p.state.day,.slice ah p.state.aE.length ch,.slice au p.state.used.length cu,.slice am p.state.aI.length cm,.bool p.own] (t4 p 0) wr:=by simpa [t3,t4] using dM
     clear dM c2 hlk
     obtain ⟨RL,rfl⟩:∃ wo:World,wo=wr:=⟨_,rfl⟩
     go_loopw [58] (fun i wr=>∃ k:Nat,k≤p.state.aI.length∧i=.int .i64 k∧TB W.heap.size w1.heap.size W #[.int .i64 p.state.day,.slice ah p.state.aE.length ch,.slice au p.state.used.length cu,.slice am p.state.aI.length cm,.bool p.own] (t4 p k) wr)
      (fun i _=>p.state.aI.length - (intOf i).toNat)
     case atStart=>exact ⟨0,ug _,rfl,oJ⟩
     case round=>
      obtain ⟨k,hk,rfl,dM⟩:=hrel
      clear oJ
      have hlk:=HV p k
      by_cases eX:k < p.state.aI.length
      ·obtain ⟨b,off,rfl,iJ,hc0,hc1,eC,nS,sO⟩:=hm k eX
       have hin:=nL _ (ue eX)
       have dl:t4 p (k+1)=t4 p k++wU p.state.aI[k]:=by simp [t4,Wa _ _ _ eX]
       obtain ⟨m,hmk⟩:∃ m,m=p.state.aI[k]:=⟨_,rfl⟩
       rw [←hmk] at hc0 hc1 eC nS sO hin dl
       clear hmk
       have mj:=(dM.ti.below.cell (p:=⟨b,off+k*5,none⟩) (by exact iJ)).trans hc0
       have iF:=(dM.ti.below.cell (p:=⟨b,off+k*5+1,none⟩) (by exact iJ)).trans hc1
       have hd2:=(dM.ti.below.cell (p:=⟨b,off+k*5+2,none⟩) (by exact iJ)).trans eC
       have sx:=(dM.ti.below.cell (p:=⟨b,off+k*5+3,none⟩) (by exact iJ)).trans nS
       have Ei:=(dM.ti.below.cell (p:=⟨b,off+k*5+4,none⟩) (by exact iJ)).trans sO
       clear hc0 hc1 eC nS sO
       have HW:TB W.heap.size w1.heap.size W #[.int .i64 p.state.day,.slice ah p.state.aE.length ch,.slice au p.state.used.length cu,.slice (some ⟨b,off,none⟩) p.state.aI.length cm,.bool p.own] (t4 p k) (wr.alloc (.cells #[.int .i64 m.aN,.int .i64 m.left,.int .i64 m.got,.int .i64 m.bw,.bool m.bN] 53)):=
        dM.of ⟨dM.ti.below.alloc (by have:=dM.ti.below.size;omega) _,dM.ti.lt,by obtain ⟨v,hv,ho⟩:=dM.ti.own;exact ⟨v,(Below.heap_alloc _ _ _ (lt_of_block hv)).trans hv,ho.alloc _⟩⟩ ((Lib.OthersKept.refl _ _ _).alloc _)
       have hM1:MB wr.heap.size #[.int .i64 m.aN,.int .i64 m.left,.int .i64 m.got,.int .i64 m.bw,.bool m.bN] (wr.alloc (.cells #[.int .i64 m.aN,.int .i64 m.left,.int .i64 m.got,.int .i64 m.bw,.bool m.bN] 53)):=zW _ _
       have e1:=hM1.c0
       have l1:(t4 p k++qQ m.aN).length≤2000000000∧(t4 p k++qQ m.aN++qQ m.left).length≤2000000000∧(t4 p k++qQ m.aN++qQ m.left++qQ m.got).length≤2000000000 ∧
         (t4 p k++qQ m.aN++qQ m.left++qQ m.got++qQ m.bw).length≤2000000000:=by
        have:=HV p (k+1)
        rw [dl] at this
        simp only [wU,ua] at this ⊢
        omega
       have l0:(t4 p k).length≤2000000000:=by omega
       have HL:=Lib.hid l1
       have HS:=Lib.hid dl
       clear l1 dM dl
       go_wp2_with (go_at_call 96;refine (yB m.aN HW l0 hin.1.1.1 htab).mono ?_;rintro e w5 ⟨rfl,h5,k5⟩;have m5:=k5 _ _ hM1;have e5:=m5.c1;refine Hid.out ?_)
       refine Lib.hid ?_
       clear mj iF hd2 sx Ei e1 HW hM1 k5
       go_wp2_with (go_at_call 96;refine (yB m.left h5 HL.out.1 hin.1.1.2 htab).mono ?_;rintro e w6 ⟨rfl,h6,k6⟩;have m6:=k6 _ _ m5;have e6:=m6.c2;refine Hid.out ?_)
       refine Lib.hid ?_
       clear e5 h5 m5 k6
       go_wp2_with (go_at_call 96;refine (yB m.got h6 HL.out.2.1 hin.1.2 htab).mono ?_;rintro e w7 ⟨rfl,h7,k7⟩;have m7:=k7 _ _ m6;have e7:=m7.c3;refine Hid.out ?_)
       refine Lib.hid ?_
       clear e6 h6 m6 k7
       go_wp2_with (go_at_call 96;refine (yB m.bw h7 HL.out.2.2.1 hin.2 htab).mono ?_;rintro e w8 ⟨rfl,h8,k8⟩;have m8:=k8 _ _ m7;have e8:=m8.c4;refine Hid.out ?_)
       refine Lib.hid ?_
       clear e7 h7 m7 k8
       go_wp2_with (go_at_call 98;refine (Kb m.bN h8 HL.out.2.2.2).mono ?_;rintro e w9 ⟨rfl,h9,-⟩)
       go_roundw
       case rel=>exact ⟨k+1,by omega,by go_num,by rw [HS.out];simpa [wU] using h9⟩
       case measure=>simp [intOf];omega
      ·obtain rfl:k=p.state.aI.length:=by omega
       have hT:TB W.heap.size w1.heap.size W #[.int .i64 p.state.day,.slice ah p.state.aE.length ch,.slice au p.state.used.length cu,.slice am p.state.aI.length cm,.bool p.own] (qJ p) wr:=by simpa [t4,qJ,t1] using dM
       obtain ⟨⟨nV,hlt,v,hv,hown⟩,BV,Ch⟩:=hT
       have hpos:0 < (qJ p).length:=by simp [qJ,jj]
       rcases hown.2 with ⟨-,h0⟩ | ⟨g,cap,cur,rfl,-,-,-,-,-,-⟩
       ·omega
       ·have cW:=cell_of_one hv
        have hcv:=run_convert_bytes_back (P:=Tryz.prog) wr 163 9 5 ⟨g,0,none⟩ cap (qJ p) Tryz.underlying163 Tryz.underlying5 Tryz.underlying9 (fun j hj=>hown.cells (g:=g) rfl j _ (by simp [Lib.byteCells,hj]))
        go_wp2
        go_ret
        exact ⟨rfl,nV⟩
theorem RI.dO {α:Type} {Z:Nat→Nat} {w:World} {f:α→List IV} {l:List α} {v:Value} (sz:Nat) (hf:∀ a,(f a).length=sz) (h0:0 < sz) (hz:∀ b,0 < Z b→b < w.heap.size) (h:RI Z w (.slice (l.map f)) v) :
  ∃ a cap,v=.slice a l.length cap∧∀ k (hk:k < l.length),∃ b off,a=some ⟨b,off,none⟩∧b < w.heap.size∧∀ j c,(f l[k])[j]?=some c→∃ cv,w.cell? ⟨b,off+k*sz+j,none⟩=some cv∧RI Z w c cv:=by
 generalize hx:IV.slice (l.map f)=x at h
 cases h with
 | bool b=>cases hx
 | int k n=>cases hx
 | str s=>cases hx
 | agg cs vs hl h1 hr=>cases hx
 | tuple cs vs hl hr=>cases hx
 | iface t x v hr=>cases hx
 | cY=>cases hx
 | ff=>cases hx
 | nil=>
  have:l=[]:=by simpa using hx
  subst this
  exact ⟨none,0,rfl,fun k hk=>by simp at hk⟩
 | empty a cap=>
  have:l=[]:=by simpa using hx
  subst this
  exact ⟨some a,cap,rfl,fun k hk=>by simp at hk⟩
 | slice af b off cap sz' cv hcap hsz gL hc hr=>
  obtain rfl:l.map f=af:=by injection hx
  refine ⟨some ⟨b,off,none⟩,cap,by simp,fun k hk=>⟨b,off,rfl,?_,fun j c hj => ?_⟩⟩
  ·have hrow:(l.map f)[k]?=some (f l[k]):=by simp [hk]
   have hne:0 < (f l[k]).length:=by rw [hf];exact h0
   have:=gL k _ 0 _ hrow (List.getElem?_eq_getElem hne)
   exact hz b (by omega)
  ·have hrow:(l.map f)[k]?=some (f l[k]):=by simp [hk]
   have h1:=hsz k _ hrow
   rw [hf] at h1
   subst h1
   exact ⟨_,(hc k _ j c hrow hj).1,hr k _ j c hrow hj⟩
theorem RI.cU {Z:Nat→Nat} {w:World} {k:IntKind} {n:Int} {v:Value} (h:RI Z w (.int k n) v):v=.int k n:=by cases h;rfl
theorem RI.eY {Z:Nat→Nat} {w:World} {b:Bool} {v:Value} (h:RI Z w (.bool b) v):v=.bool b:=by cases h;rfl
theorem V4 (p:aK) (res:ByteArray) (hd:vX p=some res):aL C0 81 [.agg (aK.row p)] (.str res):=by
 refine ⟨⟨Tryz.f64,by kernel_rfl,by kernel_rfl,by kernel_rfl⟩,fun Z w vs hz sP hr => ?_⟩
 unfold vX at hd
 split at hd
 ·rename_i hok
  cases hd
  obtain ⟨hl,hr⟩:=hr
  match vs,hl with
  | [v],_=>
   have h0:=hr 0 _ _ rfl rfl
   generalize hx:IV.agg (aK.row p)=x at h0
   cases h0 with
   | bool b=>cases hx
   | int k n=>cases hx
   | str s=>cases hx
   | nil=>cases hx
   | empty a cap=>cases hx
   | slice af b off cap sz' cv hcap hsz gL hc hr=>cases hx
   | tuple cs vs hl hr=>cases hx
   | iface t x v hr=>cases hx
   | cY=>cases hx
   | ff=>cases hx
   | agg cs vs hl h1 bZ=>
    obtain rfl:aK.row p=cs:=by injection hx
    match vs,hl with
    | [a,b,c,d,e],_=>
     have r0:=RI.cU (bZ 0 _ _ rfl rfl)
     have r4:=RI.eY (bZ 4 _ _ rfl rfl)
     obtain ⟨ah,ch,rfl,vh⟩:=RI.dO 1 (fun _=>rfl) (by omega) hz (bZ 1 _ _ rfl rfl)
     obtain ⟨au,cu,rfl,vu⟩:=RI.dO 1 (fun _=>rfl) (by omega) hz (bZ 2 _ _ rfl rfl)
     obtain ⟨am,cm,rfl,vm⟩:=RI.dO 5 (fun _=>rfl) (by omega) hz (bZ 3 _ _ rfl rfl)
     subst r0 r4
     refine (RG p w ah au am ch cu cm hok (Lib.tabBelow_of_tabIs sP.1) (fun k hk => ?_) (fun k hk => ?_) (fun k hk => ?_)).mono fun e w' ⟨he,hb⟩=>⟨_,Z,he,.str _,fun _ _=>rfl,fun b hb'=>ur (hz b hb') hb.size,hb⟩
     ·obtain ⟨b,off,h1,h2,h3⟩:=vh k hk
      obtain ⟨cv,h4,h5⟩:=h3 0 _ rfl
      rw [RI.cU h5] at h4
      exact ⟨b,off,h1,h2,by simpa using h4⟩
     ·obtain ⟨b,off,h1,h2,h3⟩:=vu k hk
      obtain ⟨cv,h4,h5⟩:=h3 0 _ rfl
      rw [RI.eY h5] at h4
      exact ⟨b,off,h1,h2,by simpa using h4⟩
     ·obtain ⟨b,off,h1,h2,h3⟩:=vm k hk
      obtain ⟨c0,g0,q0⟩:=h3 0 _ rfl
      obtain ⟨c1,g1,q1⟩:=h3 1 _ rfl
      obtain ⟨c2,g2,q2⟩:=h3 2 _ rfl
      obtain ⟨c3,g3,q3⟩:=h3 3 _ rfl
      obtain ⟨c4,g4,q4⟩:=h3 4 _ rfl
      rw [RI.cU q0] at g0
      rw [RI.cU q1] at g1
      rw [RI.cU q2] at g2
      rw [RI.cU q3] at g3
      rw [RI.eY q4] at g4
      exact ⟨b,off,h1,h2,by simpa using g0,g1,g2,g3,g4⟩
 ·cases hd
end
section
def qw:List Int→List UInt8
 | []=>[]
 | [n]=>Lib.itoa n
 | n::r=>Lib.itoa n++46::qw r
def wc (n:Int):List UInt8:=Lib.itoa n++[44]
def wV (b:Bool):List UInt8:=[if b then 49 else 48]
def vj (m:aj):List UInt8:=qw [m.aN,m.left,m.got,m.bw]++(if m.bN then [112] else [])++[44]
def ja (s:ak):List UInt8:=Lib.itoa s.day++[59]++s.aE.flatMap wc++[59]++s.used.flatMap wV++[59]++s.aI.flatMap vj
def tP (s:ak):Bool:=qK s.day&&s.aE.all qK&&s.aI.all (fun m=>qK m.aN&&qK m.left&&qK m.got&&qK m.bw)&&decide ((ja s).length≤1000000000)
def vk (s:ak):Option ByteArray:=if tP s then some ⟨(ja s).toArray⟩ else none
theorem WH (n:Int):∀ l:List Int,qw (l++[n])=if l=[] then Lib.itoa n else qw l++46::Lib.itoa n
 | []=>rfl
 | [a]=>rfl
 | a::b::r=>by
  have:=WH n (b::r)
  rw [if_neg (by simp)] at this ⊢
  show Lib.itoa a++46::qw ((b::r)++[n])=(Lib.itoa a++46::qw (b::r))++46::Lib.itoa n
  rw [this]
  simp
theorem V5:∀ l:List Int,(∀ n∈l,qK n=true)→(qw l).length≤22*l.length
 | [],_=>by simp [qw]
 | a::r,h=>by
  have h1:=h a (by simp)
  simp only [qK,uc,decide_eq_true_eq] at h1
  have h2:=Lib.itoa_length_le a h1.1 h1.2
  have h3:=V5 r fun n hn=>h n (List.mem_cons_of_mem _ hn)
  cases r with
  | nil=>simp only [qw,ub];omega
  | cons b r=>simp only [qw,ua,uk] at h3 ⊢; omega
structure TO (B:Nat) (W:World) (xs:List UInt8) (v:Value) (w:World):Prop where
 below:Below B W w
 lt:B≤w.heap.size
 own:w.ownsRow B 5 1 v xs.length (Lib.byteCells xs)
theorem TO.push {B n:Nat} {W w w2:World} {xs:List UInt8} {ys:List Value} {v v':Value} {c:UInt8} {o:Obj} (hb:Below B W w) (hlt:B≤w.heap.size) (hown:w.ownsRow B 5 1 v n ys)
  (di:w2.ownsRow B 5 1 v' (xs.length+1) (Lib.byteCells xs++[.int .u8 c.toNat])) (hg:(w.alloc o).grownBy w2 v.ownBlock):TO B W (xs++[c]) v' w2∧Lib.OthersKept 5 none w w2:=by
 have hsz:=hg.size
 have hs1:(w.alloc o).heap.size=w.heap.size+1:=by simp
 refine ⟨⟨(hb.alloc hlt o).grown hg (by simp;omega) (fun k hk=>(hown.lt k hk).1),by omega,by simpa [Lib.byteCells] using di⟩,Lib.OthersKept.grown ((Lib.OthersKept.refl _ _ _).alloc o) hg ?_⟩
 intro g pT
 have:=hown.lt g pT
 rcases hown.2 with ⟨rfl,_⟩ | ⟨g',cap,cur,rfl,_,hh,_⟩
 ·simp [Value.ownBlock] at pT
 ·simp [Value.ownBlock] at pT
  subst pT
  exact ⟨cur,(0,0),(Below.heap_alloc _ _ _ this.2).trans hh⟩
theorem TO.int {B : Nat} {W w : World} {xs : List UInt8} {v : Value} {n : Int} (h : TO B W xs v w) (hlen : xs.length ≤ 2000000000) (hn : qK n = true) (htab : Lib.TabBelow Tryz.prog B W "internal/strconv.uint64pow10" .u64 Lib.pow10Tab) :
  Calls Tryz.prog 97 #[v,.int .i64 n,.int .i64 10] w fun e w'=>∃ v',e=.returned v'∧TO B W (xs++Lib.itoa n) v' w'∧Lib.OthersKept 5 none w w':=by
 simp only [qK,uc,decide_eq_true_eq] at hn
 refine (HQ B _ n hn.1 hn.2 v _ w h.own h.lt (by omega) (htab.on h.below)).mono ?_
 rintro e w1 ⟨v1,rfl,fY,pU,hk1⟩
 refine ⟨v1,rfl,⟨h.below.trans pU,Nat.le_trans h.lt pU.size,?_⟩,hk1⟩
 rw [←ua,show Lib.byteCells xs++Lib.byteCells (Lib.itoa n)=Lib.byteCells (xs++Lib.itoa n) from by simp [Lib.byteCells]] at fY
 exact fY
set_option maxHeartbeats 1600000 in
set_option maxRecDepth 100000 in
theorem RM (B bn cap:Nat) (W:World) (xs:List UInt8) (ns:List Int) (v:Value) (w:World) (h:TO B W xs v w) (hlen:xs.length≤1900000000) (Ce:ns.length≤4) (hin:ns.all qK=true)
  (RN:w.heap[bn]?=some (.cells (ns.map fun n=>Value.int .i64 n).toArray 3 (0,0)))
  (htab : Lib.TabBelow Tryz.prog B W "internal/strconv.uint64pow10" .u64 Lib.pow10Tab) :
  Calls Tryz.prog 102 #[v,.slice (some ⟨bn,0,none⟩) ns.length cap] w fun e w'=>∃ v',e=.returned v'∧TO B W (xs++qw ns) v' w'∧Lib.OthersKept 5 none w w':=by
 obtain ⟨i0,hi,gG,iR,lz⟩:=info_parts yA
 simp only [ui] at hin
 go_enter Tryz.func102,Tryz.ntmps102
 go_wp2
 go_loopw [0,9] (fun x i wr=>∃ k:Nat,k≤ns.length∧i=.int .i64 k∧TO B W (xs++qw (ns.take k)) x wr∧Lib.OthersKept 5 none w wr)
  (fun _ i _=>ns.length - (intOf i).toNat)
 case atStart=>exact ⟨0,ug _,rfl,by simpa [qw] using h,Lib.OthersKept.refl _ _ _⟩
 case round=>
  obtain ⟨k,hk,rfl,hT,hK⟩:=hrel
  have Ci:wr.heap[bn]?=some (.cells (ns.map fun n=>Value.int .i64 n).toArray 3 (0,0)):=hK bn _ RN (by simp) (by intro c fz e;simp at e)
  by_cases eX:k < ns.length
  ·have pJ:wr.cell? ⟨bn,k,none⟩=some (.int .i64 ns[k]):=by simp [World.cell?,Ci,eX]
   have hlt:(xs++qw (ns.take k)).length≤1900000100:=by
    have:=V5 (ns.take k) (fun n hn=>hin n (List.mem_of_mem_take hn))
    simp only [ua,uv] at this ⊢
    omega
   have A5:qK ns[k]=true:=hin _ (ue eX)
   have htk:ns.take (k+1)=ns.take k++[ns[k]]:=uh eX
   rcases Nat.eq_zero_or_pos k with rD | rD
   ·subst rD
    go_wp2_with (go_at_call 97;refine (hT.int (by omega) A5 htab).mono ?_;rintro e w4 ⟨v4,rfl,h4,k4⟩)
    go_roundw
    case rel=>exact ⟨1,by omega,rfl,by rw [htk];simpa [qw] using h4,hK.trans k4⟩
    case measure=>simp [intOf];omega
   ·obtain ⟨ys,hys⟩:∃ l,l=xs++qw (ns.take k):=⟨_,rfl⟩
    rw [←hys] at hT hlt
    have HY:=Lib.hid hys
    clear hys
    have hBl:=hT.lt
    go_wp2_with (at_builtin;refine wpList_append_own _ rfl _ _ 163 rfl B 5 i0 (.int .u8 0) 1 1 Tryz.underlying163 hi gG iR lz rfl (by decide) _ _ _ rfl (hT.own.alloc _) ⟨wr.heap.size,0,none⟩ 1 1 [Value.int .u8 46] rfl rfl ?c1 ?c2 ?c3 ?c4 ?c5 ?_)
    case c1=>
     intro j u hj
     match j,hj with
     | 0,hj=>simp at hj;subst hj;simp [Addr.add]
    case c2=>intro u hu;simp at hu;subst hu;rfl
    case c3=>unfold maxLen;omega
    case c4=>omega
    case c5=>simp;omega
    intro v' w2 di hgrow _
    obtain ⟨RO,RP⟩:=TO.push (c:=46) hT.below hT.lt hT.own di hgrow
    clear di hgrow
    go_wp2_with (go_at_call 97;refine (RO.int (by rw [ua];simp only [ub];omega) A5 htab).mono ?_;rintro e w4 ⟨v4,rfl,h4,k4⟩)
    go_roundw
    case rel=>
     refine ⟨k+1,by omega,by go_num,?_,(hK.trans RP).trans k4⟩
     rw [HY.out] at h4
     rw [htk,WH,if_neg (by intro e;have:=congrArg uy e;rw [uv,um] at this;omega)]
     simpa using h4
    case measure=>simp [intOf];omega
  ·obtain rfl:k=ns.length:=by omega
   go_wp2
   go_ret
   exact ⟨_,rfl,by simpa using hT,hK⟩
structure TS (B:Nat) (W:World) (vs:Array Value) (xs:List UInt8) (v:Value) (w:World):Prop where
 o:TO B W xs v w
 box:w.heap[B]?=some (.cells vs 33 (0,0))
theorem TS.of {B:Nat} {W w w':World} {vs:Array Value} {xs ys:List UInt8} {v v':Value} (h:TS B W vs xs v w) (hT:TO B W ys v' w') (hK:Lib.OthersKept 5 none w w'):TS B W vs ys v' w':=
 ⟨hT,hK B _ h.box (by simp) (by intro c fz e;simp at e)⟩
theorem TS.cell {B:Nat} {W w:World} {vs:Array Value} {xs:List UInt8} {v:Value} (h:TS B W vs xs v w) (j:Nat):w.cell? ⟨B,j,none⟩=vs[j]?:=by
 have:=h.box
 simp [World.cell?,this]
section
variable {B:Nat} {W w:World} {a b c d v:Value} {xs:List UInt8}
theorem TS.c0 (h:TS B W #[a,b,c,d] xs v w):w.cell? ⟨B,0,none⟩=some a:=h.cell 0
theorem TS.c1 (h:TS B W #[a,b,c,d] xs v w):w.cell? ⟨B,1,none⟩=some b:=h.cell 1
theorem TS.c2 (h:TS B W #[a,b,c,d] xs v w):w.cell? ⟨B,2,none⟩=some c:=h.cell 2
theorem TS.c3 (h:TS B W #[a,b,c,d] xs v w):w.cell? ⟨B,3,none⟩=some d:=h.cell 3
end
theorem TS.writes {B bn n cap:Nat} {W w w0:World} {vs:Array Value} {xs:List UInt8} {v:Value} {o:Obj} (ns:List Int) (h:TS B W vs xs v w) (hlen:xs.length≤1900000000) (Ce:ns.length≤4) (hin:ns.all qK=true)
  (htab : Lib.TabBelow Tryz.prog B W "internal/strconv.uint64pow10" .u64 Lib.pow10Tab) (hw : w0 = w.alloc o) (ho : o = .cells (ns.map fun n => Value.int .i64 n).toArray 3) (hb : bn = w.heap.size) (hn : n = ns.length) :
  Calls Tryz.prog 102 #[v,.slice (some ⟨bn,0,none⟩) n cap] w0 fun e w'=>∃ v',e=.returned v'∧TS B W vs (xs++qw ns) v' w'∧Lib.OthersKept 5 none w w':=by
 subst hw ho hb hn
 have hA:TO B W xs v (w.alloc (.cells (ns.map fun n=>Value.int .i64 n).toArray 3)):=⟨h.o.below.alloc h.o.lt _,by have:=h.o.lt;simp;omega,h.o.own.alloc _⟩
 have HX:Lib.OthersKept 5 none w (w.alloc (.cells (ns.map fun n=>Value.int .i64 n).toArray 3)):=(Lib.OthersKept.refl _ _ _).alloc _
 refine (RM B w.heap.size cap W xs ns v _ hA hlen Ce hin (zW _ _) htab).mono ?_
 rintro e w' ⟨v',rfl,h2,h3⟩
 exact ⟨v',rfl,(h.of hA HX).of h2 h3,HX.trans h3⟩
theorem TS.byte {ops:Array Oper} {rest:List Oper} {o:Oper} {a:Act} {Q:Exit→Act→World→Prop} {B bn:Nat} {k:Int} {W w w0:World} {vs:Array Value} {xs:List UInt8} {v:Value} (c:UInt8) (h:TS B W vs xs v w) (hlen:xs.length≤2000000000)
  (hgd:o.guard=none) (s x:Operand) (ho:o.op=.call {callee:=.builtin .append,args := #[s,x],argTypes := #[163,163]}) (hs:a.eval s=v) (hx:a.eval x=.slice (some ⟨bn,0,none⟩) 1 1)
  (hb:bn=w.heap.size) (hw:w0=w.alloc (.cells #[.int .u8 k] 5)) (hc:k=c.toNat)
  (K:∀ v' w',TS B W vs (xs++[c]) v' w'→Lib.OthersKept 5 none w w'→wpList Tryz.prog ops Q rest (a.put o.dst v') w'):wpList Tryz.prog ops Q (o::rest) a w0:=by
 subst hb hw hc
 obtain ⟨i0,hi,gG,iR,lz⟩:=info_parts yA
 have hl:=h.o.lt
 refine wpList_append_own _ hgd s x 163 ho B 5 i0 (.int .u8 0) 1 1 Tryz.underlying163 hi gG iR lz rfl (by decide) v _ _ hs (h.o.own.alloc _) ⟨w.heap.size,0,none⟩ 1 1 [.int .u8 c.toNat] hx rfl ?_ ?_ ?_ ?_ ?_ ?_
 ·intro j u hj
  match j,hj with
  | 0,hj=>simp at hj;subst hj;simp [Addr.add]
 ·intro u hu
  simp at hu
  subst hu
  rfl
 ·unfold maxLen;omega
 ·omega
 ·simp;omega
 ·intro v' w2 di hg _
  obtain ⟨h1,h2⟩:=TO.push h.o.below h.o.lt h.o.own di hg
  exact K _ _ (h.of h1 h2) h2
def e1 (s:ak) (k:Nat):List UInt8:=Lib.itoa s.day++[59]++(s.aE.take k).flatMap wc
def e2 (s:ak) (k:Nat):List UInt8:=Lib.itoa s.day++[59]++s.aE.flatMap wc++[59]++(s.used.take k).flatMap wV
def e3 (s:ak) (k:Nat):List UInt8:=Lib.itoa s.day++[59]++s.aE.flatMap wc++[59]++s.used.flatMap wV++[59]++(s.aI.take k).flatMap vj
theorem HZ (s:ak) (k:Nat):(e1 s k).length≤(ja s).length:=by
 have:=Kc wc s.aE k
 simp only [e1,ja,ua];omega
theorem H6 (s:ak) (k:Nat):(e2 s k).length≤(ja s).length:=by
 have:=Kc wV s.used k
 simp only [e2,ja,ua];omega
theorem RQ (s:ak) (k:Nat):(e3 s k).length≤(ja s).length:=by
 have:=Kc vj s.aI k
 simp only [e3,ja,ua];omega
theorem RS (s:ak):s.aE.length≤(ja s).length∧s.used.length≤(ja s).length∧s.aI.length≤(ja s).length:=by
 have h1:=Wb wc s.aE (fun a=>by simp [wc])
 have h2:=Wb wV s.used (fun a=>by simp [wV])
 have h3:=Wb vj s.aI (fun a=>by simp only [vj,ua,ub];omega)
 simp only [ja,ua]
 omega
set_option maxHeartbeats 6400000 in
set_option maxRecDepth 1000000 in
theorem RT (s:ak) (W:World) (ah au am:Option Addr) (ch cu cm:Nat) (hok:tP s=true)
  (htab : Lib.TabBelow Tryz.prog W.heap.size W "internal/strconv.uint64pow10" .u64 Lib.pow10Tab)
  (hh:∀ k (hk:k < s.aE.length),∃ b off,ah=some ⟨b,off,none⟩∧b < W.heap.size∧W.cell? ⟨b,off+k,none⟩=some (.int .i64 s.aE[k]))
  (hu:∀ k (hk:k < s.used.length),∃ b off,au=some ⟨b,off,none⟩∧b < W.heap.size∧W.cell? ⟨b,off+k,none⟩=some (.bool s.used[k]))
  (hm:∀ k (hk:k < s.aI.length),∃ b off,am=some ⟨b,off,none⟩∧b < W.heap.size∧W.cell? ⟨b,off+k*5,none⟩=some (.int .i64 s.aI[k].aN)∧W.cell? ⟨b,off+k*5+1,none⟩=some (.int .i64 s.aI[k].left) ∧
   W.cell? ⟨b,off+k*5+2,none⟩=some (.int .i64 s.aI[k].got)∧W.cell? ⟨b,off+k*5+3,none⟩=some (.int .i64 s.aI[k].bw)∧W.cell? ⟨b,off+k*5+4,none⟩=some (.bool s.aI[k].bN)) :
  Calls Tryz.prog 75 #[.agg #[.int .i64 s.day,.slice ah s.aE.length ch,.slice au s.used.length cu,.slice am s.aI.length cm]] W
   fun e w'=>e=.returned (.string ⟨(ja s).toArray⟩)∧Below W.heap.size W w':=by
 obtain ⟨i0,hi,gG,iR,lz⟩:=info_parts yA
 simp only [tP,uc,decide_eq_true_eq,ui] at hok
 obtain ⟨⟨⟨hd,A4⟩,nL⟩,hlen⟩:=hok
 obtain ⟨RK,RJ,hml⟩:=RS s
 go_enter Tryz.func75,Tryz.ntmps75
 have sN:TS W.heap.size W #[.int .i64 s.day,.slice ah s.aE.length ch,.slice au s.used.length cu,.slice am s.aI.length cm] [] (.slice none 0 0)
   (W.alloc (.cells #[.int .i64 s.day,.slice ah s.aE.length ch,.slice au s.used.length cu,.slice am s.aI.length cm] 33)):=
  ⟨⟨(Below.refl _ _).alloc (uA _) _,by simp,⟨rfl,.inl ⟨rfl,rfl⟩⟩⟩,zW _ _⟩
 have c0:=sN.c0
 have l0:=HZ s 0
 simp only [e1,ua,uz,uw,um,ub] at l0
 go_wp2_with (go_at_call 102;refine (sN.writes [s.day] (by simp) (by simp) (by simpa using hd) htab (by rfl) (by rfl) (by simp) (by rfl)).mono ?_;rintro e w2 ⟨v2,rfl,h2,-⟩;refine Hid.out ?_)
 refine Lib.hid ?_
 clear c0 sN
 simp only [qw,List.nil_append] at h2
 go_wp2_with (at_builtin;refine h2.byte 59 (by omega) rfl _ _ rfl rfl rfl rfl rfl rfl ?_;intro v3 w3 h3 _;have c3:=h3.c1)
 have oJ:TS W.heap.size W #[.int .i64 s.day,.slice ah s.aE.length ch,.slice au s.used.length cu,.slice am s.aI.length cm] (e1 s 0) v3 w3:=by simpa [e1] using h3
 clear h2 h3
 go_loopw [3,19] (fun x i wr=>∃ k:Nat,k≤s.aE.length∧i=.int .i64 k∧TS W.heap.size W #[.int .i64 s.day,.slice ah s.aE.length ch,.slice au s.used.length cu,.slice am s.aI.length cm] (e1 s k) x wr)
  (fun _ i _=>s.aE.length - (intOf i).toNat)
 case atStart=>exact ⟨0,ug _,rfl,oJ⟩
 case round=>
  obtain ⟨k,hk,rfl,dM⟩:=hrel
  clear oJ
  have hlk:=HZ s (k+1)
  by_cases eX:k < s.aE.length
  ·obtain ⟨b,off,rfl,iJ,nT⟩:=hh k eX
   have pJ:wr.cell? ⟨b,off+k,none⟩=some (.int .i64 s.aE[k]):=(dM.o.below.cell (by exact iJ)).trans nT
   have hin:=A4 _ (ue eX)
   have dl:e1 s (k+1)=e1 s k++Lib.itoa s.aE[k]++[44]:=by simp [e1,Wa _ _ _ eX,wc]
   rw [dl] at hlk
   simp only [ua,ub] at hlk
   go_wp2_with (go_at_call 102;refine (dM.writes [s.aE[k]] (by omega) (by simp) (by simpa using hin) htab (by rfl) (by rfl) (by simp) (by rfl)).mono ?_;rintro e w4 ⟨v4,rfl,h4,-⟩;refine Hid.out ?_)
   refine Lib.hid ?_
   clear pJ
   go_wp2_with (at_builtin;refine h4.byte 44 (by simp only [qw,ua];omega) rfl _ _ rfl rfl rfl rfl rfl rfl ?_;intro v5 w5 h5 _)
   go_roundw
   case rel=>exact ⟨k+1,by omega,by go_num,by rw [dl];simpa [qw] using h5⟩
   case measure=>simp [intOf];omega
  ·obtain rfl:k=s.aE.length:=by omega
   have lk:=H6 s 0
   simp only [e2,ua,uz,uw,um,ub] at lk
   have hle:(e1 s s.aE.length).length≤1000000000:=by simp only [e1,List.take_length,ua,ub];omega
   go_wp2_with (at_builtin;refine dM.byte 59 (by omega) rfl _ _ rfl rfl rfl rfl rfl rfl ?_;intro v4 w4 h4 _;have c4:=h4.c2)
   have H7:TS W.heap.size W #[.int .i64 s.day,.slice ah s.aE.length ch,.slice au s.used.length cu,.slice am s.aI.length cm] (e2 s 0) v4 w4:=by simpa [e1,e2] using h4
   clear dM h4 hlk
   obtain ⟨wo,rfl⟩:∃ wo:World,wo=wr:=⟨_,rfl⟩
   go_loopw [3,36] (fun x i wr=>∃ k:Nat,k≤s.used.length∧i=.int .i64 k∧TS W.heap.size W #[.int .i64 s.day,.slice ah s.aE.length ch,.slice au s.used.length cu,.slice am s.aI.length cm] (e2 s k) x wr)
    (fun _ i _=>s.used.length - (intOf i).toNat)
   case atStart=>exact ⟨0,ug _,rfl,H7⟩
   case round=>
    obtain ⟨k,hk,rfl,dM⟩:=hrel
    clear H7
    have hlk:=H6 s k
    by_cases eX:k < s.used.length
    ·obtain ⟨b,off,rfl,iJ,nT⟩:=hu k eX
     have dl:e2 s (k+1)=e2 s k++wV s.used[k]:=by simp [e2,Wa _ _ _ eX]
     cases hb:s.used[k] with
     | true=>
      have pJ:wr.cell? ⟨b,off+k,none⟩=some (.bool true):=by rw [←hb];exact (dM.o.below.cell (by exact iJ)).trans nT
      go_wp2_with (at_builtin;refine dM.byte 49 (by omega) rfl _ _ rfl rfl rfl rfl rfl rfl ?_;intro v5 w5 h5 _)
      go_roundw
      case rel=>exact ⟨k+1,by omega,by go_num,by rw [dl,hb];exact h5⟩
      case measure=>simp [intOf];omega
     | false=>
      have pJ:wr.cell? ⟨b,off+k,none⟩=some (.bool false):=by rw [←hb];exact (dM.o.below.cell (by exact iJ)).trans nT
      go_wp2_with (at_builtin;refine dM.byte 48 (by omega) rfl _ _ rfl rfl rfl rfl rfl rfl ?_;intro v5 w5 h5 _)
      go_roundw
      case rel=>exact ⟨k+1,by omega,by go_num,by rw [dl,hb];exact h5⟩
      case measure=>simp [intOf];omega
    ·obtain rfl:k=s.used.length:=by omega
     go_wp2_with (at_builtin;refine dM.byte 59 (by omega) rfl _ _ rfl rfl rfl rfl rfl rfl ?_;intro v5 w5 h5 _;have c5:=h5.c3)
     have H8:TS W.heap.size W #[.int .i64 s.day,.slice ah s.aE.length ch,.slice au s.used.length cu,.slice am s.aI.length cm] (e3 s 0) v5 w5:=by simpa [e2,e3] using h5
     clear dM h5 hlk
     obtain ⟨RL,rfl⟩:∃ wo:World,wo=wr:=⟨_,rfl⟩
     go_loopw [3,54] (fun x i wr=>∃ k:Nat,k≤s.aI.length∧i=.int .i64 k∧TS W.heap.size W #[.int .i64 s.day,.slice ah s.aE.length ch,.slice au s.used.length cu,.slice am s.aI.length cm] (e3 s k) x wr)
      (fun _ i _=>s.aI.length - (intOf i).toNat)
     case atStart=>exact ⟨0,ug _,rfl,H8⟩
     case round=>
      obtain ⟨k,hk,rfl,dM⟩:=hrel
      clear H8
      by_cases eX:k < s.aI.length
      ·obtain ⟨b,off,rfl,iJ,hc0,hc1,eC,nS,sO⟩:=hm k eX
       have hin:=nL _ (ue eX)
       have dl:e3 s (k+1)=e3 s k++vj s.aI[k]:=by simp [e3,Wa _ _ _ eX]
       obtain ⟨m,hmk⟩:∃ m,m=s.aI[k]:=⟨_,rfl⟩
       rw [←hmk] at hc0 hc1 eC nS sO hin dl
       clear hmk
       have mj:=(dM.o.below.cell (p:=⟨b,off+k*5,none⟩) (by exact iJ)).trans hc0
       have iF:=(dM.o.below.cell (p:=⟨b,off+k*5+1,none⟩) (by exact iJ)).trans hc1
       have hd2:=(dM.o.below.cell (p:=⟨b,off+k*5+2,none⟩) (by exact iJ)).trans eC
       have sx:=(dM.o.below.cell (p:=⟨b,off+k*5+3,none⟩) (by exact iJ)).trans nS
       have Ei:=(dM.o.below.cell (p:=⟨b,off+k*5+4,none⟩) (by exact iJ)).trans sO
       clear hc0 hc1 eC nS sO
       have hA:=dM.of ⟨dM.o.below.alloc dM.o.lt (.cells #[.int .i64 m.aN,.int .i64 m.left,.int .i64 m.got,.int .i64 m.bw,.bool m.bN] 53),by have:=dM.o.lt;simp;omega,dM.o.own.alloc _⟩ ((Lib.OthersKept.refl _ _ _).alloc _)
       have hM:MB wr.heap.size #[.int .i64 m.aN,.int .i64 m.left,.int .i64 m.got,.int .i64 m.bw,.bool m.bN] (wr.alloc (.cells #[.int .i64 m.aN,.int .i64 m.left,.int .i64 m.got,.int .i64 m.bw,.bool m.bN] 53)):=zW _ _
       have f0:=hM.c0
       have f1:=hM.c1
       have f2:=hM.c2
       have f3:=hM.c3
       have og:=RQ s (k+1)
       rw [dl] at og
       simp only [vj,ua,ub] at og
       have Ej:([m.aN,m.left,m.got,m.bw]:List Int).all qK=true:=by simp [hin.1.1.1,hin.1.1.2,hin.1.2,hin.2]
       have HS:=Lib.hid dl
       clear dM dl
       go_wp2_with (go_at_call 102;refine (hA.writes [m.aN,m.left,m.got,m.bw] (by omega) (by simp) Ej htab (by rfl) (by rfl) (by simp) (by rfl)).mono ?_;rintro e w4 ⟨v4,rfl,h4,k4⟩;refine Hid.out ?_)
       refine Lib.hid ?_
       have A6:MB wr.heap.size #[.int .i64 m.aN,.int .i64 m.left,.int .i64 m.got,.int .i64 m.bw,.bool m.bN] w4:=k4 _ _ hM (by simp) (by intro c fz e;simp at e)
       clear mj iF hd2 sx Ei f0 f1 f2 f3 hA hM k4
       have RU:(e3 s k++qw [m.aN,m.left,m.got,m.bw]).length≤1000000000:=by rw [ua];omega
       cases hp:m.bN with
       | true=>
        rw [hp] at A6
        have f4:=A6.c4
        go_wp2_with (at_builtin;refine h4.byte 112 (by omega) rfl _ _ rfl rfl rfl rfl rfl rfl ?_;intro v5 w5 h5 _;refine Hid.out ?_)
        refine Lib.hid ?_
        clear f4 A6
        go_wp2_with (at_builtin;refine h5.byte 44 (by rw [ua,ub];omega) rfl _ _ rfl rfl rfl rfl rfl rfl ?_;intro v6 w6 h6 _)
        go_roundw
        case rel=>exact ⟨k+1,by omega,by go_num,by rw [HS.out];simpa [vj,hp] using h6⟩
        case measure=>simp [intOf];omega
       | false=>
        rw [hp] at A6
        have f4:=A6.c4
        go_wp2_with (at_builtin;refine h4.byte 44 (by omega) rfl _ _ rfl rfl rfl rfl rfl rfl ?_;intro v6 w6 h6 _)
        go_roundw
        case rel=>exact ⟨k+1,by omega,by go_num,by rw [HS.out];simpa [vj,hp] using h6⟩
        case measure=>simp [intOf];omega
      ·obtain rfl:k=s.aI.length:=by omega
       have hT:=dM
       rw [show e3 s s.aI.length=ja s from by simp [e3,ja]] at hT
       obtain ⟨⟨nV,hlt,hown⟩,Ch⟩:=hT
       have hpos:0 < (ja s).length:=by simp only [ja,ua,ub];omega
       rcases hown.2 with ⟨-,h0⟩ | ⟨g,cap,cur,rfl,-,-,-,-,-,-⟩
       ·omega
       ·have hcv:=run_convert_bytes_back (P:=Tryz.prog) wr 163 9 5 ⟨g,0,none⟩ cap (ja s) Tryz.underlying163 Tryz.underlying5 Tryz.underlying9 (fun j hj=>hown.cells (g:=g) rfl j _ (by simp [Lib.byteCells,hj]))
        go_wp2
        go_ret
        exact ⟨rfl,nV⟩
theorem RW (s:ak) (res:ByteArray) (hd:vk s=some res):aL C0 353 [.agg (ak.row s)] (.str res):=by
 refine ⟨⟨Tryz.f75,by kernel_rfl,by kernel_rfl,by kernel_rfl⟩,fun Z w vs hz sP hr => ?_⟩
 unfold vk at hd
 split at hd
 ·rename_i hok
  cases hd
  obtain ⟨hl,hr⟩:=hr
  match vs,hl with
  | [v],_=>
   have h0:=hr 0 _ _ rfl rfl
   generalize hx:IV.agg (ak.row s)=x at h0
   cases h0 with
   | agg cs vs hl h1 bZ=>
    obtain rfl:ak.row s=cs:=by injection hx
    match vs,hl with
    | [a,b,c,d],_=>
     have r0:=RI.cU (bZ 0 _ _ rfl rfl)
     obtain ⟨ah,ch,rfl,vh⟩:=RI.dO 1 (fun _=>rfl) (by omega) hz (bZ 1 _ _ rfl rfl)
     obtain ⟨au,cu,rfl,vu⟩:=RI.dO 1 (fun _=>rfl) (by omega) hz (bZ 2 _ _ rfl rfl)
     obtain ⟨am,cm,rfl,vm⟩:=RI.dO 5 (fun _=>rfl) (by omega) hz (bZ 3 _ _ rfl rfl)
     subst r0
     refine (RT s w ah au am ch cu cm hok (Lib.tabBelow_of_tabIs sP.1) (fun k hk => ?_) (fun k hk => ?_) (fun k hk => ?_)).mono fun e w' ⟨he,hb⟩=>⟨_,Z,he,.str _,fun _ _=>rfl,fun b hb'=>ur (hz b hb') hb.size,hb⟩
     ·obtain ⟨b,off,h1,h2,h3⟩:=vh k hk
      obtain ⟨cv,h4,h5⟩:=h3 0 _ rfl
      rw [RI.cU h5] at h4
      exact ⟨b,off,h1,h2,by simpa using h4⟩
     ·obtain ⟨b,off,h1,h2,h3⟩:=vu k hk
      obtain ⟨cv,h4,h5⟩:=h3 0 _ rfl
      rw [RI.eY h5] at h4
      exact ⟨b,off,h1,h2,by simpa using h4⟩
     ·obtain ⟨b,off,h1,h2,h3⟩:=vm k hk
      obtain ⟨c0,g0,q0⟩:=h3 0 _ rfl
      obtain ⟨c1,g1,q1⟩:=h3 1 _ rfl
      obtain ⟨c2,g2,q2⟩:=h3 2 _ rfl
      obtain ⟨c3,g3,q3⟩:=h3 3 _ rfl
      obtain ⟨c4,g4,q4⟩:=h3 4 _ rfl
      rw [RI.cU q0] at g0
      rw [RI.cU q1] at g1
      rw [RI.cU q2] at g2
      rw [RI.cU q3] at g3
      rw [RI.eY q4] at g4
      exact ⟨b,off,h1,h2,by simpa using g0,g1,g2,g3,g4⟩
   | _=>cases hx
 ·cases hd
end
end Go.Proofs.YtgpojcfkanjabaaGreatDoor
namespace Go.Proofs.YtgpojcfkanjabaaGreatDoor
open Go.RowKit Go.Maps Go.Sort Go.Shelf
set_option maxRecDepth 100000
def Tryz.gT:Go.Shelf.Ren:=⟨fun | 7=>77 | 10=>105 | n=>n,fun | 23=>139 | 26=>9 | 3=>33 | 28=>146 | 0=>0 | 27=>145 | 33=>172 | 4=>4 | n=>n,fun | n=>n⟩
theorem Tryz.sQ:Go.Proofs.SlLaysZ.n7 Tryz.prog Tryz.gT:={
 mixed:=by kernel_rfl,
 f7 := ⟨ "maps.Keys[map[string]estoppel/api.State,string,estoppel/api.State]", by decide, Tryz.func77.trans (congrArg some (by kernel_rfl))⟩,
 f10 := ⟨ "maps.Keys[map[string]estoppel/api.State,string,estoppel/api.State]$1", by decide, Tryz.func105.trans (congrArg some (by kernel_rfl))⟩,
 t0:=Tryz.underlying0,
 a0:=Tryz.isAgg0,
 z0:=Tryz.sizeOf0,
 v0:=Tryz.zeroValue0,
 t4:=Tryz.underlying4,
 a4:=Tryz.isAgg4,
 z4:=Tryz.sizeOf4,
 v4:=Tryz.zeroValue4,
 t23:=Tryz.underlying139,
 a23:=Tryz.isAgg139,
 z23:=Tryz.sizeOf139,
 v23:=Tryz.zeroValue139,
 t26:=Tryz.underlying9,
 a26:=Tryz.isAgg9,
 z26:=Tryz.sizeOf9,
 v26:=Tryz.zeroValue9,
 t27:=Tryz.underlying145,
 a27:=Tryz.isAgg145,
 z27:=Tryz.sizeOf145,
 v27:=Tryz.zeroValue145,
 t28:=Tryz.underlying146,
 a28:=Tryz.isAgg146,
 z28:=Tryz.sizeOf146,
 v28:=Tryz.zeroValue146,
 t33:=Tryz.underlying172,
 a33:=Tryz.isAgg172,
 z33:=Tryz.sizeOf172,
 v33:=Tryz.zeroValue172}
def Tryz.fH:Go.Shelf.Ren:=⟨fun | 6=>76 | 8=>103 | 9=>104 | 11=>125 | 13=>127 | 12=>126 | 23=>142 | 24=>143 | 14=>133 | 15=>134 | 16=>135 | 17=>136 | 18=>137 | 19=>138 | 20=>139 | 21=>140 | 22=>141 | 25=>148 | 26=>149 | 27=>150 | 28=>151 | 29=>152 | 30=>153 | 31=>158 | n=>n,fun | 26=>9 | 28=>146 | 24=>143 | 0=>0 | 3=>3 | 37=>183 | 48=>203 | 50=>179 | 4=>4 | 40=>196 | 39=>195 | 45=>78 | 5=>5 | 9=>9 | 51=>210 | 55=>214 | 57=>219 | 58=>220 | 33=>172 | n=>n,fun | n=>n⟩
theorem Tryz.oK:Go.Proofs.SlLaysZ.n6 Tryz.prog Tryz.fH:={
 mixed:=by kernel_rfl,
 f6 := ⟨ "slices.Sorted[string]", by decide, Tryz.func76.trans (congrArg some (by kernel_rfl))⟩,
 f8 := ⟨ "slices.Collect[string]", by decide, Tryz.func103.trans (congrArg some (by kernel_rfl))⟩,
 f11 := ⟨ "slices.AppendSeq[[]string,string]", by decide, Tryz.func125.trans (congrArg some (by kernel_rfl))⟩,
 t0:=Tryz.underlying0,
 a0:=Tryz.isAgg0,
 z0:=Tryz.sizeOf0,
 v0:=Tryz.zeroValue0,
 t24:=Tryz.underlying143,
 a24:=Tryz.isAgg143,
 z24:=Tryz.sizeOf143,
 v24:=Tryz.zeroValue143,
 t26:=Tryz.underlying9,
 a26:=Tryz.isAgg9,
 z26:=Tryz.sizeOf9,
 v26:=Tryz.zeroValue9,
 t28:=Tryz.underlying146,
 a28:=Tryz.isAgg146,
 z28:=Tryz.sizeOf146,
 v28:=Tryz.zeroValue146,
 i26:=by kernel_rfl}
def Tryz.lZ:Go.Shelf.Ren:=⟨fun | 6=>104 | 8=>127 | 9=>126 | 19=>142 | 20=>143 | 21=>133 | 22=>134 | 23=>135 | 24=>136 | 25=>137 | 26=>138 | 27=>139 | 28=>140 | 29=>141 | 36=>148 | 31=>149 | 32=>150 | 37=>151 | 38=>152 | 39=>153 | 41=>158 | n=>n,fun | 27=>143 | 29=>9 | 3=>3 | 32=>183 | 26=>143 | 0=>0 | 44=>203 | 46=>179 | 4=>4 | 36=>196 | 35=>195 | 41=>78 | 5=>5 | 9=>9 | 53=>210 | 57=>214 | 63=>219 | 64=>220 | n=>n,fun | n=>n⟩
theorem Tryz.ny:Go.Proofs.SlLaysM.n6 Tryz.prog Tryz.lZ:={
 mixed:=by kernel_rfl,
 f6 := ⟨ "slices.Sort[[]string,string]", by decide, Tryz.func104.trans (congrArg some (by kernel_rfl))⟩,
 f8:=Tryz.func127.trans (congrArg some (by kernel_rfl)),
 f9 := ⟨ "slices.pdqsortOrdered[string]", by decide, Tryz.func126.trans (congrArg some (by kernel_rfl))⟩,
 f19:=Tryz.func142.trans (congrArg some (by kernel_rfl)),
 f20:=Tryz.func143.trans (congrArg some (by kernel_rfl)),
 f21 := ⟨ "slices.insertionSortOrdered[string]", by decide, Tryz.func133.trans (congrArg some (by kernel_rfl))⟩,
 f22 := ⟨ "slices.heapSortOrdered[string]", by decide, Tryz.func134.trans (congrArg some (by kernel_rfl))⟩,
 f23 := ⟨ "slices.breakPatternsOrdered[string]", by decide, Tryz.func135.trans (congrArg some (by kernel_rfl))⟩,
 f24 := ⟨ "slices.choosePivotOrdered[string]", by decide, Tryz.func136.trans (congrArg some (by kernel_rfl))⟩,
 f25 := ⟨ "slices.reverseRangeOrdered[string]", by decide, Tryz.func137.trans (congrArg some (by kernel_rfl))⟩,
 f26 := ⟨ "slices.partialInsertionSortOrdered[string]", by decide, Tryz.func138.trans (congrArg some (by kernel_rfl))⟩,
 f27 := ⟨ "cmp.Less[string]", by decide, Tryz.func139.trans (congrArg some (by kernel_rfl))⟩,
 f28 := ⟨ "slices.partitionEqualOrdered[string]", by decide, Tryz.func140.trans (congrArg some (by kernel_rfl))⟩,
 f29 := ⟨ "slices.partitionOrdered[string]", by decide, Tryz.func141.trans (congrArg some (by kernel_rfl))⟩,
 f31:=Tryz.func149.trans (congrArg some (by kernel_rfl)),
 f32:=Tryz.func150.trans (congrArg some (by kernel_rfl)),
 f36 := ⟨ "slices.siftDownOrdered[string]", by decide, Tryz.func148.trans (congrArg some (by kernel_rfl))⟩,
 f37 := ⟨ "slices.medianAdjacentOrdered[string]", by decide, Tryz.func151.trans (congrArg some (by kernel_rfl))⟩,
 f38 := ⟨ "slices.medianOrdered[string]", by decide, Tryz.func152.trans (congrArg some (by kernel_rfl))⟩,
 f39 := ⟨ "cmp.isNaN[string]", by decide, Tryz.func153.trans (congrArg some (by kernel_rfl))⟩,
 f41 := ⟨ "slices.order2Ordered[string]", by decide, Tryz.func158.trans (congrArg some (by kernel_rfl))⟩,
 t0:=Tryz.underlying0,
 a0:=Tryz.isAgg0,
 z0:=Tryz.sizeOf0,
 v0:=Tryz.zeroValue0,
 t3:=Tryz.underlying3,
 a3:=Tryz.isAgg3,
 z3:=Tryz.sizeOf3,
 v3:=Tryz.zeroValue3,
 t4:=Tryz.underlying4,
 a4:=Tryz.isAgg4,
 z4:=Tryz.sizeOf4,
 v4:=Tryz.zeroValue4,
 t5:=Tryz.underlying5,
 a5:=Tryz.isAgg5,
 z5:=Tryz.sizeOf5,
 v5:=Tryz.zeroValue5,
 t9:=Tryz.underlying9,
 a9:=Tryz.isAgg9,
 z9:=Tryz.sizeOf9,
 v9:=Tryz.zeroValue9,
 t26:=Tryz.underlying143,
 a26:=Tryz.isAgg143,
 z26:=Tryz.sizeOf143,
 v26:=Tryz.zeroValue143,
 t27:=Tryz.underlying143,
 a27:=Tryz.isAgg143,
 z27:=Tryz.sizeOf143,
 v27:=Tryz.zeroValue143,
 t29:=Tryz.underlying9,
 a29:=Tryz.isAgg9,
 z29:=Tryz.sizeOf9,
 v29:=Tryz.zeroValue9,
 t32:=Tryz.underlying183,
 a32:=Tryz.isAgg183,
 z32:=Tryz.sizeOf183,
 v32:=Tryz.zeroValue183,
 t35:=Tryz.underlying195,
 a35:=Tryz.isAgg195,
 z35:=Tryz.sizeOf195,
 v35:=Tryz.zeroValue195,
 t36:=Tryz.underlying196,
 a36:=Tryz.isAgg196,
 z36:=Tryz.sizeOf196,
 v36:=Tryz.zeroValue196,
 t41:=Tryz.underlying78,
 a41:=Tryz.isAgg78,
 z41:=Tryz.sizeOf78,
 v41:=Tryz.zeroValue78,
 t44:=Tryz.underlying203,
 a44:=Tryz.isAgg203,
 z44:=Tryz.sizeOf203,
 v44:=Tryz.zeroValue203,
 t46:=Tryz.underlying179,
 a46:=Tryz.isAgg179,
 z46:=Tryz.sizeOf179,
 v46:=Tryz.zeroValue179,
 t53:=Tryz.underlying210,
 a53:=Tryz.isAgg210,
 z53:=Tryz.sizeOf210,
 v53:=Tryz.zeroValue210,
 t57:=Tryz.underlying214,
 a57:=Tryz.isAgg214,
 z57:=Tryz.sizeOf214,
 v57:=Tryz.zeroValue214,
 t63:=Tryz.underlying219,
 a63:=Tryz.isAgg219,
 z63:=Tryz.sizeOf219,
 v63:=Tryz.zeroValue219,
 t64:=Tryz.underlying220,
 a64:=Tryz.isAgg220,
 z64:=Tryz.sizeOf220,
 v64:=Tryz.zeroValue220}
end Go.Proofs.YtgpojcfkanjabaaGreatDoor
namespace Go.Proofs.YtgpojcfkanjabaaGreatDoor
open Go.RowKit Go.Maps Go.Sort Go.Shelf
set_option linter.unusedVariables false
def oL (x y:ByteArray):Bool:=decide (x.data.toList≤y.data.toList)
def W9 (x:ByteArray):List ByteArray→List ByteArray
 | []=>[x]
 | y::r=>if oL x y then x::y::r else y::W9 x r
def xi:List ByteArray→List ByteArray
 | []=>[]
 | x::r=>W9 x (xi r)
def Cj (es:List (ByteArray×ak)):Bool:=decide (es.length≤1000000)&&es.all fun e=>decide (e.1.size≤1000000000)
def qr (es:List (ByteArray×ak)):Option (List ByteArray):=if Cj es then some (xi (es.map (·.1))) else none
def bytesOf (x:ByteArray):List UInt8:=x.data.toList
theorem Xv (x:ByteArray):∀ l,(W9 x l).Perm (x::l)
 | []=>List.Perm.refl _
 | y::r=>by
  unfold W9
  split
  ·exact List.Perm.refl _
  ·exact ((Xv x r).cons y).trans (List.Perm.swap x y r)
theorem kX:∀ l,(xi l).Perm l
 | []=>List.Perm.refl _
 | x::r=>(Xv x _).trans ((kX r).cons x)
theorem RX (x y:ByteArray):oL x y=true∨oL y x=true:=by simp only [oL,decide_eq_true_eq];exact List.le_total _ _
theorem RY {x y z:ByteArray} (h1:oL x y=true) (h2:oL y z=true):oL x z=true:=by simp only [oL,decide_eq_true_eq] at *; exact List.le_trans h1 h2
theorem WI (x:ByteArray):∀ l,l.Pairwise (fun a b=>oL a b=true)→(W9 x l).Pairwise (fun a b=>oL a b=true)
 | [],_=>by simp [W9]
 | y::r,h=>by
  unfold W9
  split
  ·rename_i e
   refine ud.2 ⟨fun z hz => ?_,h⟩
   rcases uq.1 hz with rfl | hz
   ·exact e
   ·exact RY e ((ud.1 h).1 z hz)
  ·rename_i e
   refine ud.2 ⟨fun z hz => ?_,WI x r (ud.1 h).2⟩
   rcases uq.1 ((Xv x r).mem_iff.1 hz) with rfl | hz
   ·exact (RX z y).resolve_left e
   ·exact (ud.1 h).1 z hz
theorem Xw:∀ l,(xi l).Pairwise (fun a b=>oL a b=true)
 | []=>.nil
 | x::r=>WI x _ (Xw r)
theorem RZ {ss:List (List UInt8)} {l:List ByteArray} (h:ss.Perm (l.map bytesOf)):ss.mergeSort (fun x y=>decide (x≤y))=(xi l).map bytesOf:=by
 have h1:=mergeSort_of_perm (h.trans ((kX l).map bytesOf).symm)
 have h2:((xi l).map bytesOf).mergeSort leB=(xi l).map bytesOf:=List.mergeSort_of_pairwise (by rw [List.pairwise_map];exact Xw l)
 rw [h2] at h1
 exact h1
theorem R5 {s:ByteArray} (h:s.size≤maxLen):keyOf Tryz.prog 9 (.string s)=some (.string (bytesOf s)):=by
 simp [keyOf,mapKey,Tryz.underlying9,h,bytesOf]
theorem R6 {w:World} {b clock:Nat} {bO:Array MapEntry} {l:List ByteArray} (hb:w.heap[b]?=some (.map bO clock)) (hs:Go.MapKept.Stamped bO clock) (hl:bO.toList.map (·.key)=l.map Value.string)
  (h1:l.length≤maxLen) (h2:∀ s∈l,s.size≤maxLen):∃ D:DataW Unit,w.ownsMap Tryz.prog 9 (fun _=>some (.nil,[])) b l.length D∧(strKeys D).Perm (l.map bytesOf)∧Maps.size D=l.length:=by
 have hlen:bO.size=l.length:=by have:=congrArg uy hl;simpa using this
 have hk:∀ e∈bO.toList,∃ s∈l,e.key=.string s:=fun e he=>by
  have:e.key∈bO.toList.map (·.key):=List.mem_map_of_mem he
  rw [hl] at this
  obtain ⟨s,h3,h4⟩:=ut.1 this
  exact ⟨s,h3,h4.symm⟩
 have hrd:∀ e∈bO.toList,∀ s,e.key=.string s→s∈l→Go.WideElems.rd (H:=Unit) Tryz.prog 9 (fun _=>some (.nil,[])) e=some (.string (bytesOf s),.nil):=fun e _ s h3 h4=>by
  unfold Go.WideElems.rd
  rw [h3,R5 (h2 s h4)]
  rfl
 refine ⟨_,⟨bO,clock,hb,⟨by omega,hs,fun e he => ?_⟩,by omega,rfl⟩,?_,?_⟩
 ·obtain ⟨s,h3,h4⟩:=hk e he
  exact ⟨_,hrd e he s h4 h3⟩
 ·refine ((Go.WideShapes.sorted_perm _).map _).trans ?_
  rw [uu]
  have:bO.toList.map ((fun p:Lit×DataW Unit=>strOf p.1)∘Go.WideElems.rg Tryz.prog 9 (fun _=>some (.nil,[])))=l.map bytesOf:=by
   rw [show l.map bytesOf=(l.map Value.string).map (fun v=>match v with | .string s=>bytesOf s | _=>[]) from by simp [Function.comp_def],←hl,uu]
   refine List.map_congr_left fun e he => ?_
   obtain ⟨s,h3,h4⟩:=hk e he
   simp [Go.WideElems.rg,hrd e he s h4 h3,h4,strOf]
  rw [this]
 ·show (uy _)=_
  rw [length_sorted]
  simpa using hlen
theorem R7 (m:Nat):AnyZ.SortsIn Tryz.prog Tryz.fH Fence.wide m:=
 ⟨fun blk off cap ss W hH hblk hsz=>callsIn_wide.2 (AnyM.slices_Sort_string Tryz.ny blk off cap ss W hH hblk hsz),
  fun p cap W=>callsIn_wide.2 (AnyM.slices_Sort_string_none Tryz.ny p cap W)⟩
theorem R8 {w:World} {Bm b clock:Nat} {bO:Array MapEntry} {l:List ByteArray} (hm:w.cell? ⟨Bm,0,none⟩=some (.map (some b))) (hB:Bm < w.heap.size) (hb:w.heap[b]?=some (.map bO clock)) (hs:Go.MapKept.Stamped bO clock)
  (hl:bO.toList.map (·.key)=l.map Value.string) (h1:l.length≤1000000) (h2:∀ s∈l,s.size≤maxLen) :
  Calls Tryz.prog 76 #[.func (.func 105) #[] #[.pointer (some ⟨Bm,0,none⟩)]] w
   fun e w'=>∃ v,e=.returned v∧w'.ownsRow w.heap.size 9 1 v l.length ((xi l).map Value.string)∧Below w.heap.size w w':=by
 obtain ⟨D,hown,hp,hsz⟩:=R6 hb hs hl (by unfold maxLen;omega) h2
 have hseq:=AnyZ.keys_gives (ρ:=Tryz.gT) {Tryz.sQ with} Fence.wide 2 trivial rfl (by omega) Bm b _ D w hB hm hown
 refine callsIn_wide.1 ((AnyZ.sorted_in Tryz.oK Fence.wide 5 trivial trivial trivial trivial rfl (by omega) (R7 _) (enters_of Tryz.func104 (by kernel_rfl) rfl) 105 #[.pointer (some ⟨Bm,0,none⟩)] trivial (enters_of Tryz.func105 (by kernel_rfl) rfl) _ _ (by rw [hsz];unfold maxLen;omega) (by rw [hsz];omega) _ hseq).mono ?_)
 rintro e w' ⟨v,ss,rfl,hS,hrow,-,pP⟩
 have H9:=hS.trans hp
 rw [RZ H9,uu,show ss.length=l.length from by simpa using H9.length_eq] at hrow
 refine ⟨v,rfl,?_,pP⟩
 have e:(encStr∘bytesOf)=Value.string:=by funext x;simp [encStr,bytesOf]
 rw [e] at hrow
 exact hrow
theorem Qf (p1:List (ByteArray×ak)) (res:List ByteArray) (hd:qr p1=some res):cV C0 355 [.func 357 [] [.ptr 0 0 0]] [(0,.af 1 [[.map 1]]),(1,.map (zg IV.str ak.iv p1))] 2 (.ax (.slice (List.map xX res)))
  [(0,.af 1 [[.map 1]]),(1,.map (zg IV.str ak.iv p1))] 0:=by
 have hbel:∀ p∈[(0,aG.af 1 [[.map 1]]),(1,.map (zg IV.str ak.iv p1))],p.1 < 2∧zQ 2 p.2:=fun p hp=>by
  rcases uq.1 hp with rfl | hp
  ·exact ⟨by decide,fun row hr x hx=>by simp at hr;subst hr;simp at hx;subst hx;rfl⟩
  ·simp at hp
   subst hp
   refine ⟨Nat.lt_succ_self 1,fun e he => ?_⟩
   simp only [zg,ut] at he
   obtain ⟨q,_,rfl⟩:=he
   rfl
 have hall:∀ i,i < 2→(za [(0,aG.af 1 [[.map 1]]),(1,.map (zg IV.str ak.iv p1))] i).isSome=true:=fun i hi=>by
  match i,hi with
  | 0,_=>rfl
  | 1,_=>rfl
 refine ⟨⟨⟨Tryz.f76,by kernel_rfl,by kernel_rfl,by kernel_rfl⟩,fun g w vs R hv => ?_⟩,hbel,fun x hx=>by simp at hx;subst hx;rfl,hbel,rfl,hall,hall⟩
 have hok:Cj p1=true:=by
  unfold qr at hd
  split at hd
  ·assumption
  ·cases hd
 rw [qr,if_pos hok] at hd
 cases hd
 simp only [Cj,uc,decide_eq_true_eq,ui] at hok
 obtain ⟨hl,hr⟩:=hv
 match vs,hl with
 | [v],_=>
  have h0:=hr 0 _ _ rfl rfl
  cases h0 with
  | func _ _ _ vf vc hlf hlc hf hc=>
   match vf,hlf,vc,hlc with
   | [],_,[p],_=>
    have hp:=hc 0 _ _ rfl rfl
    cases hp with
    | ptr _ _ _ _ hni hone hp=>
     obtain ⟨Bm,hρ,rfl⟩:=hp 1 _ rfl
     obtain ⟨-,c,e,hw0,-,hcv⟩:=R.obj 0 Bm _ hρ rfl
     obtain ⟨cv,hc0,-,R9⟩:=hcv 0 _ 0 _ rfl rfl
     cases R9 with
     | map _ _ _ _ hp2=>
      obtain ⟨b,BX,rfl⟩:=hp2 _ rfl
      obtain ⟨-,bO,clock,hw1,⟨hl,hs⟩,hent⟩:=R.obj 1 b _ BX rfl
      have hm:w.cell? ⟨Bm,0,none⟩=some (.map (some b)):=by simpa [World.cell?,hw0] using hc0
      have hkeys:bO.toList.map (·.key)=(p1.map (·.1)).map Value.string:=by
       refine List.ext_getElem? fun i => ?_
       rcases Nat.lt_or_ge i p1.length with hi | hi
       ·obtain ⟨e,h1,h2,-⟩:=hent i (.str p1[i].1) (.ax (ak.iv p1[i].2)) (by simp [zg,hi])
        have h3:e.key=.string p1[i].1:=by simpa [IV.key] using h2.symm
        simp [h1,hi,h3]
       ·rw [un (by simpa [zg] using (by rw [hl];simpa [zg] using hi:bO.size≤i)),un (by simpa using hi)]
      refine (R8 hm (R.lt 0 Bm hρ).1 hw1 hs hkeys (by simpa using hok.1) (fun s hs=>by
       obtain ⟨q,hq,rfl⟩:=ut.1 hs
       have:=hok.2 q hq
       unfold maxLen
       omega)).mono ?_
      rintro e' w' ⟨v,rfl,hown,hB⟩
      let Z':Nat→Nat:=fun b=>if b < w.heap.size then g.Z b else if v.ownBlock=some b then p1.length else 0
      have hZ:∀ b,b < w.heap.size→Z' b=g.Z b:=fun b hb=>if_pos hb
      have hlt:∀ b,0 < Z' b→b < w'.heap.size:=fun b hb=>by
       simp only [Z'] at hb
       split at hb
       ·have:=hB.size;omega
       ·split at hb
        ·rename_i _ e
         exact (hown.lt b e).2
        ·omega
      refine ⟨v,_,_,_,⟨g.ρ,Z'⟩,rfl,⟨rfl,rfl,rfl⟩,xw R hB hZ,yp R hB hZ hlt,.ax _ _ ?_⟩
      have hlen:(xi (p1.map (·.1))).length=p1.length:=by simpa using (kX (p1.map (·.1))).length_eq
      rcases hown.2 with ⟨rfl,h0⟩ | ⟨g0,cap,cur,rfl,hge,oq,hcap,-,hcs,htk⟩
      ·rw [List.eq_nil_of_length_eq_zero (by rw [hlen];simpa using h0:(xi (p1.map (·.1))).length=0)]
       exact .nil
      ·have hrl:((xi (p1.map (·.1))).map xX).length=(p1.map (·.1)).length:=by simp [hlen]
       have hcell:∀ (i:Nat) (row:List IV) (j:Nat) (c:IV),((xi (p1.map (·.1))).map xX)[i]?=some row→row[j]?=some c→j=0∧i < p1.length∧∃ s,(xi (p1.map (·.1)))[i]?=some s∧c=.str s:=fun i row j c h1 h2=>by
        rw [uj,ul] at h1
        obtain ⟨s,h1,rfl⟩:=h1
        have hi:=(List.getElem?_eq_some_iff.1 h1).1
        match j,h2 with
        | 0,h2=>simp [xX] at h2;exact ⟨rfl,by omega,s,h1,h2.symm⟩
        | j+1,h2=>simp [xX] at h2
       rw [←hrl] at hown ⊢
       refine .slice _ g0 0 cap 1 (fun i _=>.string ((xi (p1.map (·.1))).getD i ⟨#[]⟩)) (by rw [hrl];exact hcap) (fun i row h1 => ?_) (fun i row j c h1 h2 => ?_) (fun i row j c h1 h2 => ?_) (fun i row j c h1 h2 => ?_)
       ·rw [uj,ul] at h1
        obtain ⟨s,-,rfl⟩:=h1
        rfl
       ·obtain ⟨rfl,hi,-⟩:=hcell i row j c h1 h2
        simp only [Z',Value.ownBlock,if_true]
        rw [if_neg (by omega)]
        omega
       ·obtain ⟨rfl,hi,s,h3,rfl⟩:=hcell i row j c h1 h2
        refine ⟨?_,rfl⟩
        have:(cur.toList.take ((p1.map (·.1)).length*1))[i]?=some (.string s):=by rw [htk,uj,h3];rfl
        rw [List.getElem?_take_of_lt (by simpa using hi)] at this
        simp [World.cell?,oq,List.getD,h3]
        simpa using this
       ·obtain ⟨rfl,hi,s,h3,rfl⟩:=hcell i row j c h1 h2
        simp only [List.getD,h3,Option.getD_some]
        exact .str s
end Go.Proofs.YtgpojcfkanjabaaGreatDoor
