/-
  The abstract machine: its values, its states, and how they stand to the model's values and worlds. Proved here: what is related stays related while the world goes on.
  The abstract machine: its operations, what they come to, and how they are read off the model's operations.
  The abstract machine: what new objects, and objects that turn, do to the relations.
  The abstract machine: objects that turn: stores into rows, maps that are written.
  The abstract machine: each operation of the model comes to what the machine says (all but calls, append, maps and the equality of structs).
  The abstract machine: more operations.
  The abstract machine: arithmetic, lengths, tuples, closures, literals.
  The abstract machine: literals of structs and slices, make, maps.
-/
import Derived.Orders
import Derived.Below
import Derived.KernelRfl
import Derived.Laws.Cells
import Derived.Laws.AppendOwn
import Derived.Laws.StructEq
open List renaming getElem?_eq_some_iff → ua, mem_of_getElem? → ui, getElem?_map → uj, getElem?_drop → ul, getElem?_of_mem → um, length_cons → uq, getElem?_set → ur, all_eq_true → ut, mem_cons_of_mem → uu, mem_cons_self → uv, getElem?_take → ux, map_cons → uy, getElem_mem → uA, getElem?_replicate → uB, replicate → uC, getElem?_append → uD, range → uN
open Option renaming map_eq_some_iff → ub, isSome_iff_exists → uz
open Bool renaming false_eq_true → uw
open Nat renaming mul_le_mul_right → ue, le_refl → uf, lt_of_lt_of_le → uh, add_mul → uk, eq_zero_or_pos → un, le_trans → uo, pos_of_ne_zero → uG, lt_or_ge → uI, mul_eq_zero → uK, add_assoc → uM
open Array renaming getElem?_eq_some_iff → uc, getElem?_setIfInBounds → ud, getElem?_toList → ug, toList_zipIdx → uE, ext_getElem? → uF, foldl_toList → uH, range → uJ, ext' → uL
namespace Go.Proofs.YtcmmhbmgpflmeaaGreatDoor
open Go.RowKit
set_option linter.unusedVariables false
theorem bL {α : Type} (x y : α) : (bif true then x else y) = x := rfl
theorem bM {α : Type} (x y : α) : (bif false then x else y) = y := rfl
theorem aS {α β : Type} (x : α) (f : α → Option β) : (some x).bind f = f x := rfl
inductive IV where
 | bool (b:Bool)
 | int (k:IntKind) (n:Int)
 | str (s:ByteArray)
 | slice (af:List (List IV))
 | agg (cells:List IV)
 | tuple (vs:List IV)
 | iface (t:Nat) (x:IV)
 | dl
 | eZ (es:List (IV×IV))
 deriving Inhabited
def IV.key:IV→Option Value
 | .bool b=>some (.bool b)
 | .int k n=>some (.int k n)
 | .str s=>some (.string s)
 | _=>none
inductive AV where
 | top
 | undef
 | ak (v:IV)
 | nil
 | cA
 | aX (id:Nat) (af:List (List IV))
 | cD (cells:List IV)
 | ptr (id row off:Nat)
 | Zag (id off len:Nat)
 | func (f:Nat) (first bC:List AV)
 | map (id:Nat)
 | agg (cells:List AV)
 | tuple (vs:List AV)
 | eI (l id:Nat)
 deriving Inhabited
inductive aI where
 | af (sz:Nat) (af:List (List AV))
 | bf (sz len:Nat)
 | map (es:List (IV×AV))
 | dead
 | lp (l:Nat) (R:LoopState→Option Code→Loop) (s:LoopState) (pe:Option Code)
 deriving Inhabited
def zc {α:Type}:List (Nat×α)→Nat→Option α
 | [],_=>none
 | (k,v)::r,i=>if k=i then some v else zc r i
structure St where
 env:List (Nat×AV)
 heap:List (Nat×aI)
 next:Nat
structure Gh where
 ρ:Nat→Option Nat
 Z:Nat→Nat
inductive RI (Z:Nat→Nat) (w:World):IV→Value→Prop where
 | bool (b:Bool):RI Z w (.bool b) (.bool b)
 | int (k:IntKind) (n:Int):RI Z w (.int k n) (.int k n)
 | str (s:ByteArray):RI Z w (.str s) (.string s)
 | nil:RI Z w (.slice []) (.slice none 0 0)
 | empty (a:Addr) (cap:Nat):RI Z w (.slice []) (.slice (some a) 0 cap)
 | slice (af:List (List IV)) (b off cap sz:Nat) (cv:Nat→Nat→Value)
  (hcap:af.length≤cap)
  (hsz:∀ (i:Nat) (row:List IV),af[i]?=some row→row.length=sz)
  (hz:∀ (i:Nat) (row:List IV) (j:Nat) (c:IV),af[i]?=some row→row[j]?=some c→off+i*sz+j < Z b)
  (hc:∀ (i:Nat) (row:List IV) (j:Nat) (c:IV),af[i]?=some row→row[j]?=some c→w.cell? ⟨b,off+i*sz+j,none⟩=some (cv i j)∧(cv i j).oneCell'=true)
  (hr:∀ (i:Nat) (row:List IV) (j:Nat) (c:IV),af[i]?=some row→row[j]?=some c→RI Z w c (cv i j)) :
  RI Z w (.slice af) (.slice (some ⟨b,off,none⟩) af.length cap)
 | agg (cs:List IV) (vs:List Value) (hl:cs.length=vs.length) (h1:∀ v∈vs,v.oneCell'=true)
  (hr:∀ (i:Nat) (c:IV) (v:Value),cs[i]?=some c→vs[i]?=some v→RI Z w c v):RI Z w (.agg cs) (.agg vs.toArray)
 | tuple (cs:List IV) (vs:List Value) (hl:cs.length=vs.length)
  (hr:∀ (i:Nat) (c:IV) (v:Value),cs[i]?=some c→vs[i]?=some v→RI Z w c v):RI Z w (.tuple cs) (.tuple vs.toArray)
 | iface (t:Nat) (x:IV) (v:Value) (hr:RI Z w x v):RI Z w (.iface t x) (.iface t v)
 | dl:RI Z w .dl (.map none)
 | eZ (es:List (IV×IV)) (b:Nat) (cG:Array MapEntry) (clock:Nat) (ev:Nat→MapEntry) (hz:0 < Z b) (hb:w.heap[b]?=some (.map cG clock)) (hl:cG.size=es.length)
  (hk:∀ (i:Nat) (k x:IV),es[i]?=some (k,x)→cG[i]?=some (ev i)∧IV.key k=some (ev i).key)
  (hr:∀ (i:Nat) (k x:IV),es[i]?=some (k,x)→RI Z w x (ev i).val):RI Z w (.eZ es) (.map (some b))
theorem Jk {w w':World} {b o:Nat} (hb:w'.heap[b]?=w.heap[b]?):w'.cell? ⟨b,o,none⟩=w.cell? ⟨b,o,none⟩:=by
 simp only [World.cell?,hb]
structure lF (Z:Nat→Nat) (w w':World):Prop where
 c:∀ b o,o < Z b→w'.cell? ⟨b,o,none⟩=w.cell? ⟨b,o,none⟩
 m:∀ (b:Nat) (cG:Array MapEntry) (clock:Nat),0 < Z b→w.heap[b]?=some (.map cG clock)→w'.heap[b]?=w.heap[b]?
theorem lF.refl (Z:Nat→Nat) (w:World):lF Z w w:=⟨fun _ _ _=>rfl,fun _ _ _ _ _=>rfl⟩
theorem lF.heap {Z:Nat→Nat} {w w':World} (h:∀ b,0 < Z b→w'.heap[b]?=w.heap[b]?):lF Z w w':=
 ⟨fun b o ho=>Jk (h b (by omega)),fun b _ _ hz _=>h b hz⟩
structure Aw where
 p:World→Prop
 n:Nat
 ok:∀ w w':World,(∀ b,b < n→w'.heap[b]?=w.heap[b]?)→p w→p w'
structure Ctx where
 P:Program
 mr:List FuncId
 tabs:Aw
 ifs:List TypeId
def Ctx.eC (C:Ctx) (i:Nat):FuncId:=C.mr.getD i 0
inductive RV (C:Ctx) (g:Gh) (h:Nat→Option aI) (N:Nat→Prop) (w:World):AV→Value→Prop where
 | top (v:Value):RV C g h N w .top v
 | undef:RV C g h N w .undef undef
 | ak (x:IV) (v:Value) (hr:RI g.Z w x v):RV C g h N w (.ak x) v
 | nil:RV C g h N w .nil (.slice none 0 0)
 | cA (a:Addr) (cap:Nat):RV C g h N w .cA (.slice (some a) 0 cap)
 | aX (id:Nat) (af:List (List IV)) (v:Value) (hr:RI g.Z w (.slice af) v) (hid:N id)
  (ht:∀ sz len,h id=some (.bf sz len)→af.length≤len∧(∀ (i:Nat) (row:List IV),af[i]?=some row→row.length=sz) ∧
   (af.length=len→(g.ρ id=none∧v=.slice none 0 0) ∨
    ∃ b cap c e,g.ρ id=some b∧v=.slice (some ⟨b,0,none⟩) af.length cap∧w.heap[b]?=some (.cells c e (0,0))∧cap*sz≤c.size)) :
  RV C g h N w (.aX id af) v
 | cD (cells:List IV) (b off:Nat) (cv:Nat→Value)
  (hz:∀ (j:Nat) (c:IV),cells[j]?=some c→off+j < g.Z b)
  (hc:∀ (j:Nat) (c:IV),cells[j]?=some c→w.cell? ⟨b,off+j,none⟩=some (cv j)∧(cv j).oneCell'=true)
  (hr:∀ (j:Nat) (c:IV),cells[j]?=some c→RI g.Z w c (cv j)) :
  RV C g h N w (.cD cells) (.pointer (some ⟨b,off,none⟩))
 | ptr (id row off:Nat) (v:Value) (hid:N id) (h1:v.oneCell'=true)
  (hp:∀ sz af,h id=some (.af sz af)→∃ b,g.ρ id=some b∧v=.pointer (some ⟨b,row*sz+off,none⟩)) :
  RV C g h N w (.ptr id row off) v
 | Zag (id off len:Nat) (v:Value) (hid:N id) (h1:v.oneCell'=true)
  (hp:∀ sz af,h id=some (.af sz af)→off+len≤af.length∧((g.ρ id=none∧af=[]∧v=.slice none 0 0) ∨
   ∃ b cap c e,g.ρ id=some b∧v=.slice (some ⟨b,off*sz,none⟩) len cap∧len≤cap∧w.heap[b]?=some (.cells c e (0,0))∧(off+cap)*sz≤c.size)) :
  RV C g h N w (.Zag id off len) v
 | func (f:Nat) (first bC:List AV) (vf vc:List Value) (hlf:first.length=vf.length) (hlc:bC.length=vc.length)
  (hf:∀ (i:Nat) (c:AV) (v:Value),first[i]?=some c→vf[i]?=some v→RV C g h N w c v)
  (hc:∀ (i:Nat) (c:AV) (v:Value),bC[i]?=some c→vc[i]?=some v→RV C g h N w c v) :
  RV C g h N w (.func f first bC) (.func (.func (C.eC f)) vf.toArray vc.toArray)
 | map (id:Nat) (v:Value) (hid:N id) (h1:v.oneCell'=true)
  (hp:∀ es,h id=some (.map es)→∃ b,g.ρ id=some b∧v=.map (some b)):RV C g h N w (.map id) v
 | agg (cs:List AV) (vs:List Value) (hl:cs.length=vs.length) (h1:∀ v∈vs,v.oneCell'=true)
  (hr:∀ (i:Nat) (c:AV) (v:Value),cs[i]?=some c→vs[i]?=some v→RV C g h N w c v):RV C g h N w (.agg cs) (.agg vs.toArray)
 | tuple (cs:List AV) (vs:List Value) (hl:cs.length=vs.length)
  (hr:∀ (i:Nat) (c:AV) (v:Value),cs[i]?=some c→vs[i]?=some v→RV C g h N w c v):RV C g h N w (.tuple cs) (.tuple vs.toArray)
 | eI (l id:Nat) (hid:N id) (hp:∀ R s pe,h id=some (.lp l R s pe)→g.ρ id=some l):RV C g h N w (.eI l id) (.func (.yield l) #[] #[])
def dx (C:Ctx) (g:Gh) (h:Nat→Option aI) (N:Nat→Prop) (w:World) (b:Nat):aI→Prop
 | .af sz af=>g.Z b=0∧∃ c e,w.heap[b]?=some (.cells c e (0,0))∧(∀ (i:Nat) (row:List AV),af[i]?=some row→row.length=sz) ∧
  ∀ (i:Nat) (row:List AV) (j:Nat) (x:AV),af[i]?=some row→row[j]?=some x→∃ cv,c[i*sz+j]?=some cv∧cv.oneCell'=true∧RV C g h N w x cv
 | .bf sz len=>∃ c e,w.heap[b]?=some (.cells c e (0,0))∧g.Z b=len*sz∧len*sz≤c.size
 | .map es=>g.Z b=0∧∃ cG clock,w.heap[b]?=some (.map cG clock)∧cG.size=es.length ∧
  ∀ (i:Nat) (k:IV) (x:AV),es[i]?=some (k,x)→∃ e,cG[i]?=some e∧IV.key k=some e.key∧RV C g h N w x e.val
 | .dead=>True
 | .lp l R s pe=>g.Z b=0∧b=l∧w.heap[b]?=some (.loop (R s pe))
def wq (g:Gh) (b:Nat):Prop:=∃ i,g.ρ i=some b
def Ctx.Ax (C:Ctx) (g:Gh) (w:World):Prop:=C.tabs.p w∧C.tabs.n≤w.heap.size∧∀ b,b < C.tabs.n→¬ wq g b
structure RH (C:Ctx) (g:Gh) (h:Nat→Option aI) (N:Nat→Prop) (w:World):Prop where
 inj:∀ i j b,g.ρ i=some b→g.ρ j=some b→i=j
 lt:∀ i b,g.ρ i=some b→b < w.heap.size∧N i
 key:∀ i o,h i=some o→N i
 obj:∀ i b o,g.ρ i=some b→h i=some o→dx C g h N w b o
 cP:∀ i sz len,h i=some (.bf sz len)→g.ρ i=none→len=0
 ed:∀ b,0 < g.Z b→b < w.heap.size
 fix:C.Ax g w
def Marks (B:Nat) (g:Gh) (w:World) (ds:List Deferred):Prop:=
 B≤w.heap.size∧∃ Ds:List Nat,ds=Ds.map (fun D=>{target:=.collected D,args := #[]})∧Ds.Nodup∧∀ D∈Ds,B≤D∧w.heap[D]?=some (.deferred (some []))∧¬ wq g D
theorem Marks.nil {B:Nat} (g:Gh) {w:World} (hB:B≤w.heap.size):Marks B g w []:=⟨hB,[],rfl,List.nodup_nil,fun D h=>by cases h⟩
theorem Marks.sub {B:Nat} {g g':Gh} {w:World} {ds:List Deferred} (M:Marks B g w ds) (hs:∀ b,wq g' b→wq g b):Marks B g' w ds:=by
 obtain ⟨h0,Ds,h1,h2,h3⟩:=M
 exact ⟨h0,Ds,h1,h2,fun D hD=>⟨(h3 D hD).1,(h3 D hD).2.1,fun h=>(h3 D hD).2.2 (hs D h)⟩⟩
structure Fr where
 n:Nat
 B:Nat
structure RE (C:Ctx) (nt:Fr) (g:Gh) (env:List (Nat×AV)) (h:Nat→Option aI) (N:Nat→Prop) (a:Act) (w:World):Prop where
 size:a.tmps.size=nt.n
 defers:Marks nt.B g w a.defers
 slot:∀ t x,zc env t=some x→RV C g h N w x (a.tmps.getD t Go.undef)
structure Rel (C:Ctx) (nt:Fr) (g:Gh) (st:St) (a:Act) (w:World):Prop where
 env:RE C nt g st.env (zc st.heap) (· < st.next) a w
 heap:RH C g (zc st.heap) (· < st.next) w
structure b9 (g:Gh) (h:Nat→Option aI) (N:Nat→Prop) (w:World) (g':Gh) (h':Nat→Option aI) (N':Nat→Prop) (w':World):Prop where
 os:w'.os=w.os
 tape:w'.tape=w.tape
 output:w'.output=w.output
 size:w.heap.size≤w'.heap.size
 old:∀ b,b < w.heap.size→¬ wq g b→w'.heap[b]?=w.heap[b]?∧g'.Z b=g.Z b
 own:∀ b,wq g' b→wq g b∨w.heap.size≤b
 cr:∀ b,g.Z b≤g'.Z b
 cell:lF g.Z w w'
 shape:∀ (b:Nat) (c:Array Value) (e:TypeId),w.heap[b]?=some (.cells c e (0,0))→∃ c':Array Value,w'.heap[b]?=some (.cells c' e (0,0))∧c'.size=c.size
 next:∀ i,N i→N' i
 ep:∀ i b,g.ρ i=some b→∀ o,h' i=some o→o≠.dead→N i→g'.ρ i=some b∨(∃ sz l sz' l',h i=some (.bf sz l)∧o=.bf sz' l'∧l < l')
 cI:∀ i,g.ρ i=none→N i→∀ o,h' i=some o→o≠.dead→g'.ρ i=none∨(∃ sz l sz' l',h i=some (.bf sz l)∧o=.bf sz' l'∧l < l')
 af:∀ i,N i→∀ sz af,h' i=some (.af sz af)→∃ eR,h i=some (.af sz eR)∧eR.length=af.length
 cV:∀ i,N i→∀ sz len,h' i=some (.bf sz len)→∃ n9,h i=some (.bf sz n9)∧n9≤len
 maps:∀ i,N i→∀ es,h' i=some (.map es)→∃ tU,h i=some (.map tU)
 fH:∀ i,N i→∀ l R s pe,h' i=some (.lp l R s pe)→∃ s0 Ay,h i=some (.lp l R s0 Ay)
theorem Ctx.Ax.eS {C:Ctx} {g g':Gh} {h h':Nat→Option aI} {N N':Nat→Prop} {w w':World} (E:b9 g h N w g' h' N' w') (F:C.Ax g w):C.Ax g' w':=
 ⟨C.tabs.ok w w' (fun b hb=>(E.old b (uh hb F.2.1) (F.2.2 b hb)).1) F.1,uo F.2.1 E.size,fun b hb ho=>(E.own b ho).elim (F.2.2 b hb) (fun h=>by have:=F.2.1;omega)⟩
theorem Marks.eS {g g':Gh} {h h':Nat→Option aI} {N N':Nat→Prop} {w w':World} (E:b9 g h N w g' h' N' w') {B:Nat} {ds:List Deferred} (M:Marks B g w ds):Marks B g' w' ds:=by
 obtain ⟨h0,Ds,h1,h2,h3⟩:=M
 refine ⟨uo h0 E.size,Ds,h1,h2,fun D hD => ?_⟩
 obtain ⟨h6,h4,h5⟩:=h3 D hD
 have hlt:D < w.heap.size:=(uc.1 h4).1
 exact ⟨h6,(E.old D hlt h5).1.trans h4,fun h=>(E.own D h).elim h5 (fun h=>by omega)⟩
theorem RI.mono {Z Z':Nat→Nat} {w w':World} (hz:∀ b,Z b≤Z' b) (hc:lF Z w w') {x:IV} {v:Value}
  (h:RI Z w x v):RI Z' w' x v:=by
 induction h with
 | bool b=>exact .bool b
 | int k n=>exact .int k n
 | str s=>exact .str s
 | nil=>exact .nil
 | empty a cap=>exact .empty a cap
 | slice af b off cap sz cv hcap hsz iO iA hr ih=>
  exact .slice af b off cap sz cv hcap hsz (fun i row j c h1 h2=>uh (iO i row j c h1 h2) (hz b))
   (fun i row j c h1 h2=>⟨(hc.c b _ (iO i row j c h1 h2)).trans (iA i row j c h1 h2).1,(iA i row j c h1 h2).2⟩) ih
 | agg cs vs hl h1 hr ih=>exact .agg cs vs hl h1 ih
 | tuple cs vs hl hr ih=>exact .tuple cs vs hl ih
 | iface t x v hr ih=>exact .iface t x v ih
 | dl=>exact .dl
 | eZ es b cG clock ev iO hb hl hk hr ih=>exact .eZ es b cG clock ev (uh iO (hz b)) ((hc.m b cG clock iO hb).trans hb) hl hk ih
theorem RV.mono {C:Ctx} {g g':Gh} {h h':Nat→Option aI} {N N':Nat→Prop} {w w':World} (E:b9 g h N w g' h' N' w') {x:AV} {v:Value}
  (hv:RV C g h N w x v):RV C g' h' N' w' x v:=by
 induction hv with
 | top v=>exact .top v
 | undef=>exact .undef
 | ak x v hr=>exact .ak x v (hr.mono E.cr E.cell)
 | nil=>exact .nil
 | cA a cap=>exact .cA a cap
 | aX id af v hr hid ht=>
  refine .aX id af v (hr.mono E.cr E.cell) (E.next _ hid) fun sz len hg => ?_
  obtain ⟨n9,nT,hle⟩:=E.cV id hid sz len hg
  obtain ⟨h1,h2,h3⟩:=ht sz n9 nT
  refine ⟨uo h1 hle,h2,fun heq => ?_⟩
  have he:n9=len:=by omega
  subst he
  rcases h3 heq with ⟨hn,hv⟩ | ⟨b,cap,c,e,hb,hv,hw,hcap⟩
  ·rcases E.cI id hn hid _ hg (by simp) with h4 | ⟨tV,l1,sj,l2,e1,e2,e3⟩
   ·exact .inl ⟨h4,hv⟩
   ·rw [nT] at e1;cases e1;cases e2;omega
  ·rcases E.ep id b hb _ hg (by simp) hid with h4 | ⟨tV,l1,sj,l2,e1,e2,e3⟩
   ·obtain ⟨c',iA,hs'⟩:=E.shape b c e hw
    exact .inr ⟨b,cap,c',e,h4,hv,iA,by rw [hs'];exact hcap⟩
   ·rw [nT] at e1;cases e1;cases e2;omega
 | cD cells b off cv hz hc hr=>
  exact .cD cells b off cv (fun j c h1=>uh (hz j c h1) (E.cr b))
   (fun j c h1=>⟨(E.cell.c b _ (hz j c h1)).trans (hc j c h1).1,(hc j c h1).2⟩) (fun j c h1=>(hr j c h1).mono E.cr E.cell)
 | ptr id row off v hid h1 hp=>
  refine .ptr id row off v (E.next _ hid) h1 fun sz af hg => ?_
  obtain ⟨eR,nT,_⟩:=E.af id hid sz af hg
  obtain ⟨b,hb,hv⟩:=hp sz eR nT
  rcases E.ep id b hb _ hg (by simp) hid with h4 | ⟨tV,l1,sj,l2,e1,e2,e3⟩
  ·exact ⟨b,h4,hv⟩
  ·cases e2
 | Zag id off len v hid hone hp=>
  refine .Zag id off len v (E.next _ hid) hone fun sz af hg => ?_
  obtain ⟨eR,nT,hl⟩:=E.af id hid sz af hg
  obtain ⟨h1,h2⟩:=hp sz eR nT
  refine ⟨by omega,?_⟩
  rcases h2 with ⟨hn,hr,hv⟩ | ⟨b,cap,c,e,hb,hv,hle,hw,hcap⟩
  ·rcases E.cI id hn hid _ hg (by simp) with h4 | ⟨tV,l1,sj,l2,e1,e2,e3⟩
   ·refine .inl ⟨h4,?_,hv⟩
    subst hr
    exact List.eq_nil_of_length_eq_zero (by simpa using hl.symm)
   ·cases e2
  ·rcases E.ep id b hb _ hg (by simp) hid with h4 | ⟨tV,l1,sj,l2,e1,e2,e3⟩
   ·obtain ⟨c',iA,hs'⟩:=E.shape b c e hw
    exact .inr ⟨b,cap,c',e,h4,hv,hle,iA,by rw [hs'];exact hcap⟩
   ·cases e2
 | func f first bC vf vc hlf hlc hf hc Az CU=>exact .func f first bC vf vc hlf hlc Az CU
 | map id v hid h1 hp=>
  refine .map id v (E.next _ hid) h1 fun es hg => ?_
  obtain ⟨tU,nT⟩:=E.maps id hid es hg
  obtain ⟨b,hb,hv⟩:=hp tU nT
  rcases E.ep id b hb _ hg (by simp) hid with h4 | ⟨tV,l1,sj,l2,e1,e2,e3⟩
  ·exact ⟨b,h4,hv⟩
  ·cases e2
 | agg cs vs hl h1 hr ih=>exact .agg cs vs hl h1 ih
 | tuple cs vs hl hr ih=>exact .tuple cs vs hl ih
 | eI l id hid hp=>
  refine .eI l id (E.next _ hid) fun R s pe hg => ?_
  obtain ⟨s0,Ay,nT⟩:=E.fH id hid l R s pe hg
  rcases E.ep id l (hp R s0 Ay nT) _ hg (by simp) hid with h4 | ⟨_,_,_,_,_,e2,_⟩
  ·exact h4
  ·cases e2
theorem b9.refl (g:Gh) (h:Nat→Option aI) (N:Nat→Prop) (w:World):b9 g h N w g h N w where
 os:=rfl
 tape:=rfl
 output:=rfl
 size:=uf _
 old:=fun _ _ _=>⟨rfl,rfl⟩
 own:=fun _ h=>.inl h
 cr:=fun _=>uf _
 cell:=lF.refl _ _
 shape:=fun b c e h=>⟨c,h,rfl⟩
 next:=fun _ h=>h
 ep:=fun i b h _ _ _ _=>.inl h
 cI:=fun i h _ _ _ _=>.inl h
 af:=fun i _ sz af h=>⟨af,h,rfl⟩
 cV:=fun i _ sz len h=>⟨len,h,uf _⟩
 maps:=fun i _ es h=>⟨es,h⟩
 fH:=fun i _ l R s pe h=>⟨s,pe,h⟩
theorem b9.trans {g₁ g₂ g₃:Gh} {h₁ h₂ h₃:Nat→Option aI} {N₁ N₂ N₃:Nat→Prop} {w₁ w₂ w₃:World}
  (A:b9 g₁ h₁ N₁ w₁ g₂ h₂ N₂ w₂) (B:b9 g₂ h₂ N₂ w₂ g₃ h₃ N₃ w₃):b9 g₁ h₁ N₁ w₁ g₃ h₃ N₃ w₃ where
 os:=B.os.trans A.os
 tape:=B.tape.trans A.tape
 output:=B.output.trans A.output
 size:=uo A.size B.size
 old:=fun b hb ho=>by
  obtain ⟨h1,h2⟩:=A.old b hb ho
  have ho':¬ wq g₂ b:=fun h=>(A.own b h).elim ho (fun h=>by omega)
  obtain ⟨h3,h4⟩:=B.old b (uh hb A.size) ho'
  exact ⟨h3.trans h1,h4.trans h2⟩
 own:=fun b h=>by
  rcases B.own b h with h | h
  ·exact A.own b h
  ·exact .inr (uo A.size h)
 cr:=fun b=>uo (A.cr b) (B.cr b)
 cell:=⟨fun b o h=>(B.cell.c b o (uh h (A.cr b))).trans (A.cell.c b o h),fun b cG clock hz hb=>(B.cell.m b cG clock (uh hz (A.cr b)) ((A.cell.m b cG clock hz hb).trans hb)).trans (A.cell.m b cG clock hz hb)⟩
 shape:=fun b c e h=>by
  obtain ⟨c',h1,h2⟩:=A.shape b c e h
  obtain ⟨B0,h3,h4⟩:=B.shape b c' e h1
  exact ⟨B0,h3,h4.trans h2⟩
 next:=fun i h=>B.next i (A.next i h)
 ep:=fun i b h o ho hnd hi=>by
  cases o with
  | af sz af=>
   obtain ⟨r2,fu,_⟩:=B.af i (A.next _ hi) sz af ho
   rcases A.ep i b h _ fu (by simp) hi with h1 | ⟨_,_,_,_,_,e2,_⟩
   ·rcases B.ep i b h1 _ ho (by simp) (A.next _ hi) with h3 | ⟨_,_,_,_,_,e2,_⟩
    ·exact .inl h3
    ·cases e2
   ·cases e2
  | bf sz len=>
   obtain ⟨l2,fu,fY⟩:=B.cV i (A.next _ hi) sz len ho
   obtain ⟨l1,gI,iE⟩:=A.cV i hi sz l2 fu
   by_cases hlt:l1 < len
   ·exact .inr ⟨sz,l1,sz,len,gI,rfl,hlt⟩
   ·rcases A.ep i b h _ fu (by simp) hi with h1 | ⟨_,_,_,_,e1,e2,e3⟩
    ·rcases B.ep i b h1 _ ho (by simp) (A.next _ hi) with h3 | ⟨_,_,_,_,e1,e2,e3⟩
     ·exact .inl h3
     ·rw [fu] at e1;cases e1;cases e2;omega
    ·rw [gI] at e1;cases e1;cases e2;omega
  | lp l R s pe=>
   obtain ⟨s2,CV,fu⟩:=B.fH i (A.next _ hi) l R s pe ho
   rcases A.ep i b h _ fu (by simp) hi with h1 | ⟨_,_,_,_,_,e2,_⟩
   ·rcases B.ep i b h1 _ ho (by simp) (A.next _ hi) with h3 | ⟨_,_,_,_,_,e2,_⟩
    ·exact .inl h3
    ·cases e2
   ·cases e2
  | map es=>
   obtain ⟨r2,fu⟩:=B.maps i (A.next _ hi) es ho
   rcases A.ep i b h _ fu (by simp) hi with h1 | ⟨_,_,_,_,_,e2,_⟩
   ·rcases B.ep i b h1 _ ho (by simp) (A.next _ hi) with h3 | ⟨_,_,_,_,_,e2,_⟩
    ·exact .inl h3
    ·cases e2
   ·cases e2
  | dead=>exact absurd rfl hnd
 cI:=fun i h hi o ho hnd=>by
  cases o with
  | af sz af=>
   obtain ⟨r2,fu,_⟩:=B.af i (A.next _ hi) sz af ho
   rcases A.cI i h hi _ fu (by simp) with h1 | ⟨_,_,_,_,_,e2,_⟩
   ·rcases B.cI i h1 (A.next _ hi) _ ho (by simp) with h3 | ⟨_,_,_,_,_,e2,_⟩
    ·exact .inl h3
    ·cases e2
   ·cases e2
  | bf sz len=>
   obtain ⟨l2,fu,fY⟩:=B.cV i (A.next _ hi) sz len ho
   obtain ⟨l1,gI,iE⟩:=A.cV i hi sz l2 fu
   by_cases hlt:l1 < len
   ·exact .inr ⟨sz,l1,sz,len,gI,rfl,hlt⟩
   ·rcases A.cI i h hi _ fu (by simp) with h1 | ⟨_,_,_,_,e1,e2,e3⟩
    ·rcases B.cI i h1 (A.next _ hi) _ ho (by simp) with h3 | ⟨_,_,_,_,e1,e2,e3⟩
     ·exact .inl h3
     ·rw [fu] at e1;cases e1;cases e2;omega
    ·rw [gI] at e1;cases e1;cases e2;omega
  | lp l R s pe=>
   obtain ⟨s2,CV,fu⟩:=B.fH i (A.next _ hi) l R s pe ho
   rcases A.cI i h hi _ fu (by simp) with h1 | ⟨_,_,_,_,_,e2,_⟩
   ·rcases B.cI i h1 (A.next _ hi) _ ho (by simp) with h3 | ⟨_,_,_,_,_,e2,_⟩
    ·exact .inl h3
    ·cases e2
   ·cases e2
  | map es=>
   obtain ⟨r2,fu⟩:=B.maps i (A.next _ hi) es ho
   rcases A.cI i h hi _ fu (by simp) with h1 | ⟨_,_,_,_,_,e2,_⟩
   ·rcases B.cI i h1 (A.next _ hi) _ ho (by simp) with h3 | ⟨_,_,_,_,_,e2,_⟩
    ·exact .inl h3
    ·cases e2
   ·cases e2
  | dead=>exact absurd rfl hnd
 af:=fun i hi sz af ho=>by
  obtain ⟨r2,fu,fY⟩:=B.af i (A.next _ hi) sz af ho
  obtain ⟨r1,gI,iE⟩:=A.af i hi sz r2 fu
  exact ⟨r1,gI,iE.trans fY⟩
 cV:=fun i hi sz len ho=>by
  obtain ⟨l2,fu,fY⟩:=B.cV i (A.next _ hi) sz len ho
  obtain ⟨l1,gI,iE⟩:=A.cV i hi sz l2 fu
  exact ⟨l1,gI,uo iE fY⟩
 maps:=fun i hi es ho=>by
  obtain ⟨r2,fu⟩:=B.maps i (A.next _ hi) es ho
  exact A.maps i hi r2 fu
 fH:=fun i hi l R s pe ho=>by
  obtain ⟨s2,CV,fu⟩:=B.fH i (A.next _ hi) l R s pe ho
  exact A.fH i hi l R s2 CV fu
inductive bD where
 | t (n:Nat)
 | c (x:AV)
 | m (n:Nat) (l:List (Nat×Nat))
 deriving Inhabited
inductive dc where
 | fP (x:bD)
 | pick (c a b:bD)
 | alloc (sz:Nat) (af:List (List AV))
 | box (sz:Nat) (x:bD)
 | build (zero:List AV) (parts:List (Nat×Nat×bD))
 | dy (sz:Nat) (zero:List AV) (len:Nat) (parts:List (Nat×bD))
 | load (agg:Bool) (n:Nat) (x:bD)
 | store (n:Nat) (x v:bD)
 | iW (off:Nat) (x:bD)
 | idx (sz:Nat) (x i:bD)
 | idxa (len sz:Nat) (x i:bD)
 | bin (op:BinOp) (x y:bD)
 | oY (neg:Bool) (x y:bD)
 | eqs (neg:Bool) (ks:List Nat) (x y:bD)
 | fc (neg:Bool) (x y:bD)
 | not (x:bD)
 | neg (x:bD)
 | conv (k:IntKind) (x:bD)
 | len (x:bD)
 | lens (x:bD)
 | iF (x:bD)
 | mm (max:Bool) (x y:bD)
 | app (sz bI:Nat) (s x:bD)
 | ext (x:bD) (i:Nat)
 | pF (f:Nat) (first bC:List bD)
 | fD
 | look (str:Bool) (zero:AV) (ok:Bool) (m k:bD)
 | upd (str:Bool) (m k v:bD)
 | mks (sz bI:Nat) (zero:List AV) (n:bD)
 | slc (sz:Nat) (x:bD) (lo hi:Option bD)
 | mz (x:bD)
 | copy (sz:Nat) (d s:bD)
 | ixa (len sz:Nat) (x i:bD)
 | B1 (t:Nat) (x:bD)
 | eqnm (neg:Bool) (x y:bD)
 | cut (ag:Bool) (off n:Nat) (x:bD)
 | call (f:bD) (args:List bD)
 deriving Inhabited
def zs {α:Type}:List (Nat×α)→Nat→α→List (Nat×α)
 | [],i,x=>[(i,x)]
 | (k,v)::r,i,x=>if k=i then (i,x)::r else (k,v)::zs r i x
theorem ze {α:Type} (l:List (Nat×α)) (i:Nat) (x:α) (j:Nat):zc (zs l i x) j=if i=j then some x else zc l j:=by
 induction l with
 | nil=>simp [zs,zc]
 | cons p r ih=>
  obtain ⟨k,v⟩:=p
  simp only [zs]
  split
  ·rename_i hk
   subst hk
   simp only [zc]
   split<;>rfl
  ·rename_i hk
   simp only [zc,ih]
   split
   ·rename_i hkj
    rw [if_neg (by omega)]
   ·rfl
def bK:List (Nat×aI)→(Nat→Option aI)→Nat→Option aI
 | [],h=>h
 | (k,o)::r,h=>fun i=>if k=i then some o else bK r h i
def aY {α β:Type} (f:α→Option β):List α→Option (List β)
 | []=>some []
 | a::r=>match f a with
  | some b=>match aY f r with
   | some bs=>some (b::bs)
   | none=>none
  | none=>none
def cellsOf:AV→Option (List AV)
 | .ak (.agg l)=>some (l.map .ak)
 | .agg l=>some l
 | .ak (.tuple _) | .top | .undef | .tuple _=>none
 | x=>some [x]
def qJ (row:List AV) (o:Nat) (cs:List AV):List AV:=row.take o++cs++row.drop (o+cs.length)
def yz (op:BinOp):IV→IV→Option IV
 | .int k a,.int k' b=>
  match op with
  | .shl=>if b < 0 then none else some (.int k (k.wrap (a*2 ^ (min b.toNat k.bits))))
  | .shr=>if b < 0 then none else some (.int k (a.fdiv (2 ^ (min b.toNat k.bits))))
  | _=>
  if k=k' then
   match op with
   | .add=>some (.int k (k.wrap (a+b)))
   | .sub=>some (.int k (k.wrap (a - b)))
   | .mul=>some (.int k (k.wrap (a*b)))
   | .quo=>if b=0 then none else some (.int k (k.wrap (a.tdiv b)))
   | .rem=>if b=0 then none else some (.int k (a.tmod b))
   | .and=>some (.int k (k.wrap ((BitVec.ofInt k.bits a &&& BitVec.ofInt k.bits b).toNat)))
   | .eql=>some (.bool (a == b))
   | .neq=>some (.bool (a != b))
   | .lss=>some (.bool (decide (a < b)))
   | .leq=>some (.bool (decide (a≤b)))
   | .gtr=>some (.bool (decide (b < a)))
   | .geq=>some (.bool (decide (b≤a)))
   | _=>none
  else none
 | .str a,.str b=>
  match op with
  | .eql=>some (.bool (a.toList == b.toList))
  | .neq=>some (.bool (!(a.toList == b.toList)))
  | _=>none
 | _,_=>none
def qR:IV→IV→Option Bool
 | .int k a,.int k' b=>if k=k' then some (a == b) else none
 | .bool a,.bool b=>some (a == b)
 | .str a,.str b=>some (a == b)
 | _,_=>none
def ZV:Nat→IV→IV→Option Bool
 | 0,.int k a,.int k' b=>if k=k' then some (a == b) else none
 | 1,.bool a,.bool b=>some (a == b)
 | 2,.str a,.str b=>some (a == b)
 | _,_,_=>none
def qC:List Nat→List IV→List IV→Option Bool
 | [],[],[]=>some true
 | k::ks,a::cJ,b::bs=>match ZV k a b with
  | some x=>match qC ks cJ bs with
   | some y=>some (x&&y)
   | none=>none
  | none=>none
 | _,_,_=>none
def zJ (h:Nat→Option aI):Nat→AV→Option IV
 | 0,_=>none
 | d+1,x=>match x with
  | .ak x=>some x
  | .nil=>some (.slice [])
  | .cA=>some (.slice [])
  | .aX _ af=>some (.slice af)
  | .agg cs=>(aY (zJ h d) cs).map .agg
  | .tuple cs=>(aY (zJ h d) cs).map .tuple
  | .Zag id off len=>match h id with
   | some (.af _ af)=>if off+len≤af.length then (aY (fun row:List AV=>aY (zJ h d) row) ((af.drop off).take len)).map .slice else none
   | _=>none
  | .map id=>match h id with
   | some (.map es)=>(aY (fun e:IV×AV=>(zJ h d e.2).map fun y=>(e.1,y)) es).map .eZ
   | _=>none
  | _=>none
def xr:Nat→AV→Bool
 | 0,_=>false
 | d+1,x=>match x with
  | .ak _ | .nil | .cA | .aX _ _=>true
  | .agg cs | .tuple cs=>cs.all (xr d)
  | _=>false
def qY:AV→Option IV
 | .ak x=>some x
 | .nil=>some (.slice [])
 | .cA=>some (.slice [])
 | .aX _ af=>some (.slice af)
 | _=>none
def Zq:AV→Option (List IV)
 | .ak (.agg l)=>some l
 | .agg cs=>aY qY cs
 | _=>none
def jU (h:Nat→Option aI):AV→Option (List (List IV))
 | .ak (.slice af) | .aX _ af=>some af
 | .nil=>some []
 | .cA=>some []
 | .Zag id off len=>match h id with
  | some (.af _ af)=>if off+len≤af.length then aY (fun row:List AV=>aY qY row) ((af.drop off).take len) else none
  | _=>none
 | _=>none
def xw (h:Nat→Option aI):AV→Option (List (List AV))
 | .Zag id off len=>match h id with
  | some (.af _ af)=>if off+len≤af.length then some ((af.drop off).take len) else none
  | _=>none
 | x=>(jU h x).map (·.map (·.map .ak))
def xR (h:Nat→Option aI):AV→Option Nat
 | .ak (.slice af) | .aX _ af=>some af.length
 | .nil=>some 0
 | .cA=>some 0
 | .Zag id _ len=>match h id with
  | some (.af _ _)=>some len
  | _=>none
 | _=>none
def ve (zero:List AV):List (Nat×Nat×List AV)→Option (List AV)
 | []=>some zero
 | (o,n,cs)::r=>if cs.length=n∧o+n≤zero.length then ve (qJ zero o cs) r else none
def ja (af:List (List AV)) (sz:Nat):List (Nat×List AV)→Option (List (List AV))
 | []=>some af
 | (i,cs)::r=>if cs.length=sz∧i < af.length then ja (af.set i cs) sz r else none
def zW (k:IV):List (IV×AV)→Option AV
 | []=>none
 | (k',x)::r=>match qR k k' with
  | some true=>some x
  | some false=>zW k r
  | none=>none
def qj (k:IV) (v:AV):List (IV×AV)→List (IV×AV)
 | []=>[(k,v)]
 | (k',x)::r=>match qR k k' with
  | some true=>(k,v)::r
  | _=>(k',x)::qj k v r
def jV:AV→AV
 | .agg cs=>match aY qY cs with
  | some l=>.ak (.agg l)
  | none=>.agg cs
 | x=>x
def Wj:AV→Option (List AV)
 | .ak (.agg l)=>some (l.map .ak)
 | .agg cs=>some cs
 | _=>none
def jf (h:Nat→Option aI):AV→Option (List (IV×AV))
 | .map i=>match h i with
  | some (.map es)=>some es
  | _=>none
 | .ak (.eZ es)=>some (es.map fun e=>(e.1,.ak e.2))
 | .ak .dl=>some []
 | _=>none
def vD (h:Nat→Option aI):AV→Option Bool
 | .map i=>match h i with
  | some (.map _)=>some false
  | _=>none
 | .ak (.eZ _)=>some false
 | .ak .dl=>some true
 | _=>none
def jD:Bool→IV→Bool
 | false,.int _ _=>true
 | true,.str _=>true
 | _,_=>false
def xf (k:IV) (es:List (IV×AV)):Bool:=es.all fun e=>(qR k e.1).isSome
def kS (sz bI:Nat) (s x:AV) (h:Nat→Option aI) (id:Nat):Option (AV×List (Nat×aI)):=match jU h x with
 | some new=>if !(new.all fun row=>row.length == sz) then none else match s with
  | .nil=>if new.length*bI≤140737488355328 then some (.aX id new,[(id,.bf sz new.length)]) else none
  | .aX i af=>match h i with
   | some (.bf sz' len)=>if sz'=sz∧af.length=len∧(len+new.length)*bI≤140737488355328 then
    some (.aX i (af++new),[(i,.bf sz (len+new.length))]) else none
   | _=>none
  | _=>none
 | none=>none
def Wk (sz bI:Nat) (s x:AV) (h:Nat→Option aI) (id:Nat):Option (AV×List (Nat×aI)):=match xw h x with
 | some new=>if !(new.all fun row=>row.length == sz) then none else match s with
  | .Zag i off len=>match h i with
   | some (.af sz' af)=>if sz'=sz∧off=0∧len=af.length∧(len+new.length)*bI≤140737488355328 then
    some (.Zag id 0 (len+new.length),[(id,.af sz (af++new)),(i,.dead)]) else none
   | _=>none
  | _=>none
 | none=>none
def B2 (sz:Nat) (d x:AV) (h:Nat→Option aI):Option (AV×List (Nat×aI)):=match d with
 | .Zag i 0 len=>match h i with
  | some (.af sz' af)=>match xw h x with
   | some new=>if sz'=sz∧len=af.length∧new.length=len∧(new.all fun row=>row.length == sz)=true then some (.ak (.int .i64 (len:Int)),[(i,.af sz new)]) else none
   | none=>none
  | _=>none
 | _=>none
def wO (sz:Nat):Nat→List AV→List (List AV)
 | 0,_=>[]
 | n+1,l=>l.take sz::wO sz n (l.drop sz)
def ap (o:dc) (ev:bD→AV) (h:Nat→Option aI) (id:Nat):Option (AV×List (Nat×aI)):=
 match o with
 | .fP x=>some (ev x,[])
 | .pick c a b=>match ev c with
  | .ak (.bool true)=>some (ev a,[])
  | .ak (.bool false)=>some (ev b,[])
  | _=>none
 | .alloc sz af=>some (.ptr id 0 0,[(id,.af sz af)])
 | .box sz x=>match cellsOf (ev x) with
  | some cs=>if cs.length=sz then some (.ptr id 0 0,[(id,.af sz [cs])]) else none
  | none=>none
 | .build zero parts=>match aY (fun p:Nat×Nat×bD=>(cellsOf (ev p.2.2)).map fun cs=>(p.1,p.2.1,cs)) parts with
  | some ps=>match ve zero ps with
   | some cs=>some (.agg cs,[])
   | none=>none
  | none=>none
 | .dy sz zero len parts=>match aY (fun p:Nat×bD=>(cellsOf (ev p.2)).map fun cs=>(p.1,cs)) parts with
  | some ps=>match ja (uC len zero) sz ps with
   | some af=>some (.Zag id 0 len,[(id,.af sz af)])
   | none=>none
  | none=>none
 | .load agg n x=>match ev x with
  | .ptr i r o=>match h i with
   | some (.af _ af)=>match af[r]? with
    | some row=>if agg then (if o+n≤row.length then some (.agg ((row.drop o).take n),[]) else none) else (row[o]?).map fun c=>(c,[])
    | none=>none
   | _=>none
  | .cD cells=>if agg then (if n≤cells.length then some (.ak (.agg (cells.take n)),[]) else none) else (cells[0]?).map fun c=>(.ak c,[])
  | _=>none
 | .store n x v=>match ev x,cellsOf (ev v) with
  | .ptr i r o,some cs=>match h i with
   | some (.af sz af)=>match af[r]? with
    | some row=>if cs.length=n∧o+n≤row.length then some (.undef,[(i,.af sz (af.set r (qJ row o cs)))])
     else if cs.length=n∧n=af.length*sz∧r=0∧o=0 then some (.undef,[(i,.af sz (wO sz af.length cs))]) else none
    | none=>none
   | _=>none
  | _,_=>none
 | .iW off x=>match ev x with
  | .ptr i r o=>match h i with
   | some (.af _ _)=>some (.ptr i r (o+off),[])
   | _=>none
  | .cD cells=>some (.cD (cells.drop off),[])
  | _=>none
 | .idx sz x i=>match ev i with
  | .ak (.int _ n)=>match ev x with
   | .ak (.slice af) | .aX _ af=>if 0≤n then
     match af[n.toNat]? with
     | some row=>if row.length=sz then some (.cD row,[]) else none
     | none=>none
    else none
   | .Zag j off len=>match h j with
    | some (.af sz' _)=>if sz'=sz∧0≤n∧n < len then some (.ptr j (off+n.toNat) 0,[]) else none
    | _=>none
   | _=>none
  | _=>none
 | .idxa len sz x i=>match ev i,ev x with
  | .ak (.int _ n),.ptr j 0 0=>match h j with
   | some (.af sz' af)=>if sz'=sz∧0≤n∧n < len then some (.ptr j n.toNat 0,[]) else none
   | _=>none
  | _,_=>none
 | .bin op x y=>match ev x,ev y with
  | .ak a,.ak b=>(yz op a b).map fun r=>(.ak r,[])
  | _,_=>none
 | .oY neg x y=>match ev x,ev y with
  | .ak (.bool a),.ak (.bool b)=>some (.ak (.bool (if neg then !(a == b) else a == b)),[])
  | _,_=>none
 | .eqs neg ks x y=>match Zq (ev x),Zq (ev y) with
  | some a,some b=>match qC ks a b with
   | some r=>some (.ak (.bool (if neg then !r else r)),[])
   | none=>none
  | _,_=>none
 | .fc neg x y=>match ev y with
  | .nil=>match ev x with
   | .nil=>some (.ak (.bool (!neg)),[])
   | .cA=>some (.ak (.bool neg),[])
   | .ak (.slice (_::_))=>some (.ak (.bool neg),[])
   | .aX _ (_::_)=>some (.ak (.bool neg),[])
   | _=>none
  | _=>none
 | .not x=>match ev x with
  | .ak (.bool b)=>some (.ak (.bool !b),[])
  | _=>none
 | .neg x=>match ev x with
  | .ak (.int k n)=>some (.ak (.int k (k.wrap (0 - n))),[])
  | _=>none
 | .conv k x=>match ev x with
  | .ak (.int _ n)=>some (.ak (.int k (k.wrap n)),[])
  | _=>none
 | .len x=>match xR h (ev x) with
  | some n=>some (.ak (.int .i64 (n:Int)),[])
  | none=>none
 | .lens x=>match ev x with
  | .ak (.str s)=>some (.ak (.int .i64 (s.size:Int)),[])
  | _=>none
 | .iF x=>match ev x with
  | .map i=>match h i with
   | some (.map es)=>some (.ak (.int .i64 (es.length:Int)),[])
   | _=>none
  | _=>none
 | .mm mx x y=>match ev x,ev y with
  | .ak (.int k a),.ak (.int _ b)=>some (.ak (.int k (if mx then (if a < b then b else a) else (if b < a then b else a))),[])
  | _,_=>none
 | .ext x i=>match ev x with
  | .ak (.tuple vs)=>(vs[i]?).map fun v=>(.ak v,[])
  | .tuple vs=>(vs[i]?).map fun v=>(v,[])
  | _=>none
 | .pF f first bC=>some (.func f (first.map ev) (bC.map ev),[])
 | .fD=>some (.map id,[(id,.map [])])
 | .look str zero ok m k=>match jf h (ev m),ev k with
  | some es,.ak k=>if jD str k&&xf k es then
    match zW k es with
    | some x=>some (if ok then .tuple [x,.ak (.bool true)] else x,[])
    | none=>some (if ok then .tuple [zero,.ak (.bool false)] else zero,[])
   else none
  | _,_=>none
 | .upd str m k v=>match ev m,ev k with
  | .map i,.ak k=>match h i with
   | some (.map es)=>if jD str k&&xf k es then some (.undef,[(i,.map (qj k (jV (ev v)) es))]) else none
   | _=>none
  | _,_=>none
 | .mks sz bI zero n=>match ev n with
  | .ak (.int .i64 n)=>if 0≤n∧n < 2 ^ 31∧n*bI≤140737488355328 then some (.Zag id 0 n.toNat,[(id,.af sz (uC n.toNat zero))]) else none
  | _=>none
 | .app sz bI s x=>match ev s with
  | .Zag i off len=>Wk sz bI (.Zag i off len) (ev x) h id
  | y=>kS sz bI y (ev x) h id
 | .slc sz x lo hi=>match ev x with
  | .ak (.slice af) | .aX _ af=>
   let l:Option Int:=match lo with | none=>some 0 | some y=>match ev y with | .ak (.int _ n)=>some n | _=>none
   let r:Option Int:=match hi with | none=>some (af.length:Int) | some y=>match ev y with | .ak (.int _ n)=>some n | _=>none
   match l,r with
   | some a,some b=>if 0≤a∧a≤b∧b≤(af.length:Int)∧(af.all fun row=>row.length == sz)=true then some (.ak (.slice ((af.take b.toNat).drop a.toNat)),[]) else none
   | _,_=>none
  | _=>none
 | .mz x=>match ev x with
  | .ptr i r o=>match h i with
   | some (.af _ _)=>some (.ptr i r o,[])
   | _=>none
  | .cD cs=>some (.cD cs,[])
  | .func f a b=>some (.func f a b,[])
  | _=>none
 | .copy sz d x=>B2 sz (ev d) (ev x) h
 | .ixa len sz x i=>match ev i,ev x with
  | .ak (.int _ n),.agg cs=>if sz=1∧0≤n∧n < len then (cs[n.toNat]?).map fun c=>(c,[]) else none
  | _,_=>none
 | .B1 t x=>match Zq (ev x) with
  | some l=>some (.ak (.iface t (.agg l)),[])
  | none=>none
 | .eqnm neg x y=>match ev y,vD h (ev x) with
  | .ak .dl,some b=>some (.ak (.bool (if neg then !b else b)),[])
  | _,_=>none
 | .cut ag off n x=>match Wj (ev x) with
  | some cs=>if off+n≤cs.length then (if ag then some (.agg ((cs.drop off).take n),[]) else (cs[off]?).map fun c=>(c,[])) else none
  | none=>none
 | .call _ _=>none
def zd (env:List (Nat×AV)):bD→AV
 | .t n=>(zc env n).getD .top
 | .c x=>x
 | .m n l=>match (zc env n).getD .top with
  | .ak (.iface t x)=>match zc l t with
   | some f=>.func f [.ak x] []
   | none=>.top
  | _=>.top
def xS:Value→AV
 | .bool b=>.ak (.bool b)
 | .int k n=>.ak (.int k n)
 | .string s=>.ak (.str s)
 | .slice none 0 0=>.nil
 | .map none=>.ak .dl
 | _=>.top
def vE:Value→AV
 | .agg vs=>if vs.toList.all (·.oneCell') then jV (.agg (vs.toList.map xS)) else .top
 | v=>xS v
def Qq (l:List Nat) (f:Nat):Option Nat:=l.findIdx? (· == f)
def WJ (P:Program) (t:TypeId) (name:String):Option FuncId:=match P.info? t with
 | some i=>match i.methods.find? (·.name == name) with
  | some m=>match m.path.toList,m.func,P.underlying t with
   | [],some (f,false),some (.struct _)=>some f
   | _,_,_=>none
  | none=>none
 | none=>none
def vX (P:Program) (mr:List Nat) (name:String):List TypeId→List (Nat×Nat)
 | []=>[]
 | t::r=>match WJ P t name with
  | some f=>match Qq mr f with
   | some i=>(t,i)::vX P mr name r
   | none=>vX P mr name r
  | none=>vX P mr name r
def Ctx.bt (C:Ctx):Operand→bD
 | .tmp t=>.t t
 | .const v=>.c (xS v)
 | .func f=>match Qq C.mr f with
  | some i=>.c (.func i [] [])
  | none=>.c .top
 | .global _=>.c .top
def Jl (P:Program) (rec:TypeId→Option (List Nat)):Nat→List Field→Option (List Nat)
 | _,[]=>some []
 | n, f :: fs => if f.name ≠ "_" ∧ f.offset = n then
   match rec f.type with
   | some ks=>if (P.info? f.type).map (·.size)=some ks.length then
     match Jl P rec (n+ks.length) fs with
     | some rest=>some (ks++rest)
     | none=>none
    else none
   | none=>none
  else none
def yA (P:Program):Nat→TypeId→Option (List Nat)
 | 0,_=>none
 | d+1,t=>match P.underlying t with
  | some (.int _)=>some [0]
  | some .bool=>some [1]
  | some .string=>some [2]
  | some (.struct fs)=>if P.stoodInHeld t then none else Jl P (yA P d) 0 fs.toList
  | _=>none
def zB (P:Program) (t:TypeId):Option Nat:=(P.info? t).map (·.size)
def xF (P:Program) (t:TypeId):Option Nat:=(P.info? t).map (·.bytes)
def xm (v:Value):Bool:=v.cells.toList.all (·.oneCell')
def qL (P:Program) (t:TypeId):Option (List AV):=match P.info? t with
 | some i=>match i.zero with
  | some v=>if xm v then some (v.cells.toList.map xS) else none
  | none=>none
 | none=>none
def jH (P:Program) (t:TypeId):Option Bool:=match P.underlying t with
 | some (.struct _) | some (.array _ _)=>some true
 | some _=>some false
 | none=>none
def Xt (C:Ctx) (op:BinOp) (t:TypeId) (x y:Operand):Option dc:=
 match C.P.underlying t with
 | some (.int _) | some .string=>some (.bin op (C.bt x) (C.bt y))
 | some .bool=>match op with
  | .eql=>some (.oY false (C.bt x) (C.bt y))
  | .neq=>some (.oY true (C.bt x) (C.bt y))
  | _=>none
 | some (.slice _)=>match op,y with
  | .eql,.const (.slice none 0 0)=>some (.fc false (C.bt x) (C.bt y))
  | .neq,.const (.slice none 0 0)=>some (.fc true (C.bt x) (C.bt y))
  | _,_=>none
 | some (.map _ _)=>match op,y with
  | .eql,.const (.map none)=>some (.eqnm false (C.bt x) (C.bt y))
  | .neq,.const (.map none)=>some (.eqnm true (C.bt x) (C.bt y))
  | _,_=>none
 | some (.struct _)=>match yA C.P 9 t with
  | some ks=>if C.P.eqGuardType C.P.depth t then none else
   match op with
   | .eql=>some (.eqs false ks (C.bt x) (C.bt y))
   | .neq=>some (.eqs true ks (C.bt x) (C.bt y))
   | _=>none
  | none=>none
 | _=>none
def yB (C:Ctx) (b:Builtin) (args:List Operand) (ts:List TypeId):Option dc:=
 match b,args,ts with
 | .len,[x],[t]=>match C.P.underlying t with
  | some (.slice _)=>some (.len (C.bt x))
  | some .string=>some (.lens (C.bt x))
  | some (.map _ _)=>some (.iF (C.bt x))
  | _=>none
 | .max,[x,y],_=>some (.mm true (C.bt x) (C.bt y))
 | .min,[x,y],_=>some (.mm false (C.bt x) (C.bt y))
 | .append,[s,x],[t,t']=>match C.P.underlying t,C.P.underlying t' with
  | some (.slice e),some (.slice _)=>match zB C.P e,xF C.P e,qL C.P e with
   | some sz,some bI,some z=>if 0 < sz∧z.length=sz∧0 < bI then some (.app sz bI (C.bt s) (C.bt x)) else none
   | _,_,_=>none
  | _,_=>none
 | .copy,[d,x],t::_=>match C.P.underlying t with
  | some (.slice e)=>match zB C.P e with
   | some sz=>some (.copy sz (C.bt d) (C.bt x))
   | none=>none
  | _=>none
 | _,_,_=>none
def yO (C:Ctx) (o:Op):Option dc:=
 match o with
 | .move x | .assign x=>some (.fP (C.bt x))
 | .pick c a b=>some (.pick (C.bt c) (C.bt a) (C.bt b))
 | .alloc t=>match C.P.underlying t with
  | some (.array n e)=>match zB C.P e,qL C.P t with
   | some sz,some z=>if z.length=n*sz∧0 < sz then some (.alloc sz (wO sz n z)) else none
   | _,_=>none
  | some _=>match qL C.P t with
   | some z=>some (.alloc z.length [z])
   | none=>none
  | none=>none
 | .box t x=>match zB C.P t with
  | some sz=>some (.box sz (C.bt x))
  | none=>none
 | .build t parts=>match C.P.underlying t,qL C.P t with
  | some (.struct fs),some z=>
   match aY (fun p:Nat×Operand=>match fs[p.1]? with
    | some f=>match zB C.P f.type with
     | some n=>some (f.offset,n,C.bt p.2)
     | none=>none
    | none=>none) parts.toList with
   | some ps=>if (fs.toList.all fun f=>(zB C.P f.type).isSome) then some (.build z ps) else none
   | none=>none
  | some (.array n e),some z=>match zB C.P e with
   | some sz=>some (.build z (parts.toList.map fun p=>(p.1*sz,sz,C.bt p.2)))
   | none=>none
  | _,_=>none
 | .buildSlice t len parts=>match C.P.underlying t with
  | some (.slice e)=>match zB C.P e,qL C.P e with
   | some sz,some z=>if 0 < sz∧z.length=sz∧len*sz≤2 ^ 24 then some (.dy sz z len (parts.toList.map fun p=>(p.1,C.bt p.2))) else none
   | _,_=>none
  | _=>none
 | .load t a=>match jH C.P t,zB C.P t with
  | some ag,some n=>some (.load ag n (C.bt a))
  | _,_=>none
 | .store t a v=>match zB C.P t with
  | some n=>some (.store n (C.bt a) (C.bt v))
  | none=>none
 | .fieldAddr s x f=>match C.P.underlying s with
  | some (.struct fs)=>match fs[f]? with
   | some fd=>match zB C.P fd.type with
    | some n=>if n=0 then none else some (.iW fd.offset (C.bt x))
    | none=>none
   | none=>none
  | _=>none
 | .field s x f=>match C.P.underlying s with
  | some (.struct fs)=>match fs[f]? with
   | some fd=>match zB C.P fd.type,jH C.P fd.type with
    | some n,some ag=>if n=0 then none else some (.cut ag fd.offset n (C.bt x))
    | _,_=>none
   | none=>none
  | _=>none
 | .indexAddr t x i=>match C.P.underlying t with
  | some (.slice e)=>match zB C.P e with
   | some sz=>some (.idx sz (C.bt x) (C.bt i))
   | none=>none
  | some (.array n e)=>match zB C.P e with
   | some sz=>some (.idxa n sz (C.bt x) (C.bt i))
   | none=>none
  | _=>none
 | .binOp op t x y _=>Xt C op t x y
 | .unOp .not _ x=>some (.not (C.bt x))
 | .unOp .neg _ x=>some (.neg (C.bt x))
 | .convert s d x=>match C.P.underlying s,C.P.underlying d with
  | some (.int _),some (.int k)=>some (.conv k (C.bt x))
  | _,_=>none
 | .extract x i=>some (.ext (C.bt x) i)
 | .makeFunc (.func f) first bC=>match Qq C.mr f with
  | some i=>some (.pF i (first.toList.map C.bt) (bC.toList.map C.bt))
  | none=>none
 | .makeMap _ none=>some .fD
 | .lookup t m k ok=>match C.P.underlying t with
  | some (.map kt et)=>match C.P.underlying kt,C.P.info? et with
   | some (.int _),some i=>match i.zero with
    | some z=>some (.look false (vE z) ok (C.bt m) (C.bt k))
    | none=>none
   | some .string,some i=>match i.zero with
    | some z=>some (.look true (vE z) ok (C.bt m) (C.bt k))
    | none=>none
   | _,_=>none
  | _=>none
 | .mapUpdate t m k v=>match C.P.underlying t with
  | some (.map kt et)=>match C.P.underlying kt with
   | some (.int _)=>some (.upd false (C.bt m) (C.bt k) (C.bt v))
   | some .string=>some (.upd true (C.bt m) (C.bt k) (C.bt v))
   | _=>none
  | _=>none
 | .insert t m k v=>match C.P.underlying t with
  | some (.map kt et)=>match C.P.underlying kt with
   | some (.int _)=>some (.upd false (C.bt m) (C.bt k) (C.bt v))
   | some .string=>some (.upd true (C.bt m) (C.bt k) (C.bt v))
   | _=>none
  | _=>none
 | .nilCheck x=>some (.mz (C.bt x))
 | .index t x i=>match C.P.underlying t with
  | some (.array n e)=>match zB C.P e,jH C.P e with
   | some sz,some false=>some (.ixa n sz (C.bt x) (C.bt i))
   | _,_=>none
  | _=>none
 | .makeSlice t (.tmp l) (.tmp c)=>match C.P.underlying t with
  | some (.slice e)=>match zB C.P e,xF C.P e,qL C.P e with
   | some sz,some bI,some z=>if l=c∧0 < sz∧z.length=sz then some (.mks sz bI z (.t l)) else none
   | _,_,_=>none
  | _=>none
 | .slice t x lo hi none=>match C.P.underlying t with
  | some (.slice e)=>match zB C.P e with
   | some sz=>some (.slc sz (C.bt x) (lo.map C.bt) (hi.map C.bt))
   | none=>none
  | _=>none
 | .call {callee:=.builtin b,args,argTypes}=>yB C b args.toList argTypes.toList
 | .call {callee:=.value f,args,argTypes:=_}=>some (.call (C.bt f) (args.toList.map C.bt))
 | .call {callee:=.invoke (.tmp r) name,args,argTypes:=_}=>some (.call (.m r (vX C.P C.mr name C.ifs)) (args.toList.map C.bt))
 | .makeInterface t x=>match C.P.underlying t with
  | some (.struct _)=>some (.B1 t (C.bt x))
  | _=>none
 | _=>none
section
section
variable {C:Ctx} {g g':Gh} {h h':Nat→Option aI} {N N':Nat→Prop} {w w':World} {id:Nat}
def qo (N:Nat→Prop) (id:Nat):Nat→Prop:=fun i=>N i∨i=id
def Good (C:Ctx) (g:Gh) (h:Nat→Option aI) (N:Nat→Prop) (w:World) (id:Nat) (r:AV) (aQ:List (Nat×aI)) (v:Value) (w':World):Prop:=
 ∃ g',b9 g h N w g' (bK aQ h) (qo N id) w'∧RH C g' (bK aQ h) (qo N id) w'∧RV C g' (bK aQ h) (qo N id) w' r v
theorem b9.add (g:Gh) (h:Nat→Option aI) (N:Nat→Prop) (w:World) (id:Nat):b9 g h N w g h (qo N id) w where
 os:=rfl
 tape:=rfl
 output:=rfl
 size:=uf _
 old:=fun _ _ _=>⟨rfl,rfl⟩
 own:=fun _ h=>.inl h
 cr:=fun _=>uf _
 cell:=lF.refl _ _
 shape:=fun b c e h=>⟨c,h,rfl⟩
 next:=fun _ h=>.inl h
 ep:=fun i b h _ _ _ _=>.inl h
 cI:=fun i h _ _ _ _=>.inl h
 af:=fun i _ sz af h=>⟨af,h,rfl⟩
 cV:=fun i _ sz len h=>⟨len,h,uf _⟩
 maps:=fun i _ es h=>⟨es,h⟩
 fH:=fun i _ ll RR s pe h=>⟨s,pe,h⟩
theorem dx.keep (E:b9 g h N w g' h' N' w') {b:Nat} {o:aI} (hb:w'.heap[b]?=w.heap[b]?) (hz:g'.Z b=g.Z b) (H:dx C g h N w b o) :
  dx C g' h' N' w' b o:=by
 cases o with
 | af sz af=>
  obtain ⟨h0,c,e,h1,h2,h3⟩:=H
  refine ⟨hz.trans h0,c,e,hb.trans h1,h2,fun i row j x hi hj => ?_⟩
  obtain ⟨cv,h4,h5,h6⟩:=h3 i row j x hi hj
  exact ⟨cv,h4,h5,h6.mono E⟩
 | bf sz len=>
  obtain ⟨c,e,h1,h2,h3⟩:=H
  exact ⟨c,e,hb.trans h1,hz.trans h2,h3⟩
 | map es=>
  obtain ⟨h0,cG,clock,h1,h2,h3⟩:=H
  refine ⟨hz.trans h0,cG,clock,hb.trans h1,h2,fun i k x hi => ?_⟩
  obtain ⟨e,h4,h5,h6⟩:=h3 i k x hi
  exact ⟨e,h4,h5,h6.mono E⟩
 | dead=>trivial
 | lp l R s pe=>exact ⟨hz.trans H.1,H.2.1,hb.trans H.2.2⟩
theorem RH.add (R:RH C g h N w) (id:Nat):RH C g h (qo N id) w where
 inj:=R.inj
 lt:=fun i b hb=>⟨(R.lt i b hb).1,.inl (R.lt i b hb).2⟩
 key:=fun i o ho=>.inl (R.key i o ho)
 obj:=fun i b o hb ho=>(R.obj i b o hb ho).keep (b9.add g h N w id) rfl rfl
 cP:=R.cP
 ed:=R.ed
 fix:=R.fix.eS (b9.add g h N w id)
theorem zz (R:RH C g h N w) {r:AV} {v:Value} (hr:RV C g h N w r v):Good C g h N w id r [] v w:=
 ⟨g,b9.add g h N w id,R.add id,hr.mono (b9.add g h N w id)⟩
theorem RH.lK (R:RH C g h N w) (hid:¬ N id):g.ρ id=none:=by
 cases hh:g.ρ id with
 | none=>rfl
 | some b=>exact absurd (R.lt id b hh).2 hid
def Gh.at (g:Gh) (id b:Nat) (z:Nat):Gh:=⟨fun i=>if i=id then some b else g.ρ i,fun k=>if k=b then z else g.Z k⟩
theorem qF (w:World) (o:Obj) {b:Nat} (hb:b < w.heap.size):(w.alloc o).heap[b]?=w.heap[b]?:=by
 show (w.heap.push o)[b]?=_
 rw [Array.getElem?_push,if_neg (by omega)]
theorem zX (w:World) (o:Obj):(w.alloc o).heap[w.heap.size]?=some o:=by
 show (w.heap.push o)[w.heap.size]?=_
 simp
theorem qd {w:World} {b:Nat} {o:Obj} (hb:w.heap[b]?=some o):b < w.heap.size:=by
 rcases uI b w.heap.size with h | h
 ·exact h
 ·rw [Array.getElem?_eq_none h] at hb;cases hb
theorem Xu (R:RH C g h N w) (hid:¬ N id) (o:Obj) (ob:aI) (z:Nat):b9 g h N w (g.at id w.heap.size z) (bK [(id,ob)] h) (qo N id) (w.alloc o):=by
 have ne:∀ i,N i→i≠id:=fun i hi e=>hid (e ▸ hi)
 have ne':∀ i,N i→id≠i:=fun i hi e=>hid (e ▸ hi)
 exact {
  os:=rfl
  tape:=rfl
  output:=rfl
  size:=by simp
  old:=fun b hb ho=>⟨qF w o hb,by simp only [Gh.at];rw [if_neg (by omega)]⟩
  own:=fun b ⟨i,hi⟩=>by
   simp only [Gh.at] at hi
   split at hi
   ·cases hi;exact .inr (uf _)
   ·exact .inl ⟨i,hi⟩
  cr:=fun b=>by
   simp only [Gh.at]
   split
   ·rename_i hb
    rcases un (g.Z b) with h0 | h0
    ·omega
    ·have:=R.ed b h0;omega
   ·exact uf _
  cell:=lF.heap fun b hk=>qF w o (R.ed b hk)
  shape:=fun b c e hb=>⟨c,(qF w o (qd hb)).trans hb,rfl⟩
  next:=fun i hi=>.inl hi
  ep:=fun i b hb oZ _ _ hi=>.inl (by simp only [Gh.at];rw [if_neg (ne i hi)];exact hb)
  cI:=fun i hb hi oZ _ _=>.inl (by simp only [Gh.at];rw [if_neg (ne i hi)];exact hb)
  af:=fun i hi sz af ho=>by
   simp only [bK] at ho
   rw [if_neg (ne' i hi)] at ho
   exact ⟨af,ho,rfl⟩
  cV:=fun i hi sz len ho=>by
   simp only [bK] at ho
   rw [if_neg (ne' i hi)] at ho
   exact ⟨len,ho,uf _⟩
  maps:=fun i hi es ho=>by
   simp only [bK] at ho
   rw [if_neg (ne' i hi)] at ho
   exact ⟨es,ho⟩
  fH:=fun i hi ll RR s pe ho=>by
   simp only [bK] at ho
   rw [if_neg (ne' i hi)] at ho
   exact ⟨s,pe,ho⟩}
theorem CW (R:RH C g h N w) (hid:¬ N id) (o:Obj) (ob:aI) (z:Nat)
  (ho:dx C (g.at id w.heap.size z) (bK [(id,ob)] h) (qo N id) (w.alloc o) w.heap.size ob) :
  RH C (g.at id w.heap.size z) (bK [(id,ob)] h) (qo N id) (w.alloc o):=by
 have E:=Xu R hid o ob z
 refine ⟨fun i j b hi hj => ?_,fun i b hb => ?_,fun i o' ho' => ?_,fun i b o' hb ho' => ?_,fun i sz len ht hn => ?_,fun b hb => ?_,R.fix.eS E⟩
 ·simp only [Gh.at] at hi hj
  split at hi<;>split at hj
  ·rename_i h1 h2;rw [h1,h2]
  ·cases hi;have:=(R.lt j _ hj).1;omega
  ·cases hj;have:=(R.lt i _ hi).1;omega
  ·exact R.inj i j b hi hj
 ·simp only [Gh.at] at hb
  split at hb
  ·rename_i hi;cases hb;exact ⟨by simp,.inr hi⟩
  ·have:=R.lt i b hb;exact ⟨by simp;omega,.inl this.2⟩
 ·simp only [bK] at ho'
  split at ho'
  ·rename_i hi;exact .inr hi.symm
  ·exact .inl (R.key i o' ho')
 ·simp only [Gh.at] at hb
  simp only [bK] at ho'
  split at hb
  ·rename_i hi
   subst hi
   cases hb
   rw [if_pos rfl] at ho'
   cases ho'
   exact ho
  ·rename_i hi
   rw [if_neg (fun e=>hi e.symm)] at ho'
   have hlt:=(R.lt i b hb).1
   exact (R.obj i b o' hb ho').keep E (qF w o hlt) (by simp only [Gh.at];rw [if_neg (by omega)])
 ·simp only [Gh.at] at hn
  simp only [bK] at ht
  split at hn
  ·cases hn
  ·rename_i hi
   rw [if_neg (fun e=>hi e.symm)] at ht
   exact R.cP i sz len ht hn
 ·simp only [Gh.at] at hb
  split at hb
  ·rename_i hh;subst hh;simp
  ·have:=R.ed b hb;simp;omega
theorem RH.mA (R:RH C g h N w):g.Z w.heap.size=0:=by
 rcases un (g.Z w.heap.size) with h0 | h0
 ·exact h0
 ·have:=R.ed _ h0;omega
theorem Zr (R:RH C g h N w) (hid:¬ N id) (c:Array Value) (e:TypeId) (sz:Nat) (af:List (List AV))
  (hsz:∀ (i:Nat) (row:List AV),af[i]?=some row→row.length=sz)
  (hc:∀ (i:Nat) (row:List AV) (j:Nat) (x:AV),af[i]?=some row→row[j]?=some x→∃ cv,c[i*sz+j]?=some cv∧cv.oneCell'=true∧RV C g h N w x cv)
  {r:AV} {v:Value}
  (hr:RV C (g.at id w.heap.size 0) (bK [(id,.af sz af)] h) (qo N id) (w.alloc (.cells c e (0,0))) r v) :
  Good C g h N w id r [(id,.af sz af)] v (w.alloc (.cells c e (0,0))):=by
 have E:=Xu R hid (.cells c e (0,0)) (.af sz af) 0
 refine ⟨_,E,CW R hid _ _ _ ?_,hr⟩
 refine ⟨by simp [Gh.at],c,e,zX w _,hsz,fun i row j x h1 h2 => ?_⟩
 obtain ⟨cv,h3,h4,h5⟩:=hc i row j x h1 h2
 exact ⟨cv,h3,h4,h5.mono E⟩
theorem WK (id b z:Nat) (ob:aI) (w:World):RV C (g.at id b z) (bK [(id,ob)] h) (qo N id) w (.ptr id 0 0) (.pointer (some ⟨b,0,none⟩)):=by
 refine .ptr id 0 0 _ (.inr rfl) rfl fun sz af _=>⟨b,by simp [Gh.at],by simp⟩
theorem yP {x:AV} {v:Value} {cs:List AV} (hx:cellsOf x=some cs) (hv:RV C g h N w x v) :
  cs.length=v.cells.size∧(∀ (j:Nat) (c:AV),cs[j]?=some c→∃ u,v.cells[j]?=some u∧u.oneCell'=true∧RV C g h N w c u):=by
 have single:∀ (x:AV) (v:Value),v.oneCell'=true→RV C g h N w x v→[x].length=v.cells.size ∧
   (∀ (j:Nat) (c:AV),[x][j]?=some c→∃ u,v.cells[j]?=some u∧u.oneCell'=true∧RV C g h N w c u):=fun x v h1 h2=>by
  have hc:v.cells = #[v]:=by cases v<;>first | rfl | simp [Value.oneCell'] at h1
  rw [hc]
  refine ⟨rfl,fun j c hj => ?_⟩
  cases j with
  | zero=>simp at hj;subst hj;exact ⟨v,by simp,h1,h2⟩
  | succ j=>simp at hj
 cases hv with
 | top v=>simp [cellsOf] at hx
 | undef=>simp [cellsOf] at hx
 | ak y v hr=>
  cases hr with
  | agg cs' vs hl h1 hr=>
   simp [cellsOf] at hx
   subst hx
   refine ⟨by simp [Value.cells,hl],fun j c hj => ?_⟩
   simp only [uj,ub] at hj
   obtain ⟨y,hy,rfl⟩:=hj
   have hlt:j < vs.length:=by rw [←hl];exact (ua.1 hy).1
   refine ⟨vs[j],by simp [Value.cells,hlt],h1 _ (uA hlt),.ak _ _ (hr j y _ hy (by simp [hlt]))⟩
  | tuple cs' vs hl hr=>simp [cellsOf] at hx
  | bool b=>simp [cellsOf] at hx;subst hx;exact single _ _ rfl (.ak _ _ (.bool b))
  | iface t x u hr'=>simp [cellsOf] at hx;subst hx;exact single _ _ rfl (.ak _ _ (.iface t x u hr'))
  | dl=>simp [cellsOf] at hx;subst hx;exact single _ _ rfl (.ak _ _ .dl)
  | eZ es b cG clock ev hz hb hl hk hr'=>simp [cellsOf] at hx;subst hx;exact single _ _ rfl (.ak _ _ (.eZ es b cG clock ev hz hb hl hk hr'))
  | int k n=>simp [cellsOf] at hx;subst hx;exact single _ _ rfl (.ak _ _ (.int k n))
  | str s=>simp [cellsOf] at hx;subst hx;exact single _ _ rfl (.ak _ _ (.str s))
  | nil=>simp [cellsOf] at hx;subst hx;exact single _ _ rfl (.ak _ _ .nil)
  | empty a cap=>simp [cellsOf] at hx;subst hx;exact single _ _ rfl (.ak _ _ (.empty a cap))
  | slice af b off cap sz cv hcap hsz hz hc hr=>
   simp [cellsOf] at hx;subst hx;exact single _ _ rfl (.ak _ _ (.slice af b off cap sz cv hcap hsz hz hc hr))
 | nil=>simp [cellsOf] at hx;subst hx;exact single _ _ rfl .nil
 | eI l id hid hp=>simp [cellsOf] at hx;subst hx;exact single _ _ rfl (.eI l id hid hp)
 | cA a cap=>simp [cellsOf] at hx;subst hx;exact single _ _ rfl (.cA a cap)
 | aX id af v hr hid ht=>
  simp [cellsOf] at hx;subst hx
  refine single _ _ ?_ (.aX id af v hr hid ht)
  cases hr<;>rfl
 | cD cells b off cv hz hc hr=>simp [cellsOf] at hx;subst hx;exact single _ _ rfl (.cD cells b off cv hz hc hr)
 | ptr id row off v hid h1 hp=>simp [cellsOf] at hx;subst hx;exact single _ _ h1 (.ptr id row off v hid h1 hp)
 | Zag id off len v hid h1 hp=>simp [cellsOf] at hx;subst hx;exact single _ _ h1 (.Zag id off len v hid h1 hp)
 | func f first bC vf vc hlf hlc hf hc=>simp [cellsOf] at hx;subst hx;exact single _ _ rfl (.func f first bC vf vc hlf hlc hf hc)
 | map id v hid h1 hp=>simp [cellsOf] at hx;subst hx;exact single _ _ h1 (.map id v hid h1 hp)
 | agg cs' vs hl h1 hr=>
  simp [cellsOf] at hx
  subst hx
  refine ⟨by simp [Value.cells,hl],fun j c hj => ?_⟩
  have hlt:j < vs.length:=by rw [←hl];exact (ua.1 hj).1
  exact ⟨vs[j],by simp [Value.cells,hlt],h1 _ (uA hlt),hr j c _ hj (by simp [hlt])⟩
 | tuple cs' vs hl hr=>simp [cellsOf] at hx
end
end
section
def zE (w:World) (b:Nat) (o:Obj):World:={w with heap:=w.heap.setIfInBounds b o}
def qw (c:Array Value) (k:Nat):List Value→Array Value
 | []=>c
 | v::vs=>qw (c.setIfInBounds k v) (k+1) vs
theorem jW (c:Array Value) (k:Nat) (vs:List Value):(qw c k vs).size=c.size:=by
 induction vs generalizing c k with
 | nil=>rfl
 | cons v vs ih=>simp [qw,ih]
theorem xT (c:Array Value) (k:Nat) (vs:List Value) (hk:k+vs.length≤c.size) (j:Nat) :
  (qw c k vs)[j]?=if k≤j∧j < k+vs.length then vs[j - k]? else c[j]?:=by
 induction vs generalizing c k with
 | nil=>simp [qw];omega
 | cons v vs ih=>
  simp only [uq] at hk
  simp only [qw]
  rw [ih _ _ (by simp;omega)]
  simp only [uq,ud]
  by_cases h1:k=j
  ·subst h1
   rw [if_neg (by omega),if_pos rfl,if_pos (by omega),if_pos (by omega)]
   simp
  ·by_cases h2:k+1≤j∧j < k+1+vs.length
   ·rw [if_pos h2,if_pos (by omega)]
    rw [show j - k=(j - (k+1))+1 by omega]
    simp
   ·rw [if_neg h2,if_neg (by omega),if_neg (by omega)]
theorem zI (w:World) (b:Nat) (o:Obj) (hb:b < w.heap.size) (k:Nat):(zE w b o).heap[k]?=if k=b then some o else w.heap[k]?:=by
 simp only [zE,ud]
 by_cases h:b=k
 ·subst h;simp [hb]
 ·rw [if_neg h,if_neg (fun e=>h e.symm)]
theorem jm (w:World) (b:Nat) (o:Obj):(zE w b o).heap.size=w.heap.size:=by simp [zE]
theorem LC (w:World) (b o:Nat) (v:Value) (c:Array Value) (e:TypeId) (f:Nat×Nat) (hb:w.heap[b]?=some (.cells c e f)) :
  w.setCell ⟨b,o,none⟩ v=zE w b (.cells (c.setIfInBounds o v) e f):=by
 have hlt:=qd hb
 unfold World.setCell zE
 congr 1
 apply uF
 intro k
 rw [Array.getElem?_modify,ud]
 by_cases h:b=k
 ·subst h
  obtain ⟨h1,h2⟩:=uc.1 hb
  simp [h2,hlt]
 ·simp [h]
theorem WL (w:World) (b:Nat) (o o':Obj):zE (zE w b o) b o'=zE w b o':=by
 simp only [zE,Array.setIfInBounds_setIfInBounds]
theorem V6 (w:World) (b:Nat) (o:Obj) (hb:w.heap[b]?=some o):zE w b o=w:=by
 unfold zE
 have:w.heap.setIfInBounds b o=w.heap:=by
  apply uF
  intro k
  rw [ud]
  by_cases h:b=k
  ·subst h
   obtain ⟨h1,h2⟩:=uc.1 hb
   simp [h2,h1]
  ·simp [h]
 rw [this]
theorem qS {w:World} {b o:Nat} {c:Array Value} {e:TypeId} {f:Nat×Nat} (hb:w.heap[b]?=some (.cells c e f)):w.cell? ⟨b,o,none⟩=c[o]?:=by
 simp [World.cell?,hb]
theorem vY {P:Program} (vs:List Value):∀ (w:World) (b off i:Nat) (c:Array Value) (e:TypeId),w.heap[b]?=some (.cells c e (0,0)) →
  (∀ v∈vs,v.oneCell'=true)→off+i+vs.length≤c.size →
  (storeCells ⟨b,off,none⟩ vs i).run P w=.ok () (zE w b (.cells (qw c (off+i) vs) e (0,0))):=by
 induction vs with
 | nil=>
  intro w b off i c e hb _ _
  simp only [storeCells,qw,Sem.run_pure]
  rw [V6 w b _ hb]
 | cons v vs ih=>
  intro w b off i c e hb h1 hl
  simp only [uq] at hl
  have CX:(⟨b,off,none⟩:Addr).add i=⟨b,off+i,none⟩:=by
   unfold Addr.add
   split
   ·rename_i h0;subst h0;rfl
   ·rfl
  have hcell:w.cell? ⟨b,off+i,none⟩=some (c[off+i]'(by omega)):=by
   rw [qS hb];simp
  have hfz:w.frozen? ⟨b,off+i,none⟩=false:=by
   simp [World.frozen?,hb]
  have hw:=LC w b (off+i) v c e (0,0) hb
  have hb':(zE w b (.cells (c.setIfInBounds (off+i) v) e (0,0))).heap[b]?=some (.cells (c.setIfInBounds (off+i) v) e (0,0)):=by
   rw [zI w b _ (qd hb)];simp
  have:=ih (zE w b (.cells (c.setIfInBounds (off+i) v) e (0,0))) b off (i+1) _ e hb' (fun u hu=>h1 u (uu _ hu)) (by simp;omega)
  simp only [storeCells,Sem.run_bind,CX,run_store P w _ v _ (h1 v uv),hcell,hfz,uw,if_false,Result.andThen,hw]
  rw [this,WL]
  rfl
section
variable {C:Ctx} {g g':Gh} {h h':Nat→Option aI} {N N':Nat→Prop} {w w':World} {id:Nat}
theorem Xv (R:RH C g h N w) {i b:Nat} (hi:g.ρ i=some b) (hz:g.Z b=0) (ob oZ:aI) (cR:h i=some ob) (o':Obj)
  (hk:match ob,oZ with
   | .af sz af,.af sz' ef=>sz=sz'∧af.length=ef.length
   | .map _,.map _=>True
   | .lp l R _ _,.lp l' R' _ _=>l=l'∧R=R'
   | _,_=>False)
  (hs:∀ (c:Array Value) (e:TypeId),w.heap[b]?=some (.cells c e (0,0))→∃ c':Array Value,o'=.cells c' e (0,0)∧c'.size=c.size) :
  b9 g h N w g (bK [(i,oZ)] h) (qo N id) (zE w b o'):=by
 have hlt:=(R.lt i b hi).1
 exact {
  os:=rfl
  tape:=rfl
  output:=rfl
  size:=by rw [jm];exact uf _
  old:=fun k hk ho=>⟨by rw [zI w b o' hlt,if_neg (fun e=>ho ⟨i,by rw [e];exact hi⟩)],rfl⟩
  own:=fun k ho=>.inl ho
  cr:=fun _=>uf _
  cell:=lF.heap fun k ho=>by
   rw [zI w b o' hlt,if_neg (fun e=>by subst e;omega)]
  shape:=fun k c e hc=>by
   by_cases e1:k=b
   ·subst e1
    obtain ⟨c',h1,h2⟩:=hs c e hc
    exact ⟨c',by rw [zI w k o' hlt,if_pos rfl,h1],h2⟩
   ·exact ⟨c,by rw [zI w b o' hlt,if_neg e1];exact hc,rfl⟩
  next:=fun i hi=>.inl hi
  ep:=fun i b h _ _ _ _=>.inl h
  cI:=fun i h _ _ _ _=>.inl h
  af:=fun j hj sz af ho=>by
   simp only [bK] at ho
   split at ho
   ·rename_i e1
    subst e1
    cases ho
    cases ob with
    | af mj eR=>obtain ⟨rfl,h2⟩:=hk;exact ⟨eR,cR,h2⟩
    | bf _ _=>exact hk.elim
    | map _=>exact hk.elim
    | dead=>exact hk.elim
    | lp _ _ _ _=>exact hk.elim
   ·exact ⟨af,ho,rfl⟩
  cV:=fun j hj sz len ho=>by
   simp only [bK] at ho
   split at ho
   ·cases ho
    cases ob<;>exact hk.elim
   ·exact ⟨len,ho,uf _⟩
  maps:=fun j hj es ho=>by
   simp only [bK] at ho
   split at ho
   ·rename_i e1
    subst e1
    cases ho
    cases ob with
    | af mj eR=>exact hk.elim
    | bf _ _=>exact hk.elim
    | map tU=>exact ⟨tU,cR⟩
    | dead=>exact hk.elim
    | lp _ _ _ _=>exact hk.elim
   ·exact ⟨es,ho⟩
  fH:=fun j hj ll RR s pe ho=>by
   simp only [bK] at ho
   split at ho
   ·rename_i e1
    subst e1
    cases ho
    cases ob with
    | af mj eR=>exact hk.elim
    | bf _ _=>exact hk.elim
    | map tU=>exact hk.elim
    | dead=>exact hk.elim
    | lp l0 R0 s0 Ay=>obtain ⟨rfl,rfl⟩:=hk;exact ⟨s0,Ay,cR⟩
   ·exact ⟨s,pe,ho⟩}
theorem WM (R:RH C g h N w) {i b:Nat} (hi:g.ρ i=some b) (oZ:aI) (o':Obj) (hnt:∀ sz len,oZ≠.bf sz len)
  (E:b9 g h N w g (bK [(i,oZ)] h) (qo N id) (zE w b o'))
  (ho:dx C g (bK [(i,oZ)] h) (qo N id) (zE w b o') b oZ) :
  RH C g (bK [(i,oZ)] h) (qo N id) (zE w b o'):=by
 have hlt:=(R.lt i b hi).1
 refine ⟨R.inj,fun j k hk => ?_,fun j o hj => ?_,fun j k o hk hj => ?_,fun j sz len hj hn => ?_,fun k hk => ?_,R.fix.eS E⟩
 ·rw [jm];exact ⟨(R.lt j k hk).1,.inl (R.lt j k hk).2⟩
 ·simp only [bK] at hj
  split at hj
  ·rename_i e1;subst e1;exact .inl (R.lt i b hi).2
  ·exact .inl (R.key j o hj)
 ·simp only [bK] at hj
  split at hj
  ·rename_i e1
   subst e1
   cases hj
   rw [hi] at hk
   cases hk
   exact ho
  ·rename_i e1
   have hne:k≠b:=fun e=>e1 (R.inj i j b hi (e ▸ hk))
   exact (R.obj j k o hk hj).keep E (by rw [zI w b o' hlt,if_neg hne]) rfl
 ·simp only [bK] at hj
  split at hj
  ·cases hj;exact absurd rfl (hnt sz len)
  ·exact R.cP j sz len hj hn
 ·rw [jm];exact R.ed k hk
theorem getElem?_putCells (row:List AV) (o:Nat) (cs:List AV) (ho:o+cs.length≤row.length) (j:Nat) :
  (qJ row o cs)[j]?=if o≤j∧j < o+cs.length then cs[j - o]? else row[j]?:=by
 unfold qJ
 rw [List.append_assoc,uD]
 have ht:(row.take o).length=o:=by simp;omega
 rw [ht]
 by_cases h1:j < o
 ·rw [if_pos h1,if_neg (by omega),List.getElem?_take_of_lt h1]
 ·rw [if_neg h1,uD]
  by_cases h2:j - o < cs.length
  ·rw [if_pos h2,if_pos (by omega)]
  ·rw [if_neg h2,if_neg (by omega),ul]
   congr 1;omega
theorem vF (row:List AV) (o:Nat) (cs:List AV) (ho:o+cs.length≤row.length):(qJ row o cs).length=row.length:=by
 unfold qJ;simp;omega
theorem LD (R:RH C g h N w) {i b:Nat} (hi:g.ρ i=some b) {sz:Nat} {af:List (List AV)} (cR:h i=some (.af sz af)) {r o:Nat} {row:List AV} (hr:af[r]?=some row)
  (cs:List AV) (vs:List Value) (hl:cs.length=vs.length) (h1:∀ v∈vs,v.oneCell'=true) (hv:∀ (j:Nat) (c:AV) (v:Value),cs[j]?=some c→vs[j]?=some v→RV C g h N w c v)
  (ho:o+cs.length≤row.length) :
  ∃ w',(storeCells ⟨b,r*sz+o,none⟩ vs 0).run C.P w=.ok () w' ∧
   Good C g h N w id .undef [(i,.af sz (af.set r (qJ row o cs)))] undef w':=by
 obtain ⟨hz,c,e,hc,hlen,hcells⟩:=R.obj i b _ hi cR
 have hrow:=hlen r row hr
 have AA:r < af.length:=(ua.1 hr).1
 have hsize:r*sz+o+vs.length≤c.size:=by
  rcases un vs.length with h0 | h0
  ·rcases un row.length with h2 | h2
   ·have:sz=0:=by omega
    subst this
    simp;omega
   ·obtain ⟨cv,h3,_⟩:=hcells r row (row.length - 1) (row[row.length - 1]'(by omega)) hr (by simp)
    have:=(uc.1 h3).1
    omega
  ·obtain ⟨cv,h3,_⟩:=hcells r row (o+vs.length - 1) (row[o+vs.length - 1]'(by omega)) hr (by simp)
   have:=(uc.1 h3).1
   omega
 refine ⟨_,vY vs w b (r*sz+o) 0 c e hc h1 (by omega),g,?_⟩
 have E:b9 g h N w g (bK [(i,.af sz (af.set r (qJ row o cs)))] h) (qo N id) (zE w b (.cells (qw c (r*sz+o+0) vs) e (0,0))):=
  Xv R hi hz (.af sz af) _ cR _ ⟨rfl,by simp⟩ fun c' e' iA=>by
   rw [hc] at iA
   cases iA
   exact ⟨_,rfl,jW _ _ _⟩
 refine ⟨E,WM R hi _ _ (fun _ _=>by simp) E ?_,.undef⟩
 refine ⟨hz,qw c (r*sz+o+0) vs,e,by rw [zI w b _ (qd hc)];simp,fun k row' hk => ?_,fun k row' j x hk hj => ?_⟩
 ·rw [ur] at hk
  split at hk
  ·cases hk;rw [vF row o cs ho];exact hrow
  ·exact hlen k row' hk
 ·rw [xT c _ vs (by omega)]
  rw [ur] at hk
  split at hk
  ·rename_i tW
   subst tW
   cases hk
   rw [getElem?_putCells row o cs ho] at hj
   have mB:j < sz:=by
    rw [←hrow,←vF row o cs ho]
    rw [←getElem?_putCells row o cs ho] at hj
    exact (ua.1 hj).1
   split at hj
   ·rename_i AB
    rw [if_pos (by omega)]
    have hlt:j - o < vs.length:=by omega
    refine ⟨vs[j - o],by rw [show r*sz+j - (r*sz+o+0)=j - o by omega];simp,h1 _ (uA hlt),?_⟩
    exact (hv (j - o) x _ hj (by simp)).mono E
   ·rename_i AB
    rw [if_neg (by omega)]
    obtain ⟨cv,h3,h4,h5⟩:=hcells r row j x hr hj
    exact ⟨cv,h3,h4,h5.mono E⟩
  ·rename_i tW
   obtain ⟨cv,h3,h4,h5⟩:=hcells k row' j x hk hj
   have hj':j < sz:=by rw [←hlen k row' hk];exact (ua.1 hj).1
   rw [if_neg ?_]
   ·exact ⟨cv,h3,h4,h5.mono E⟩
   ·intro ⟨h6,h7⟩
    rcases uI k r with hlt | hge
    ·have:(k+1)*sz≤r*sz:=ue sz hlt
     rw [uk] at this
     omega
    ·have hlt:r+1≤k:=by omega
     have:(r+1)*sz≤k*sz:=ue sz hlt
     rw [uk] at this
     omega
theorem Jm (R:RH C g h N w) {i b:Nat} (hi:g.ρ i=some b) {sz:Nat} {af new:List (List AV)} (cR:h i=some (.af sz af)) (hl:new.length=af.length) (hsz:∀ row∈new,row.length=sz)
  (news:List Value) (hn:news.length=new.length*sz) (h1:∀ u∈news,u.oneCell'=true)
  (hr:∀ (i:Nat) (row:List AV) (j:Nat) (c:AV),new[i]?=some row→row[j]?=some c→∃ u,news[i*sz+j]?=some u∧RV C g h N w c u) (r:AV) (v:Value) (hv:∀ g' h' N' w',RV C g' h' N' w' r v) :
  ∃ w',(storeCells ⟨b,0,none⟩ news 0).run C.P w=.ok () w'∧Good C g h N w id r [(i,.af sz new)] v w':=by
 obtain ⟨hz,c,e,hc,hlen,hcells⟩:=R.obj i b _ hi cR
 have hsize:news.length≤c.size:=by
  rcases un news.length with h0 | h0
  ·omega
  ·have hs:0 < sz:=uG fun e=>by rw [e,Nat.mul_zero] at hn;omega
   have hrl:0 < af.length:=uG fun e=>by rw [hl,e,Nat.zero_mul] at hn;omega
   have hrow:af[af.length - 1]?=some (af[af.length - 1]'(by omega)):=by simp
   have fY:=hlen _ _ hrow
   obtain ⟨cv,h3,_⟩:=hcells (af.length - 1) _ (sz - 1) ((af[af.length - 1]'(by omega))[sz - 1]'(by omega)) hrow (by simp)
   have hlt:=(uc.1 h3).1
   have:(af.length - 1)*sz+sz=af.length*sz:=by
    rw [←Nat.succ_mul];congr 1;omega
   rw [hn,hl]
   omega
 refine ⟨_,vY news w b 0 0 c e hc h1 (by omega),g,?_⟩
 have E:b9 g h N w g (bK [(i,.af sz new)] h) (qo N id) (zE w b (.cells (qw c (0+0) news) e (0,0))):=
  Xv R hi hz (.af sz af) _ cR _ ⟨rfl,hl.symm⟩ fun c' e' iA=>by
   rw [hc] at iA
   cases iA
   exact ⟨_,rfl,jW _ _ _⟩
 refine ⟨E,WM R hi _ _ (fun _ _=>by simp) E ?_,hv _ _ _ _⟩
 refine ⟨hz,qw c (0+0) news,e,by rw [zI w b _ (qd hc)];simp,fun k row' hk=>hsz row' (ui hk),fun k row' j x hk hj => ?_⟩
 obtain ⟨u,h3,h4⟩:=hr k row' j x hk hj
 have hlt:=(ua.1 h3).1
 refine ⟨u,?_,h1 u (ui h3),h4.mono E⟩
 rw [xT c _ news (by omega),if_pos (by omega)]
 simpa using h3
end
end
end Go.Proofs.YtcmmhbmgpflmeaaGreatDoor
namespace Go.Proofs.YtcmmhbmgpflmeaaGreatDoor
open Go.RowKit
set_option linter.unusedSimpArgs false
set_option linter.unusedVariables false
section
def pG (P:Program) (s:Sem Next) (w:World) (v:Value) (w':World):Prop:=
 s.run P w=.ok (.value v) w'∨(s.run P w=.ok .skip w'∧v=undef)
section
variable {C:Ctx} {g g':Gh} {h h':Nat→Option aI} {N N':Nat→Prop} {w w':World} {id:Nat}
theorem wE {k:IntKind} {n:Int} {v:Value} (hv:RV C g h N w (.ak (.int k n)) v):v=.int k n:=by
 cases hv with | ak _ _ hr=>cases hr;rfl
theorem vg {b:Bool} {v:Value} (hv:RV C g h N w (.ak (.bool b)) v):v=.bool b:=by
 cases hv with | ak _ _ hr=>cases hr;rfl
theorem LF {s:ByteArray} {v:Value} (hv:RV C g h N w (.ak (.str s)) v):v=.string s:=by
 cases hv with | ak _ _ hr=>cases hr;rfl
theorem xP {v:Value} (hv:RV C g h N w .nil v):v=.slice none 0 0:=by
 cases hv;rfl
theorem wV (v:Value):RV C g h N w (xS v) v:=by
 unfold xS
 split
 ·exact .ak _ _ (.bool _)
 ·exact .ak _ _ (.int _ _)
 ·exact .ak _ _ (.str _)
 ·exact .nil
 ·exact .ak _ _ .dl
 ·exact .top _
def aP (C:Ctx) (o:Oper) (ao:dc):Prop:=
 ∀ (g:Gh) (h:Nat→Option aI) (N:Nat→Prop) (w:World) (id:Nat) (ev:bD→AV) (val:Operand→Value) (r:AV) (aQ:List (Nat×aI)),
  RH C g h N w→¬ N id→(∀ x∈o.op.operands,RV C g h N w (ev (C.bt x)) (val x))→ap ao ev h id=some (r,aQ) →
  ∃ v w',pG C.P (execOp val o) w v w'∧Good C g h N w id r aQ v w'
theorem YR {o:Oper} {x:Operand} (ho:o.op=.move x∨o.op=.assign x):aP C o (.fP (C.bt x)):=by
 intro g h N w id ev val r aQ R hid hv he
 simp only [ap,Option.some.injEq,Prod.mk.injEq] at he
 obtain ⟨rfl,rfl⟩:=he
 have hx:RV C g h N w (ev (C.bt x)) (val x):=hv x (by rcases ho with ho | ho<;>simp [ho,Op.operands])
 exact ⟨val x,w,.inl (by rcases ho with ho | ho<;>simp [execOp,ho]),zz R hx⟩
theorem LG {o:Oper} {c a b:Operand} (ho:o.op=.pick c a b):aP C o (.pick (C.bt c) (C.bt a) (C.bt b)):=by
 intro g h N w id ev val r aQ R hid hv he
 have hc:=hv c (by simp [ho,Op.operands])
 simp only [ap] at he
 split at he
 ·rename_i e1
  rw [e1] at hc
  have:=vg hc
  simp only [Option.some.injEq,Prod.mk.injEq] at he
  obtain ⟨rfl,rfl⟩:=he
  exact ⟨val a,w,.inl (by simp [execOp,ho,asBool,this]),zz R (hv a (by simp [ho,Op.operands]))⟩
 ·rename_i e1
  rw [e1] at hc
  have:=vg hc
  simp only [Option.some.injEq,Prod.mk.injEq] at he
  obtain ⟨rfl,rfl⟩:=he
  exact ⟨val b,w,.inl (by simp [execOp,ho,asBool,this]),zz R (hv b (by simp [ho,Op.operands]))⟩
 ·cases he
theorem jX {P:Program} {t:TypeId} {z:List AV} (hz:qL P t=some z):∃ i v,P.info? t=some i∧i.zero=some v∧z=v.cells.toList.map xS:=by
 unfold qL at hz
 split at hz
 ·rename_i i hi
  split at hz
  ·rename_i v hv
   split at hz
   ·cases hz
    exact ⟨i,v,hi,hv,rfl⟩
   ·cases hz
  ·cases hz
 ·cases hz
theorem xU {P:Program} {t:TypeId} {z:List AV} (hz:qL P t=some z):∀ i v,P.info? t=some i→i.zero=some v→xm v=true:=by
 intro i v hi hv
 unfold qL at hz
 simp only [hi,hv] at hz
 split at hz
 ·assumption
 ·cases hz
theorem Jn (sz:Nat):∀ (n:Nat) (l:List AV),(wO sz n l).length=n
 | 0,l=>rfl
 | n+1,l=>by simp [wO,Jn sz n]
theorem yQ (sz:Nat):∀ (n:Nat) (l:List AV) (i:Nat) (row:List AV),l.length=n*sz→(wO sz n l)[i]?=some row →
  row.length=sz∧∀ j x,row[j]?=some x→l[i*sz+j]?=some x
 | 0,l,i,row,hl,hi=>by simp [wO] at hi
 | n+1,l,0,row,hl,hi=>by
  simp [wO] at hi
  subst hi
  rw [uk] at hl
  refine ⟨by simp;omega,fun j x hj => ?_⟩
  rw [ux] at hj
  split at hj
  ·simpa using hj
  ·cases hj
 | n+1,l,i+1,row,hl,hi=>by
  simp [wO] at hi
  rw [uk] at hl
  obtain ⟨h1,h2⟩:=yQ sz n (l.drop sz) i row (by simp;omega) hi
  refine ⟨h1,fun j x hj => ?_⟩
  have:=h2 j x hj
  rw [ul] at this
  rw [←this]
  congr 1
  rw [uk]
  omega
theorem kx {o:Oper} {t e:TypeId} {n sz:Nat} {z:List AV} (ho:o.op=.alloc t) (hz:qL C.P t=some z) (hl:z.length=n*sz)
  (h1:∀ i v,C.P.info? t=some i→i.zero=some v→xm v=true):aP C o (.alloc sz (wO sz n z)):=by
 intro g h N w id ev val r aQ R hid hv he
 simp only [ap,Option.some.injEq,Prod.mk.injEq] at he
 obtain ⟨rfl,rfl⟩:=he
 obtain ⟨i,v,hi,iX,rfl⟩:=jX hz
 have hone:=h1 i v hi iX
 refine ⟨.pointer (some ⟨w.heap.size,0,none⟩),w.alloc (.cells v.cells t (0,0)),.inl ?_,?_⟩
 ·simp [execOp,ho,Instr.alloc,zeroValue,typeInfo,hi,iX,newVar,newRow]
 ·refine Zr R hid _ _ _ _ (fun i row hr=>(yQ sz n _ i row hl hr).1) (fun i row j x hr hj => ?_) (WK id _ _ _ _)
  have hx:=(yQ sz n _ i row hl hr).2 j x hj
  rw [uj,ub] at hx
  obtain ⟨u,hu,rfl⟩:=hx
  refine ⟨u,by simpa using hu,?_,wV u⟩
  exact ut.1 hone u (ui hu)
theorem LH {o:Oper} {t:TypeId} {z:List AV} (ho:o.op=.alloc t) (hz:qL C.P t=some z)
  (h1:∀ i v,C.P.info? t=some i→i.zero=some v→xm v=true):aP C o (.alloc z.length [z]):=by
 have:=kx (C:=C) (o:=o) (t:=t) (e:=0) (n:=1) (sz:=z.length) ho hz (by simp) h1
 simpa [wO] using this
theorem LI {o:Oper} {t:TypeId} {x:Operand} {sz:Nat} (ho:o.op=.box t x):aP C o (.box sz (C.bt x)):=by
 intro g h N w id ev val r aQ R hid hv he
 have hx:=hv x (by simp [ho,Op.operands])
 simp only [ap] at he
 split at he
 ·rename_i cs hcs
  split at he
  ·rename_i hlen
   simp only [Option.some.injEq,Prod.mk.injEq] at he
   obtain ⟨rfl,rfl⟩:=he
   obtain ⟨h1,h2⟩:=yP hcs hx
   refine ⟨.pointer (some ⟨w.heap.size,0,none⟩),w.alloc (.cells (val x).cells t (0,0)),.inl ?_,?_⟩
   ·simp [execOp,ho,Instr.box,newVar,newRow]
   ·refine Zr R hid _ _ _ _ (fun i row hr => ?_) (fun i row j y hr hj => ?_) (WK id _ _ _ _)
    ·cases i with
     | zero=>simp at hr;subst hr;exact hlen
     | succ i=>simp at hr
    ·cases i with
     | zero=>simp at hr;subst hr;obtain ⟨u,hu,h3,h4⟩:=h2 j y hj;exact ⟨u,by simpa using hu,h3,h4⟩
     | succ i=>simp at hr
  ·cases he
 ·cases he
theorem wb {P:Program} {t:TypeId} {b:Bool} (hb:jH P t=some b) (w:World):(isAgg t).run P w=.ok b w:=by
 unfold jH at hb
 split at hb<;>(cases hb)<;>(rename_i hu;simp [isAgg,run_underlying hu])
theorem zU {P:Program} {t:TypeId} {n:Nat} (hn:zB P t=some n) (w:World):(sizeOf t).run P w=.ok n w:=by
 unfold zB at hn
 rw [ub] at hn
 obtain ⟨i,hi,rfl⟩:=hn
 simp [sizeOf,typeInfo,hi]
theorem qW (b o n:Nat):(⟨b,o,none⟩:Addr).add n=⟨b,o+n,none⟩:=by
 unfold Addr.add
 split
 ·rename_i h0;subst h0;rfl
 ·rfl
theorem Zs {P:Program} {t:TypeId} {n:Nat} (hb:jH P t=some true) (hn:zB P t=some n) (w:World) (b o:Nat) (vs:List Value) (hl:vs.length=n)
  (hc:∀ j v,vs[j]?=some v→w.cell? ⟨b,o+j,none⟩=some v):(loadVar t ⟨b,o,none⟩).run P w=.ok (.agg vs.toArray) w:=by
 subst hl
 have:=run_loadCells_list (P:=P) w ⟨b,o,none⟩ vs (fun j v hj=>by rw [qW];exact hc j v hj)
 simp [loadVar,wb hb,zU hn,this]
theorem Zt {P:Program} {t:TypeId} (hb:jH P t=some false) (w:World) (b o:Nat) (v:Value)
  (hc:w.cell? ⟨b,o,none⟩=some v):(loadVar t ⟨b,o,none⟩).run P w=.ok v w:=by
 simp [loadVar,wb hb,hc]
theorem yC {α β:Type} (l:List α) (R:Nat→α→β→Prop) (h:∀ j a,l[j]?=some a→∃ b,R j a b) :
  ∃ bs:List β,bs.length=l.length∧∀ j a b,l[j]?=some a→bs[j]?=some b→R j a b:=by
 induction l generalizing R with
 | nil=>exact ⟨[],rfl,fun j a b hj=>by simp at hj⟩
 | cons a l ih=>
  obtain ⟨b,hb⟩:=h 0 a rfl
  obtain ⟨bs,h1,h2⟩:=ih (fun j a b=>R (j+1) a b) (fun j a hj=>h (j+1) a (by simpa using hj))
  refine ⟨b::bs,by simp [h1],fun j a' b' hj hj' => ?_⟩
  cases j with
  | zero=>simp at hj hj';subst hj;subst hj';exact hb
  | succ j=>exact h2 j a' b' (by simpa using hj) (by simpa using hj')
theorem YS {t:TypeId} {ag:Bool} {n:Nat} (hag:jH C.P t=some ag) (hn:zB C.P t=some n) (R:RH C g h N w) {ev:bD→AV} {x:bD} {vx:Value} (hx:RV C g h N w (ev x) vx) {id:Nat} {r:AV} {aQ:List (Nat×aI)}
  (he:ap (.load ag n x) ev h id=some (r,aQ)):∃ v,(Instr.loadAt t vx).run C.P w=.ok v w∧aQ=[]∧RV C g h N w r v:=by
 simp only [ap] at he
 split at he
 ·rename_i i rr oo e1
  rw [e1] at hx
  split at he
  ·rename_i sz af cR
   split at he
   ·rename_i row hrow
    cases hx with
    | ptr _ _ _ v hni hone hp=>
     obtain ⟨b,hb,hval⟩:=hp sz af cR
     obtain ⟨hz,c,e,hc,hlen,hcells⟩:=R.obj i b _ hb cR
     cases ag with
     | true=>
      simp only [if_true] at he
      split at he
      ·rename_i hle
       simp only [Option.some.injEq,Prod.mk.injEq] at he
       obtain ⟨rfl,rfl⟩:=he
       obtain ⟨vs,h1,h2⟩:=yC ((row.drop oo).take n) (fun j a cv=>c[rr*sz+(oo+j)]?=some cv∧cv.oneCell'=true∧RV C g h N w a cv)
        (fun j a hj=>by
         rw [ux] at hj
         split at hj
         ·rw [ul] at hj
          exact hcells rr row (oo+j) a hrow hj
         ·cases hj)
       have hl:((row.drop oo).take n).length=n:=by simp;omega
       have dI:∀ j v,vs[j]?=some v→∃ a,((row.drop oo).take n)[j]?=some a:=fun j v hj=>by
        have:j < ((row.drop oo).take n).length:=by rw [←h1];exact (ua.1 hj).1
        exact ⟨_,List.getElem?_eq_getElem this⟩
       refine ⟨.agg vs.toArray,?_,rfl,?_⟩
       ·have:=Zs (P:=C.P) hag hn w b (rr*sz+oo) vs (by omega) (fun j v hj=>by
         obtain ⟨a,ha⟩:=dI j v hj
         rw [qS hc,←(h2 j a v ha hj).1]
         congr 1;omega)
        simp [Instr.loadAt,hval,Instr.sureAddr,this]
       ·refine .agg _ vs h1.symm (fun v hv => ?_) (fun j a v hj hj'=>(h2 j a v hj hj').2.2)
        obtain ⟨j,hj⟩:=um hv
        obtain ⟨a,ha⟩:=dI j v hj
        exact (h2 j a v ha hj).2.1
      ·cases he
     | false=>
      simp only [uw,if_false,ub,Prod.mk.injEq] at he
      obtain ⟨a,ha,rfl,rfl⟩:=he
      obtain ⟨cv,h3,h4,h5⟩:=hcells rr row oo a hrow ha
      refine ⟨cv,?_,rfl,h5⟩
      have:=Zt (P:=C.P) hag w b (rr*sz+oo) cv (by rw [qS hc];exact h3)
      simp [Instr.loadAt,hval,Instr.sureAddr,this]
   ·cases he
  ·cases he
 ·rename_i cells e1
  rw [e1] at hx
  generalize hval:vx=vy at hx
  cases hx with
  | cD _ b off cv hz hc hr=>
   cases ag with
   | true=>
    simp only [if_true] at he
    split at he
    ·rename_i hle
     simp only [Option.some.injEq,Prod.mk.injEq] at he
     obtain ⟨rfl,rfl⟩:=he
     refine ⟨.agg ((uN n).map cv).toArray,?_,rfl,.ak _ _ (.agg _ _ (by simp;omega) (fun v hv => ?_) (fun j a v hj hj' => ?_))⟩
     ·have:=Zs (P:=C.P) hag hn w b off ((uN n).map cv) (by simp) (fun j v hj=>by
       simp only [uj,ub] at hj
       obtain ⟨k,hk,rfl⟩:=hj
       obtain ⟨hk1,hk2⟩:=ua.1 hk
       simp at hk1 hk2
       subst hk2
       exact (hc j (cells[j]'(by omega)) (by simp)).1)
      simp [Instr.loadAt,hval,Instr.sureAddr,this]
     ·simp only [List.mem_map,List.mem_range] at hv
      obtain ⟨j,hj,rfl⟩:=hv
      exact (hc j (cells[j]'(by omega)) (by simp)).2
     ·simp only [uj,ub] at hj'
      obtain ⟨k,hk,rfl⟩:=hj'
      obtain ⟨hk1,hk2⟩:=ua.1 hk
      simp at hk1 hk2
      subst hk2
      rw [ux,if_pos hk1] at hj
      exact hr j a hj
    ·cases he
   | false=>
    simp only [uw,if_false,ub,Prod.mk.injEq] at he
    obtain ⟨a,ha,rfl,rfl⟩:=he
    refine ⟨cv 0,?_,rfl,.ak _ _ (hr 0 a ha)⟩
    have:=Zt (P:=C.P) hag w b off (cv 0) (by have:=(hc 0 a ha).1;simpa using this)
    simp [Instr.loadAt,hval,Instr.sureAddr,this]
 ·cases he
theorem LJ {o:Oper} {t:TypeId} {x:Operand} {ag:Bool} {n:Nat} (ho:o.op=.load t x) (hag:jH C.P t=some ag) (hn:zB C.P t=some n):aP C o (.load ag n (C.bt x)):=by
 intro g h N w id ev val r aQ R hid hv he
 obtain ⟨v,h1,rfl,h2⟩:=YS hag hn R (hv x (by simp [ho,Op.operands])) he
 exact ⟨v,w,.inl (by simp [execOp,ho,h1]),zz R h2⟩
end
end
section
section
variable {C:Ctx} {g g':Gh} {h h':Nat→Option aI} {N N':Nat→Prop} {w w':World} {id:Nat}
theorem LK {o:Oper} {t:TypeId} {x v:Operand} {n:Nat} (ho:o.op=.store t x v) (hn:zB C.P t=some n):aP C o (.store n (C.bt x) (C.bt v)):=by
 intro g h N w id ev val r aQ R hid hv he
 have hx:=hv x (by simp [ho,Op.operands])
 have hy:=hv v (by simp [ho,Op.operands])
 simp only [ap] at he
 split at he
 ·rename_i i rr oo cs e1 e2
  rw [e1] at hx
  split at he
  ·rename_i sz af cR
   split at he
   ·rename_i row hrow
    split at he
    ·rename_i hle
     simp only [Option.some.injEq,Prod.mk.injEq] at he
     obtain ⟨rfl,rfl⟩:=he
     obtain ⟨h1,h2⟩:=yP e2 hy
     cases hx with
     | ptr _ _ _ _ hni hone hp=>
      obtain ⟨b,hb,hval⟩:=hp sz af cR
      have hmem:∀ u∈(val v).cells.toList,u.oneCell'=true:=fun u hu=>by
       obtain ⟨j,hj⟩:=um hu
       have hlt:j < cs.length:=by rw [h1];simpa using (ua.1 hj).1
       obtain ⟨u',o3,h3,_⟩:=h2 j cs[j] (by simp)
       simp only [ug] at hj
       rw [hj] at o3
       cases o3
       exact h3
      obtain ⟨w',hr,hg⟩:=LD (id:=id) R hb cR hrow (o:=oo) cs (val v).cells.toList (by simpa using h1) hmem
       (fun j c u hj hj'=>by
        obtain ⟨u',o3,_,h4⟩:=h2 j c hj
        simp only [ug] at hj'
        rw [hj'] at o3
        cases o3
        exact h4) (by omega)
      refine ⟨undef,w',.inr ⟨?_,rfl⟩,hg⟩
      have hsz:(val v).cells.size=n:=by omega
      simp [execOp,ho,Instr.storeAt,hval,Instr.sureAddr,storeVar,zU hn,hsz,hr]
    ·split at he
     ·rename_i hle
      obtain ⟨iE,fY,fZ,LL⟩:=hle
      simp only [Option.some.injEq,Prod.mk.injEq] at he
      obtain ⟨rfl,rfl⟩:=he
      obtain ⟨h1,h2⟩:=yP e2 hy
      subst fZ LL
      cases hx with
      | ptr _ _ _ _ hni hone hp=>
       obtain ⟨b,hb,hval⟩:=hp sz af cR
       have hmem:∀ u∈(val v).cells.toList,u.oneCell'=true:=fun u hu=>by
        obtain ⟨j,hj⟩:=um hu
        have hlt:j < cs.length:=by rw [h1];simpa using (ua.1 hj).1
        obtain ⟨u',o3,h3,_⟩:=h2 j cs[j] (by simp)
        simp only [ug] at hj
        rw [hj] at o3
        cases o3
        exact h3
       have dY:cs.length=af.length*sz:=by omega
       have tX:(wO sz af.length cs).length=af.length:=Jn _ _ _
       obtain ⟨w',hr,hg⟩:=Jm (id:=id) R hb cR tX (fun row hrow=>by
         obtain ⟨k,hk⟩:=um hrow
         exact (yQ sz af.length cs k row dY hk).1)
        (val v).cells.toList (by rw [tX];simpa using (h1.symm.trans dY)) hmem
        (fun k row j c hk hj=>by
         obtain ⟨h3,h4⟩:=yQ sz af.length cs k row dY hk
         obtain ⟨u,hu,_,h5⟩:=h2 (k*sz+j) c (h4 j c hj)
         exact ⟨u,by simpa using hu,h5⟩) .undef undef (fun _ _ _ _=>.undef)
       refine ⟨undef,w',.inr ⟨?_,rfl⟩,hg⟩
       have hsz:(val v).cells.size=n:=by omega
       simp [execOp,ho,Instr.storeAt,hval,Instr.sureAddr,storeVar,zU hn,hsz,hr]
     ·cases he
   ·cases he
  ·cases he
 ·cases he
theorem LM {o:Oper} {s:TypeId} {x:Operand} {f n:Nat} {fs:Array Field} {fd:Field} (ho:o.op=.fieldAddr s x f) (hs:C.P.underlying s=some (.struct fs)) (hf:fs[f]?=some fd)
  (hn:zB C.P fd.type=some n) (hn0:n≠0):aP C o (.iW fd.offset (C.bt x)):=by
 intro g h N w id ev val r aQ R hid hv he
 have hx:=hv x (by simp [ho,Op.operands])
 simp only [ap] at he
 split at he
 ·rename_i i rr oo e1
  rw [e1] at hx
  split at he
  ·rename_i sz af cR
   simp only [Option.some.injEq,Prod.mk.injEq] at he
   obtain ⟨rfl,rfl⟩:=he
   cases hx with
   | ptr _ _ _ _ hni hone hp=>
    obtain ⟨b,hb,hval⟩:=hp sz af cR
    refine ⟨.pointer (some ⟨b,rr*sz+oo+fd.offset,none⟩),w,.inl ?_,zz R ?_⟩
    ·simp [execOp,ho,Instr.fieldAt,run_underlying hs,hf,hval,Instr.sureAddr,fieldPlace,zU hn,hn0,qW]
    ·refine .ptr i rr _ _ hni rfl fun sz' ef AD => ?_
     rw [cR] at AD
     cases AD
     exact ⟨b,hb,by rw [uM]⟩
  ·cases he
 ·rename_i cells e1
  rw [e1] at hx
  simp only [Option.some.injEq,Prod.mk.injEq] at he
  obtain ⟨rfl,rfl⟩:=he
  generalize hval:val x=vx at hx
  cases hx with
  | cD _ b off cv hz hc hr=>
   refine ⟨.pointer (some ⟨b,off+fd.offset,none⟩),w,.inl ?_,zz R ?_⟩
   ·simp [execOp,ho,Instr.fieldAt,run_underlying hs,hf,hval,Instr.sureAddr,fieldPlace,zU hn,hn0,qW]
   ·refine .cD _ b _ (fun j=>cv (fd.offset+j)) (fun j c hj => ?_) (fun j c hj => ?_) (fun j c hj => ?_)
    ·rw [ul] at hj
     have:=hz _ c hj;omega
    ·rw [ul] at hj
     have:=hc _ c hj;rw [uM];exact this
    ·rw [ul] at hj
     exact hr _ c hj
 ·cases he
theorem Qr {af:List (List IV)} {v:Value} (hv:RI g.Z w (.slice af) v) :
  (af=[]∧(v=.slice none 0 0∨∃ a cap,v=.slice (some a) 0 cap))∨∃ (b off cap sz:Nat) (cv:Nat→Nat→Value),v=.slice (some ⟨b,off,none⟩) af.length cap∧af.length≤cap ∧
   (∀ (i:Nat) (row:List IV),af[i]?=some row→row.length=sz) ∧
   (∀ (i:Nat) (row:List IV) (j:Nat) (c:IV),af[i]?=some row→row[j]?=some c→off+i*sz+j < g.Z b) ∧
   (∀ (i:Nat) (row:List IV) (j:Nat) (c:IV),af[i]?=some row→row[j]?=some c→w.cell? ⟨b,off+i*sz+j,none⟩=some (cv i j)∧(cv i j).oneCell'=true) ∧
   (∀ (i:Nat) (row:List IV) (j:Nat) (c:IV),af[i]?=some row→row[j]?=some c→RI g.Z w c (cv i j)):=by
 cases hv with
 | nil=>exact .inl ⟨rfl,.inl rfl⟩
 | empty a cap=>exact .inl ⟨rfl,.inr ⟨a,cap,rfl⟩⟩
 | slice _ b off cap sz cv hcap hsz hz hc hr=>exact .inr ⟨b,off,cap,sz,cv,rfl,hcap,hsz,hz,hc,hr⟩
theorem LN {o:Oper} {t e:TypeId} {x ix:Operand} {sz:Nat} (ho:o.op=.indexAddr t x ix) (ht:C.P.underlying t=some (.slice e)) (hn:zB C.P e=some sz):aP C o (.idx sz (C.bt x) (C.bt ix)):=by
 intro g h N w id ev val r aQ R hid hv he
 have hx:=hv x (by simp [ho,Op.operands])
 have hi:=hv ix (by simp [ho,Op.operands])
 simp only [ap] at he
 split at he
 case h_2=>cases he
 rename_i k n e1
 rw [e1] at hi
 have iP:=wE hi
 have ak:∀ (af:List (List IV)),RI g.Z w (.slice af) (val x)→(if 0≤n then match af[n.toNat]? with
     | some row=>if row.length=sz then some (AV.cD row,([]:List (Nat×aI))) else none
     | none=>none
    else none)=some (r,aQ) →
   ∃ v w',pG C.P (execOp val o) w v w'∧Good C g h N w id r aQ v w':=fun af gT he=>by
  split at he
  ·rename_i gV
   split at he
   ·rename_i row hrow
    split at he
    ·rename_i hlen
     simp only [Option.some.injEq,Prod.mk.injEq] at he
     obtain ⟨rfl,rfl⟩:=he
     have hlt:=(ua.1 hrow).1
     have fQ:n < af.length:=by omega
     rcases Qr gT with ⟨rfl,_⟩ | ⟨b,off,cap,sz',cv,hval,hcap,hsz,sk,hc,hr⟩
     ·simp at hlt
     ·have CY:sz'=sz:=(hsz _ _ hrow).symm.trans hlen
      subst CY
      refine ⟨.pointer (some ⟨b,off+n.toNat*sz',none⟩),w,.inl ?_,zz R ?_⟩
      ·simp [execOp,ho,Instr.indexAt,iP,asIntOf,run_underlying ht,hval,zU hn,qW,gV,fQ]
      ·exact .cD _ b _ (cv n.toNat) (fun j c hj=>sk _ _ j c hrow hj) (fun j c hj=>hc _ _ j c hrow hj) (fun j c hj=>hr _ _ j c hrow hj)
    ·cases he
   ·cases he
  ·cases he
 split at he
 ·rename_i af e2
  rw [e2] at hx
  cases hx with
  | ak _ _ gT=>exact ak af gT he
 ·rename_i j af e2
  rw [e2] at hx
  cases hx with
  | aX _ _ _ gT hni htip=>exact ak af gT he
 ·rename_i j off len e2
  rw [e2] at hx
  split at he
  ·rename_i sz' af cR
   split at he
   ·rename_i hle
    obtain ⟨rfl,gV,fQ⟩:=hle
    simp only [Option.some.injEq,Prod.mk.injEq] at he
    obtain ⟨rfl,rfl⟩:=he
    cases hx with
    | Zag _ _ _ _ hni hone hp=>
     obtain ⟨h1,h2⟩:=hp _ _ cR
     rcases h2 with ⟨hno,hrows,hval⟩ | ⟨b,cap,c,e',hb,hval,hle,hw,hcap⟩
     ·subst hrows;simp at h1;omega
     ·refine ⟨.pointer (some ⟨b,off*sz'+n.toNat*sz',none⟩),w,.inl ?_,zz R ?_⟩
      ·simp [execOp,ho,Instr.indexAt,iP,asIntOf,run_underlying ht,hval,zU hn,qW,gV,fQ]
      ·refine .ptr j _ _ _ hni rfl fun sj AE oa => ?_
       rw [cR] at oa
       cases oa
       exact ⟨b,hb,by rw [uk];rfl⟩
   ·cases he
  ·cases he
 ·cases he
theorem LO {o:Oper} {t e:TypeId} {x ix:Operand} {sz n:Nat} (ho:o.op=.indexAddr t x ix) (ht:C.P.underlying t=some (.array n e)) (hn:zB C.P e=some sz) :
  aP C o (.idxa n sz (C.bt x) (C.bt ix)):=by
 intro g h N w id ev val r aQ R hid hv he
 have hx:=hv x (by simp [ho,Op.operands])
 have hi:=hv ix (by simp [ho,Op.operands])
 simp only [ap] at he
 split at he
 ·rename_i k m j e1 e2
  rw [e1] at hi
  rw [e2] at hx
  have iP:=wE hi
  split at he
  ·rename_i sz' af cR
   split at he
   ·rename_i hle
    obtain ⟨rfl,gV,fQ⟩:=hle
    simp only [Option.some.injEq,Prod.mk.injEq] at he
    obtain ⟨rfl,rfl⟩:=he
    cases hx with
    | ptr _ _ _ _ hni hone hp=>
     obtain ⟨b,hb,hval⟩:=hp _ _ cR
     refine ⟨.pointer (some ⟨b,m.toNat*sz',none⟩),w,.inl ?_,zz R ?_⟩
     ·simp [execOp,ho,Instr.indexAt,iP,asIntOf,run_underlying ht,hval,Instr.sureAddr,zU hn,qW,gV,fQ]
     ·refine .ptr j _ _ _ hni rfl fun sj AE oa => ?_
      rw [cR] at oa
      cases oa
      exact ⟨b,hb,rfl⟩
   ·cases he
  ·cases he
 ·cases he
end
end
section
section
variable {C:Ctx} {g g':Gh} {h h':Nat→Option aI} {N N':Nat→Prop} {w w':World} {id:Nat}
theorem LP {P:Program} (w:World) (op:BinOp) (t:TypeId) (x y:Operand) {a b r:IV} {va vb:Value} (ha:RI g.Z w a va) (hb:RI g.Z w b vb) (hr:yz op a b=some r) :
  ∃ v,(eqGuard op t x y va vb).run P w=.ok () w∧(binOp op t va vb).run P w=.ok v w∧RI g.Z w r v:=by
 cases ha with
 | int k a=>
  cases hb with
  | int k' b=>
   by_cases hk:k=k'
   ·subst hk
    cases op<;>simp [yz] at hr
    case add=>subst hr;exact ⟨_,by simp [eqGuard],by simp [binOp,Op.intArith],.int _ _⟩
    case sub=>subst hr;exact ⟨_,by simp [eqGuard],by simp [binOp,Op.intArith],.int _ _⟩
    case mul=>subst hr;exact ⟨_,by simp [eqGuard],by simp [binOp,Op.intArith],.int _ _⟩
    case quo=>obtain ⟨h0,rfl⟩:=hr;exact ⟨_,by simp [eqGuard],by simp [binOp,Op.intDiv,h0],.int _ _⟩
    case rem=>obtain ⟨h0,rfl⟩:=hr;exact ⟨_,by simp [eqGuard],by simp [binOp,Op.intDiv,h0],.int _ _⟩
    case and=>
     refine ⟨.int k (k.wrap ((BitVec.ofInt k.bits a &&& BitVec.ofInt k.bits b).toNat)),by simp [eqGuard],?_,?_⟩
     ·unfold binOp;simp only [ne_eq,not_true_eq_false,if_false,Op.intBits];rfl
     ·subst hr;simpa using RI.int (Z:=g.Z) (w:=w) k _
    case shl=>obtain ⟨h0,rfl⟩:=hr;exact ⟨_,by simp [eqGuard],by simp [binOp,Op.shift,show ¬ b < 0 by omega],.int _ _⟩
    case shr=>obtain ⟨h0,rfl⟩:=hr;exact ⟨_,by simp [eqGuard],by simp [binOp,Op.shift,show ¬ b < 0 by omega],.int _ _⟩
    case eql=>subst hr;exact ⟨_,by simp [eqGuard],by simp [binOp,Op.intCmp],.bool _⟩
    case neq=>subst hr;exact ⟨_,by simp [eqGuard],by simp [binOp,Op.intCmp],.bool _⟩
    case lss=>subst hr;exact ⟨_,by simp [eqGuard],by simp [binOp,Op.intCmp],.bool _⟩
    case leq=>subst hr;exact ⟨_,by simp [eqGuard],by simp [binOp,Op.intCmp],.bool _⟩
    case gtr=>subst hr;exact ⟨_,by simp [eqGuard],by simp [binOp,Op.intCmp],.bool _⟩
    case geq=>subst hr;exact ⟨_,by simp [eqGuard],by simp [binOp,Op.intCmp],.bool _⟩
   ·cases op<;>simp [yz,hk] at hr
    case shl=>obtain ⟨h0,rfl⟩:=hr;exact ⟨_,by simp [eqGuard],by simp [binOp,Op.shift,show ¬ b < 0 by omega],.int _ _⟩
    case shr=>obtain ⟨h0,rfl⟩:=hr;exact ⟨_,by simp [eqGuard],by simp [binOp,Op.shift,show ¬ b < 0 by omega],.int _ _⟩
  | _=>simp [yz] at hr
 | str a=>
  cases hb with
  | str b=>
   cases op<;>simp [yz] at hr
   case eql=>subst hr;exact ⟨_,by simp [eqGuard],by simp [binOp,Op.stringOp],.bool _⟩
   case neq=>subst hr;exact ⟨_,by simp [eqGuard],by simp [binOp,Op.stringOp],.bool _⟩
  | _=>simp [yz] at hr
 | _=>simp [yz] at hr
theorem YU {o:Oper} {t t':TypeId} {op:BinOp} {x y:Operand} (ho:o.op=.binOp op t x y t'):aP C o (.bin op (C.bt x) (C.bt y)):=by
 intro g h N w id ev val r aQ R hid hv he
 have hx:=hv x (by simp [ho,Op.operands])
 have hy:=hv y (by simp [ho,Op.operands])
 simp only [ap] at he
 split at he
 ·rename_i a b e1 e2
  rw [e1] at hx
  rw [e2] at hy
  rw [ub] at he
  obtain ⟨r',hr,he⟩:=he
  simp only [Prod.mk.injEq] at he
  obtain ⟨rfl,rfl⟩:=he
  cases hx with
  | ak _ _ ha=>
   cases hy with
   | ak _ _ hb=>
    obtain ⟨v,h0,h1,h2⟩:=LP (P:=C.P) w op t x y ha hb hr
    refine ⟨v,w,.inl ?_,zz R (.ak _ _ h2)⟩
    simp [execOp,ho,h0,h1]
 ·cases he
theorem YV {o:Oper} {t t':TypeId} {op:BinOp} {neg:Bool} {x y:Operand} (ho:o.op=.binOp op t x y t') (ht:C.P.underlying t=some .bool)
  (hop:op=if neg then .neq else .eql):aP C o (.oY neg (C.bt x) (C.bt y)):=by
 intro g h N w id ev val r aQ R hid hv he
 have hx:=hv x (by simp [ho,Op.operands])
 have hy:=hv y (by simp [ho,Op.operands])
 simp only [ap] at he
 split at he
 ·rename_i a b e1 e2
  rw [e1] at hx
  rw [e2] at hy
  have h1:=vg hx
  have h2:=vg hy
  simp only [Option.some.injEq,Prod.mk.injEq] at he
  obtain ⟨rfl,rfl⟩:=he
  subst hop
  refine ⟨.bool (if neg then !(a == b) else a == b),w,.inl ?_,zz R (.ak _ _ (.bool _))⟩
  cases neg<;>simp [execOp,ho,h1,h2,eqGuard,binOp,Op.equal,Op.maxDepth,run_equalIn_bool w _ t a b ht]
 ·cases he
theorem LQ {o:Oper} {t:TypeId} {x:Operand} (ho:o.op=.unOp .not t x):aP C o (.not (C.bt x)):=by
 intro g h N w id ev val r aQ R hid hv he
 have hx:=hv x (by simp [ho,Op.operands])
 simp only [ap] at he
 split at he
 ·rename_i a e1
  rw [e1] at hx
  have h1:=vg hx
  simp only [Option.some.injEq,Prod.mk.injEq] at he
  obtain ⟨rfl,rfl⟩:=he
  exact ⟨.bool !a,w,.inl (by simp [execOp,ho,h1,Op.unary]),zz R (.ak _ _ (.bool _))⟩
 ·cases he
theorem LR {o:Oper} {t:TypeId} {x:Operand} (ho:o.op=.unOp .neg t x):aP C o (.neg (C.bt x)):=by
 intro g h N w id ev val r aQ R hid hv he
 have hx:=hv x (by simp [ho,Op.operands])
 simp only [ap] at he
 split at he
 ·rename_i k a e1
  rw [e1] at hx
  have h1:=wE hx
  simp only [Option.some.injEq,Prod.mk.injEq] at he
  obtain ⟨rfl,rfl⟩:=he
  exact ⟨.int k (k.wrap (0 - a)),w,.inl (by simp [execOp,ho,h1,Op.unary,Op.intArith]),zz R (.ak _ _ (.int _ _))⟩
 ·cases he
theorem LS {o:Oper} {s d:TypeId} {k k0:IntKind} {x:Operand} (ho:o.op=.convert s d x) (hs:C.P.underlying s=some (.int k0)) (hd:C.P.underlying d=some (.int k)) :
  aP C o (.conv k (C.bt x)):=by
 intro g h N w id ev val r aQ R hid hv he
 have hx:=hv x (by simp [ho,Op.operands])
 simp only [ap] at he
 split at he
 ·rename_i k' a e1
  rw [e1] at hx
  have h1:=wE hx
  simp only [Option.some.injEq,Prod.mk.injEq] at he
  obtain ⟨rfl,rfl⟩:=he
  exact ⟨.int k (k.wrap a),w,.inl (by simp [execOp,ho,h1,convert,run_underlying hs,run_underlying hd,Conv.intToInt]),zz R (.ak _ _ (.int _ _))⟩
 ·cases he
theorem vG {P:Program} {w:World} {b:Nat} {es:Array MapEntry} {clock:Nat} (hb:w.heap[b]?=some (.map es clock)):(getObj b).run P w=.ok (.map es clock) w:=by
 simp [getObj,Sem.run,hb]
theorem WN {P:Program} {w:World} {b:Nat} {es:Array MapEntry} {clock:Nat} (hb:w.heap[b]?=some (.map es clock)) (o:Obj):(setObj b o).run P w=.ok () (zE w b o):=by
 simp [setObj,Sem.run,hb,zE]
theorem FC {af:List (List IV)} {v:Value} (hv:RI g.Z w (.slice af) v):∃ a cap,v=.slice a af.length cap:=by
 cases hv with
 | nil=>exact ⟨none,0,rfl⟩
 | empty a cap=>exact ⟨some a,cap,rfl⟩
 | slice _ b off cap sz cv _ _ _ _ _=>exact ⟨_,cap,rfl⟩
theorem LU {o:Oper} {t e:TypeId} {x:Operand} (ho:o.op=.call {callee:=.builtin .len,args := #[x],argTypes := #[t]})
  (ht:C.P.underlying t=some (.slice e)):aP C o (.len (C.bt x)):=by
 intro g h N w id ev val r aQ R hid hv he
 have hx:=hv x (by simp [ho,Op.operands,Call.operands])
 simp only [ap] at he
 split at he
 ·rename_i n hn
  simp only [Option.some.injEq,Prod.mk.injEq] at he
  obtain ⟨rfl,rfl⟩:=he
  have key:∃ a cap,val x=.slice a n cap:=by
   unfold xR at hn
   split at hn
   ·rename_i e1;rw [e1] at hx;cases hn;cases hx with | ak _ _ hr=>exact FC hr
   ·rename_i e1;rw [e1] at hx;cases hn;cases hx with | aX _ _ _ hr _ _=>exact FC hr
   ·rename_i e1;rw [e1] at hx;cases hn;exact ⟨none,0,xP hx⟩
   ·rename_i e1
    rw [e1] at hx
    cases hn
    generalize val x=vx at hx
    cases hx with
    | cA a cap=>exact ⟨_,cap,rfl⟩
   ·rename_i e1
    rw [e1] at hx
    split at hn
    ·rename_i cR
     cases hn
     cases hx with
     | Zag _ _ _ _ hni hone hp=>
      obtain ⟨h1,h2⟩:=hp _ _ cR
      rcases h2 with ⟨_,hr,hval⟩ | ⟨b,cap,c,e',hb,hval,_⟩
      ·subst hr
       simp at h1
       exact ⟨none,0,by rw [hval,h1.2]⟩
      ·exact ⟨_,cap,hval⟩
    ·cases hn
   ·cases hn
  obtain ⟨a,cap,hval⟩:=key
  exact ⟨.int .i64 n,w,.inl (by simp [execOp,ho,resolve,invoke,builtin,Builtin.len_,run_underlying ht,hval,goInt]),zz R (.ak _ _ (.int _ _))⟩
 ·cases he
theorem LV {o:Oper} {t:TypeId} {x:Operand} (ho:o.op=.call {callee:=.builtin .len,args := #[x],argTypes := #[t]})
  (ht:C.P.underlying t=some .string):aP C o (.lens (C.bt x)):=by
 intro g h N w id ev val r aQ R hid hv he
 have hx:=hv x (by simp [ho,Op.operands,Call.operands])
 simp only [ap] at he
 split at he
 ·rename_i s e1
  rw [e1] at hx
  have hval:=LF hx
  simp only [Option.some.injEq,Prod.mk.injEq] at he
  obtain ⟨rfl,rfl⟩:=he
  exact ⟨.int .i64 s.size,w,.inl (by simp [execOp,ho,resolve,invoke,builtin,Builtin.len_,run_underlying ht,hval,goInt]),zz R (.ak _ _ (.int _ _))⟩
 ·cases he
theorem LW {o:Oper} {t k e:TypeId} {x:Operand} (ho:o.op=.call {callee:=.builtin .len,args := #[x],argTypes := #[t]})
  (ht:C.P.underlying t=some (.map k e)):aP C o (.iF (C.bt x)):=by
 intro g h N w id ev val r aQ R hid hv he
 have hx:=hv x (by simp [ho,Op.operands,Call.operands])
 simp only [ap] at he
 split at he
 ·rename_i i e1
  rw [e1] at hx
  split at he
  ·rename_i es cR
   simp only [Option.some.injEq,Prod.mk.injEq] at he
   obtain ⟨rfl,rfl⟩:=he
   cases hx with
   | map _ _ hni hone hp=>
    obtain ⟨b,hb,hval⟩:=hp es cR
    obtain ⟨hz,cG,clock,hw,hl,_⟩:=R.obj i b _ hb cR
    exact ⟨.int .i64 es.length,w,.inl (by simp [execOp,ho,resolve,invoke,builtin,Builtin.len_,run_underlying ht,hval,goInt,vG hw,hl]),zz R (.ak _ _ (.int _ _))⟩
  ·cases he
 ·cases he
theorem FD {o:Oper} {ts:Array TypeId} {mx:Bool} {x y:Operand} (ho:o.op=.call {callee:=.builtin (if mx then .max else .min),args := #[x,y],argTypes:=ts}) :
  aP C o (.mm mx (C.bt x) (C.bt y)):=by
 intro g h N w id ev val r aQ R hid hv he
 have hx:=hv x (by simp [ho,Op.operands,Call.operands])
 have hy:=hv y (by simp [ho,Op.operands,Call.operands])
 simp only [ap] at he
 split at he
 ·rename_i k a k' b e1 e2
  rw [e1] at hx
  rw [e2] at hy
  have h1:=wE hx
  have h2:=wE hy
  simp only [Option.some.injEq,Prod.mk.injEq] at he
  obtain ⟨rfl,rfl⟩:=he
  refine ⟨.int k (if mx then (if a < b then b else a) else (if b < a then b else a)),w,.inl ?_,zz R (.ak _ _ (.int _ _))⟩
  cases mx<;>simp [execOp,ho,resolve,invoke,builtin,Builtin.max_,Builtin.min_,Builtin.max2,Builtin.min2,h1,h2]
 ·cases he
theorem LX {o:Oper} {x:Operand} {i:Nat} (ho:o.op=.extract x i):aP C o (.ext (C.bt x) i):=by
 intro g h N w id ev val r aQ R hid hv he
 have hx:=hv x (by simp [ho,Op.operands])
 simp only [ap] at he
 split at he
 ·rename_i vs e1
  rw [e1] at hx
  rw [ub] at he
  obtain ⟨c,hc,he⟩:=he
  simp only [Prod.mk.injEq] at he
  obtain ⟨rfl,rfl⟩:=he
  generalize hval:val x=vx at hx
  cases hx with
  | ak _ _ hr=>
   cases hr with
   | tuple _ us hl hr=>
    have hlt:i < us.length:=by rw [←hl];exact (ua.1 hc).1
    exact ⟨us[i],w,.inl (by simp [execOp,ho,hval,Instr.extract,hlt]),zz R (.ak _ _ (hr i c _ hc (by simp [hlt])))⟩
 ·rename_i vs e1
  rw [e1] at hx
  rw [ub] at he
  obtain ⟨c,hc,he⟩:=he
  simp only [Prod.mk.injEq] at he
  obtain ⟨rfl,rfl⟩:=he
  generalize hval:val x=vx at hx
  cases hx with
  | tuple _ us hl hr=>
   have hlt:i < us.length:=by rw [←hl];exact (ua.1 hc).1
   exact ⟨us[i],w,.inl (by simp [execOp,ho,hval,Instr.extract,hlt]),zz R (hr i c _ hc (by simp [hlt]))⟩
 ·cases he
theorem ky {f i:Nat} (hi:Qq C.mr f=some i):C.eC i=f:=by
 unfold Qq at hi
 rw [List.findIdx?_eq_some_iff_getElem] at hi
 obtain ⟨h1,h2,_⟩:=hi
 simp only [beq_iff_eq] at h2
 simp [Ctx.eC,h1,h2]
theorem LY {o:Oper} {f i:Nat} {first bC:Array Operand} (ho:o.op=.makeFunc (.func f) first bC) (hi:Qq C.mr f=some i) :
  aP C o (.pF i (first.toList.map C.bt) (bC.toList.map C.bt)):=by
 intro g h N w id ev val r aQ R hid hv he
 simp only [ap,Option.some.injEq,Prod.mk.injEq] at he
 obtain ⟨rfl,rfl⟩:=he
 have aux:∀ (l:Array Operand),(∀ x∈l,RV C g h N w (ev (C.bt x)) (val x))→∀ (j:Nat) (c:AV) (v:Value),((l.toList.map C.bt).map ev)[j]?=some c→(l.toList.map val)[j]?=some v→RV C g h N w c v:=fun l hl j c v h1 h2=>by
  simp only [uj,ub] at h1 h2
  obtain ⟨o1,⟨x,hx,rfl⟩,rfl⟩:=h1
  obtain ⟨y,hy,rfl⟩:=h2
  rw [hx] at hy
  cases hy
  exact hl x (by simpa using ui hx)
 refine ⟨.func (.func f) (first.toList.map val).toArray (bC.toList.map val).toArray,w,.inl ?_,zz R ?_⟩
 ·have e1:(first.toList.map val).toArray=first.map val:=by apply uL;simp
  have e2:(bC.toList.map val).toArray=bC.map val:=by apply uL;simp
  rw [e1,e2]
  simp [execOp,ho,Instr.makeFunc]
 ·rw [←ky hi]
  exact .func i _ _ _ _ (by simp) (by simp) (aux first fun x hx=>hv x (by simp [ho,Op.operands,hx])) (aux bC fun x hx=>hv x (by simp [ho,Op.operands,hx]))
theorem LZ {o:Oper} {t:TypeId} (ho:o.op=.makeMap t none):aP C o .fD:=by
 intro g h N w id ev val r aQ R hid hv he
 simp only [ap,Option.some.injEq,Prod.mk.injEq] at he
 obtain ⟨rfl,rfl⟩:=he
 refine ⟨.map (some w.heap.size),w.alloc (.map #[] 0),.inl (by simp [execOp,ho,Instr.makeMap]),_,Xu R hid _ _ 0,CW R hid _ _ 0 ?_,?_⟩
 ·exact ⟨by simp [Gh.at],#[],0,zX w _,rfl,fun i k x hx=>by simp at hx⟩
 ·exact .map id _ (.inr rfl) rfl fun es _=>⟨w.heap.size,by simp [Gh.at],rfl⟩
end
end
section
section
variable {C:Ctx} {g g':Gh} {h h':Nat→Option aI} {N N':Nat→Prop} {w w':World} {id:Nat}
theorem qm {α β:Type} {f:α→Option β}:∀ {l:List α} {r:List β},aY f l=some r→r.length=l.length∧∀ (i:Nat) (a:α),l[i]?=some a→∃ b,r[i]?=some b∧f a=some b
 | [],r,h=>by simp [aY] at h;subst h;exact ⟨rfl,fun i a hi=>by simp at hi⟩
 | a::l,r,h=>by
  simp only [aY] at h
  split at h
  ·rename_i b hb
   split at h
   ·rename_i bs AF
    cases h
    obtain ⟨h1,h2⟩:=qm AF
    refine ⟨by simp [h1],fun i a' hi => ?_⟩
    cases i with
    | zero=>simp at hi;subst hi;exact ⟨b,rfl,hb⟩
    | succ i=>obtain ⟨b',h3,h4⟩:=h2 i a' (by simpa using hi);exact ⟨b',by simpa using h3,h4⟩
   ·cases h
  ·cases h
def gW (C:Ctx) (g:Gh) (h:Nat→Option aI) (N:Nat→Prop) (w:World) (cs:List AV) (c:Array Value):Prop:=
 cs.length=c.size∧∀ (j:Nat) (x:AV),cs[j]?=some x→∃ u,c[j]?=some u∧u.oneCell'=true∧RV C g h N w x u
theorem Zu (vs:List Value):∀ (c:Array Value) (off k:Nat) (j:Nat),((vs.zipIdx k).foldl (fun (cs:Array Value) (p:Value×Nat)=>cs.setIfInBounds (off+p.2) p.1) c).size=c.size ∧
  (off+k+vs.length≤c.size→((vs.zipIdx k).foldl (fun (cs:Array Value) (p:Value×Nat)=>cs.setIfInBounds (off+p.2) p.1) c)[j]?=if off+k≤j∧j < off+k+vs.length then vs[j - (off+k)]? else c[j]?):=by
 induction vs with
 | nil=>intro c off k j;simp;omega
 | cons v vs ih=>
  intro c off k j
  simp only [List.zipIdx_cons,List.foldl_cons]
  obtain ⟨h1,h2⟩:=ih (c.setIfInBounds (off+k) v) off (k+1) j
  refine ⟨by simpa using h1,fun hl => ?_⟩
  simp only [uq] at hl
  rw [h2 (by simp;omega)]
  simp only [uq,ud]
  by_cases e1:off+k=j
  ·subst e1
   rw [if_neg (by omega),if_pos rfl,if_pos (by omega),if_pos (by omega)]
   simp
  ·by_cases e2:off+(k+1)≤j∧j < off+(k+1)+vs.length
   ·rw [if_pos e2,if_pos (by omega),show j - (off+k)=(j - (off+(k+1)))+1 by omega]
    simp
   ·rw [if_neg e2,if_neg e1,if_neg (by omega)]
theorem L4 {cs:List AV} {c:Array Value} (H:gW C g h N w cs c) (off:Nat) {ps:List AV} {v:Value} (hps:ps.length=v.cells.size)
  (hr:∀ (j:Nat) (x:AV),ps[j]?=some x→∃ u,v.cells[j]?=some u∧u.oneCell'=true∧RV C g h N w x u) (ho:off+ps.length≤cs.length) :
  gW C g h N w (qJ cs off ps) (v.cells.zipIdx.foldl (fun cs (p:Value×Nat)=>cs.setIfInBounds (off+p.2) p.1) c):=by
 have hz:(v.cells.zipIdx.foldl (fun cs (p:Value×Nat)=>cs.setIfInBounds (off+p.2) p.1) c)=((v.cells.toList.zipIdx 0).foldl (fun (cs:Array Value) (p:Value×Nat)=>cs.setIfInBounds (off+p.2) p.1) c):=by
  rw [←uH,uE]
 rw [hz]
 obtain ⟨h1,h2⟩:=H
 refine ⟨by rw [vF cs off ps ho,(Zu _ c off 0 0).1];exact h1,fun j x hj => ?_⟩
 have hl:v.cells.toList.length=ps.length:=by simp [hps]
 rw [(Zu v.cells.toList c off 0 j).2 (by omega)]
 rw [getElem?_putCells cs off ps ho] at hj
 split at hj
 ·rename_i AB
  rw [if_pos (by omega)]
  obtain ⟨u,h3,h4,h5⟩:=hr _ x hj
  exact ⟨u,by simpa using h3,h4,h5⟩
 ·rename_i AB
  rw [if_neg (by omega)]
  exact h2 j x hj
theorem Zv {v:Value} (h1:xm v=true):gW C g h N w (v.cells.toList.map xS) v.cells:=by
 refine ⟨by simp,fun j x hj => ?_⟩
 simp only [uj,ub] at hj
 obtain ⟨u,hu,rfl⟩:=hj
 exact ⟨u,by simpa using hu,ut.1 h1 u (ui hu),wV u⟩
theorem X2 (place:Nat→Option (Nat×Nat)) (ev:bD→AV) (val:Operand→Value) :
  ∀ (parts:List (Nat×Operand)) (ps:List (Nat×Nat×bD)) (qs:List (Nat×Nat×List AV)) (cs out:List AV) (c:Array Value),
  aY (fun p:Nat×Operand=>match place p.1 with
   | some (o,n)=>some (o,n,C.bt p.2)
   | none=>none) parts=some ps →
  aY (fun p:Nat×Nat×bD=>(cellsOf (ev p.2.2)).map fun cs=>(p.1,p.2.1,cs)) ps=some qs →
  (∀ p∈parts,RV C g h N w (ev (C.bt p.2)) (val p.2))→gW C g h N w cs c→ve cs qs=some out →
  ∃ c',Instr.fill place c (parts.map fun p=>(p.1,val p.2))=some c'∧gW C g h N w out c':=by
 intro parts
 induction parts with
 | nil=>
  intro ps qs cs out c h1 h2 _ H h3
  simp [aY] at h1;subst h1
  simp [aY] at h2;subst h2
  simp [ve] at h3;subst h3
  exact ⟨c,rfl,H⟩
 | cons p parts ih=>
  intro ps qs cs out c h1 h2 hv H h3
  simp only [aY] at h1
  cases hp:place p.1 with
  | none=>simp [hp] at h1
  | some on=>
   obtain ⟨off,n⟩:=on
   simp only [hp] at h1
   split at h1
   ·rename_i ps' oc
    cases h1
    simp only [aY] at h2
    split at h2
    ·rename_i q hq
     split at h2
     ·rename_i CZ sq
      cases h2
      rw [ub] at hq
      obtain ⟨pc,C1,rfl⟩:=hq
      simp only [ve] at h3
      split at h3
      ·rename_i hle
       obtain ⟨cq,cg⟩:=yP C1 (hv p uv)
       have H':=L4 H off cq cg (by omega)
       obtain ⟨c',h4,h5⟩:=ih ps' CZ _ out _ oc sq (fun q hq=>hv q (uu _ hq)) H' h3
       refine ⟨c',?_,h5⟩
       simp only [uy,Instr.fill,hp]
       rw [if_neg ?_]
       ·exact h4
       ·have:=H.1
        simp
        omega
      ·cases h3
     ·cases h2
    ·cases h2
   ·cases h1
theorem L5 {P:Program} (w:World) (fs:Array Field) (hs:(fs.toList.all fun f=>(zB P f.type).isSome)=true) :
  (fs.mapM (fun f=>do pure (f.offset,←sizeOf f.type):Field→Sem (Nat×Nat))).run P w=.ok (fs.map fun f=>(f.offset,(zB P f.type).getD 0)) w:=by
 rw [Array.mapM_eq_mapM_toList]
 have:∀ (l:List Field),(l.all fun f=>(zB P f.type).isSome)=true→(l.mapM (fun f=>do pure (f.offset,←sizeOf f.type):Field→Sem (Nat×Nat))).run P w=.ok (l.map fun f=>(f.offset,(zB P f.type).getD 0)) w:=by
  intro l
  induction l with
  | nil=>intro _;simp
  | cons f l ih=>
   intro hl
   simp only [List.all_cons,Bool.and_eq_true] at hl
   obtain ⟨h1,h2⟩:=hl
   obtain ⟨n,hn⟩:=uz.1 h1
   simp only [List.mapM_cons,Sem.run_bind,zU hn,Result.andThen_ok,Sem.run_pure,ih h2,uy,hn,Option.getD_some]
 rw [Sem.run_map,this _ hs]
 simp only [Result.andThen_ok]
 congr 1
 apply uL
 simp
theorem L6 {o:Oper} {t:TypeId} {parts:Array (Nat×Operand)} {fs:Array Field} {z:List AV} {ps:List (Nat×Nat×bD)} (ho:o.op=.build t parts)
  (ht:C.P.underlying t=some (.struct fs)) (hz:qL C.P t=some z)
  (h1:∀ i v,C.P.info? t=some i→i.zero=some v→xm v=true)
  (hs:(fs.toList.all fun f=>(zB C.P f.type).isSome)=true)
  (hps:aY (fun p:Nat×Operand=>match fs[p.1]? with
   | some f=>match zB C.P f.type with
    | some n=>some (f.offset,n,C.bt p.2)
    | none=>none
   | none=>none) parts.toList=some ps):aP C o (.build z ps):=by
 intro g h N w id ev val r aQ R hid hv he
 obtain ⟨i,zv,hi,iX,rfl⟩:=jX hz
 have hone:=h1 i zv hi iX
 simp only [ap] at he
 split at he
 ·rename_i qs AG
  split at he
  ·rename_i out hout
   simp only [Option.some.injEq,Prod.mk.injEq] at he
   obtain ⟨rfl,rfl⟩:=he
   have sr:∀ k:Nat,((fs.map fun (f:Field)=>(f.offset,(zB C.P f.type).getD 0))[k]?:Option (Nat×Nat))=(fs[k]?).map fun (f:Field)=>(f.offset,(zB C.P f.type).getD 0):=fun k=>by simp
   have oc:aY (fun p:Nat×Operand=>match ((fs.map fun f=>(f.offset,(zB C.P f.type).getD 0))[p.1]?:Option (Nat×Nat)) with
     | some (o,n)=>some (o,n,C.bt p.2)
     | none=>none) parts.toList=some ps:=by
    rw [←hps]
    congr 1
    funext p
    rw [sr]
    cases hf:fs[p.1]? with
    | none=>rfl
    | some f=>
     have:=ut.1 hs f (by simpa using Array.mem_of_getElem? hf)
     obtain ⟨n,hn⟩:=uz.1 this
     simp [hn]
   obtain ⟨c',h2,h3⟩:=X2 (C:=C) (g:=g) (h:=h) (N:=N) (w:=w) _ ev val parts.toList ps qs _ out zv.cells oc AG
    (fun p hp=>hv p.2 (by simp only [ho,Op.operands];simp;exact ⟨p.1,by simpa using hp⟩)) (Zv hone) hout
   refine ⟨.agg c',w,.inl ?_,zz R ?_⟩
   ·have hmap:(parts.map fun x=>(x.1,val x.2)).toList=parts.toList.map fun p=>(p.1,val p.2):=by simp
    have eD:=L5 (P:=C.P) w fs hs
    simp only [bind_pure_comp] at eD
    have h2':Instr.fill (fun x=>(Array.map (fun (f:Field)=>(f.offset,(zB C.P f.type).getD 0)) fs)[x]?) zv.cells (List.map (fun p=>(p.fst,val p.snd)) parts.toList)=some c':=h2
    simp only [Array.getElem?_map] at h2'
    simp [execOp,ho,Instr.build,zeroValue,typeInfo,hi,iX,run_underlying ht,eD,h2']
   ·have:=RV.agg (C:=C) (g:=g) (h:=h) (N:=N) (w:=w) out c'.toList (by simpa using h3.1) (fun v hv=>by
     obtain ⟨j,hj⟩:=um hv
     have hlt:j < out.length:=by rw [h3.1];simpa using (ua.1 hj).1
     obtain ⟨u,hu,h4,_⟩:=h3.2 j out[j] (by simp)
     simp only [ug] at hj
     rw [hj] at hu;cases hu;exact h4) (fun j x v hj hj'=>by
     obtain ⟨u,hu,_,h5⟩:=h3.2 j x hj
     simp only [ug] at hj'
     rw [hj'] at hu;cases hu;exact h5)
    simpa using this
  ·cases he
 ·cases he
def lM (C:Ctx) (g:Gh) (h:Nat→Option aI) (N:Nat→Prop) (w:World) (sz:Nat) (af:List (List AV)) (c:Array Value):Prop:=
 c.size=af.length*sz∧(∀ (i:Nat) (row:List AV),af[i]?=some row→row.length=sz) ∧
 ∀ (i:Nat) (row:List AV) (j:Nat) (x:AV),af[i]?=some row→row[j]?=some x→∃ u,c[i*sz+j]?=some u∧u.oneCell'=true∧RV C g h N w x u
theorem L7 {i r sz j:Nat} (hj:j < sz) (h:i≠r):¬ (r*sz≤i*sz+j∧i*sz+j < r*sz+sz):=by
 intro ⟨h1,h2⟩
 rcases uI i r with hlt | hge
 ·have:(i+1)*sz≤r*sz:=ue sz hlt
  rw [uk] at this;omega
 ·have:(r+1)*sz≤i*sz:=ue sz (show r+1≤i by omega)
  rw [uk] at this;omega
theorem L8 {sz:Nat} {af:List (List AV)} {c:Array Value} (H:lM C g h N w sz af c) (r:Nat) {ps:List AV} {v:Value} (hps:ps.length=v.cells.size) (hsz:ps.length=sz)
  (hr:∀ (j:Nat) (x:AV),ps[j]?=some x→∃ u,v.cells[j]?=some u∧u.oneCell'=true∧RV C g h N w x u) (ho:r < af.length) :
  lM C g h N w sz (af.set r ps) (v.cells.zipIdx.foldl (fun cs (p:Value×Nat)=>cs.setIfInBounds (r*sz+p.2) p.1) c):=by
 have hz:(v.cells.zipIdx.foldl (fun cs (p:Value×Nat)=>cs.setIfInBounds (r*sz+p.2) p.1) c)=((v.cells.toList.zipIdx 0).foldl (fun (cs:Array Value) (p:Value×Nat)=>cs.setIfInBounds (r*sz+p.2) p.1) c):=by
  rw [←uH,uE]
 rw [hz]
 obtain ⟨h1,h2,h3⟩:=H
 have hl:v.cells.toList.length=ps.length:=by simp [hps]
 have hb:(r+1)*sz≤af.length*sz:=ue sz ho
 rw [uk] at hb
 refine ⟨by rw [(Zu _ c _ 0 0).1,List.length_set];exact h1,fun i row hi => ?_,fun i row j x hi hj => ?_⟩
 ·rw [ur] at hi
  split at hi
  ·cases hi;exact hsz
  ·exact h2 i row hi
 ·rw [(Zu v.cells.toList c _ 0 _).2 (by omega)]
  rw [ur] at hi
  split at hi
  ·rename_i e1
   subst e1
   cases hi
   have mB:j < sz:=by rw [←hsz];exact (ua.1 hj).1
   rw [if_pos (by omega)]
   obtain ⟨u,h4,h5,h6⟩:=hr j x hj
   exact ⟨u,by rw [show r*sz+j - (r*sz+0)=j by omega];simpa using h4,h5,h6⟩
  ·rename_i e1
   have mB:j < sz:=by rw [←h2 i row hi];exact (ua.1 hj).1
   rw [if_neg (by have:=L7 (sz:=sz) mB (Ne.symm e1);omega)]
   exact h3 i row j x hi hj
theorem WO {zv:Value} (h1:xm zv=true) (n:Nat) (h0:0 < zv.cells.size) :
  lM C g h N w zv.cells.size (uC n (zv.cells.toList.map xS)) ((uJ (n*zv.cells.size)).map (zv.cells[· % zv.cells.size]!)):=by
 refine ⟨by simp,fun i row hi => ?_,fun i row j x hi hj => ?_⟩
 ·rw [uB] at hi
  split at hi
  ·cases hi;simp
  ·cases hi
 ·rw [uB] at hi
  split at hi
  ·rename_i hlt
   cases hi
   simp only [uj,ub] at hj
   obtain ⟨u,hu,rfl⟩:=hj
   have mB:j < zv.cells.size:=by simpa using (ua.1 hu).1
   have hb:(i+1)*zv.cells.size≤n*zv.cells.size:=ue _ hlt
   rw [uk] at hb
   refine ⟨u,?_,ut.1 h1 u (ui hu),wV u⟩
   have fR:i*zv.cells.size+j < n*zv.cells.size:=by omega
   have hmod:(i*zv.cells.size+j) % zv.cells.size=j:=by rw [Nat.mul_comm,Nat.mul_add_mod,Nat.mod_eq_of_lt mB]
   simp only [ug] at hu
   simp [fR,hmod,mB]
   simpa [mB] using hu
  ·cases hi
theorem L9 (sz:Nat) (ev:bD→AV) (val:Operand→Value) :
  ∀ (parts:List (Nat×Operand)) (qs:List (Nat×List AV)) (af out:List (List AV)) (c:Array Value),
  aY (fun p:Nat×bD=>(cellsOf (ev p.2)).map fun cs=>(p.1,cs)) (parts.map fun p=>(p.1,C.bt p.2))=some qs →
  (∀ p∈parts,RV C g h N w (ev (C.bt p.2)) (val p.2))→lM C g h N w sz af c→ja af sz qs=some out →
  ∃ c',Instr.fill (fun i=>some (i*sz,sz)) c (parts.map fun p=>(p.1,val p.2))=some c'∧lM C g h N w sz out c':=by
 intro parts
 induction parts with
 | nil=>
  intro qs af out c h2 _ H h3
  simp [aY] at h2;subst h2
  simp [ja] at h3;subst h3
  exact ⟨c,rfl,H⟩
 | cons p parts ih=>
  intro qs af out c h2 hv H h3
  simp only [uy,aY] at h2
  split at h2
  ·rename_i q hq
   split at h2
   ·rename_i CZ sq
    cases h2
    rw [ub] at hq
    obtain ⟨pc,C1,rfl⟩:=hq
    simp only [ja] at h3
    split at h3
    ·rename_i hle
     obtain ⟨gV,fQ⟩:=hle
     obtain ⟨cq,cg⟩:=yP C1 (hv p uv)
     have H':=L8 H p.1 cq gV cg fQ
     obtain ⟨c',h4,h5⟩:=ih CZ _ out _ sq (fun q hq=>hv q (uu _ hq)) H' h3
     refine ⟨c',?_,h5⟩
     simp only [uy,Instr.fill]
     rw [if_neg ?_]
     ·exact h4
     ·have h6:=H.1
      have hb:(p.1+1)*sz≤af.length*sz:=ue sz fQ
      rw [uk] at hb
      simp
      omega
    ·cases h3
   ·cases h2
  ·cases h2
theorem Jc {e:TypeId} {af:List (List AV)} {c:Array Value} {sz len:Nat} (hl:c.size=af.length*sz) (hn:af.length=len) :
  RV C (g.at id w.heap.size 0) (bK [(id,.af sz af)] h) (qo N id) (w.alloc (.cells c e (0,0))) (.Zag id 0 len) (.slice (some ⟨w.heap.size,0,none⟩) len len):=by
 refine .Zag id 0 len _ (.inr rfl) rfl fun sz' ef ho => ?_
 simp only [bK,if_pos] at ho
 cases ho
 exact ⟨by omega,.inr ⟨w.heap.size,len,c,e,by simp [Gh.at],by simp,uf _,zX w _,by rw [hl,hn];simp⟩⟩
theorem Qs:uJ 0 = #[]:=rfl
theorem Ma {o:Oper} {t e:TypeId} {len sz:Nat} {parts:Array (Nat×Operand)} {z:List AV} (ho:o.op=.buildSlice t len parts)
  (ht:C.P.underlying t=some (.slice e)) (hsz:zB C.P e=some sz) (hz:qL C.P e=some z) (h0:0 < sz) (hzl:z.length=sz) (hle:len*sz≤2 ^ 24)
  (h1:∀ i v,C.P.info? e=some i→i.zero=some v→xm v=true):aP C o (.dy sz z len (parts.toList.map fun p=>(p.1,C.bt p.2))):=by
 intro g h N w id ev val r aQ R hid hv he
 obtain ⟨i,zv,hi,iX,rfl⟩:=jX hz
 have hone:=h1 i zv hi iX
 have hzs:zv.cells.size=sz:=by simpa using hzl
 subst hzs
 simp only [ap] at he
 split at he
 ·rename_i qs AG
  split at he
  ·rename_i out hout
   simp only [Option.some.injEq,Prod.mk.injEq] at he
   obtain ⟨rfl,rfl⟩:=he
   have H0:=WO (C:=C) (g:=g) (h:=h) (N:=N) (w:=w) hone len h0
   obtain ⟨c',h2,h3⟩:=L9 (C:=C) zv.cells.size ev val parts.toList qs _ out _ AG
    (fun p hp=>hv p.2 (by simp only [ho,Op.operands];simp;exact ⟨p.1,by simpa using hp⟩)) H0 hout
   have hlen:out.length=len:=by
    have:∀ (qs:List (Nat×List AV)) (af out:List (List AV)),ja af zv.cells.size qs=some out→out.length=af.length:=by
     intro qs
     induction qs with
     | nil=>intro af out hh;simp [ja] at hh;rw [hh]
     | cons q qs ih=>
      intro af out hh
      simp only [ja] at hh
      split at hh
      ·have:=ih _ _ hh;simpa using this
      ·cases hh
    have:=this _ _ _ hout
    simpa using this
   refine ⟨.slice (some ⟨w.heap.size,0,none⟩) len len,w.alloc (.cells c' e (0,0)),.inl ?_,?_⟩
   ·have hmap:(parts.map fun x=>(x.1,val x.2)).toList=parts.toList.map fun p=>(p.1,val p.2):=by simp
    have B3:¬ len*zv.cells.size > 2 ^ 24:=by omega
    by_cases mC:len=0
    ·subst mC
     have h2':Instr.fill (fun i=>some (i*zv.cells.size,zv.cells.size)) #[] (parts.toList.map fun p=>(p.1,val p.2))=some c':=by simpa [Qs] using h2
     simp [execOp,ho,Instr.buildSlice,run_underlying ht,zU hsz,newRow,Qs,h2']
    ·have hne:¬ len*zv.cells.size=0:=by
      intro hc
      rcases uK.1 hc with hc | hc<;>omega
     have Mb:¬ (len=0∨zv.cells = #[]):=by
      intro hc
      rcases hc with hc | hc
      ·exact mC hc
      ·rw [hc] at h0;simp at h0
     simp only [execOp,ho,Instr.buildSlice,Sem.run_bind,run_underlying ht,Result.andThen_ok,zU hsz,Sem.run_ite,if_neg B3,Sem.run_pure,if_neg hne,zeroValue,typeInfo,run_program,hi,iX,hmap,h2,newRow,run_newObj]
     rfl
   ·exact Zr R hid _ _ _ _ h3.2.1 h3.2.2 (Jc h3.1 hlen)
  ·cases he
 ·cases he
theorem Mc {k:IntKind} {n:Int} (h1:k.min≤n) (h2:n≤k.max):k.wrap n=n:=by
 cases k<;>simp only [IntKind.min,IntKind.max,IntKind.signed,IntKind.bits,IntKind.wrap] at * <;> simp at * <;> omega
theorem Md {o:Oper} {t e:TypeId} {l sz bI:Nat} {z:List AV} (ho:o.op=.makeSlice t (.tmp l) (.tmp l))
  (ht:C.P.underlying t=some (.slice e)) (hsz:zB C.P e=some sz) (hby:xF C.P e=some bI) (hz:qL C.P e=some z) (h0:0 < sz) (hzl:z.length=sz)
  (h1:∀ i v,C.P.info? e=some i→i.zero=some v→xm v=true):aP C o (.mks sz bI z (.t l)):=by
 intro g h N w id ev val r aQ R hid hv he
 have hx:=hv (.tmp l) (by simp [ho,Op.operands])
 obtain ⟨i,zv,hi,iX,rfl⟩:=jX hz
 have hone:=h1 i zv hi iX
 have hzs:zv.cells.size=sz:=by simpa using hzl
 subst hzs
 have C3:i.bytes=bI:=by simpa [xF,hi] using hby
 subst C3
 simp only [ap] at he
 split at he
 ·rename_i n e1
  have hop:C.bt (.tmp l)=.t l:=rfl
  rw [hop,e1] at hx
  have hval:=wE hx
  split at he
  ·rename_i hle
   obtain ⟨gV,fQ,C4⟩:=hle
   simp only [Option.some.injEq,Prod.mk.injEq] at he
   obtain ⟨rfl,rfl⟩:=he
   obtain ⟨m,rfl⟩:=Int.eq_ofNat_of_zero_le gV
   simp only [Int.toNat_natCast]
   have H0:=WO (C:=C) (g:=g) (h:=h) (N:=N) (w:=w) hone m h0
   refine ⟨.slice (some ⟨w.heap.size,0,none⟩) m m,w.alloc (.cells ((uJ (m*zv.cells.size)).map (zv.cells[· % zv.cells.size]!)) e (0,0)),.inl ?_,?_⟩
   ·have FE:IntKind.i64.wrap (m:Int)=m:=Mc (by simp [IntKind.min,IntKind.signed,IntKind.bits]) (by simp [IntKind.max,IntKind.signed,IntKind.bits];omega)
    have B3:¬ (281474976710656:Int) < (i.bytes:Int)*(m:Int):=by rw [Int.mul_comm];omega
    have hneg:¬ (m:Int) < 0:=by omega
    by_cases hm0:m=0
    ·subst hm0
     simp [execOp,ho,Instr.makeSlice,run_underlying ht,asInt,asIntOf,hval,FE,typeInfo,hi,B3,sizeOf,newRow,Qs,show IntKind.i64.wrap 0=0 from by decide]
    ·have hne:¬ m*zv.cells.size=0:=by
      intro hc
      rcases uK.1 hc with hc | hc<;>omega
     have hsz2:i.size=zv.cells.size:=by simpa [zB,hi] using hsz
     have C5:¬ zv.cells = #[]:=fun hc=>by rw [hc] at h0;simp at h0
     simp [execOp,ho,Instr.makeSlice,run_underlying ht,asInt,asIntOf,hval,FE,typeInfo,hi,B3,hneg,sizeOf,newRow,zeroValue,iX,hsz2,hm0,C5]
     exact fun hc=>absurd hc hne
   ·exact Zr R hid _ _ _ _ H0.2.1 H0.2.2 (Jc H0.1 (by simp))
  ·cases he
 ·cases he
end
end
end Go.Proofs.YtcmmhbmgpflmeaaGreatDoor
