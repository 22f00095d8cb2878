/-
  The abstract machine: its values, its states, and how they stand to the model's values and worlds. Proved here: what is related stays related while the world goes on.
  The abstract machine: its operations, what they come to, and how they are read off the model's operations.
  The abstract machine: what new objects, and objects that turn, do to the relations.
  The abstract machine: objects that turn: stores into rows, maps that are written.
  The abstract machine: each operation of the model comes to what the machine says (all but calls, append, maps and the equality of structs).
  The abstract machine: more operations.
  The abstract machine: arithmetic, lengths, tuples, closures, literals.
  The abstract machine: literals of structs and slices, make, maps.
-/
import Derived.Orders
import Derived.Below
import Derived.KernelRfl
import Derived.Laws.Cells
import Derived.Laws.AppendOwn
import Derived.MapKept
import Derived.Laws.StructEq
open List renaming getElem?_eq_some_iff → ua, mem_of_getElem? → uj, getElem?_map → uk, getElem?_drop → um, getElem?_of_mem → un, length_cons → ur, getElem?_set → ut, all_eq_true → uu, mem_cons_of_mem → uv, mem_cons_self → uw, getElem?_take → uy, map_cons → uz, getElem_mem → uB, getElem?_replicate → uC, replicate → uD, getElem?_append → uE, range → uO
open Option renaming map_eq_some_iff → ub, isSome_iff_exists → uA
open Bool renaming false_eq_true → ux
open Nat renaming mul_le_mul_right → ue, le_refl → ug, lt_of_lt_of_le → ui, add_mul → ul, eq_zero_or_pos → uo, le_trans → uq, pos_of_ne_zero → uH, lt_or_ge → uJ, mul_eq_zero → uL, add_assoc → uN
open Array renaming getElem?_eq_some_iff → uc, getElem?_setIfInBounds → ud, getElem?_toList → uh, toList_zipIdx → uF, ext_getElem? → uG, foldl_toList → uI, range → uK, ext' → uM
namespace Go.Proofs.YtgpojcfkanjabaaGreatDoor
open Go.RowKit
set_option linter.unusedVariables false
theorem cg {α : Type} (x y : α) : (bif true then x else y) = x := rfl
theorem ck {α : Type} (x y : α) : (bif false then x else y) = y := rfl
theorem aX {α β : Type} (x : α) (f : α → Option β) : (some x).bind f = f x := rfl
inductive IV where
 | bool (b:Bool)
 | int (k:IntKind) (n:Int)
 | str (s:ByteArray)
 | slice (af:List (List IV))
 | agg (cells:List IV)
 | tuple (vs:List IV)
 | iface (t:Nat) (x:IV)
 | cY
 | ff (es:List (IV×IV))
 deriving Inhabited
def IV.key:IV→Option Value
 | .bool b=>some (.bool b)
 | .int k n=>some (.int k n)
 | .str s=>some (.string s)
 | _=>none
inductive AV where
 | top
 | undef
 | ax (v:IV)
 | nil
 | cw
 | aU (id:Nat) (af:List (List IV))
 | cz (cells:List IV)
 | ptr (id row off:Nat)
 | Zak (id off len:Nat)
 | func (f:Nat) (first bp:List AV)
 | map (id:Nat)
 | agg (cells:List AV)
 | tuple (vs:List AV)
 | eB (l id:Nat)
 deriving Inhabited
inductive aG where
 | af (sz:Nat) (af:List (List AV))
 | aV (sz len:Nat)
 | map (es:List (IV×AV))
 | dead
 | lp (l:Nat) (R:LoopState→Option Code→Loop) (s:LoopState) (pe:Option Code)
 deriving Inhabited
def za {α:Type}:List (Nat×α)→Nat→Option α
 | [],_=>none
 | (k,v)::r,i=>if k=i then some v else za r i
structure St where
 env:List (Nat×AV)
 heap:List (Nat×aG)
 next:Nat
structure Gh where
 ρ:Nat→Option Nat
 Z:Nat→Nat
inductive RI (Z:Nat→Nat) (w:World):IV→Value→Prop where
 | bool (b:Bool):RI Z w (.bool b) (.bool b)
 | int (k:IntKind) (n:Int):RI Z w (.int k n) (.int k n)
 | str (s:ByteArray):RI Z w (.str s) (.string s)
 | nil:RI Z w (.slice []) (.slice none 0 0)
 | empty (a:Addr) (cap:Nat):RI Z w (.slice []) (.slice (some a) 0 cap)
 | slice (af:List (List IV)) (b off cap sz:Nat) (cv:Nat→Nat→Value)
  (hcap:af.length≤cap)
  (hsz:∀ (i:Nat) (row:List IV),af[i]?=some row→row.length=sz)
  (hz:∀ (i:Nat) (row:List IV) (j:Nat) (c:IV),af[i]?=some row→row[j]?=some c→off+i*sz+j < Z b)
  (hc:∀ (i:Nat) (row:List IV) (j:Nat) (c:IV),af[i]?=some row→row[j]?=some c→w.cell? ⟨b,off+i*sz+j,none⟩=some (cv i j)∧(cv i j).oneCell'=true)
  (hr:∀ (i:Nat) (row:List IV) (j:Nat) (c:IV),af[i]?=some row→row[j]?=some c→RI Z w c (cv i j)) :
  RI Z w (.slice af) (.slice (some ⟨b,off,none⟩) af.length cap)
 | agg (cs:List IV) (vs:List Value) (hl:cs.length=vs.length) (h1:∀ v∈vs,v.oneCell'=true)
  (hr:∀ (i:Nat) (c:IV) (v:Value),cs[i]?=some c→vs[i]?=some v→RI Z w c v):RI Z w (.agg cs) (.agg vs.toArray)
 | tuple (cs:List IV) (vs:List Value) (hl:cs.length=vs.length)
  (hr:∀ (i:Nat) (c:IV) (v:Value),cs[i]?=some c→vs[i]?=some v→RI Z w c v):RI Z w (.tuple cs) (.tuple vs.toArray)
 | iface (t:Nat) (x:IV) (v:Value) (hr:RI Z w x v):RI Z w (.iface t x) (.iface t v)
 | cY:RI Z w .cY (.map none)
 | ff (es:List (IV×IV)) (b:Nat) (bO:Array MapEntry) (clock:Nat) (ev:Nat→MapEntry) (hz:0 < Z b) (hb:w.heap[b]?=some (.map bO clock)) (hl:bO.size=es.length)
  (hk:∀ (i:Nat) (k x:IV),es[i]?=some (k,x)→bO[i]?=some (ev i)∧IV.key k=some (ev i).key)
  (hr:∀ (i:Nat) (k x:IV),es[i]?=some (k,x)→RI Z w x (ev i).val):RI Z w (.ff es) (.map (some b))
theorem JV {w w':World} {b o:Nat} (hb:w'.heap[b]?=w.heap[b]?):w'.cell? ⟨b,o,none⟩=w.cell? ⟨b,o,none⟩:=by
 simp only [World.cell?,hb]
structure iD (Z:Nat→Nat) (w w':World):Prop where
 c:∀ b o,o < Z b→w'.cell? ⟨b,o,none⟩=w.cell? ⟨b,o,none⟩
 m:∀ (b:Nat) (bO:Array MapEntry) (clock:Nat),0 < Z b→w.heap[b]?=some (.map bO clock)→w'.heap[b]?=w.heap[b]?
theorem iD.refl (Z:Nat→Nat) (w:World):iD Z w w:=⟨fun _ _ _=>rfl,fun _ _ _ _ _=>rfl⟩
theorem iD.heap {Z:Nat→Nat} {w w':World} (h:∀ b,0 < Z b→w'.heap[b]?=w.heap[b]?):iD Z w w':=
 ⟨fun b o ho=>JV (h b (by omega)),fun b _ _ hz _=>h b hz⟩
structure tY where
 p:World→Prop
 n:Nat
 ok:∀ w w':World,(∀ b,b < n→w'.heap[b]?=w.heap[b]?)→p w→p w'
structure Ctx where
 P:Program
 mo:List FuncId
 tabs:tY
 ifs:List TypeId
def Ctx.ed (C:Ctx) (i:Nat):FuncId:=C.mo.getD i 0
inductive RV (C:Ctx) (g:Gh) (h:Nat→Option aG) (N:Nat→Prop) (w:World):AV→Value→Prop where
 | top (v:Value):RV C g h N w .top v
 | undef:RV C g h N w .undef undef
 | ax (x:IV) (v:Value) (hr:RI g.Z w x v):RV C g h N w (.ax x) v
 | nil:RV C g h N w .nil (.slice none 0 0)
 | cw (a:Addr) (cap:Nat):RV C g h N w .cw (.slice (some a) 0 cap)
 | aU (id:Nat) (af:List (List IV)) (v:Value) (hr:RI g.Z w (.slice af) v) (hid:N id)
  (ht:∀ sz len,h id=some (.aV sz len)→af.length≤len∧(∀ (i:Nat) (row:List IV),af[i]?=some row→row.length=sz) ∧
   (af.length=len→(g.ρ id=none∧v=.slice none 0 0) ∨
    ∃ b cap c e,g.ρ id=some b∧v=.slice (some ⟨b,0,none⟩) af.length cap∧w.heap[b]?=some (.cells c e (0,0))∧cap*sz≤c.size)) :
  RV C g h N w (.aU id af) v
 | cz (cells:List IV) (b off:Nat) (cv:Nat→Value)
  (hz:∀ (j:Nat) (c:IV),cells[j]?=some c→off+j < g.Z b)
  (hc:∀ (j:Nat) (c:IV),cells[j]?=some c→w.cell? ⟨b,off+j,none⟩=some (cv j)∧(cv j).oneCell'=true)
  (hr:∀ (j:Nat) (c:IV),cells[j]?=some c→RI g.Z w c (cv j)) :
  RV C g h N w (.cz cells) (.pointer (some ⟨b,off,none⟩))
 | ptr (id row off:Nat) (v:Value) (hid:N id) (h1:v.oneCell'=true)
  (hp:∀ sz af,h id=some (.af sz af)→∃ b,g.ρ id=some b∧v=.pointer (some ⟨b,row*sz+off,none⟩)) :
  RV C g h N w (.ptr id row off) v
 | Zak (id off len:Nat) (v:Value) (hid:N id) (h1:v.oneCell'=true)
  (hp:∀ sz af,h id=some (.af sz af)→off+len≤af.length∧((g.ρ id=none∧af=[]∧v=.slice none 0 0) ∨
   ∃ b cap c e,g.ρ id=some b∧v=.slice (some ⟨b,off*sz,none⟩) len cap∧len≤cap∧w.heap[b]?=some (.cells c e (0,0))∧(off+cap)*sz≤c.size)) :
  RV C g h N w (.Zak id off len) v
 | func (f:Nat) (first bp:List AV) (vf vc:List Value) (hlf:first.length=vf.length) (hlc:bp.length=vc.length)
  (hf:∀ (i:Nat) (c:AV) (v:Value),first[i]?=some c→vf[i]?=some v→RV C g h N w c v)
  (hc:∀ (i:Nat) (c:AV) (v:Value),bp[i]?=some c→vc[i]?=some v→RV C g h N w c v) :
  RV C g h N w (.func f first bp) (.func (.func (C.ed f)) vf.toArray vc.toArray)
 | map (id:Nat) (v:Value) (hid:N id) (h1:v.oneCell'=true)
  (hp:∀ es,h id=some (.map es)→∃ b,g.ρ id=some b∧v=.map (some b)):RV C g h N w (.map id) v
 | agg (cs:List AV) (vs:List Value) (hl:cs.length=vs.length) (h1:∀ v∈vs,v.oneCell'=true)
  (hr:∀ (i:Nat) (c:AV) (v:Value),cs[i]?=some c→vs[i]?=some v→RV C g h N w c v):RV C g h N w (.agg cs) (.agg vs.toArray)
 | tuple (cs:List AV) (vs:List Value) (hl:cs.length=vs.length)
  (hr:∀ (i:Nat) (c:AV) (v:Value),cs[i]?=some c→vs[i]?=some v→RV C g h N w c v):RV C g h N w (.tuple cs) (.tuple vs.toArray)
 | eB (l id:Nat) (hid:N id) (hp:∀ R s pe,h id=some (.lp l R s pe)→g.ρ id=some l):RV C g h N w (.eB l id) (.func (.yield l) #[] #[])
structure CQ (bO:Array MapEntry) (clock n:Nat):Prop where
 l:bO.size=n
 s:Go.MapKept.Stamped bO clock
def cC (C:Ctx) (g:Gh) (h:Nat→Option aG) (N:Nat→Prop) (w:World) (b:Nat):aG→Prop
 | .af sz af=>g.Z b=0∧∃ c e,w.heap[b]?=some (.cells c e (0,0))∧(∀ (i:Nat) (row:List AV),af[i]?=some row→row.length=sz) ∧
  ∀ (i:Nat) (row:List AV) (j:Nat) (x:AV),af[i]?=some row→row[j]?=some x→∃ cv,c[i*sz+j]?=some cv∧cv.oneCell'=true∧RV C g h N w x cv
 | .aV sz len=>∃ c e,w.heap[b]?=some (.cells c e (0,0))∧g.Z b=len*sz∧len*sz≤c.size
 | .map es=>g.Z b=0∧∃ bO clock,w.heap[b]?=some (.map bO clock)∧CQ bO clock es.length ∧
  ∀ (i:Nat) (k:IV) (x:AV),es[i]?=some (k,x)→∃ e,bO[i]?=some e∧IV.key k=some e.key∧RV C g h N w x e.val
 | .dead=>True
 | .lp l R s pe=>g.Z b=0∧b=l∧w.heap[b]?=some (.loop (R s pe))
def vL (g:Gh) (b:Nat):Prop:=∃ i,g.ρ i=some b
def Ctx.tZ (C:Ctx) (g:Gh) (w:World):Prop:=C.tabs.p w∧C.tabs.n≤w.heap.size∧∀ b,b < C.tabs.n→¬ vL g b
structure RH (C:Ctx) (g:Gh) (h:Nat→Option aG) (N:Nat→Prop) (w:World):Prop where
 inj:∀ i j b,g.ρ i=some b→g.ρ j=some b→i=j
 lt:∀ i b,g.ρ i=some b→b < w.heap.size∧N i
 key:∀ i o,h i=some o→N i
 obj:∀ i b o,g.ρ i=some b→h i=some o→cC C g h N w b o
 cQ:∀ i sz len,h i=some (.aV sz len)→g.ρ i=none→len=0
 dX:∀ b,0 < g.Z b→b < w.heap.size
 fix:C.tZ g w
def Marks (B:Nat) (g:Gh) (w:World) (ds:List Deferred):Prop:=
 B≤w.heap.size∧∃ Ds:List Nat,ds=Ds.map (fun D=>{target:=.collected D,args := #[]})∧Ds.Nodup∧∀ D∈Ds,B≤D∧w.heap[D]?=some (.deferred (some []))∧¬ vL g D
theorem Marks.nil {B:Nat} (g:Gh) {w:World} (hB:B≤w.heap.size):Marks B g w []:=⟨hB,[],rfl,List.nodup_nil,fun D h=>by cases h⟩
theorem Marks.sub {B:Nat} {g g':Gh} {w:World} {ds:List Deferred} (M:Marks B g w ds) (hs:∀ b,vL g' b→vL g b):Marks B g' w ds:=by
 obtain ⟨h0,Ds,h1,h2,h3⟩:=M
 exact ⟨h0,Ds,h1,h2,fun D hD=>⟨(h3 D hD).1,(h3 D hD).2.1,fun h=>(h3 D hD).2.2 (hs D h)⟩⟩
structure Fr where
 n:Nat
 B:Nat
structure RE (C:Ctx) (nt:Fr) (g:Gh) (env:List (Nat×AV)) (h:Nat→Option aG) (N:Nat→Prop) (a:Act) (w:World):Prop where
 size:a.tmps.size=nt.n
 defers:Marks nt.B g w a.defers
 slot:∀ t x,za env t=some x→RV C g h N w x (a.tmps.getD t Go.undef)
structure Rel (C:Ctx) (nt:Fr) (g:Gh) (st:St) (a:Act) (w:World):Prop where
 env:RE C nt g st.env (za st.heap) (· < st.next) a w
 heap:RH C g (za st.heap) (· < st.next) w
structure bW (g:Gh) (h:Nat→Option aG) (N:Nat→Prop) (w:World) (g':Gh) (h':Nat→Option aG) (N':Nat→Prop) (w':World):Prop where
 os:w'.os=w.os
 tape:w'.tape=w.tape
 output:w'.output=w.output
 size:w.heap.size≤w'.heap.size
 old:∀ b,b < w.heap.size→¬ vL g b→w'.heap[b]?=w.heap[b]?∧g'.Z b=g.Z b
 own:∀ b,vL g' b→vL g b∨w.heap.size≤b
 bY:∀ b,g.Z b≤g'.Z b
 cell:iD g.Z w w'
 shape:∀ (b:Nat) (c:Array Value) (e:TypeId),w.heap[b]?=some (.cells c e (0,0))→∃ c':Array Value,w'.heap[b]?=some (.cells c' e (0,0))∧c'.size=c.size
 next:∀ i,N i→N' i
 eb:∀ i b,g.ρ i=some b→∀ o,h' i=some o→o≠.dead→N i→g'.ρ i=some b∨(∃ sz l sz' l',h i=some (.aV sz l)∧o=.aV sz' l'∧l < l')
 cE:∀ i,g.ρ i=none→N i→∀ o,h' i=some o→o≠.dead→g'.ρ i=none∨(∃ sz l sz' l',h i=some (.aV sz l)∧o=.aV sz' l'∧l < l')
 af:∀ i,N i→∀ sz af,h' i=some (.af sz af)→∃ eH,h i=some (.af sz eH)∧eH.length=af.length
 cR:∀ i,N i→∀ sz len,h' i=some (.aV sz len)→∃ nZ,h i=some (.aV sz nZ)∧nZ≤len
 maps:∀ i,N i→∀ es,h' i=some (.map es)→∃ tu,h i=some (.map tu)
 fB:∀ i,N i→∀ l R s pe,h' i=some (.lp l R s pe)→∃ s0 Aa,h i=some (.lp l R s0 Aa)
theorem Ctx.tZ.eO {C:Ctx} {g g':Gh} {h h':Nat→Option aG} {N N':Nat→Prop} {w w':World} (E:bW g h N w g' h' N' w') (F:C.tZ g w):C.tZ g' w':=
 ⟨C.tabs.ok w w' (fun b hb=>(E.old b (ui hb F.2.1) (F.2.2 b hb)).1) F.1,uq F.2.1 E.size,fun b hb ho=>(E.own b ho).elim (F.2.2 b hb) (fun h=>by have:=F.2.1;omega)⟩
theorem Marks.eO {g g':Gh} {h h':Nat→Option aG} {N N':Nat→Prop} {w w':World} (E:bW g h N w g' h' N' w') {B:Nat} {ds:List Deferred} (M:Marks B g w ds):Marks B g' w' ds:=by
 obtain ⟨h0,Ds,h1,h2,h3⟩:=M
 refine ⟨uq h0 E.size,Ds,h1,h2,fun D hD => ?_⟩
 obtain ⟨h6,h4,h5⟩:=h3 D hD
 have hlt:D < w.heap.size:=(uc.1 h4).1
 exact ⟨h6,(E.old D hlt h5).1.trans h4,fun h=>(E.own D h).elim h5 (fun h=>by omega)⟩
theorem RI.mono {Z Z':Nat→Nat} {w w':World} (hz:∀ b,Z b≤Z' b) (hc:iD Z w w') {x:IV} {v:Value}
  (h:RI Z w x v):RI Z' w' x v:=by
 induction h with
 | bool b=>exact .bool b
 | int k n=>exact .int k n
 | str s=>exact .str s
 | nil=>exact .nil
 | empty a cap=>exact .empty a cap
 | slice af b off cap sz cv hcap hsz gL ia hr ih=>
  exact .slice af b off cap sz cv hcap hsz (fun i row j c h1 h2=>ui (gL i row j c h1 h2) (hz b))
   (fun i row j c h1 h2=>⟨(hc.c b _ (gL i row j c h1 h2)).trans (ia i row j c h1 h2).1,(ia i row j c h1 h2).2⟩) ih
 | agg cs vs hl h1 hr ih=>exact .agg cs vs hl h1 ih
 | tuple cs vs hl hr ih=>exact .tuple cs vs hl ih
 | iface t x v hr ih=>exact .iface t x v ih
 | cY=>exact .cY
 | ff es b bO clock ev gL hb hl hk hr ih=>exact .ff es b bO clock ev (ui gL (hz b)) ((hc.m b bO clock gL hb).trans hb) hl hk ih
theorem RV.mono {C:Ctx} {g g':Gh} {h h':Nat→Option aG} {N N':Nat→Prop} {w w':World} (E:bW g h N w g' h' N' w') {x:AV} {v:Value}
  (hv:RV C g h N w x v):RV C g' h' N' w' x v:=by
 induction hv with
 | top v=>exact .top v
 | undef=>exact .undef
 | ax x v hr=>exact .ax x v (hr.mono E.bY E.cell)
 | nil=>exact .nil
 | cw a cap=>exact .cw a cap
 | aU id af v hr hid ht=>
  refine .aU id af v (hr.mono E.bY E.cell) (E.next _ hid) fun sz len hg => ?_
  obtain ⟨nZ,oa,hle⟩:=E.cR id hid sz len hg
  obtain ⟨h1,h2,h3⟩:=ht sz nZ oa
  refine ⟨uq h1 hle,h2,fun heq => ?_⟩
  have he:nZ=len:=by omega
  subst he
  rcases h3 heq with ⟨hn,hv⟩ | ⟨b,cap,c,e,hb,hv,hw,hcap⟩
  ·rcases E.cE id hn hid _ hg (by simp) with h4 | ⟨tv,l1,rQ,l2,e1,e2,e3⟩
   ·exact .inl ⟨h4,hv⟩
   ·rw [oa] at e1;cases e1;cases e2;omega
  ·rcases E.eb id b hb _ hg (by simp) hid with h4 | ⟨tv,l1,rQ,l2,e1,e2,e3⟩
   ·obtain ⟨c',ia,hs'⟩:=E.shape b c e hw
    exact .inr ⟨b,cap,c',e,h4,hv,ia,by rw [hs'];exact hcap⟩
   ·rw [oa] at e1;cases e1;cases e2;omega
 | cz cells b off cv hz hc hr=>
  exact .cz cells b off cv (fun j c h1=>ui (hz j c h1) (E.bY b))
   (fun j c h1=>⟨(E.cell.c b _ (hz j c h1)).trans (hc j c h1).1,(hc j c h1).2⟩) (fun j c h1=>(hr j c h1).mono E.bY E.cell)
 | ptr id row off v hid h1 hp=>
  refine .ptr id row off v (E.next _ hid) h1 fun sz af hg => ?_
  obtain ⟨eH,oa,_⟩:=E.af id hid sz af hg
  obtain ⟨b,hb,hv⟩:=hp sz eH oa
  rcases E.eb id b hb _ hg (by simp) hid with h4 | ⟨tv,l1,rQ,l2,e1,e2,e3⟩
  ·exact ⟨b,h4,hv⟩
  ·cases e2
 | Zak id off len v hid hone hp=>
  refine .Zak id off len v (E.next _ hid) hone fun sz af hg => ?_
  obtain ⟨eH,oa,hl⟩:=E.af id hid sz af hg
  obtain ⟨h1,h2⟩:=hp sz eH oa
  refine ⟨by omega,?_⟩
  rcases h2 with ⟨hn,hr,hv⟩ | ⟨b,cap,c,e,hb,hv,hle,hw,hcap⟩
  ·rcases E.cE id hn hid _ hg (by simp) with h4 | ⟨tv,l1,rQ,l2,e1,e2,e3⟩
   ·refine .inl ⟨h4,?_,hv⟩
    subst hr
    exact List.eq_nil_of_length_eq_zero (by simpa using hl.symm)
   ·cases e2
  ·rcases E.eb id b hb _ hg (by simp) hid with h4 | ⟨tv,l1,rQ,l2,e1,e2,e3⟩
   ·obtain ⟨c',ia,hs'⟩:=E.shape b c e hw
    exact .inr ⟨b,cap,c',e,h4,hv,hle,ia,by rw [hs'];exact hcap⟩
   ·cases e2
 | func f first bp vf vc hlf hlc hf hc Ab CR=>exact .func f first bp vf vc hlf hlc Ab CR
 | map id v hid h1 hp=>
  refine .map id v (E.next _ hid) h1 fun es hg => ?_
  obtain ⟨tu,oa⟩:=E.maps id hid es hg
  obtain ⟨b,hb,hv⟩:=hp tu oa
  rcases E.eb id b hb _ hg (by simp) hid with h4 | ⟨tv,l1,rQ,l2,e1,e2,e3⟩
  ·exact ⟨b,h4,hv⟩
  ·cases e2
 | agg cs vs hl h1 hr ih=>exact .agg cs vs hl h1 ih
 | tuple cs vs hl hr ih=>exact .tuple cs vs hl ih
 | eB l id hid hp=>
  refine .eB l id (E.next _ hid) fun R s pe hg => ?_
  obtain ⟨s0,Aa,oa⟩:=E.fB id hid l R s pe hg
  rcases E.eb id l (hp R s0 Aa oa) _ hg (by simp) hid with h4 | ⟨_,_,_,_,_,e2,_⟩
  ·exact h4
  ·cases e2
theorem bW.refl (g:Gh) (h:Nat→Option aG) (N:Nat→Prop) (w:World):bW g h N w g h N w where
 os:=rfl
 tape:=rfl
 output:=rfl
 size:=ug _
 old:=fun _ _ _=>⟨rfl,rfl⟩
 own:=fun _ h=>.inl h
 bY:=fun _=>ug _
 cell:=iD.refl _ _
 shape:=fun b c e h=>⟨c,h,rfl⟩
 next:=fun _ h=>h
 eb:=fun i b h _ _ _ _=>.inl h
 cE:=fun i h _ _ _ _=>.inl h
 af:=fun i _ sz af h=>⟨af,h,rfl⟩
 cR:=fun i _ sz len h=>⟨len,h,ug _⟩
 maps:=fun i _ es h=>⟨es,h⟩
 fB:=fun i _ l R s pe h=>⟨s,pe,h⟩
theorem bW.trans {g₁ g₂ g₃:Gh} {h₁ h₂ h₃:Nat→Option aG} {N₁ N₂ N₃:Nat→Prop} {w₁ w₂ w₃:World}
  (A:bW g₁ h₁ N₁ w₁ g₂ h₂ N₂ w₂) (B:bW g₂ h₂ N₂ w₂ g₃ h₃ N₃ w₃):bW g₁ h₁ N₁ w₁ g₃ h₃ N₃ w₃ where
 os:=B.os.trans A.os
 tape:=B.tape.trans A.tape
 output:=B.output.trans A.output
 size:=uq A.size B.size
 old:=fun b hb ho=>by
  obtain ⟨h1,h2⟩:=A.old b hb ho
  have ho':¬ vL g₂ b:=fun h=>(A.own b h).elim ho (fun h=>by omega)
  obtain ⟨h3,h4⟩:=B.old b (ui hb A.size) ho'
  exact ⟨h3.trans h1,h4.trans h2⟩
 own:=fun b h=>by
  rcases B.own b h with h | h
  ·exact A.own b h
  ·exact .inr (uq A.size h)
 bY:=fun b=>uq (A.bY b) (B.bY b)
 cell:=⟨fun b o h=>(B.cell.c b o (ui h (A.bY b))).trans (A.cell.c b o h),fun b bO clock hz hb=>(B.cell.m b bO clock (ui hz (A.bY b)) ((A.cell.m b bO clock hz hb).trans hb)).trans (A.cell.m b bO clock hz hb)⟩
 shape:=fun b c e h=>by
  obtain ⟨c',h1,h2⟩:=A.shape b c e h
  obtain ⟨c'',h3,h4⟩:=B.shape b c' e h1
  exact ⟨c'',h3,h4.trans h2⟩
 next:=fun i h=>B.next i (A.next i h)
 eb:=fun i b h o ho hnd hi=>by
  cases o with
  | af sz af=>
   obtain ⟨r2,fc,_⟩:=B.af i (A.next _ hi) sz af ho
   rcases A.eb i b h _ fc (by simp) hi with h1 | ⟨_,_,_,_,_,e2,_⟩
   ·rcases B.eb i b h1 _ ho (by simp) (A.next _ hi) with h3 | ⟨_,_,_,_,_,e2,_⟩
    ·exact .inl h3
    ·cases e2
   ·cases e2
  | aV sz len=>
   obtain ⟨l2,fc,hl2⟩:=B.cR i (A.next _ hi) sz len ho
   obtain ⟨l1,fZ,fK⟩:=A.cR i hi sz l2 fc
   by_cases hlt:l1 < len
   ·exact .inr ⟨sz,l1,sz,len,fZ,rfl,hlt⟩
   ·rcases A.eb i b h _ fc (by simp) hi with h1 | ⟨_,_,_,_,e1,e2,e3⟩
    ·rcases B.eb i b h1 _ ho (by simp) (A.next _ hi) with h3 | ⟨_,_,_,_,e1,e2,e3⟩
     ·exact .inl h3
     ·rw [fc] at e1;cases e1;cases e2;omega
    ·rw [fZ] at e1;cases e1;cases e2;omega
  | lp l R s pe=>
   obtain ⟨s2,CS,fc⟩:=B.fB i (A.next _ hi) l R s pe ho
   rcases A.eb i b h _ fc (by simp) hi with h1 | ⟨_,_,_,_,_,e2,_⟩
   ·rcases B.eb i b h1 _ ho (by simp) (A.next _ hi) with h3 | ⟨_,_,_,_,_,e2,_⟩
    ·exact .inl h3
    ·cases e2
   ·cases e2
  | map es=>
   obtain ⟨r2,fc⟩:=B.maps i (A.next _ hi) es ho
   rcases A.eb i b h _ fc (by simp) hi with h1 | ⟨_,_,_,_,_,e2,_⟩
   ·rcases B.eb i b h1 _ ho (by simp) (A.next _ hi) with h3 | ⟨_,_,_,_,_,e2,_⟩
    ·exact .inl h3
    ·cases e2
   ·cases e2
  | dead=>exact absurd rfl hnd
 cE:=fun i h hi o ho hnd=>by
  cases o with
  | af sz af=>
   obtain ⟨r2,fc,_⟩:=B.af i (A.next _ hi) sz af ho
   rcases A.cE i h hi _ fc (by simp) with h1 | ⟨_,_,_,_,_,e2,_⟩
   ·rcases B.cE i h1 (A.next _ hi) _ ho (by simp) with h3 | ⟨_,_,_,_,_,e2,_⟩
    ·exact .inl h3
    ·cases e2
   ·cases e2
  | aV sz len=>
   obtain ⟨l2,fc,hl2⟩:=B.cR i (A.next _ hi) sz len ho
   obtain ⟨l1,fZ,fK⟩:=A.cR i hi sz l2 fc
   by_cases hlt:l1 < len
   ·exact .inr ⟨sz,l1,sz,len,fZ,rfl,hlt⟩
   ·rcases A.cE i h hi _ fc (by simp) with h1 | ⟨_,_,_,_,e1,e2,e3⟩
    ·rcases B.cE i h1 (A.next _ hi) _ ho (by simp) with h3 | ⟨_,_,_,_,e1,e2,e3⟩
     ·exact .inl h3
     ·rw [fc] at e1;cases e1;cases e2;omega
    ·rw [fZ] at e1;cases e1;cases e2;omega
  | lp l R s pe=>
   obtain ⟨s2,CS,fc⟩:=B.fB i (A.next _ hi) l R s pe ho
   rcases A.cE i h hi _ fc (by simp) with h1 | ⟨_,_,_,_,_,e2,_⟩
   ·rcases B.cE i h1 (A.next _ hi) _ ho (by simp) with h3 | ⟨_,_,_,_,_,e2,_⟩
    ·exact .inl h3
    ·cases e2
   ·cases e2
  | map es=>
   obtain ⟨r2,fc⟩:=B.maps i (A.next _ hi) es ho
   rcases A.cE i h hi _ fc (by simp) with h1 | ⟨_,_,_,_,_,e2,_⟩
   ·rcases B.cE i h1 (A.next _ hi) _ ho (by simp) with h3 | ⟨_,_,_,_,_,e2,_⟩
    ·exact .inl h3
    ·cases e2
   ·cases e2
  | dead=>exact absurd rfl hnd
 af:=fun i hi sz af ho=>by
  obtain ⟨r2,fc,hl2⟩:=B.af i (A.next _ hi) sz af ho
  obtain ⟨r1,fZ,fK⟩:=A.af i hi sz r2 fc
  exact ⟨r1,fZ,fK.trans hl2⟩
 cR:=fun i hi sz len ho=>by
  obtain ⟨l2,fc,hl2⟩:=B.cR i (A.next _ hi) sz len ho
  obtain ⟨l1,fZ,fK⟩:=A.cR i hi sz l2 fc
  exact ⟨l1,fZ,uq fK hl2⟩
 maps:=fun i hi es ho=>by
  obtain ⟨r2,fc⟩:=B.maps i (A.next _ hi) es ho
  exact A.maps i hi r2 fc
 fB:=fun i hi l R s pe ho=>by
  obtain ⟨s2,CS,fc⟩:=B.fB i (A.next _ hi) l R s pe ho
  exact A.fB i hi l R s2 CS fc
inductive aZ where
 | t (n:Nat)
 | c (x:AV)
 | m (n:Nat) (l:List (Nat×Nat))
 deriving Inhabited
inductive cO where
 | dR (x:aZ)
 | pick (c a b:aZ)
 | alloc (sz:Nat) (af:List (List AV))
 | box (sz:Nat) (x:aZ)
 | build (zero:List AV) (parts:List (Nat×Nat×aZ))
 | cZ (sz:Nat) (zero:List AV) (len:Nat) (parts:List (Nat×aZ))
 | load (agg:Bool) (n:Nat) (x:aZ)
 | store (n:Nat) (x v:aZ)
 | nR (off:Nat) (x:aZ)
 | idx (sz:Nat) (x i:aZ)
 | idxa (len sz:Nat) (x i:aZ)
 | bin (op:BinOp) (x y:aZ)
 | oZ (neg:Bool) (x y:aZ)
 | eqs (neg:Bool) (ks:List Nat) (x y:aZ)
 | eS (neg:Bool) (x y:aZ)
 | not (x:aZ)
 | neg (x:aZ)
 | conv (k:IntKind) (x:aZ)
 | len (x:aZ)
 | lens (x:aZ)
 | lenm (x:aZ)
 | mm (max:Bool) (x y:aZ)
 | app (sz bG:Nat) (s x:aZ)
 | ext (x:aZ) (i:Nat)
 | pH (f:Nat) (first bp:List aZ)
 | eV
 | look (str:Bool) (zero:AV) (ok:Bool) (m k:aZ)
 | upd (str:Bool) (m k v:aZ)
 | del (str:Bool) (m k:aZ)
 | mks (sz bG:Nat) (zero:List AV) (n:aZ)
 | slc (sz:Nat) (x:aZ) (lo hi:Option aZ)
 | o3 (x:aZ)
 | copy (sz:Nat) (d s:aZ)
 | ixa (len sz:Nat) (x i:aZ)
 | BE (t:Nat) (x:aZ)
 | eqnm (neg:Bool) (x y:aZ)
 | cut (ag:Bool) (off n:Nat) (x:aZ)
 | call (f:aZ) (args:List aZ)
 deriving Inhabited
def zo {α:Type}:List (Nat×α)→Nat→α→List (Nat×α)
 | [],i,x=>[(i,x)]
 | (k,v)::r,i,x=>if k=i then (i,x)::r else (k,v)::zo r i x
theorem zp {α:Type} (l:List (Nat×α)) (i:Nat) (x:α) (j:Nat):za (zo l i x) j=if i=j then some x else za l j:=by
 induction l with
 | nil=>simp [zo,za]
 | cons p r ih=>
  obtain ⟨k,v⟩:=p
  simp only [zo]
  split
  ·rename_i hk
   subst hk
   simp only [za]
   split<;>rfl
  ·rename_i hk
   simp only [za,ih]
   split
   ·rename_i hkj
    rw [if_neg (by omega)]
   ·rfl
def bz:List (Nat×aG)→(Nat→Option aG)→Nat→Option aG
 | [],h=>h
 | (k,o)::r,h=>fun i=>if k=i then some o else bz r h i
def aM {α β:Type} (f:α→Option β):List α→Option (List β)
 | []=>some []
 | a::r=>match f a with
  | some b=>match aM f r with
   | some bs=>some (b::bs)
   | none=>none
  | none=>none
def cellsOf:AV→Option (List AV)
 | .ax (.agg l)=>some (l.map .ax)
 | .agg l=>some l
 | .ax (.tuple _) | .top | .undef | .tuple _=>none
 | x=>some [x]
def qV (row:List AV) (o:Nat) (cs:List AV):List AV:=row.take o++cs++row.drop (o+cs.length)
def yP (op:BinOp):IV→IV→Option IV
 | .int k a,.int k' b=>
  match op with
  | .shl=>if b < 0 then none else some (.int k (k.wrap (a*2 ^ (min b.toNat k.bits))))
  | .shr=>if b < 0 then none else some (.int k (a.fdiv (2 ^ (min b.toNat k.bits))))
  | _=>
  if k=k' then
   match op with
   | .add=>some (.int k (k.wrap (a+b)))
   | .sub=>some (.int k (k.wrap (a - b)))
   | .mul=>some (.int k (k.wrap (a*b)))
   | .quo=>if b=0 then none else some (.int k (k.wrap (a.tdiv b)))
   | .rem=>if b=0 then none else some (.int k (a.tmod b))
   | .and=>some (.int k (k.wrap ((BitVec.ofInt k.bits a &&& BitVec.ofInt k.bits b).toNat)))
   | .eql=>some (.bool (a == b))
   | .neq=>some (.bool (a != b))
   | .lss=>some (.bool (decide (a < b)))
   | .leq=>some (.bool (decide (a≤b)))
   | .gtr=>some (.bool (decide (b < a)))
   | .geq=>some (.bool (decide (b≤a)))
   | _=>none
  else none
 | .str a,.str b=>
  match op with
  | .eql=>some (.bool (a.toList == b.toList))
  | .neq=>some (.bool (!(a.toList == b.toList)))
  | _=>none
 | _,_=>none
def qR:IV→IV→Option Bool
 | .int k a,.int k' b=>if k=k' then some (a == b) else none
 | .bool a,.bool b=>some (a == b)
 | .str a,.str b=>some (a == b)
 | _,_=>none
def Qz:Nat→IV→IV→Option Bool
 | 0,.int k a,.int k' b=>if k=k' then some (a == b) else none
 | 1,.bool a,.bool b=>some (a == b)
 | 2,.str a,.str b=>some (a == b)
 | _,_,_=>none
def qt:List Nat→List IV→List IV→Option Bool
 | [],[],[]=>some true
 | k::ks,a::cD,b::bs=>match Qz k a b with
  | some x=>match qt ks cD bs with
   | some y=>some (x&&y)
   | none=>none
  | none=>none
 | _,_,_=>none
def zE (h:Nat→Option aG):Nat→AV→Option IV
 | 0,_=>none
 | d+1,x=>match x with
  | .ax x=>some x
  | .nil=>some (.slice [])
  | .cw=>some (.slice [])
  | .aU _ af=>some (.slice af)
  | .agg cs=>(aM (zE h d) cs).map .agg
  | .tuple cs=>(aM (zE h d) cs).map .tuple
  | .Zak id off len=>match h id with
   | some (.af _ af)=>if off+len≤af.length then (aM (fun row:List AV=>aM (zE h d) row) ((af.drop off).take len)).map .slice else none
   | _=>none
  | .map id=>match h id with
   | some (.map es)=>(aM (fun e:IV×AV=>(zE h d e.2).map fun y=>(e.1,y)) es).map .ff
   | _=>none
  | _=>none
def xe:Nat→AV→Bool
 | 0,_=>false
 | d+1,x=>match x with
  | .ax _ | .nil | .cw | .aU _ _=>true
  | .agg cs | .tuple cs=>cs.all (xe d)
  | _=>false
def jl:AV→Option IV
 | .ax x=>some x
 | .nil=>some (.slice [])
 | .cw=>some (.slice [])
 | .aU _ af=>some (.slice af)
 | _=>none
def ZZ:AV→Option (List IV)
 | .ax (.agg l)=>some l
 | .agg cs=>aM jl cs
 | _=>none
def xK (h:Nat→Option aG):AV→Option (List (List IV))
 | .ax (.slice af) | .aU _ af=>some af
 | .nil=>some []
 | .cw=>some []
 | .Zak id off len=>match h id with
  | some (.af _ af)=>if off+len≤af.length then aM (fun row:List AV=>aM jl row) ((af.drop off).take len) else none
  | _=>none
 | _=>none
def jV (h:Nat→Option aG):AV→Option (List (List AV))
 | .Zak id off len=>match h id with
  | some (.af _ af)=>if off+len≤af.length then some ((af.drop off).take len) else none
  | _=>none
 | x=>(xK h x).map (·.map (·.map .ax))
def ww (h:Nat→Option aG):AV→Option Nat
 | .ax (.slice af) | .aU _ af=>some af.length
 | .nil=>some 0
 | .cw=>some 0
 | .Zak id _ len=>match h id with
  | some (.af _ _)=>some len
  | _=>none
 | _=>none
def vr (zero:List AV):List (Nat×Nat×List AV)→Option (List AV)
 | []=>some zero
 | (o,n,cs)::r=>if cs.length=n∧o+n≤zero.length then vr (qV zero o cs) r else none
def j7 (af:List (List AV)) (sz:Nat):List (Nat×List AV)→Option (List (List AV))
 | []=>some af
 | (i,cs)::r=>if cs.length=sz∧i < af.length then j7 (af.set i cs) sz r else none
def zP (k:IV):List (IV×AV)→Option AV
 | []=>none
 | (k',x)::r=>match qR k k' with
  | some true=>some x
  | some false=>zP k r
  | none=>none
def qF (k:IV) (v:AV):List (IV×AV)→List (IV×AV)
 | []=>[(k,v)]
 | (k',x)::r=>match qR k k' with
  | some true=>(k,v)::r
  | _=>(k',x)::qF k v r
def qW (k:IV):List (IV×AV)→List (IV×AV)
 | []=>[]
 | (k',x)::r=>match qR k k' with
  | some true=>r
  | _=>(k',x)::qW k r
def xL:AV→AV
 | .agg cs=>match aM jl cs with
  | some l=>.ax (.agg l)
  | none=>.agg cs
 | x=>x
def WO:AV→Option (List AV)
 | .ax (.agg l)=>some (l.map .ax)
 | .agg cs=>some cs
 | _=>none
def xk (h:Nat→Option aG):AV→Option (List (IV×AV))
 | .map i=>match h i with
  | some (.map es)=>some es
  | _=>none
 | .ax (.ff es)=>some (es.map fun e=>(e.1,.ax e.2))
 | .ax .cY=>some []
 | _=>none
def vM (h:Nat→Option aG):AV→Option Bool
 | .map i=>match h i with
  | some (.map _)=>some false
  | _=>none
 | .ax (.ff _)=>some false
 | .ax .cY=>some true
 | _=>none
def xf:Bool→IV→Bool
 | false,.int _ _=>true
 | true,.str _=>true
 | _,_=>false
def qX (k:IV) (es:List (IV×AV)):Bool:=es.all fun e=>(qR k e.1).isSome
def JW (sz bG:Nat) (s x:AV) (h:Nat→Option aG) (id:Nat):Option (AV×List (Nat×aG)):=match xK h x with
 | some new=>if !(new.all fun row=>row.length == sz) then none else match s with
  | .nil=>if new.length*bG≤140737488355328 then some (.aU id new,[(id,.aV sz new.length)]) else none
  | .aU i af=>match h i with
   | some (.aV sz' len)=>if sz'=sz∧af.length=len∧(len+new.length)*bG≤140737488355328 then
    some (.aU i (af++new),[(i,.aV sz (len+new.length))]) else none
   | _=>none
  | _=>none
 | none=>none
def JX (sz bG:Nat) (s x:AV) (h:Nat→Option aG) (id:Nat):Option (AV×List (Nat×aG)):=match jV h x with
 | some new=>if !(new.all fun row=>row.length == sz) then none else match s with
  | .Zak i off len=>match h i with
   | some (.af sz' af)=>if sz'=sz∧off=0∧len=af.length∧(len+new.length)*bG≤140737488355328 then
    some (.Zak id 0 (len+new.length),[(id,.af sz (af++new)),(i,.dead)]) else none
   | _=>none
  | _=>none
 | none=>none
def BF (sz:Nat) (d x:AV) (h:Nat→Option aG):Option (AV×List (Nat×aG)):=match d with
 | .Zak i 0 len=>match h i with
  | some (.af sz' af)=>match jV h x with
   | some new=>if sz'=sz∧len=af.length∧new.length=len∧(new.all fun row=>row.length == sz)=true then some (.ax (.int .i64 (len:Int)),[(i,.af sz new)]) else none
   | none=>none
  | _=>none
 | _=>none
def wQ (sz:Nat):Nat→List AV→List (List AV)
 | 0,_=>[]
 | n+1,l=>l.take sz::wQ sz n (l.drop sz)
def ai (o:cO) (ev:aZ→AV) (h:Nat→Option aG) (id:Nat):Option (AV×List (Nat×aG)):=
 match o with
 | .dR x=>some (ev x,[])
 | .pick c a b=>match ev c with
  | .ax (.bool true)=>some (ev a,[])
  | .ax (.bool false)=>some (ev b,[])
  | _=>none
 | .alloc sz af=>some (.ptr id 0 0,[(id,.af sz af)])
 | .box sz x=>match cellsOf (ev x) with
  | some cs=>if cs.length=sz then some (.ptr id 0 0,[(id,.af sz [cs])]) else none
  | none=>none
 | .build zero parts=>match aM (fun p:Nat×Nat×aZ=>(cellsOf (ev p.2.2)).map fun cs=>(p.1,p.2.1,cs)) parts with
  | some ps=>match vr zero ps with
   | some cs=>some (.agg cs,[])
   | none=>none
  | none=>none
 | .cZ sz zero len parts=>match aM (fun p:Nat×aZ=>(cellsOf (ev p.2)).map fun cs=>(p.1,cs)) parts with
  | some ps=>match j7 (uD len zero) sz ps with
   | some af=>some (.Zak id 0 len,[(id,.af sz af)])
   | none=>none
  | none=>none
 | .load agg n x=>match ev x with
  | .ptr i r o=>match h i with
   | some (.af _ af)=>match af[r]? with
    | some row=>if agg then (if o+n≤row.length then some (.agg ((row.drop o).take n),[]) else none) else (row[o]?).map fun c=>(c,[])
    | none=>none
   | _=>none
  | .cz cells=>if agg then (if n≤cells.length then some (.ax (.agg (cells.take n)),[]) else none) else (cells[0]?).map fun c=>(.ax c,[])
  | _=>none
 | .store n x v=>match ev x,cellsOf (ev v) with
  | .ptr i r o,some cs=>match h i with
   | some (.af sz af)=>match af[r]? with
    | some row=>if cs.length=n∧o+n≤row.length then some (.undef,[(i,.af sz (af.set r (qV row o cs)))])
     else if cs.length=n∧n=af.length*sz∧r=0∧o=0 then some (.undef,[(i,.af sz (wQ sz af.length cs))]) else none
    | none=>none
   | _=>none
  | _,_=>none
 | .nR off x=>match ev x with
  | .ptr i r o=>match h i with
   | some (.af _ _)=>some (.ptr i r (o+off),[])
   | _=>none
  | .cz cells=>some (.cz (cells.drop off),[])
  | _=>none
 | .idx sz x i=>match ev i with
  | .ax (.int _ n)=>match ev x with
   | .ax (.slice af) | .aU _ af=>if 0≤n then
     match af[n.toNat]? with
     | some row=>if row.length=sz then some (.cz row,[]) else none
     | none=>none
    else none
   | .Zak j off len=>match h j with
    | some (.af sz' _)=>if sz'=sz∧0≤n∧n < len then some (.ptr j (off+n.toNat) 0,[]) else none
    | _=>none
   | _=>none
  | _=>none
 | .idxa len sz x i=>match ev i,ev x with
  | .ax (.int _ n),.ptr j 0 0=>match h j with
   | some (.af sz' af)=>if sz'=sz∧0≤n∧n < len then some (.ptr j n.toNat 0,[]) else none
   | _=>none
  | _,_=>none
 | .bin op x y=>match ev x,ev y with
  | .ax a,.ax b=>(yP op a b).map fun r=>(.ax r,[])
  | _,_=>none
 | .oZ neg x y=>match ev x,ev y with
  | .ax (.bool a),.ax (.bool b)=>some (.ax (.bool (if neg then !(a == b) else a == b)),[])
  | _,_=>none
 | .eqs neg ks x y=>match ZZ (ev x),ZZ (ev y) with
  | some a,some b=>match qt ks a b with
   | some r=>some (.ax (.bool (if neg then !r else r)),[])
   | none=>none
  | _,_=>none
 | .eS neg x y=>match ev y with
  | .nil=>match ev x with
   | .nil=>some (.ax (.bool (!neg)),[])
   | .cw=>some (.ax (.bool neg),[])
   | .ax (.slice (_::_))=>some (.ax (.bool neg),[])
   | .aU _ (_::_)=>some (.ax (.bool neg),[])
   | _=>none
  | _=>none
 | .not x=>match ev x with
  | .ax (.bool b)=>some (.ax (.bool !b),[])
  | _=>none
 | .neg x=>match ev x with
  | .ax (.int k n)=>some (.ax (.int k (k.wrap (0 - n))),[])
  | _=>none
 | .conv k x=>match ev x with
  | .ax (.int _ n)=>some (.ax (.int k (k.wrap n)),[])
  | _=>none
 | .len x=>match ww h (ev x) with
  | some n=>some (.ax (.int .i64 (n:Int)),[])
  | none=>none
 | .lens x=>match ev x with
  | .ax (.str s)=>some (.ax (.int .i64 (s.size:Int)),[])
  | _=>none
 | .lenm x=>match ev x with
  | .map i=>match h i with
   | some (.map es)=>some (.ax (.int .i64 (es.length:Int)),[])
   | _=>none
  | _=>none
 | .mm mx x y=>match ev x,ev y with
  | .ax (.int k a),.ax (.int _ b)=>some (.ax (.int k (if mx then (if a < b then b else a) else (if b < a then b else a))),[])
  | _,_=>none
 | .ext x i=>match ev x with
  | .ax (.tuple vs)=>(vs[i]?).map fun v=>(.ax v,[])
  | .tuple vs=>(vs[i]?).map fun v=>(v,[])
  | _=>none
 | .pH f first bp=>some (.func f (first.map ev) (bp.map ev),[])
 | .eV=>some (.map id,[(id,.map [])])
 | .look str zero ok m k=>match xk h (ev m),ev k with
  | some es,.ax k=>if xf str k&&qX k es then
    match zP k es with
    | some x=>some (if ok then .tuple [x,.ax (.bool true)] else x,[])
    | none=>some (if ok then .tuple [zero,.ax (.bool false)] else zero,[])
   else none
  | _,_=>none
 | .upd str m k v=>match ev m,ev k with
  | .map i,.ax k=>match h i with
   | some (.map es)=>if xf str k&&qX k es then some (.undef,[(i,.map (qF k (xL (ev v)) es))]) else none
   | _=>none
  | _,_=>none
 | .del str m k=>match ev m,ev k with
  | .map i,.ax k=>match h i with
   | some (.map es)=>if xf str k&&qX k es then some (.tuple [],[(i,.map (qW k es))]) else none
   | _=>none
  | _,_=>none
 | .mks sz bG zero n=>match ev n with
  | .ax (.int .i64 n)=>if 0≤n∧n < 2 ^ 31∧n*bG≤140737488355328 then some (.Zak id 0 n.toNat,[(id,.af sz (uD n.toNat zero))]) else none
  | _=>none
 | .app sz bG s x=>match ev s with
  | .Zak i off len=>JX sz bG (.Zak i off len) (ev x) h id
  | y=>JW sz bG y (ev x) h id
 | .slc sz x lo hi=>match ev x with
  | .ax (.slice af) | .aU _ af=>
   let l:Option Int:=match lo with | none=>some 0 | some y=>match ev y with | .ax (.int _ n)=>some n | _=>none
   let r:Option Int:=match hi with | none=>some (af.length:Int) | some y=>match ev y with | .ax (.int _ n)=>some n | _=>none
   match l,r with
   | some a,some b=>if 0≤a∧a≤b∧b≤(af.length:Int)∧(af.all fun row=>row.length == sz)=true then some (.ax (.slice ((af.take b.toNat).drop a.toNat)),[]) else none
   | _,_=>none
  | _=>none
 | .o3 x=>match ev x with
  | .ptr i r o=>match h i with
   | some (.af _ _)=>some (.ptr i r o,[])
   | _=>none
  | .cz cs=>some (.cz cs,[])
  | .func f a b=>some (.func f a b,[])
  | _=>none
 | .copy sz d x=>BF sz (ev d) (ev x) h
 | .ixa len sz x i=>match ev i,ev x with
  | .ax (.int _ n),.agg cs=>if sz=1∧0≤n∧n < len then (cs[n.toNat]?).map fun c=>(c,[]) else none
  | _,_=>none
 | .BE t x=>match ZZ (ev x) with
  | some l=>some (.ax (.iface t (.agg l)),[])
  | none=>none
 | .eqnm neg x y=>match ev y,vM h (ev x) with
  | .ax .cY,some b=>some (.ax (.bool (if neg then !b else b)),[])
  | _,_=>none
 | .cut ag off n x=>match WO (ev x) with
  | some cs=>if off+n≤cs.length then (if ag then some (.agg ((cs.drop off).take n),[]) else (cs[off]?).map fun c=>(c,[])) else none
  | none=>none
 | .call _ _=>none
def zd (env:List (Nat×AV)):aZ→AV
 | .t n=>(za env n).getD .top
 | .c x=>x
 | .m n l=>match (za env n).getD .top with
  | .ax (.iface t x)=>match za l t with
   | some f=>.func f [.ax x] []
   | none=>.top
  | _=>.top
def xP:Value→AV
 | .bool b=>.ax (.bool b)
 | .int k n=>.ax (.int k n)
 | .string s=>.ax (.str s)
 | .slice none 0 0=>.nil
 | .map none=>.ax .cY
 | _=>.top
def vN:Value→AV
 | .agg vs=>if vs.toList.all (·.oneCell') then xL (.agg (vs.toList.map xP)) else .top
 | v=>xP v
def Jc (l:List Nat) (f:Nat):Option Nat:=l.findIdx? (· == f)
def Vr (P:Program) (t:TypeId) (name:String):Option FuncId:=match P.info? t with
 | some i=>match i.methods.find? (·.name == name) with
  | some m=>match m.path.toList,m.func,P.underlying t with
   | [],some (f,false),some (.struct _)=>some f
   | _,_,_=>none
  | none=>none
 | none=>none
def yh (P:Program) (mo:List Nat) (name:String):List TypeId→List (Nat×Nat)
 | []=>[]
 | t::r=>match Vr P t name with
  | some f=>match Jc mo f with
   | some i=>(t,i)::yh P mo name r
   | none=>yh P mo name r
  | none=>yh P mo name r
def Ctx.bf (C:Ctx):Operand→aZ
 | .tmp t=>.t t
 | .const v=>.c (xP v)
 | .func f=>match Jc C.mo f with
  | some i=>.c (.func i [] [])
  | none=>.c .top
 | .global _=>.c .top
def JY (P:Program) (rec:TypeId→Option (List Nat)):Nat→List Field→Option (List Nat)
 | _,[]=>some []
 | n, f :: fs => if f.name ≠ "_" ∧ f.offset = n then
   match rec f.type with
   | some ks=>if (P.info? f.type).map (·.size)=some ks.length then
     match JY P rec (n+ks.length) fs with
     | some rest=>some (ks++rest)
     | none=>none
    else none
   | none=>none
  else none
def yQ (P:Program):Nat→TypeId→Option (List Nat)
 | 0,_=>none
 | d+1,t=>match P.underlying t with
  | some (.int _)=>some [0]
  | some .bool=>some [1]
  | some .string=>some [2]
  | some (.struct fs)=>if P.stoodInHeld t then none else JY P (yQ P d) 0 fs.toList
  | _=>none
def zz (P:Program) (t:TypeId):Option Nat:=(P.info? t).map (·.size)
def xz (P:Program) (t:TypeId):Option Nat:=(P.info? t).map (·.bytes)
def j8 (v:Value):Bool:=v.cells.toList.all (·.oneCell')
def qA (P:Program) (t:TypeId):Option (List AV):=match P.info? t with
 | some i=>match i.zero with
  | some v=>if j8 v then some (v.cells.toList.map xP) else none
  | none=>none
 | none=>none
def jB (P:Program) (t:TypeId):Option Bool:=match P.underlying t with
 | some (.struct _) | some (.array _ _)=>some true
 | some _=>some false
 | none=>none
def XV (C:Ctx) (op:BinOp) (t:TypeId) (x y:Operand):Option cO:=
 match C.P.underlying t with
 | some (.int _) | some .string=>some (.bin op (C.bf x) (C.bf y))
 | some .bool=>match op with
  | .eql=>some (.oZ false (C.bf x) (C.bf y))
  | .neq=>some (.oZ true (C.bf x) (C.bf y))
  | _=>none
 | some (.slice _)=>match op,y with
  | .eql,.const (.slice none 0 0)=>some (.eS false (C.bf x) (C.bf y))
  | .neq,.const (.slice none 0 0)=>some (.eS true (C.bf x) (C.bf y))
  | _,_=>none
 | some (.map _ _)=>match op,y with
  | .eql,.const (.map none)=>some (.eqnm false (C.bf x) (C.bf y))
  | .neq,.const (.map none)=>some (.eqnm true (C.bf x) (C.bf y))
  | _,_=>none
 | some (.struct _)=>match yQ C.P 9 t with
  | some ks=>if C.P.eqGuardType C.P.depth t then none else
   match op with
   | .eql=>some (.eqs false ks (C.bf x) (C.bf y))
   | .neq=>some (.eqs true ks (C.bf x) (C.bf y))
   | _=>none
  | none=>none
 | _=>none
def yR (C:Ctx) (b:Builtin) (args:List Operand) (ts:List TypeId):Option cO:=
 match b,args,ts with
 | .len,[x],[t]=>match C.P.underlying t with
  | some (.slice _)=>some (.len (C.bf x))
  | some .string=>some (.lens (C.bf x))
  | some (.map _ _)=>some (.lenm (C.bf x))
  | _=>none
 | .max,[x,y],_=>some (.mm true (C.bf x) (C.bf y))
 | .min,[x,y],_=>some (.mm false (C.bf x) (C.bf y))
 | .append,[s,x],[t,t']=>match C.P.underlying t,C.P.underlying t' with
  | some (.slice e),some (.slice _)=>match zz C.P e,xz C.P e,qA C.P e with
   | some sz,some bG,some z=>if 0 < sz∧z.length=sz∧0 < bG then some (.app sz bG (C.bf s) (C.bf x)) else none
   | _,_,_=>none
  | _,_=>none
 | .copy,[d,x],t::_=>match C.P.underlying t with
  | some (.slice e)=>match zz C.P e with
   | some sz=>some (.copy sz (C.bf d) (C.bf x))
   | none=>none
  | _=>none
 | .delete,[m,k],t::_=>match C.P.underlying t with
  | some (.map kt et)=>match C.P.underlying kt with
   | some .string=>some (.del true (C.bf m) (C.bf k))
   | _=>none
  | _=>none
 | _,_,_=>none
def kn (C:Ctx) (o:Op):Option cO:=
 match o with
 | .move x | .assign x=>some (.dR (C.bf x))
 | .pick c a b=>some (.pick (C.bf c) (C.bf a) (C.bf b))
 | .alloc t=>match C.P.underlying t with
  | some (.array n e)=>match zz C.P e,qA C.P t with
   | some sz,some z=>if z.length=n*sz∧0 < sz then some (.alloc sz (wQ sz n z)) else none
   | _,_=>none
  | some _=>match qA C.P t with
   | some z=>some (.alloc z.length [z])
   | none=>none
  | none=>none
 | .box t x=>match zz C.P t with
  | some sz=>some (.box sz (C.bf x))
  | none=>none
 | .build t parts=>match C.P.underlying t,qA C.P t with
  | some (.struct fs),some z=>
   match aM (fun p:Nat×Operand=>match fs[p.1]? with
    | some f=>match zz C.P f.type with
     | some n=>some (f.offset,n,C.bf p.2)
     | none=>none
    | none=>none) parts.toList with
   | some ps=>if (fs.toList.all fun f=>(zz C.P f.type).isSome) then some (.build z ps) else none
   | none=>none
  | some (.array n e),some z=>match zz C.P e with
   | some sz=>some (.build z (parts.toList.map fun p=>(p.1*sz,sz,C.bf p.2)))
   | none=>none
  | _,_=>none
 | .buildSlice t len parts=>match C.P.underlying t with
  | some (.slice e)=>match zz C.P e,qA C.P e with
   | some sz,some z=>if 0 < sz∧z.length=sz∧len*sz≤2 ^ 24 then some (.cZ sz z len (parts.toList.map fun p=>(p.1,C.bf p.2))) else none
   | _,_=>none
  | _=>none
 | .load t a=>match jB C.P t,zz C.P t with
  | some ag,some n=>some (.load ag n (C.bf a))
  | _,_=>none
 | .store t a v=>match zz C.P t with
  | some n=>some (.store n (C.bf a) (C.bf v))
  | none=>none
 | .fieldAddr s x f=>match C.P.underlying s with
  | some (.struct fs)=>match fs[f]? with
   | some fd=>match zz C.P fd.type with
    | some n=>if n=0 then none else some (.nR fd.offset (C.bf x))
    | none=>none
   | none=>none
  | _=>none
 | .field s x f=>match C.P.underlying s with
  | some (.struct fs)=>match fs[f]? with
   | some fd=>match zz C.P fd.type,jB C.P fd.type with
    | some n,some ag=>if n=0 then none else some (.cut ag fd.offset n (C.bf x))
    | _,_=>none
   | none=>none
  | _=>none
 | .indexAddr t x i=>match C.P.underlying t with
  | some (.slice e)=>match zz C.P e with
   | some sz=>some (.idx sz (C.bf x) (C.bf i))
   | none=>none
  | some (.array n e)=>match zz C.P e with
   | some sz=>some (.idxa n sz (C.bf x) (C.bf i))
   | none=>none
  | _=>none
 | .binOp op t x y _=>XV C op t x y
 | .unOp .not _ x=>some (.not (C.bf x))
 | .unOp .neg _ x=>some (.neg (C.bf x))
 | .convert s d x=>match C.P.underlying s,C.P.underlying d with
  | some (.int _),some (.int k)=>some (.conv k (C.bf x))
  | _,_=>none
 | .extract x i=>some (.ext (C.bf x) i)
 | .makeFunc (.func f) first bp=>match Jc C.mo f with
  | some i=>some (.pH i (first.toList.map C.bf) (bp.toList.map C.bf))
  | none=>none
 | .makeMap _ none=>some .eV
 | .lookup t m k ok=>match C.P.underlying t with
  | some (.map kt et)=>match C.P.underlying kt,C.P.info? et with
   | some (.int _),some i=>match i.zero with
    | some z=>some (.look false (vN z) ok (C.bf m) (C.bf k))
    | none=>none
   | some .string,some i=>match i.zero with
    | some z=>some (.look true (vN z) ok (C.bf m) (C.bf k))
    | none=>none
   | _,_=>none
  | _=>none
 | .mapUpdate t m k v=>match C.P.underlying t with
  | some (.map kt et)=>match C.P.underlying kt with
   | some (.int _)=>some (.upd false (C.bf m) (C.bf k) (C.bf v))
   | some .string=>some (.upd true (C.bf m) (C.bf k) (C.bf v))
   | _=>none
  | _=>none
 | .insert t m k v=>match C.P.underlying t with
  | some (.map kt et)=>match C.P.underlying kt with
   | some (.int _)=>some (.upd false (C.bf m) (C.bf k) (C.bf v))
   | some .string=>some (.upd true (C.bf m) (C.bf k) (C.bf v))
   | _=>none
  | _=>none
 | .nilCheck x=>some (.o3 (C.bf x))
 | .index t x i=>match C.P.underlying t with
  | some (.array n e)=>match zz C.P e,jB C.P e with
   | some sz,some false=>some (.ixa n sz (C.bf x) (C.bf i))
   | _,_=>none
  | _=>none
 | .makeSlice t (.tmp l) (.tmp c)=>match C.P.underlying t with
  | some (.slice e)=>match zz C.P e,xz C.P e,qA C.P e with
   | some sz,some bG,some z=>if l=c∧0 < sz∧z.length=sz then some (.mks sz bG z (.t l)) else none
   | _,_,_=>none
  | _=>none
 | .slice t x lo hi none=>match C.P.underlying t with
  | some (.slice e)=>match zz C.P e with
   | some sz=>some (.slc sz (C.bf x) (lo.map C.bf) (hi.map C.bf))
   | none=>none
  | _=>none
 | .call {callee:=.builtin b,args,argTypes}=>yR C b args.toList argTypes.toList
 | .call {callee:=.value f,args,argTypes:=_}=>some (.call (C.bf f) (args.toList.map C.bf))
 | .call {callee:=.invoke (.tmp r) name,args,argTypes:=_}=>some (.call (.m r (yh C.P C.mo name C.ifs)) (args.toList.map C.bf))
 | .makeInterface t x=>match C.P.underlying t with
  | some (.struct _)=>some (.BE t (C.bf x))
  | _=>none
 | _=>none
section
section
variable {C:Ctx} {g g':Gh} {h h':Nat→Option aG} {N N':Nat→Prop} {w w':World} {id:Nat}
def qh (N:Nat→Prop) (id:Nat):Nat→Prop:=fun i=>N i∨i=id
def Good (C:Ctx) (g:Gh) (h:Nat→Option aG) (N:Nat→Prop) (w:World) (id:Nat) (r:AV) (aO:List (Nat×aG)) (v:Value) (w':World):Prop:=
 ∃ g',bW g h N w g' (bz aO h) (qh N id) w'∧RH C g' (bz aO h) (qh N id) w'∧RV C g' (bz aO h) (qh N id) w' r v
theorem bW.add (g:Gh) (h:Nat→Option aG) (N:Nat→Prop) (w:World) (id:Nat):bW g h N w g h (qh N id) w where
 os:=rfl
 tape:=rfl
 output:=rfl
 size:=ug _
 old:=fun _ _ _=>⟨rfl,rfl⟩
 own:=fun _ h=>.inl h
 bY:=fun _=>ug _
 cell:=iD.refl _ _
 shape:=fun b c e h=>⟨c,h,rfl⟩
 next:=fun _ h=>.inl h
 eb:=fun i b h _ _ _ _=>.inl h
 cE:=fun i h _ _ _ _=>.inl h
 af:=fun i _ sz af h=>⟨af,h,rfl⟩
 cR:=fun i _ sz len h=>⟨len,h,ug _⟩
 maps:=fun i _ es h=>⟨es,h⟩
 fB:=fun i _ ll RR s pe h=>⟨s,pe,h⟩
theorem cC.keep (E:bW g h N w g' h' N' w') {b:Nat} {o:aG} (hb:w'.heap[b]?=w.heap[b]?) (hz:g'.Z b=g.Z b) (H:cC C g h N w b o) :
  cC C g' h' N' w' b o:=by
 cases o with
 | af sz af=>
  obtain ⟨h0,c,e,h1,h2,h3⟩:=H
  refine ⟨hz.trans h0,c,e,hb.trans h1,h2,fun i row j x hi hj => ?_⟩
  obtain ⟨cv,h4,h5,h6⟩:=h3 i row j x hi hj
  exact ⟨cv,h4,h5,h6.mono E⟩
 | aV sz len=>
  obtain ⟨c,e,h1,h2,h3⟩:=H
  exact ⟨c,e,hb.trans h1,hz.trans h2,h3⟩
 | map es=>
  obtain ⟨h0,bO,clock,h1,h2,h3⟩:=H
  refine ⟨hz.trans h0,bO,clock,hb.trans h1,h2,fun i k x hi => ?_⟩
  obtain ⟨e,h4,h5,h6⟩:=h3 i k x hi
  exact ⟨e,h4,h5,h6.mono E⟩
 | dead=>trivial
 | lp l R s pe=>exact ⟨hz.trans H.1,H.2.1,hb.trans H.2.2⟩
theorem RH.add (R:RH C g h N w) (id:Nat):RH C g h (qh N id) w where
 inj:=R.inj
 lt:=fun i b hb=>⟨(R.lt i b hb).1,.inl (R.lt i b hb).2⟩
 key:=fun i o ho=>.inl (R.key i o ho)
 obj:=fun i b o hb ho=>(R.obj i b o hb ho).keep (bW.add g h N w id) rfl rfl
 cQ:=R.cQ
 dX:=R.dX
 fix:=R.fix.eO (bW.add g h N w id)
theorem zs (R:RH C g h N w) {r:AV} {v:Value} (hr:RV C g h N w r v):Good C g h N w id r [] v w:=
 ⟨g,bW.add g h N w id,R.add id,hr.mono (bW.add g h N w id)⟩
theorem RH.lH (R:RH C g h N w) (hid:¬ N id):g.ρ id=none:=by
 cases hh:g.ρ id with
 | none=>rfl
 | some b=>exact absurd (R.lt id b hh).2 hid
def Gh.at (g:Gh) (id b:Nat) (z:Nat):Gh:=⟨fun i=>if i=id then some b else g.ρ i,fun k=>if k=b then z else g.Z k⟩
theorem qu (w:World) (o:Obj) {b:Nat} (hb:b < w.heap.size):(w.alloc o).heap[b]?=w.heap[b]?:=by
 show (w.heap.push o)[b]?=_
 rw [Array.getElem?_push,if_neg (by omega)]
theorem zW (w:World) (o:Obj):(w.alloc o).heap[w.heap.size]?=some o:=by
 show (w.heap.push o)[w.heap.size]?=_
 simp
theorem z6 {w:World} {b:Nat} {o:Obj} (hb:w.heap[b]?=some o):b < w.heap.size:=by
 rcases uJ b w.heap.size with h | h
 ·exact h
 ·rw [Array.getElem?_eq_none h] at hb;cases hb
theorem XW (R:RH C g h N w) (hid:¬ N id) (o:Obj) (ob:aG) (z:Nat):bW g h N w (g.at id w.heap.size z) (bz [(id,ob)] h) (qh N id) (w.alloc o):=by
 have ne:∀ i,N i→i≠id:=fun i hi e=>hid (e ▸ hi)
 have ne':∀ i,N i→id≠i:=fun i hi e=>hid (e ▸ hi)
 exact {
  os:=rfl
  tape:=rfl
  output:=rfl
  size:=by simp
  old:=fun b hb ho=>⟨qu w o hb,by simp only [Gh.at];rw [if_neg (by omega)]⟩
  own:=fun b ⟨i,hi⟩=>by
   simp only [Gh.at] at hi
   split at hi
   ·cases hi;exact .inr (ug _)
   ·exact .inl ⟨i,hi⟩
  bY:=fun b=>by
   simp only [Gh.at]
   split
   ·rename_i hb
    rcases uo (g.Z b) with h0 | h0
    ·omega
    ·have:=R.dX b h0;omega
   ·exact ug _
  cell:=iD.heap fun b hk=>qu w o (R.dX b hk)
  shape:=fun b c e hb=>⟨c,(qu w o (z6 hb)).trans hb,rfl⟩
  next:=fun i hi=>.inl hi
  eb:=fun i b hb o4 _ _ hi=>.inl (by simp only [Gh.at];rw [if_neg (ne i hi)];exact hb)
  cE:=fun i hb hi o4 _ _=>.inl (by simp only [Gh.at];rw [if_neg (ne i hi)];exact hb)
  af:=fun i hi sz af ho=>by
   simp only [bz] at ho
   rw [if_neg (ne' i hi)] at ho
   exact ⟨af,ho,rfl⟩
  cR:=fun i hi sz len ho=>by
   simp only [bz] at ho
   rw [if_neg (ne' i hi)] at ho
   exact ⟨len,ho,ug _⟩
  maps:=fun i hi es ho=>by
   simp only [bz] at ho
   rw [if_neg (ne' i hi)] at ho
   exact ⟨es,ho⟩
  fB:=fun i hi ll RR s pe ho=>by
   simp only [bz] at ho
   rw [if_neg (ne' i hi)] at ho
   exact ⟨s,pe,ho⟩}
theorem CU (R:RH C g h N w) (hid:¬ N id) (o:Obj) (ob:aG) (z:Nat)
  (ho:cC C (g.at id w.heap.size z) (bz [(id,ob)] h) (qh N id) (w.alloc o) w.heap.size ob) :
  RH C (g.at id w.heap.size z) (bz [(id,ob)] h) (qh N id) (w.alloc o):=by
 have E:=XW R hid o ob z
 refine ⟨fun i j b hi hj => ?_,fun i b hb => ?_,fun i o' ho' => ?_,fun i b o' hb ho' => ?_,fun i sz len ht hn => ?_,fun b hb => ?_,R.fix.eO E⟩
 ·simp only [Gh.at] at hi hj
  split at hi<;>split at hj
  ·rename_i h1 h2;rw [h1,h2]
  ·cases hi;have:=(R.lt j _ hj).1;omega
  ·cases hj;have:=(R.lt i _ hi).1;omega
  ·exact R.inj i j b hi hj
 ·simp only [Gh.at] at hb
  split at hb
  ·rename_i hi;cases hb;exact ⟨by simp,.inr hi⟩
  ·have:=R.lt i b hb;exact ⟨by simp;omega,.inl this.2⟩
 ·simp only [bz] at ho'
  split at ho'
  ·rename_i hi;exact .inr hi.symm
  ·exact .inl (R.key i o' ho')
 ·simp only [Gh.at] at hb
  simp only [bz] at ho'
  split at hb
  ·rename_i hi
   subst hi
   cases hb
   rw [if_pos rfl] at ho'
   cases ho'
   exact ho
  ·rename_i hi
   rw [if_neg (fun e=>hi e.symm)] at ho'
   have hlt:=(R.lt i b hb).1
   exact (R.obj i b o' hb ho').keep E (qu w o hlt) (by simp only [Gh.at];rw [if_neg (by omega)])
 ·simp only [Gh.at] at hn
  simp only [bz] at ht
  split at hn
  ·cases hn
  ·rename_i hi
   rw [if_neg (fun e=>hi e.symm)] at ht
   exact R.cQ i sz len ht hn
 ·simp only [Gh.at] at hb
  split at hb
  ·rename_i hh;subst hh;simp
  ·have:=R.dX b hb;simp;omega
theorem RH.mq (R:RH C g h N w):g.Z w.heap.size=0:=by
 rcases uo (g.Z w.heap.size) with h0 | h0
 ·exact h0
 ·have:=R.dX _ h0;omega
theorem Z0 (R:RH C g h N w) (hid:¬ N id) (c:Array Value) (e:TypeId) (sz:Nat) (af:List (List AV))
  (hsz:∀ (i:Nat) (row:List AV),af[i]?=some row→row.length=sz)
  (hc:∀ (i:Nat) (row:List AV) (j:Nat) (x:AV),af[i]?=some row→row[j]?=some x→∃ cv,c[i*sz+j]?=some cv∧cv.oneCell'=true∧RV C g h N w x cv)
  {r:AV} {v:Value}
  (hr:RV C (g.at id w.heap.size 0) (bz [(id,.af sz af)] h) (qh N id) (w.alloc (.cells c e (0,0))) r v) :
  Good C g h N w id r [(id,.af sz af)] v (w.alloc (.cells c e (0,0))):=by
 have E:=XW R hid (.cells c e (0,0)) (.af sz af) 0
 refine ⟨_,E,CU R hid _ _ _ ?_,hr⟩
 refine ⟨by simp [Gh.at],c,e,zW w _,hsz,fun i row j x h1 h2 => ?_⟩
 obtain ⟨cv,h3,h4,h5⟩:=hc i row j x h1 h2
 exact ⟨cv,h3,h4,h5.mono E⟩
theorem Vs (id b z:Nat) (ob:aG) (w:World):RV C (g.at id b z) (bz [(id,ob)] h) (qh N id) w (.ptr id 0 0) (.pointer (some ⟨b,0,none⟩)):=by
 refine .ptr id 0 0 _ (.inr rfl) rfl fun sz af _=>⟨b,by simp [Gh.at],by simp⟩
theorem ko {x:AV} {v:Value} {cs:List AV} (hx:cellsOf x=some cs) (hv:RV C g h N w x v) :
  cs.length=v.cells.size∧(∀ (j:Nat) (c:AV),cs[j]?=some c→∃ u,v.cells[j]?=some u∧u.oneCell'=true∧RV C g h N w c u):=by
 have single:∀ (x:AV) (v:Value),v.oneCell'=true→RV C g h N w x v→[x].length=v.cells.size ∧
   (∀ (j:Nat) (c:AV),[x][j]?=some c→∃ u,v.cells[j]?=some u∧u.oneCell'=true∧RV C g h N w c u):=fun x v h1 h2=>by
  have hc:v.cells = #[v]:=by cases v<;>first | rfl | simp [Value.oneCell'] at h1
  rw [hc]
  refine ⟨rfl,fun j c hj => ?_⟩
  cases j with
  | zero=>simp at hj;subst hj;exact ⟨v,by simp,h1,h2⟩
  | succ j=>simp at hj
 cases hv with
 | top v=>simp [cellsOf] at hx
 | undef=>simp [cellsOf] at hx
 | ax y v hr=>
  cases hr with
  | agg cs' vs hl h1 hr=>
   simp [cellsOf] at hx
   subst hx
   refine ⟨by simp [Value.cells,hl],fun j c hj => ?_⟩
   simp only [uk,ub] at hj
   obtain ⟨y,hy,rfl⟩:=hj
   have hlt:j < vs.length:=by rw [←hl];exact (ua.1 hy).1
   refine ⟨vs[j],by simp [Value.cells,hlt],h1 _ (uB hlt),.ax _ _ (hr j y _ hy (by simp [hlt]))⟩
  | tuple cs' vs hl hr=>simp [cellsOf] at hx
  | bool b=>simp [cellsOf] at hx;subst hx;exact single _ _ rfl (.ax _ _ (.bool b))
  | iface t x u hr'=>simp [cellsOf] at hx;subst hx;exact single _ _ rfl (.ax _ _ (.iface t x u hr'))
  | cY=>simp [cellsOf] at hx;subst hx;exact single _ _ rfl (.ax _ _ .cY)
  | ff es b bO clock ev hz hb hl hk hr'=>simp [cellsOf] at hx;subst hx;exact single _ _ rfl (.ax _ _ (.ff es b bO clock ev hz hb hl hk hr'))
  | int k n=>simp [cellsOf] at hx;subst hx;exact single _ _ rfl (.ax _ _ (.int k n))
  | str s=>simp [cellsOf] at hx;subst hx;exact single _ _ rfl (.ax _ _ (.str s))
  | nil=>simp [cellsOf] at hx;subst hx;exact single _ _ rfl (.ax _ _ .nil)
  | empty a cap=>simp [cellsOf] at hx;subst hx;exact single _ _ rfl (.ax _ _ (.empty a cap))
  | slice af b off cap sz cv hcap hsz hz hc hr=>
   simp [cellsOf] at hx;subst hx;exact single _ _ rfl (.ax _ _ (.slice af b off cap sz cv hcap hsz hz hc hr))
 | nil=>simp [cellsOf] at hx;subst hx;exact single _ _ rfl .nil
 | eB l id hid hp=>simp [cellsOf] at hx;subst hx;exact single _ _ rfl (.eB l id hid hp)
 | cw a cap=>simp [cellsOf] at hx;subst hx;exact single _ _ rfl (.cw a cap)
 | aU id af v hr hid ht=>
  simp [cellsOf] at hx;subst hx
  refine single _ _ ?_ (.aU id af v hr hid ht)
  cases hr<;>rfl
 | cz cells b off cv hz hc hr=>simp [cellsOf] at hx;subst hx;exact single _ _ rfl (.cz cells b off cv hz hc hr)
 | ptr id row off v hid h1 hp=>simp [cellsOf] at hx;subst hx;exact single _ _ h1 (.ptr id row off v hid h1 hp)
 | Zak id off len v hid h1 hp=>simp [cellsOf] at hx;subst hx;exact single _ _ h1 (.Zak id off len v hid h1 hp)
 | func f first bp vf vc hlf hlc hf hc=>simp [cellsOf] at hx;subst hx;exact single _ _ rfl (.func f first bp vf vc hlf hlc hf hc)
 | map id v hid h1 hp=>simp [cellsOf] at hx;subst hx;exact single _ _ h1 (.map id v hid h1 hp)
 | agg cs' vs hl h1 hr=>
  simp [cellsOf] at hx
  subst hx
  refine ⟨by simp [Value.cells,hl],fun j c hj => ?_⟩
  have hlt:j < vs.length:=by rw [←hl];exact (ua.1 hj).1
  exact ⟨vs[j],by simp [Value.cells,hlt],h1 _ (uB hlt),hr j c _ hj (by simp [hlt])⟩
 | tuple cs' vs hl hr=>simp [cellsOf] at hx
end
end
section
def zx (w:World) (b:Nat) (o:Obj):World:={w with heap:=w.heap.setIfInBounds b o}
def qn (c:Array Value) (k:Nat):List Value→Array Value
 | []=>c
 | v::vs=>qn (c.setIfInBounds k v) (k+1) vs
theorem jM (c:Array Value) (k:Nat) (vs:List Value):(qn c k vs).size=c.size:=by
 induction vs generalizing c k with
 | nil=>rfl
 | cons v vs ih=>simp [qn,ih]
theorem xQ (c:Array Value) (k:Nat) (vs:List Value) (hk:k+vs.length≤c.size) (j:Nat) :
  (qn c k vs)[j]?=if k≤j∧j < k+vs.length then vs[j - k]? else c[j]?:=by
 induction vs generalizing c k with
 | nil=>simp [qn];omega
 | cons v vs ih=>
  simp only [ur] at hk
  simp only [qn]
  rw [ih _ _ (by simp;omega)]
  simp only [ur,ud]
  by_cases h1:k=j
  ·subst h1
   rw [if_neg (by omega),if_pos rfl,if_pos (by omega),if_pos (by omega)]
   simp
  ·by_cases h2:k+1≤j∧j < k+1+vs.length
   ·rw [if_pos h2,if_pos (by omega)]
    rw [show j - k=(j - (k+1))+1 by omega]
    simp
   ·rw [if_neg h2,if_neg (by omega),if_neg (by omega)]
theorem zD (w:World) (b:Nat) (o:Obj) (hb:b < w.heap.size) (k:Nat):(zx w b o).heap[k]?=if k=b then some o else w.heap[k]?:=by
 simp only [zx,ud]
 by_cases h:b=k
 ·subst h;simp [hb]
 ·rw [if_neg h,if_neg (fun e=>h e.symm)]
theorem jc (w:World) (b:Nat) (o:Obj):(zx w b o).heap.size=w.heap.size:=by simp [zx]
theorem Mm (w:World) (b o:Nat) (v:Value) (c:Array Value) (e:TypeId) (f:Nat×Nat) (hb:w.heap[b]?=some (.cells c e f)) :
  w.setCell ⟨b,o,none⟩ v=zx w b (.cells (c.setIfInBounds o v) e f):=by
 have hlt:=z6 hb
 unfold World.setCell zx
 congr 1
 apply uG
 intro k
 rw [Array.getElem?_modify,ud]
 by_cases h:b=k
 ·subst h
  obtain ⟨h1,h2⟩:=uc.1 hb
  simp [h2,hlt]
 ·simp [h]
theorem Vt (w:World) (b:Nat) (o o':Obj):zx (zx w b o) b o'=zx w b o':=by
 simp only [zx,Array.setIfInBounds_setIfInBounds]
theorem YN (w:World) (b:Nat) (o:Obj) (hb:w.heap[b]?=some o):zx w b o=w:=by
 unfold zx
 have:w.heap.setIfInBounds b o=w.heap:=by
  apply uG
  intro k
  rw [ud]
  by_cases h:b=k
  ·subst h
   obtain ⟨h1,h2⟩:=uc.1 hb
   simp [h2,h1]
  ·simp [h]
 rw [this]
theorem qB {w:World} {b o:Nat} {c:Array Value} {e:TypeId} {f:Nat×Nat} (hb:w.heap[b]?=some (.cells c e f)):w.cell? ⟨b,o,none⟩=c[o]?:=by
 simp [World.cell?,hb]
theorem yi {P:Program} (vs:List Value):∀ (w:World) (b off i:Nat) (c:Array Value) (e:TypeId),w.heap[b]?=some (.cells c e (0,0)) →
  (∀ v∈vs,v.oneCell'=true)→off+i+vs.length≤c.size →
  (storeCells ⟨b,off,none⟩ vs i).run P w=.ok () (zx w b (.cells (qn c (off+i) vs) e (0,0))):=by
 induction vs with
 | nil=>
  intro w b off i c e hb _ _
  simp only [storeCells,qn,Sem.run_pure]
  rw [YN w b _ hb]
 | cons v vs ih=>
  intro w b off i c e hb h1 hl
  simp only [ur] at hl
  have CV:(⟨b,off,none⟩:Addr).add i=⟨b,off+i,none⟩:=by
   unfold Addr.add
   split
   ·rename_i h0;subst h0;rfl
   ·rfl
  have hcell:w.cell? ⟨b,off+i,none⟩=some (c[off+i]'(by omega)):=by
   rw [qB hb];simp
  have hfz:w.frozen? ⟨b,off+i,none⟩=false:=by
   simp [World.frozen?,hb]
  have hw:=Mm w b (off+i) v c e (0,0) hb
  have hb':(zx w b (.cells (c.setIfInBounds (off+i) v) e (0,0))).heap[b]?=some (.cells (c.setIfInBounds (off+i) v) e (0,0)):=by
   rw [zD w b _ (z6 hb)];simp
  have:=ih (zx w b (.cells (c.setIfInBounds (off+i) v) e (0,0))) b off (i+1) _ e hb' (fun u hu=>h1 u (uv _ hu)) (by simp;omega)
  simp only [storeCells,Sem.run_bind,CV,run_store P w _ v _ (h1 v uw),hcell,hfz,ux,if_false,Result.andThen,hw]
  rw [this,Vt]
  rfl
section
variable {C:Ctx} {g g':Gh} {h h':Nat→Option aG} {N N':Nat→Prop} {w w':World} {id:Nat}
theorem QA (R:RH C g h N w) {i b:Nat} (hi:g.ρ i=some b) (hz:g.Z b=0) (ob o4:aG) (cF:h i=some ob) (o':Obj)
  (hk:match ob,o4 with
   | .af sz af,.af sz' dY=>sz=sz'∧af.length=dY.length
   | .map _,.map _=>True
   | .lp l R _ _,.lp l' R' _ _=>l=l'∧R=R'
   | _,_=>False)
  (hs:∀ (c:Array Value) (e:TypeId),w.heap[b]?=some (.cells c e (0,0))→∃ c':Array Value,o'=.cells c' e (0,0)∧c'.size=c.size) :
  bW g h N w g (bz [(i,o4)] h) (qh N id) (zx w b o'):=by
 have hlt:=(R.lt i b hi).1
 exact {
  os:=rfl
  tape:=rfl
  output:=rfl
  size:=by rw [jc];exact ug _
  old:=fun k hk ho=>⟨by rw [zD w b o' hlt,if_neg (fun e=>ho ⟨i,by rw [e];exact hi⟩)],rfl⟩
  own:=fun k ho=>.inl ho
  bY:=fun _=>ug _
  cell:=iD.heap fun k ho=>by
   rw [zD w b o' hlt,if_neg (fun e=>by subst e;omega)]
  shape:=fun k c e hc=>by
   by_cases e1:k=b
   ·subst e1
    obtain ⟨c',h1,h2⟩:=hs c e hc
    exact ⟨c',by rw [zD w k o' hlt,if_pos rfl,h1],h2⟩
   ·exact ⟨c,by rw [zD w b o' hlt,if_neg e1];exact hc,rfl⟩
  next:=fun i hi=>.inl hi
  eb:=fun i b h _ _ _ _=>.inl h
  cE:=fun i h _ _ _ _=>.inl h
  af:=fun j hj sz af ho=>by
   simp only [bz] at ho
   split at ho
   ·rename_i e1
    subst e1
    cases ho
    cases ob with
    | af mh eH=>obtain ⟨rfl,h2⟩:=hk;exact ⟨eH,cF,h2⟩
    | aV _ _=>exact hk.elim
    | map _=>exact hk.elim
    | dead=>exact hk.elim
    | lp _ _ _ _=>exact hk.elim
   ·exact ⟨af,ho,rfl⟩
  cR:=fun j hj sz len ho=>by
   simp only [bz] at ho
   split at ho
   ·cases ho
    cases ob<;>exact hk.elim
   ·exact ⟨len,ho,ug _⟩
  maps:=fun j hj es ho=>by
   simp only [bz] at ho
   split at ho
   ·rename_i e1
    subst e1
    cases ho
    cases ob with
    | af mh eH=>exact hk.elim
    | aV _ _=>exact hk.elim
    | map tu=>exact ⟨tu,cF⟩
    | dead=>exact hk.elim
    | lp _ _ _ _=>exact hk.elim
   ·exact ⟨es,ho⟩
  fB:=fun j hj ll RR s pe ho=>by
   simp only [bz] at ho
   split at ho
   ·rename_i e1
    subst e1
    cases ho
    cases ob with
    | af mh eH=>exact hk.elim
    | aV _ _=>exact hk.elim
    | map tu=>exact hk.elim
    | dead=>exact hk.elim
    | lp l0 R0 s0 Aa=>obtain ⟨rfl,rfl⟩:=hk;exact ⟨s0,Aa,cF⟩
   ·exact ⟨s,pe,ho⟩}
theorem JZ (R:RH C g h N w) {i b:Nat} (hi:g.ρ i=some b) (o4:aG) (o':Obj) (hnt:∀ sz len,o4≠.aV sz len)
  (E:bW g h N w g (bz [(i,o4)] h) (qh N id) (zx w b o'))
  (ho:cC C g (bz [(i,o4)] h) (qh N id) (zx w b o') b o4) :
  RH C g (bz [(i,o4)] h) (qh N id) (zx w b o'):=by
 have hlt:=(R.lt i b hi).1
 refine ⟨R.inj,fun j k hk => ?_,fun j o hj => ?_,fun j k o hk hj => ?_,fun j sz len hj hn => ?_,fun k hk => ?_,R.fix.eO E⟩
 ·rw [jc];exact ⟨(R.lt j k hk).1,.inl (R.lt j k hk).2⟩
 ·simp only [bz] at hj
  split at hj
  ·rename_i e1;subst e1;exact .inl (R.lt i b hi).2
  ·exact .inl (R.key j o hj)
 ·simp only [bz] at hj
  split at hj
  ·rename_i e1
   subst e1
   cases hj
   rw [hi] at hk
   cases hk
   exact ho
  ·rename_i e1
   have hne:k≠b:=fun e=>e1 (R.inj i j b hi (e ▸ hk))
   exact (R.obj j k o hk hj).keep E (by rw [zD w b o' hlt,if_neg hne]) rfl
 ·simp only [bz] at hj
  split at hj
  ·cases hj;exact absurd rfl (hnt sz len)
  ·exact R.cQ j sz len hj hn
 ·rw [jc];exact R.dX k hk
theorem getElem?_putCells (row:List AV) (o:Nat) (cs:List AV) (ho:o+cs.length≤row.length) (j:Nat) :
  (qV row o cs)[j]?=if o≤j∧j < o+cs.length then cs[j - o]? else row[j]?:=by
 unfold qV
 rw [List.append_assoc,uE]
 have ht:(row.take o).length=o:=by simp;omega
 rw [ht]
 by_cases h1:j < o
 ·rw [if_pos h1,if_neg (by omega),List.getElem?_take_of_lt h1]
 ·rw [if_neg h1,uE]
  by_cases h2:j - o < cs.length
  ·rw [if_pos h2,if_pos (by omega)]
  ·rw [if_neg h2,if_neg (by omega),um]
   congr 1;omega
theorem vO (row:List AV) (o:Nat) (cs:List AV) (ho:o+cs.length≤row.length):(qV row o cs).length=row.length:=by
 unfold qV;simp;omega
theorem Mn (R:RH C g h N w) {i b:Nat} (hi:g.ρ i=some b) {sz:Nat} {af:List (List AV)} (cF:h i=some (.af sz af)) {r o:Nat} {row:List AV} (hr:af[r]?=some row)
  (cs:List AV) (vs:List Value) (hl:cs.length=vs.length) (h1:∀ v∈vs,v.oneCell'=true) (hv:∀ (j:Nat) (c:AV) (v:Value),cs[j]?=some c→vs[j]?=some v→RV C g h N w c v)
  (ho:o+cs.length≤row.length) :
  ∃ w',(storeCells ⟨b,r*sz+o,none⟩ vs 0).run C.P w=.ok () w' ∧
   Good C g h N w id .undef [(i,.af sz (af.set r (qV row o cs)))] undef w':=by
 obtain ⟨hz,c,e,hc,hlen,hcells⟩:=R.obj i b _ hi cF
 have hrow:=hlen r row hr
 have Ac:r < af.length:=(ua.1 hr).1
 have hsize:r*sz+o+vs.length≤c.size:=by
  rcases uo vs.length with h0 | h0
  ·rcases uo row.length with h2 | h2
   ·have:sz=0:=by omega
    subst this
    simp;omega
   ·obtain ⟨cv,h3,_⟩:=hcells r row (row.length - 1) (row[row.length - 1]'(by omega)) hr (by simp)
    have:=(uc.1 h3).1
    omega
  ·obtain ⟨cv,h3,_⟩:=hcells r row (o+vs.length - 1) (row[o+vs.length - 1]'(by omega)) hr (by simp)
   have:=(uc.1 h3).1
   omega
 refine ⟨_,yi vs w b (r*sz+o) 0 c e hc h1 (by omega),g,?_⟩
 have E:bW g h N w g (bz [(i,.af sz (af.set r (qV row o cs)))] h) (qh N id) (zx w b (.cells (qn c (r*sz+o+0) vs) e (0,0))):=
  QA R hi hz (.af sz af) _ cF _ ⟨rfl,by simp⟩ fun c' e' ia=>by
   rw [hc] at ia
   cases ia
   exact ⟨_,rfl,jM _ _ _⟩
 refine ⟨E,JZ R hi _ _ (fun _ _=>by simp) E ?_,.undef⟩
 refine ⟨hz,qn c (r*sz+o+0) vs,e,by rw [zD w b _ (z6 hc)];simp,fun k row' hk => ?_,fun k row' j x hk hj => ?_⟩
 ·rw [ut] at hk
  split at hk
  ·cases hk;rw [vO row o cs ho];exact hrow
  ·exact hlen k row' hk
 ·rw [xQ c _ vs (by omega)]
  rw [ut] at hk
  split at hk
  ·rename_i Fv
   subst Fv
   cases hk
   rw [getElem?_putCells row o cs ho] at hj
   have mr:j < sz:=by
    rw [←hrow,←vO row o cs ho]
    rw [←getElem?_putCells row o cs ho] at hj
    exact (ua.1 hj).1
   split at hj
   ·rename_i CW
    rw [if_pos (by omega)]
    have hlt:j - o < vs.length:=by omega
    refine ⟨vs[j - o],by rw [show r*sz+j - (r*sz+o+0)=j - o by omega];simp,h1 _ (uB hlt),?_⟩
    exact (hv (j - o) x _ hj (by simp)).mono E
   ·rename_i CW
    rw [if_neg (by omega)]
    obtain ⟨cv,h3,h4,h5⟩:=hcells r row j x hr hj
    exact ⟨cv,h3,h4,h5.mono E⟩
  ·rename_i Fv
   obtain ⟨cv,h3,h4,h5⟩:=hcells k row' j x hk hj
   have hj':j < sz:=by rw [←hlen k row' hk];exact (ua.1 hj).1
   rw [if_neg ?_]
   ·exact ⟨cv,h3,h4,h5.mono E⟩
   ·intro ⟨h6,h7⟩
    rcases uJ k r with hlt | hge
    ·have:(k+1)*sz≤r*sz:=ue sz hlt
     rw [ul] at this
     omega
    ·have hlt:r+1≤k:=by omega
     have:(r+1)*sz≤k*sz:=ue sz hlt
     rw [ul] at this
     omega
theorem J0 (R:RH C g h N w) {i b:Nat} (hi:g.ρ i=some b) {sz:Nat} {af new:List (List AV)} (cF:h i=some (.af sz af)) (hl:new.length=af.length) (hsz:∀ row∈new,row.length=sz)
  (news:List Value) (hn:news.length=new.length*sz) (h1:∀ u∈news,u.oneCell'=true)
  (hr:∀ (i:Nat) (row:List AV) (j:Nat) (c:AV),new[i]?=some row→row[j]?=some c→∃ u,news[i*sz+j]?=some u∧RV C g h N w c u) (r:AV) (v:Value) (hv:∀ g' h' N' w',RV C g' h' N' w' r v) :
  ∃ w',(storeCells ⟨b,0,none⟩ news 0).run C.P w=.ok () w'∧Good C g h N w id r [(i,.af sz new)] v w':=by
 obtain ⟨hz,c,e,hc,hlen,hcells⟩:=R.obj i b _ hi cF
 have hsize:news.length≤c.size:=by
  rcases uo news.length with h0 | h0
  ·omega
  ·have hs:0 < sz:=uH fun e=>by rw [e,Nat.mul_zero] at hn;omega
   have hrl:0 < af.length:=uH fun e=>by rw [hl,e,Nat.zero_mul] at hn;omega
   have hrow:af[af.length - 1]?=some (af[af.length - 1]'(by omega)):=by simp
   have hl2:=hlen _ _ hrow
   obtain ⟨cv,h3,_⟩:=hcells (af.length - 1) _ (sz - 1) ((af[af.length - 1]'(by omega))[sz - 1]'(by omega)) hrow (by simp)
   have hlt:=(uc.1 h3).1
   have:(af.length - 1)*sz+sz=af.length*sz:=by
    rw [←Nat.succ_mul];congr 1;omega
   rw [hn,hl]
   omega
 refine ⟨_,yi news w b 0 0 c e hc h1 (by omega),g,?_⟩
 have E:bW g h N w g (bz [(i,.af sz new)] h) (qh N id) (zx w b (.cells (qn c (0+0) news) e (0,0))):=
  QA R hi hz (.af sz af) _ cF _ ⟨rfl,hl.symm⟩ fun c' e' ia=>by
   rw [hc] at ia
   cases ia
   exact ⟨_,rfl,jM _ _ _⟩
 refine ⟨E,JZ R hi _ _ (fun _ _=>by simp) E ?_,hv _ _ _ _⟩
 refine ⟨hz,qn c (0+0) news,e,by rw [zD w b _ (z6 hc)];simp,fun k row' hk=>hsz row' (uj hk),fun k row' j x hk hj => ?_⟩
 obtain ⟨u,h3,h4⟩:=hr k row' j x hk hj
 have hlt:=(ua.1 h3).1
 refine ⟨u,?_,h1 u (uj h3),h4.mono E⟩
 rw [xQ c _ news (by omega),if_pos (by omega)]
 simpa using h3
end
end
end Go.Proofs.YtgpojcfkanjabaaGreatDoor
namespace Go.Proofs.YtgpojcfkanjabaaGreatDoor
open Go.RowKit
set_option linter.unusedSimpArgs false
set_option linter.unusedVariables false
section
def pI (P:Program) (s:Sem Next) (w:World) (v:Value) (w':World):Prop:=
 s.run P w=.ok (.value v) w'∨(s.run P w=.ok .skip w'∧v=undef)
section
variable {C:Ctx} {g g':Gh} {h h':Nat→Option aG} {N N':Nat→Prop} {w w':World} {id:Nat}
theorem wI {k:IntKind} {n:Int} {v:Value} (hv:RV C g h N w (.ax (.int k n)) v):v=.int k n:=by
 cases hv with | ax _ _ hr=>cases hr;rfl
theorem vt {b:Bool} {v:Value} (hv:RV C g h N w (.ax (.bool b)) v):v=.bool b:=by
 cases hv with | ax _ _ hr=>cases hr;rfl
theorem Mo {s:ByteArray} {v:Value} (hv:RV C g h N w (.ax (.str s)) v):v=.string s:=by
 cases hv with | ax _ _ hr=>cases hr;rfl
theorem xl {v:Value} (hv:RV C g h N w .nil v):v=.slice none 0 0:=by
 cases hv;rfl
theorem vg (v:Value):RV C g h N w (xP v) v:=by
 unfold xP
 split
 ·exact .ax _ _ (.bool _)
 ·exact .ax _ _ (.int _ _)
 ·exact .ax _ _ (.str _)
 ·exact .nil
 ·exact .ax _ _ .cY
 ·exact .top _
def aP (C:Ctx) (o:Oper) (ao:cO):Prop:=
 ∀ (g:Gh) (h:Nat→Option aG) (N:Nat→Prop) (w:World) (id:Nat) (ev:aZ→AV) (val:Operand→Value) (r:AV) (aO:List (Nat×aG)),
  RH C g h N w→¬ N id→(∀ x∈o.op.operands,RV C g h N w (ev (C.bf x)) (val x))→ai ao ev h id=some (r,aO) →
  ∃ v w',pI C.P (execOp val o) w v w'∧Good C g h N w id r aO v w'
theorem Kv {o:Oper} {x:Operand} (ho:o.op=.move x∨o.op=.assign x):aP C o (.dR (C.bf x)):=by
 intro g h N w id ev val r aO R hid hv he
 simp only [ai,Option.some.injEq,Prod.mk.injEq] at he
 obtain ⟨rfl,rfl⟩:=he
 have hx:RV C g h N w (ev (C.bf x)) (val x):=hv x (by rcases ho with ho | ho<;>simp [ho,Op.operands])
 exact ⟨val x,w,.inl (by rcases ho with ho | ho<;>simp [execOp,ho]),zs R hx⟩
theorem Mp {o:Oper} {c a b:Operand} (ho:o.op=.pick c a b):aP C o (.pick (C.bf c) (C.bf a) (C.bf b)):=by
 intro g h N w id ev val r aO R hid hv he
 have hc:=hv c (by simp [ho,Op.operands])
 simp only [ai] at he
 split at he
 ·rename_i e1
  rw [e1] at hc
  have:=vt hc
  simp only [Option.some.injEq,Prod.mk.injEq] at he
  obtain ⟨rfl,rfl⟩:=he
  exact ⟨val a,w,.inl (by simp [execOp,ho,asBool,this]),zs R (hv a (by simp [ho,Op.operands]))⟩
 ·rename_i e1
  rw [e1] at hc
  have:=vt hc
  simp only [Option.some.injEq,Prod.mk.injEq] at he
  obtain ⟨rfl,rfl⟩:=he
  exact ⟨val b,w,.inl (by simp [execOp,ho,asBool,this]),zs R (hv b (by simp [ho,Op.operands]))⟩
 ·cases he
theorem jN {P:Program} {t:TypeId} {z:List AV} (hz:qA P t=some z):∃ i v,P.info? t=some i∧i.zero=some v∧z=v.cells.toList.map xP:=by
 unfold qA at hz
 split at hz
 ·rename_i i hi
  split at hz
  ·rename_i v hv
   split at hz
   ·cases hz
    exact ⟨i,v,hi,hv,rfl⟩
   ·cases hz
  ·cases hz
 ·cases hz
theorem xR {P:Program} {t:TypeId} {z:List AV} (hz:qA P t=some z):∀ i v,P.info? t=some i→i.zero=some v→j8 v=true:=by
 intro i v hi hv
 unfold qA at hz
 simp only [hi,hv] at hz
 split at hz
 ·assumption
 ·cases hz
theorem J1 (sz:Nat):∀ (n:Nat) (l:List AV),(wQ sz n l).length=n
 | 0,l=>rfl
 | n+1,l=>by simp [wQ,J1 sz n]
theorem kp (sz:Nat):∀ (n:Nat) (l:List AV) (i:Nat) (row:List AV),l.length=n*sz→(wQ sz n l)[i]?=some row →
  row.length=sz∧∀ j x,row[j]?=some x→l[i*sz+j]?=some x
 | 0,l,i,row,hl,hi=>by simp [wQ] at hi
 | n+1,l,0,row,hl,hi=>by
  simp [wQ] at hi
  subst hi
  rw [ul] at hl
  refine ⟨by simp;omega,fun j x hj => ?_⟩
  rw [uy] at hj
  split at hj
  ·simpa using hj
  ·cases hj
 | n+1,l,i+1,row,hl,hi=>by
  simp [wQ] at hi
  rw [ul] at hl
  obtain ⟨h1,h2⟩:=kp sz n (l.drop sz) i row (by simp;omega) hi
  refine ⟨h1,fun j x hj => ?_⟩
  have:=h2 j x hj
  rw [um] at this
  rw [←this]
  congr 1
  rw [ul]
  omega
theorem kS {o:Oper} {t e:TypeId} {n sz:Nat} {z:List AV} (ho:o.op=.alloc t) (hz:qA C.P t=some z) (hl:z.length=n*sz)
  (h1:∀ i v,C.P.info? t=some i→i.zero=some v→j8 v=true):aP C o (.alloc sz (wQ sz n z)):=by
 intro g h N w id ev val r aO R hid hv he
 simp only [ai,Option.some.injEq,Prod.mk.injEq] at he
 obtain ⟨rfl,rfl⟩:=he
 obtain ⟨i,v,hi,iN,rfl⟩:=jN hz
 have hone:=h1 i v hi iN
 refine ⟨.pointer (some ⟨w.heap.size,0,none⟩),w.alloc (.cells v.cells t (0,0)),.inl ?_,?_⟩
 ·simp [execOp,ho,Instr.alloc,zeroValue,typeInfo,hi,iN,newVar,newRow]
 ·refine Z0 R hid _ _ _ _ (fun i row hr=>(kp sz n _ i row hl hr).1) (fun i row j x hr hj => ?_) (Vs id _ _ _ _)
  have hx:=(kp sz n _ i row hl hr).2 j x hj
  rw [uk,ub] at hx
  obtain ⟨u,hu,rfl⟩:=hx
  refine ⟨u,by simpa using hu,?_,vg u⟩
  exact uu.1 hone u (uj hu)
theorem Mq {o:Oper} {t:TypeId} {z:List AV} (ho:o.op=.alloc t) (hz:qA C.P t=some z)
  (h1:∀ i v,C.P.info? t=some i→i.zero=some v→j8 v=true):aP C o (.alloc z.length [z]):=by
 have:=kS (C:=C) (o:=o) (t:=t) (e:=0) (n:=1) (sz:=z.length) ho hz (by simp) h1
 simpa [wQ] using this
theorem Mr {o:Oper} {t:TypeId} {x:Operand} {sz:Nat} (ho:o.op=.box t x):aP C o (.box sz (C.bf x)):=by
 intro g h N w id ev val r aO R hid hv he
 have hx:=hv x (by simp [ho,Op.operands])
 simp only [ai] at he
 split at he
 ·rename_i cs hcs
  split at he
  ·rename_i hlen
   simp only [Option.some.injEq,Prod.mk.injEq] at he
   obtain ⟨rfl,rfl⟩:=he
   obtain ⟨h1,h2⟩:=ko hcs hx
   refine ⟨.pointer (some ⟨w.heap.size,0,none⟩),w.alloc (.cells (val x).cells t (0,0)),.inl ?_,?_⟩
   ·simp [execOp,ho,Instr.box,newVar,newRow]
   ·refine Z0 R hid _ _ _ _ (fun i row hr => ?_) (fun i row j y hr hj => ?_) (Vs id _ _ _ _)
    ·cases i with
     | zero=>simp at hr;subst hr;exact hlen
     | succ i=>simp at hr
    ·cases i with
     | zero=>simp at hr;subst hr;obtain ⟨u,hu,h3,h4⟩:=h2 j y hj;exact ⟨u,by simpa using hu,h3,h4⟩
     | succ i=>simp at hr
  ·cases he
 ·cases he
theorem wg {P:Program} {t:TypeId} {b:Bool} (hb:jB P t=some b) (w:World):(isAgg t).run P w=.ok b w:=by
 unfold jB at hb
 split at hb<;>(cases hb)<;>(rename_i hu;simp [isAgg,run_underlying hu])
theorem zT {P:Program} {t:TypeId} {n:Nat} (hn:zz P t=some n) (w:World):(sizeOf t).run P w=.ok n w:=by
 unfold zz at hn
 rw [ub] at hn
 obtain ⟨i,hi,rfl⟩:=hn
 simp [sizeOf,typeInfo,hi]
theorem qO (b o n:Nat):(⟨b,o,none⟩:Addr).add n=⟨b,o+n,none⟩:=by
 unfold Addr.add
 split
 ·rename_i h0;subst h0;rfl
 ·rfl
theorem Z2 {P:Program} {t:TypeId} {n:Nat} (hb:jB P t=some true) (hn:zz P t=some n) (w:World) (b o:Nat) (vs:List Value) (hl:vs.length=n)
  (hc:∀ j v,vs[j]?=some v→w.cell? ⟨b,o+j,none⟩=some v):(loadVar t ⟨b,o,none⟩).run P w=.ok (.agg vs.toArray) w:=by
 subst hl
 have:=run_loadCells_list (P:=P) w ⟨b,o,none⟩ vs (fun j v hj=>by rw [qO];exact hc j v hj)
 simp [loadVar,wg hb,zT hn,this]
theorem Z3 {P:Program} {t:TypeId} (hb:jB P t=some false) (w:World) (b o:Nat) (v:Value)
  (hc:w.cell? ⟨b,o,none⟩=some v):(loadVar t ⟨b,o,none⟩).run P w=.ok v w:=by
 simp [loadVar,wg hb,hc]
theorem yS {α β:Type} (l:List α) (R:Nat→α→β→Prop) (h:∀ j a,l[j]?=some a→∃ b,R j a b) :
  ∃ bs:List β,bs.length=l.length∧∀ j a b,l[j]?=some a→bs[j]?=some b→R j a b:=by
 induction l generalizing R with
 | nil=>exact ⟨[],rfl,fun j a b hj=>by simp at hj⟩
 | cons a l ih=>
  obtain ⟨b,hb⟩:=h 0 a rfl
  obtain ⟨bs,h1,h2⟩:=ih (fun j a b=>R (j+1) a b) (fun j a hj=>h (j+1) a (by simpa using hj))
  refine ⟨b::bs,by simp [h1],fun j a' b' hj hj' => ?_⟩
  cases j with
  | zero=>simp at hj hj';subst hj;subst hj';exact hb
  | succ j=>exact h2 j a' b' (by simpa using hj) (by simpa using hj')
theorem Kw {t:TypeId} {ag:Bool} {n:Nat} (hag:jB C.P t=some ag) (hn:zz C.P t=some n) (R:RH C g h N w) {ev:aZ→AV} {x:aZ} {vx:Value} (hx:RV C g h N w (ev x) vx) {id:Nat} {r:AV} {aO:List (Nat×aG)}
  (he:ai (.load ag n x) ev h id=some (r,aO)):∃ v,(Instr.loadAt t vx).run C.P w=.ok v w∧aO=[]∧RV C g h N w r v:=by
 simp only [ai] at he
 split at he
 ·rename_i i rr oo e1
  rw [e1] at hx
  split at he
  ·rename_i sz af cF
   split at he
   ·rename_i row hrow
    cases hx with
    | ptr _ _ _ v hni hone hp=>
     obtain ⟨b,hb,hval⟩:=hp sz af cF
     obtain ⟨hz,c,e,hc,hlen,hcells⟩:=R.obj i b _ hb cF
     cases ag with
     | true=>
      simp only [if_true] at he
      split at he
      ·rename_i hle
       simp only [Option.some.injEq,Prod.mk.injEq] at he
       obtain ⟨rfl,rfl⟩:=he
       obtain ⟨vs,h1,h2⟩:=yS ((row.drop oo).take n) (fun j a cv=>c[rr*sz+(oo+j)]?=some cv∧cv.oneCell'=true∧RV C g h N w a cv)
        (fun j a hj=>by
         rw [uy] at hj
         split at hj
         ·rw [um] at hj
          exact hcells rr row (oo+j) a hrow hj
         ·cases hj)
       have hl:((row.drop oo).take n).length=n:=by simp;omega
       have cS:∀ j v,vs[j]?=some v→∃ a,((row.drop oo).take n)[j]?=some a:=fun j v hj=>by
        have:j < ((row.drop oo).take n).length:=by rw [←h1];exact (ua.1 hj).1
        exact ⟨_,List.getElem?_eq_getElem this⟩
       refine ⟨.agg vs.toArray,?_,rfl,?_⟩
       ·have:=Z2 (P:=C.P) hag hn w b (rr*sz+oo) vs (by omega) (fun j v hj=>by
         obtain ⟨a,ha⟩:=cS j v hj
         rw [qB hc,←(h2 j a v ha hj).1]
         congr 1;omega)
        simp [Instr.loadAt,hval,Instr.sureAddr,this]
       ·refine .agg _ vs h1.symm (fun v hv => ?_) (fun j a v hj hj'=>(h2 j a v hj hj').2.2)
        obtain ⟨j,hj⟩:=un hv
        obtain ⟨a,ha⟩:=cS j v hj
        exact (h2 j a v ha hj).2.1
      ·cases he
     | false=>
      simp only [ux,if_false,ub,Prod.mk.injEq] at he
      obtain ⟨a,ha,rfl,rfl⟩:=he
      obtain ⟨cv,h3,h4,h5⟩:=hcells rr row oo a hrow ha
      refine ⟨cv,?_,rfl,h5⟩
      have:=Z3 (P:=C.P) hag w b (rr*sz+oo) cv (by rw [qB hc];exact h3)
      simp [Instr.loadAt,hval,Instr.sureAddr,this]
   ·cases he
  ·cases he
 ·rename_i cells e1
  rw [e1] at hx
  generalize hval:vx=vy at hx
  cases hx with
  | cz _ b off cv hz hc hr=>
   cases ag with
   | true=>
    simp only [if_true] at he
    split at he
    ·rename_i hle
     simp only [Option.some.injEq,Prod.mk.injEq] at he
     obtain ⟨rfl,rfl⟩:=he
     refine ⟨.agg ((uO n).map cv).toArray,?_,rfl,.ax _ _ (.agg _ _ (by simp;omega) (fun v hv => ?_) (fun j a v hj hj' => ?_))⟩
     ·have:=Z2 (P:=C.P) hag hn w b off ((uO n).map cv) (by simp) (fun j v hj=>by
       simp only [uk,ub] at hj
       obtain ⟨k,hk,rfl⟩:=hj
       obtain ⟨hk1,hk2⟩:=ua.1 hk
       simp at hk1 hk2
       subst hk2
       exact (hc j (cells[j]'(by omega)) (by simp)).1)
      simp [Instr.loadAt,hval,Instr.sureAddr,this]
     ·simp only [List.mem_map,List.mem_range] at hv
      obtain ⟨j,hj,rfl⟩:=hv
      exact (hc j (cells[j]'(by omega)) (by simp)).2
     ·simp only [uk,ub] at hj'
      obtain ⟨k,hk,rfl⟩:=hj'
      obtain ⟨hk1,hk2⟩:=ua.1 hk
      simp at hk1 hk2
      subst hk2
      rw [uy,if_pos hk1] at hj
      exact hr j a hj
    ·cases he
   | false=>
    simp only [ux,if_false,ub,Prod.mk.injEq] at he
    obtain ⟨a,ha,rfl,rfl⟩:=he
    refine ⟨cv 0,?_,rfl,.ax _ _ (hr 0 a ha)⟩
    have:=Z3 (P:=C.P) hag w b off (cv 0) (by have:=(hc 0 a ha).1;simpa using this)
    simp [Instr.loadAt,hval,Instr.sureAddr,this]
 ·cases he
theorem Ms {o:Oper} {t:TypeId} {x:Operand} {ag:Bool} {n:Nat} (ho:o.op=.load t x) (hag:jB C.P t=some ag) (hn:zz C.P t=some n):aP C o (.load ag n (C.bf x)):=by
 intro g h N w id ev val r aO R hid hv he
 obtain ⟨v,h1,rfl,h2⟩:=Kw hag hn R (hv x (by simp [ho,Op.operands])) he
 exact ⟨v,w,.inl (by simp [execOp,ho,h1]),zs R h2⟩
end
end
section
section
variable {C:Ctx} {g g':Gh} {h h':Nat→Option aG} {N N':Nat→Prop} {w w':World} {id:Nat}
theorem Mt {o:Oper} {t:TypeId} {x v:Operand} {n:Nat} (ho:o.op=.store t x v) (hn:zz C.P t=some n):aP C o (.store n (C.bf x) (C.bf v)):=by
 intro g h N w id ev val r aO R hid hv he
 have hx:=hv x (by simp [ho,Op.operands])
 have hy:=hv v (by simp [ho,Op.operands])
 simp only [ai] at he
 split at he
 ·rename_i i rr oo cs e1 e2
  rw [e1] at hx
  split at he
  ·rename_i sz af cF
   split at he
   ·rename_i row hrow
    split at he
    ·rename_i hle
     simp only [Option.some.injEq,Prod.mk.injEq] at he
     obtain ⟨rfl,rfl⟩:=he
     obtain ⟨h1,h2⟩:=ko e2 hy
     cases hx with
     | ptr _ _ _ _ hni hone hp=>
      obtain ⟨b,hb,hval⟩:=hp sz af cF
      have hmem:∀ u∈(val v).cells.toList,u.oneCell'=true:=fun u hu=>by
       obtain ⟨j,hj⟩:=un hu
       have hlt:j < cs.length:=by rw [h1];simpa using (ua.1 hj).1
       obtain ⟨u',o5,h3,_⟩:=h2 j cs[j] (by simp)
       simp only [uh] at hj
       rw [hj] at o5
       cases o5
       exact h3
      obtain ⟨w',hr,hg⟩:=Mn (id:=id) R hb cF hrow (o:=oo) cs (val v).cells.toList (by simpa using h1) hmem
       (fun j c u hj hj'=>by
        obtain ⟨u',o5,_,h4⟩:=h2 j c hj
        simp only [uh] at hj'
        rw [hj'] at o5
        cases o5
        exact h4) (by omega)
      refine ⟨undef,w',.inr ⟨?_,rfl⟩,hg⟩
      have hsz:(val v).cells.size=n:=by omega
      simp [execOp,ho,Instr.storeAt,hval,Instr.sureAddr,storeVar,zT hn,hsz,hr]
    ·split at he
     ·rename_i hle
      obtain ⟨fK,hl2,gF,Mu⟩:=hle
      simp only [Option.some.injEq,Prod.mk.injEq] at he
      obtain ⟨rfl,rfl⟩:=he
      obtain ⟨h1,h2⟩:=ko e2 hy
      subst gF Mu
      cases hx with
      | ptr _ _ _ _ hni hone hp=>
       obtain ⟨b,hb,hval⟩:=hp sz af cF
       have hmem:∀ u∈(val v).cells.toList,u.oneCell'=true:=fun u hu=>by
        obtain ⟨j,hj⟩:=un hu
        have hlt:j < cs.length:=by rw [h1];simpa using (ua.1 hj).1
        obtain ⟨u',o5,h3,_⟩:=h2 j cs[j] (by simp)
        simp only [uh] at hj
        rw [hj] at o5
        cases o5
        exact h3
       have dZ:cs.length=af.length*sz:=by omega
       have pJ:(wQ sz af.length cs).length=af.length:=J1 _ _ _
       obtain ⟨w',hr,hg⟩:=J0 (id:=id) R hb cF pJ (fun row hrow=>by
         obtain ⟨k,hk⟩:=un hrow
         exact (kp sz af.length cs k row dZ hk).1)
        (val v).cells.toList (by rw [pJ];simpa using (h1.symm.trans dZ)) hmem
        (fun k row j c hk hj=>by
         obtain ⟨h3,h4⟩:=kp sz af.length cs k row dZ hk
         obtain ⟨u,hu,_,h5⟩:=h2 (k*sz+j) c (h4 j c hj)
         exact ⟨u,by simpa using hu,h5⟩) .undef undef (fun _ _ _ _=>.undef)
       refine ⟨undef,w',.inr ⟨?_,rfl⟩,hg⟩
       have hsz:(val v).cells.size=n:=by omega
       simp [execOp,ho,Instr.storeAt,hval,Instr.sureAddr,storeVar,zT hn,hsz,hr]
     ·cases he
   ·cases he
  ·cases he
 ·cases he
theorem Mv {o:Oper} {s:TypeId} {x:Operand} {f n:Nat} {fs:Array Field} {fd:Field} (ho:o.op=.fieldAddr s x f) (hs:C.P.underlying s=some (.struct fs)) (hf:fs[f]?=some fd)
  (hn:zz C.P fd.type=some n) (hn0:n≠0):aP C o (.nR fd.offset (C.bf x)):=by
 intro g h N w id ev val r aO R hid hv he
 have hx:=hv x (by simp [ho,Op.operands])
 simp only [ai] at he
 split at he
 ·rename_i i rr oo e1
  rw [e1] at hx
  split at he
  ·rename_i sz af cF
   simp only [Option.some.injEq,Prod.mk.injEq] at he
   obtain ⟨rfl,rfl⟩:=he
   cases hx with
   | ptr _ _ _ _ hni hone hp=>
    obtain ⟨b,hb,hval⟩:=hp sz af cF
    refine ⟨.pointer (some ⟨b,rr*sz+oo+fd.offset,none⟩),w,.inl ?_,zs R ?_⟩
    ·simp [execOp,ho,Instr.fieldAt,run_underlying hs,hf,hval,Instr.sureAddr,fieldPlace,zT hn,hn0,qO]
    ·refine .ptr i rr _ _ hni rfl fun sz' dY Ad => ?_
     rw [cF] at Ad
     cases Ad
     exact ⟨b,hb,by rw [uN]⟩
  ·cases he
 ·rename_i cells e1
  rw [e1] at hx
  simp only [Option.some.injEq,Prod.mk.injEq] at he
  obtain ⟨rfl,rfl⟩:=he
  generalize hval:val x=vx at hx
  cases hx with
  | cz _ b off cv hz hc hr=>
   refine ⟨.pointer (some ⟨b,off+fd.offset,none⟩),w,.inl ?_,zs R ?_⟩
   ·simp [execOp,ho,Instr.fieldAt,run_underlying hs,hf,hval,Instr.sureAddr,fieldPlace,zT hn,hn0,qO]
   ·refine .cz _ b _ (fun j=>cv (fd.offset+j)) (fun j c hj => ?_) (fun j c hj => ?_) (fun j c hj => ?_)
    ·rw [um] at hj
     have:=hz _ c hj;omega
    ·rw [um] at hj
     have:=hc _ c hj;rw [uN];exact this
    ·rw [um] at hj
     exact hr _ c hj
 ·cases he
theorem Jd {af:List (List IV)} {v:Value} (hv:RI g.Z w (.slice af) v) :
  (af=[]∧(v=.slice none 0 0∨∃ a cap,v=.slice (some a) 0 cap))∨∃ (b off cap sz:Nat) (cv:Nat→Nat→Value),v=.slice (some ⟨b,off,none⟩) af.length cap∧af.length≤cap ∧
   (∀ (i:Nat) (row:List IV),af[i]?=some row→row.length=sz) ∧
   (∀ (i:Nat) (row:List IV) (j:Nat) (c:IV),af[i]?=some row→row[j]?=some c→off+i*sz+j < g.Z b) ∧
   (∀ (i:Nat) (row:List IV) (j:Nat) (c:IV),af[i]?=some row→row[j]?=some c→w.cell? ⟨b,off+i*sz+j,none⟩=some (cv i j)∧(cv i j).oneCell'=true) ∧
   (∀ (i:Nat) (row:List IV) (j:Nat) (c:IV),af[i]?=some row→row[j]?=some c→RI g.Z w c (cv i j)):=by
 cases hv with
 | nil=>exact .inl ⟨rfl,.inl rfl⟩
 | empty a cap=>exact .inl ⟨rfl,.inr ⟨a,cap,rfl⟩⟩
 | slice _ b off cap sz cv hcap hsz hz hc hr=>exact .inr ⟨b,off,cap,sz,cv,rfl,hcap,hsz,hz,hc,hr⟩
theorem Mw {o:Oper} {t e:TypeId} {x ix:Operand} {sz:Nat} (ho:o.op=.indexAddr t x ix) (ht:C.P.underlying t=some (.slice e)) (hn:zz C.P e=some sz):aP C o (.idx sz (C.bf x) (C.bf ix)):=by
 intro g h N w id ev val r aO R hid hv he
 have hx:=hv x (by simp [ho,Op.operands])
 have hi:=hv ix (by simp [ho,Op.operands])
 simp only [ai] at he
 split at he
 case h_2=>cases he
 rename_i k n e1
 rw [e1] at hi
 have iE:=wI hi
 have ax:∀ (af:List (List IV)),RI g.Z w (.slice af) (val x)→(if 0≤n then match af[n.toNat]? with
     | some row=>if row.length=sz then some (AV.cz row,([]:List (Nat×aG))) else none
     | none=>none
    else none)=some (r,aO) →
   ∃ v w',pI C.P (execOp val o) w v w'∧Good C g h N w id r aO v w':=fun af gh he=>by
  split at he
  ·rename_i gM
   split at he
   ·rename_i row hrow
    split at he
    ·rename_i hlen
     simp only [Option.some.injEq,Prod.mk.injEq] at he
     obtain ⟨rfl,rfl⟩:=he
     have hlt:=(ua.1 hrow).1
     have hle2:n < af.length:=by omega
     rcases Jd gh with ⟨rfl,_⟩ | ⟨b,off,cap,sz',cv,hval,hcap,hsz,tA,hc,hr⟩
     ·simp at hlt
     ·have CX:sz'=sz:=(hsz _ _ hrow).symm.trans hlen
      subst CX
      refine ⟨.pointer (some ⟨b,off+n.toNat*sz',none⟩),w,.inl ?_,zs R ?_⟩
      ·simp [execOp,ho,Instr.indexAt,iE,asIntOf,run_underlying ht,hval,zT hn,qO,gM,hle2]
      ·exact .cz _ b _ (cv n.toNat) (fun j c hj=>tA _ _ j c hrow hj) (fun j c hj=>hc _ _ j c hrow hj) (fun j c hj=>hr _ _ j c hrow hj)
    ·cases he
   ·cases he
  ·cases he
 split at he
 ·rename_i af e2
  rw [e2] at hx
  cases hx with
  | ax _ _ gh=>exact ax af gh he
 ·rename_i j af e2
  rw [e2] at hx
  cases hx with
  | aU _ _ _ gh hni htip=>exact ax af gh he
 ·rename_i j off len e2
  rw [e2] at hx
  split at he
  ·rename_i sz' af cF
   split at he
   ·rename_i hle
    obtain ⟨rfl,gM,hle2⟩:=hle
    simp only [Option.some.injEq,Prod.mk.injEq] at he
    obtain ⟨rfl,rfl⟩:=he
    cases hx with
    | Zak _ _ _ _ hni hone hp=>
     obtain ⟨h1,h2⟩:=hp _ _ cF
     rcases h2 with ⟨hno,hrows,hval⟩ | ⟨b,cap,c,e',hb,hval,hle,hw,hcap⟩
     ·subst hrows;simp at h1;omega
     ·refine ⟨.pointer (some ⟨b,off*sz'+n.toNat*sz',none⟩),w,.inl ?_,zs R ?_⟩
      ·simp [execOp,ho,Instr.indexAt,iE,asIntOf,run_underlying ht,hval,zT hn,qO,gM,hle2]
      ·refine .ptr j _ _ _ hni rfl fun rQ Ae oc => ?_
       rw [cF] at oc
       cases oc
       exact ⟨b,hb,by rw [ul];rfl⟩
   ·cases he
  ·cases he
 ·cases he
theorem Mx {o:Oper} {t e:TypeId} {x ix:Operand} {sz n:Nat} (ho:o.op=.indexAddr t x ix) (ht:C.P.underlying t=some (.array n e)) (hn:zz C.P e=some sz) :
  aP C o (.idxa n sz (C.bf x) (C.bf ix)):=by
 intro g h N w id ev val r aO R hid hv he
 have hx:=hv x (by simp [ho,Op.operands])
 have hi:=hv ix (by simp [ho,Op.operands])
 simp only [ai] at he
 split at he
 ·rename_i k m j e1 e2
  rw [e1] at hi
  rw [e2] at hx
  have iE:=wI hi
  split at he
  ·rename_i sz' af cF
   split at he
   ·rename_i hle
    obtain ⟨rfl,gM,hle2⟩:=hle
    simp only [Option.some.injEq,Prod.mk.injEq] at he
    obtain ⟨rfl,rfl⟩:=he
    cases hx with
    | ptr _ _ _ _ hni hone hp=>
     obtain ⟨b,hb,hval⟩:=hp _ _ cF
     refine ⟨.pointer (some ⟨b,m.toNat*sz',none⟩),w,.inl ?_,zs R ?_⟩
     ·simp [execOp,ho,Instr.indexAt,iE,asIntOf,run_underlying ht,hval,Instr.sureAddr,zT hn,qO,gM,hle2]
     ·refine .ptr j _ _ _ hni rfl fun rQ Ae oc => ?_
      rw [cF] at oc
      cases oc
      exact ⟨b,hb,rfl⟩
   ·cases he
  ·cases he
 ·cases he
end
end
section
section
variable {C:Ctx} {g g':Gh} {h h':Nat→Option aG} {N N':Nat→Prop} {w w':World} {id:Nat}
theorem My {P:Program} (w:World) (op:BinOp) (t:TypeId) (x y:Operand) {a b r:IV} {va vb:Value} (ha:RI g.Z w a va) (hb:RI g.Z w b vb) (hr:yP op a b=some r) :
  ∃ v,(eqGuard op t x y va vb).run P w=.ok () w∧(binOp op t va vb).run P w=.ok v w∧RI g.Z w r v:=by
 cases ha with
 | int k a=>
  cases hb with
  | int k' b=>
   by_cases hk:k=k'
   ·subst hk
    cases op<;>simp [yP] at hr
    case add=>subst hr;exact ⟨_,by simp [eqGuard],by simp [binOp,Op.intArith],.int _ _⟩
    case sub=>subst hr;exact ⟨_,by simp [eqGuard],by simp [binOp,Op.intArith],.int _ _⟩
    case mul=>subst hr;exact ⟨_,by simp [eqGuard],by simp [binOp,Op.intArith],.int _ _⟩
    case quo=>obtain ⟨h0,rfl⟩:=hr;exact ⟨_,by simp [eqGuard],by simp [binOp,Op.intDiv,h0],.int _ _⟩
    case rem=>obtain ⟨h0,rfl⟩:=hr;exact ⟨_,by simp [eqGuard],by simp [binOp,Op.intDiv,h0],.int _ _⟩
    case and=>
     refine ⟨.int k (k.wrap ((BitVec.ofInt k.bits a &&& BitVec.ofInt k.bits b).toNat)),by simp [eqGuard],?_,?_⟩
     ·unfold binOp;simp only [ne_eq,not_true_eq_false,if_false,Op.intBits];rfl
     ·subst hr;simpa using RI.int (Z:=g.Z) (w:=w) k _
    case shl=>obtain ⟨h0,rfl⟩:=hr;exact ⟨_,by simp [eqGuard],by simp [binOp,Op.shift,show ¬ b < 0 by omega],.int _ _⟩
    case shr=>obtain ⟨h0,rfl⟩:=hr;exact ⟨_,by simp [eqGuard],by simp [binOp,Op.shift,show ¬ b < 0 by omega],.int _ _⟩
    case eql=>subst hr;exact ⟨_,by simp [eqGuard],by simp [binOp,Op.intCmp],.bool _⟩
    case neq=>subst hr;exact ⟨_,by simp [eqGuard],by simp [binOp,Op.intCmp],.bool _⟩
    case lss=>subst hr;exact ⟨_,by simp [eqGuard],by simp [binOp,Op.intCmp],.bool _⟩
    case leq=>subst hr;exact ⟨_,by simp [eqGuard],by simp [binOp,Op.intCmp],.bool _⟩
    case gtr=>subst hr;exact ⟨_,by simp [eqGuard],by simp [binOp,Op.intCmp],.bool _⟩
    case geq=>subst hr;exact ⟨_,by simp [eqGuard],by simp [binOp,Op.intCmp],.bool _⟩
   ·cases op<;>simp [yP,hk] at hr
    case shl=>obtain ⟨h0,rfl⟩:=hr;exact ⟨_,by simp [eqGuard],by simp [binOp,Op.shift,show ¬ b < 0 by omega],.int _ _⟩
    case shr=>obtain ⟨h0,rfl⟩:=hr;exact ⟨_,by simp [eqGuard],by simp [binOp,Op.shift,show ¬ b < 0 by omega],.int _ _⟩
  | _=>simp [yP] at hr
 | str a=>
  cases hb with
  | str b=>
   cases op<;>simp [yP] at hr
   case eql=>subst hr;exact ⟨_,by simp [eqGuard],by simp [binOp,Op.stringOp],.bool _⟩
   case neq=>subst hr;exact ⟨_,by simp [eqGuard],by simp [binOp,Op.stringOp],.bool _⟩
  | _=>simp [yP] at hr
 | _=>simp [yP] at hr
theorem Kx {o:Oper} {t t':TypeId} {op:BinOp} {x y:Operand} (ho:o.op=.binOp op t x y t'):aP C o (.bin op (C.bf x) (C.bf y)):=by
 intro g h N w id ev val r aO R hid hv he
 have hx:=hv x (by simp [ho,Op.operands])
 have hy:=hv y (by simp [ho,Op.operands])
 simp only [ai] at he
 split at he
 ·rename_i a b e1 e2
  rw [e1] at hx
  rw [e2] at hy
  rw [ub] at he
  obtain ⟨r',hr,he⟩:=he
  simp only [Prod.mk.injEq] at he
  obtain ⟨rfl,rfl⟩:=he
  cases hx with
  | ax _ _ ha=>
   cases hy with
   | ax _ _ hb=>
    obtain ⟨v,h0,h1,h2⟩:=My (P:=C.P) w op t x y ha hb hr
    refine ⟨v,w,.inl ?_,zs R (.ax _ _ h2)⟩
    simp [execOp,ho,h0,h1]
 ·cases he
theorem Ky {o:Oper} {t t':TypeId} {op:BinOp} {neg:Bool} {x y:Operand} (ho:o.op=.binOp op t x y t') (ht:C.P.underlying t=some .bool)
  (hop:op=if neg then .neq else .eql):aP C o (.oZ neg (C.bf x) (C.bf y)):=by
 intro g h N w id ev val r aO R hid hv he
 have hx:=hv x (by simp [ho,Op.operands])
 have hy:=hv y (by simp [ho,Op.operands])
 simp only [ai] at he
 split at he
 ·rename_i a b e1 e2
  rw [e1] at hx
  rw [e2] at hy
  have h1:=vt hx
  have h2:=vt hy
  simp only [Option.some.injEq,Prod.mk.injEq] at he
  obtain ⟨rfl,rfl⟩:=he
  subst hop
  refine ⟨.bool (if neg then !(a == b) else a == b),w,.inl ?_,zs R (.ax _ _ (.bool _))⟩
  cases neg<;>simp [execOp,ho,h1,h2,eqGuard,binOp,Op.equal,Op.maxDepth,run_equalIn_bool w _ t a b ht]
 ·cases he
theorem Mz {o:Oper} {t:TypeId} {x:Operand} (ho:o.op=.unOp .not t x):aP C o (.not (C.bf x)):=by
 intro g h N w id ev val r aO R hid hv he
 have hx:=hv x (by simp [ho,Op.operands])
 simp only [ai] at he
 split at he
 ·rename_i a e1
  rw [e1] at hx
  have h1:=vt hx
  simp only [Option.some.injEq,Prod.mk.injEq] at he
  obtain ⟨rfl,rfl⟩:=he
  exact ⟨.bool !a,w,.inl (by simp [execOp,ho,h1,Op.unary]),zs R (.ax _ _ (.bool _))⟩
 ·cases he
theorem MA {o:Oper} {t:TypeId} {x:Operand} (ho:o.op=.unOp .neg t x):aP C o (.neg (C.bf x)):=by
 intro g h N w id ev val r aO R hid hv he
 have hx:=hv x (by simp [ho,Op.operands])
 simp only [ai] at he
 split at he
 ·rename_i k a e1
  rw [e1] at hx
  have h1:=wI hx
  simp only [Option.some.injEq,Prod.mk.injEq] at he
  obtain ⟨rfl,rfl⟩:=he
  exact ⟨.int k (k.wrap (0 - a)),w,.inl (by simp [execOp,ho,h1,Op.unary,Op.intArith]),zs R (.ax _ _ (.int _ _))⟩
 ·cases he
theorem MC {o:Oper} {s d:TypeId} {k k0:IntKind} {x:Operand} (ho:o.op=.convert s d x) (hs:C.P.underlying s=some (.int k0)) (hd:C.P.underlying d=some (.int k)) :
  aP C o (.conv k (C.bf x)):=by
 intro g h N w id ev val r aO R hid hv he
 have hx:=hv x (by simp [ho,Op.operands])
 simp only [ai] at he
 split at he
 ·rename_i k' a e1
  rw [e1] at hx
  have h1:=wI hx
  simp only [Option.some.injEq,Prod.mk.injEq] at he
  obtain ⟨rfl,rfl⟩:=he
  exact ⟨.int k (k.wrap a),w,.inl (by simp [execOp,ho,h1,convert,run_underlying hs,run_underlying hd,Conv.intToInt]),zs R (.ax _ _ (.int _ _))⟩
 ·cases he
theorem jC {P:Program} {w:World} {b:Nat} {es:Array MapEntry} {clock:Nat} (hb:w.heap[b]?=some (.map es clock)):(getObj b).run P w=.ok (.map es clock) w:=by
 simp [getObj,Sem.run,hb]
theorem wx {P:Program} {w:World} {b:Nat} {es:Array MapEntry} {clock:Nat} (hb:w.heap[b]?=some (.map es clock)) (o:Obj):(setObj b o).run P w=.ok () (zx w b o):=by
 simp [setObj,Sem.run,hb,zx]
theorem Fx {af:List (List IV)} {v:Value} (hv:RI g.Z w (.slice af) v):∃ a cap,v=.slice a af.length cap:=by
 cases hv with
 | nil=>exact ⟨none,0,rfl⟩
 | empty a cap=>exact ⟨some a,cap,rfl⟩
 | slice _ b off cap sz cv _ _ _ _ _=>exact ⟨_,cap,rfl⟩
theorem MD {o:Oper} {t e:TypeId} {x:Operand} (ho:o.op=.call {callee:=.builtin .len,args := #[x],argTypes := #[t]})
  (ht:C.P.underlying t=some (.slice e)):aP C o (.len (C.bf x)):=by
 intro g h N w id ev val r aO R hid hv he
 have hx:=hv x (by simp [ho,Op.operands,Call.operands])
 simp only [ai] at he
 split at he
 ·rename_i n hn
  simp only [Option.some.injEq,Prod.mk.injEq] at he
  obtain ⟨rfl,rfl⟩:=he
  have key:∃ a cap,val x=.slice a n cap:=by
   unfold ww at hn
   split at hn
   ·rename_i e1;rw [e1] at hx;cases hn;cases hx with | ax _ _ hr=>exact Fx hr
   ·rename_i e1;rw [e1] at hx;cases hn;cases hx with | aU _ _ _ hr _ _=>exact Fx hr
   ·rename_i e1;rw [e1] at hx;cases hn;exact ⟨none,0,xl hx⟩
   ·rename_i e1
    rw [e1] at hx
    cases hn
    generalize val x=vx at hx
    cases hx with
    | cw a cap=>exact ⟨_,cap,rfl⟩
   ·rename_i e1
    rw [e1] at hx
    split at hn
    ·rename_i cF
     cases hn
     cases hx with
     | Zak _ _ _ _ hni hone hp=>
      obtain ⟨h1,h2⟩:=hp _ _ cF
      rcases h2 with ⟨_,hr,hval⟩ | ⟨b,cap,c,e',hb,hval,_⟩
      ·subst hr
       simp at h1
       exact ⟨none,0,by rw [hval,h1.2]⟩
      ·exact ⟨_,cap,hval⟩
    ·cases hn
   ·cases hn
  obtain ⟨a,cap,hval⟩:=key
  exact ⟨.int .i64 n,w,.inl (by simp [execOp,ho,resolve,invoke,builtin,Builtin.len_,run_underlying ht,hval,goInt]),zs R (.ax _ _ (.int _ _))⟩
 ·cases he
theorem ME {o:Oper} {t:TypeId} {x:Operand} (ho:o.op=.call {callee:=.builtin .len,args := #[x],argTypes := #[t]})
  (ht:C.P.underlying t=some .string):aP C o (.lens (C.bf x)):=by
 intro g h N w id ev val r aO R hid hv he
 have hx:=hv x (by simp [ho,Op.operands,Call.operands])
 simp only [ai] at he
 split at he
 ·rename_i s e1
  rw [e1] at hx
  have hval:=Mo hx
  simp only [Option.some.injEq,Prod.mk.injEq] at he
  obtain ⟨rfl,rfl⟩:=he
  exact ⟨.int .i64 s.size,w,.inl (by simp [execOp,ho,resolve,invoke,builtin,Builtin.len_,run_underlying ht,hval,goInt]),zs R (.ax _ _ (.int _ _))⟩
 ·cases he
theorem MF {o:Oper} {t k e:TypeId} {x:Operand} (ho:o.op=.call {callee:=.builtin .len,args := #[x],argTypes := #[t]})
  (ht:C.P.underlying t=some (.map k e)):aP C o (.lenm (C.bf x)):=by
 intro g h N w id ev val r aO R hid hv he
 have hx:=hv x (by simp [ho,Op.operands,Call.operands])
 simp only [ai] at he
 split at he
 ·rename_i i e1
  rw [e1] at hx
  split at he
  ·rename_i es cF
   simp only [Option.some.injEq,Prod.mk.injEq] at he
   obtain ⟨rfl,rfl⟩:=he
   cases hx with
   | map _ _ hni hone hp=>
    obtain ⟨b,hb,hval⟩:=hp es cF
    obtain ⟨hz,bO,clock,hw,hl,_⟩:=R.obj i b _ hb cF
    exact ⟨.int .i64 es.length,w,.inl (by simp [execOp,ho,resolve,invoke,builtin,Builtin.len_,run_underlying ht,hval,goInt,jC hw,hl.l]),zs R (.ax _ _ (.int _ _))⟩
  ·cases he
 ·cases he
theorem Fy {o:Oper} {ts:Array TypeId} {mx:Bool} {x y:Operand} (ho:o.op=.call {callee:=.builtin (if mx then .max else .min),args := #[x,y],argTypes:=ts}) :
  aP C o (.mm mx (C.bf x) (C.bf y)):=by
 intro g h N w id ev val r aO R hid hv he
 have hx:=hv x (by simp [ho,Op.operands,Call.operands])
 have hy:=hv y (by simp [ho,Op.operands,Call.operands])
 simp only [ai] at he
 split at he
 ·rename_i k a k' b e1 e2
  rw [e1] at hx
  rw [e2] at hy
  have h1:=wI hx
  have h2:=wI hy
  simp only [Option.some.injEq,Prod.mk.injEq] at he
  obtain ⟨rfl,rfl⟩:=he
  refine ⟨.int k (if mx then (if a < b then b else a) else (if b < a then b else a)),w,.inl ?_,zs R (.ax _ _ (.int _ _))⟩
  cases mx<;>simp [execOp,ho,resolve,invoke,builtin,Builtin.max_,Builtin.min_,Builtin.max2,Builtin.min2,h1,h2]
 ·cases he
theorem MG {o:Oper} {x:Operand} {i:Nat} (ho:o.op=.extract x i):aP C o (.ext (C.bf x) i):=by
 intro g h N w id ev val r aO R hid hv he
 have hx:=hv x (by simp [ho,Op.operands])
 simp only [ai] at he
 split at he
 ·rename_i vs e1
  rw [e1] at hx
  rw [ub] at he
  obtain ⟨c,hc,he⟩:=he
  simp only [Prod.mk.injEq] at he
  obtain ⟨rfl,rfl⟩:=he
  generalize hval:val x=vx at hx
  cases hx with
  | ax _ _ hr=>
   cases hr with
   | tuple _ us hl hr=>
    have hlt:i < us.length:=by rw [←hl];exact (ua.1 hc).1
    exact ⟨us[i],w,.inl (by simp [execOp,ho,hval,Instr.extract,hlt]),zs R (.ax _ _ (hr i c _ hc (by simp [hlt])))⟩
 ·rename_i vs e1
  rw [e1] at hx
  rw [ub] at he
  obtain ⟨c,hc,he⟩:=he
  simp only [Prod.mk.injEq] at he
  obtain ⟨rfl,rfl⟩:=he
  generalize hval:val x=vx at hx
  cases hx with
  | tuple _ us hl hr=>
   have hlt:i < us.length:=by rw [←hl];exact (ua.1 hc).1
   exact ⟨us[i],w,.inl (by simp [execOp,ho,hval,Instr.extract,hlt]),zs R (hr i c _ hc (by simp [hlt]))⟩
 ·cases he
theorem kT {f i:Nat} (hi:Jc C.mo f=some i):C.ed i=f:=by
 unfold Jc at hi
 rw [List.findIdx?_eq_some_iff_getElem] at hi
 obtain ⟨h1,h2,_⟩:=hi
 simp only [beq_iff_eq] at h2
 simp [Ctx.ed,h1,h2]
theorem MH {o:Oper} {f i:Nat} {first bp:Array Operand} (ho:o.op=.makeFunc (.func f) first bp) (hi:Jc C.mo f=some i) :
  aP C o (.pH i (first.toList.map C.bf) (bp.toList.map C.bf)):=by
 intro g h N w id ev val r aO R hid hv he
 simp only [ai,Option.some.injEq,Prod.mk.injEq] at he
 obtain ⟨rfl,rfl⟩:=he
 have aux:∀ (l:Array Operand),(∀ x∈l,RV C g h N w (ev (C.bf x)) (val x))→∀ (j:Nat) (c:AV) (v:Value),((l.toList.map C.bf).map ev)[j]?=some c→(l.toList.map val)[j]?=some v→RV C g h N w c v:=fun l hl j c v h1 h2=>by
  simp only [uk,ub] at h1 h2
  obtain ⟨o1,⟨x,hx,rfl⟩,rfl⟩:=h1
  obtain ⟨y,hy,rfl⟩:=h2
  rw [hx] at hy
  cases hy
  exact hl x (by simpa using uj hx)
 refine ⟨.func (.func f) (first.toList.map val).toArray (bp.toList.map val).toArray,w,.inl ?_,zs R ?_⟩
 ·have e1:(first.toList.map val).toArray=first.map val:=by apply uM;simp
  have e2:(bp.toList.map val).toArray=bp.map val:=by apply uM;simp
  rw [e1,e2]
  simp [execOp,ho,Instr.makeFunc]
 ·rw [←kT hi]
  exact .func i _ _ _ _ (by simp) (by simp) (aux first fun x hx=>hv x (by simp [ho,Op.operands,hx])) (aux bp fun x hx=>hv x (by simp [ho,Op.operands,hx]))
theorem MI {o:Oper} {t:TypeId} (ho:o.op=.makeMap t none):aP C o .eV:=by
 intro g h N w id ev val r aO R hid hv he
 simp only [ai,Option.some.injEq,Prod.mk.injEq] at he
 obtain ⟨rfl,rfl⟩:=he
 refine ⟨.map (some w.heap.size),w.alloc (.map #[] 0),.inl (by simp [execOp,ho,Instr.makeMap]),_,XW R hid _ _ 0,CU R hid _ _ 0 ?_,?_⟩
 ·exact ⟨by simp [Gh.at],#[],0,zW w _,⟨rfl,Go.MapKept.stamped_empty 0⟩,fun i k x hx=>by simp at hx⟩
 ·exact .map id _ (.inr rfl) rfl fun es _=>⟨w.heap.size,by simp [Gh.at],rfl⟩
end
end
section
section
variable {C:Ctx} {g g':Gh} {h h':Nat→Option aG} {N N':Nat→Prop} {w w':World} {id:Nat}
theorem qi {α β:Type} {f:α→Option β}:∀ {l:List α} {r:List β},aM f l=some r→r.length=l.length∧∀ (i:Nat) (a:α),l[i]?=some a→∃ b,r[i]?=some b∧f a=some b
 | [],r,h=>by simp [aM] at h;subst h;exact ⟨rfl,fun i a hi=>by simp at hi⟩
 | a::l,r,h=>by
  simp only [aM] at h
  split at h
  ·rename_i b hb
   split at h
   ·rename_i bs rR
    cases h
    obtain ⟨h1,h2⟩:=qi rR
    refine ⟨by simp [h1],fun i a' hi => ?_⟩
    cases i with
    | zero=>simp at hi;subst hi;exact ⟨b,rfl,hb⟩
    | succ i=>obtain ⟨b',h3,h4⟩:=h2 i a' (by simpa using hi);exact ⟨b',by simpa using h3,h4⟩
   ·cases h
  ·cases h
def gN (C:Ctx) (g:Gh) (h:Nat→Option aG) (N:Nat→Prop) (w:World) (cs:List AV) (c:Array Value):Prop:=
 cs.length=c.size∧∀ (j:Nat) (x:AV),cs[j]?=some x→∃ u,c[j]?=some u∧u.oneCell'=true∧RV C g h N w x u
theorem Z4 (vs:List Value):∀ (c:Array Value) (off k:Nat) (j:Nat),((vs.zipIdx k).foldl (fun (cs:Array Value) (p:Value×Nat)=>cs.setIfInBounds (off+p.2) p.1) c).size=c.size ∧
  (off+k+vs.length≤c.size→((vs.zipIdx k).foldl (fun (cs:Array Value) (p:Value×Nat)=>cs.setIfInBounds (off+p.2) p.1) c)[j]?=if off+k≤j∧j < off+k+vs.length then vs[j - (off+k)]? else c[j]?):=by
 induction vs with
 | nil=>intro c off k j;simp;omega
 | cons v vs ih=>
  intro c off k j
  simp only [List.zipIdx_cons,List.foldl_cons]
  obtain ⟨h1,h2⟩:=ih (c.setIfInBounds (off+k) v) off (k+1) j
  refine ⟨by simpa using h1,fun hl => ?_⟩
  simp only [ur] at hl
  rw [h2 (by simp;omega)]
  simp only [ur,ud]
  by_cases e1:off+k=j
  ·subst e1
   rw [if_neg (by omega),if_pos rfl,if_pos (by omega),if_pos (by omega)]
   simp
  ·by_cases e2:off+(k+1)≤j∧j < off+(k+1)+vs.length
   ·rw [if_pos e2,if_pos (by omega),show j - (off+k)=(j - (off+(k+1)))+1 by omega]
    simp
   ·rw [if_neg e2,if_neg e1,if_neg (by omega)]
theorem MJ {cs:List AV} {c:Array Value} (H:gN C g h N w cs c) (off:Nat) {ps:List AV} {v:Value} (hps:ps.length=v.cells.size)
  (hr:∀ (j:Nat) (x:AV),ps[j]?=some x→∃ u,v.cells[j]?=some u∧u.oneCell'=true∧RV C g h N w x u) (ho:off+ps.length≤cs.length) :
  gN C g h N w (qV cs off ps) (v.cells.zipIdx.foldl (fun cs (p:Value×Nat)=>cs.setIfInBounds (off+p.2) p.1) c):=by
 have hz:(v.cells.zipIdx.foldl (fun cs (p:Value×Nat)=>cs.setIfInBounds (off+p.2) p.1) c)=((v.cells.toList.zipIdx 0).foldl (fun (cs:Array Value) (p:Value×Nat)=>cs.setIfInBounds (off+p.2) p.1) c):=by
  rw [←uI,uF]
 rw [hz]
 obtain ⟨h1,h2⟩:=H
 refine ⟨by rw [vO cs off ps ho,(Z4 _ c off 0 0).1];exact h1,fun j x hj => ?_⟩
 have hl:v.cells.toList.length=ps.length:=by simp [hps]
 rw [(Z4 v.cells.toList c off 0 j).2 (by omega)]
 rw [getElem?_putCells cs off ps ho] at hj
 split at hj
 ·rename_i CW
  rw [if_pos (by omega)]
  obtain ⟨u,h3,h4,h5⟩:=hr _ x hj
  exact ⟨u,by simpa using h3,h4,h5⟩
 ·rename_i CW
  rw [if_neg (by omega)]
  exact h2 j x hj
theorem Z5 {v:Value} (h1:j8 v=true):gN C g h N w (v.cells.toList.map xP) v.cells:=by
 refine ⟨by simp,fun j x hj => ?_⟩
 simp only [uk,ub] at hj
 obtain ⟨u,hu,rfl⟩:=hj
 exact ⟨u,by simpa using hu,uu.1 h1 u (uj hu),vg u⟩
theorem Ws (place:Nat→Option (Nat×Nat)) (ev:aZ→AV) (val:Operand→Value) :
  ∀ (parts:List (Nat×Operand)) (ps:List (Nat×Nat×aZ)) (qs:List (Nat×Nat×List AV)) (cs out:List AV) (c:Array Value),
  aM (fun p:Nat×Operand=>match place p.1 with
   | some (o,n)=>some (o,n,C.bf p.2)
   | none=>none) parts=some ps →
  aM (fun p:Nat×Nat×aZ=>(cellsOf (ev p.2.2)).map fun cs=>(p.1,p.2.1,cs)) ps=some qs →
  (∀ p∈parts,RV C g h N w (ev (C.bf p.2)) (val p.2))→gN C g h N w cs c→vr cs qs=some out →
  ∃ c',Instr.fill place c (parts.map fun p=>(p.1,val p.2))=some c'∧gN C g h N w out c':=by
 intro parts
 induction parts with
 | nil=>
  intro ps qs cs out c h1 h2 _ H h3
  simp [aM] at h1;subst h1
  simp [aM] at h2;subst h2
  simp [vr] at h3;subst h3
  exact ⟨c,rfl,H⟩
 | cons p parts ih=>
  intro ps qs cs out c h1 h2 hv H h3
  simp only [aM] at h1
  cases hp:place p.1 with
  | none=>simp [hp] at h1
  | some on=>
   obtain ⟨off,n⟩:=on
   simp only [hp] at h1
   split at h1
   ·rename_i ps' oe
    cases h1
    simp only [aM] at h2
    split at h2
    ·rename_i q hq
     split at h2
     ·rename_i CY rS
      cases h2
      rw [ub] at hq
      obtain ⟨pc,hpc,rfl⟩:=hq
      simp only [vr] at h3
      split at h3
      ·rename_i hle
       obtain ⟨ct,bZ⟩:=ko hpc (hv p uw)
       have H':=MJ H off ct bZ (by omega)
       obtain ⟨c',h4,h5⟩:=ih ps' CY _ out _ oe rS (fun q hq=>hv q (uv _ hq)) H' h3
       refine ⟨c',?_,h5⟩
       simp only [uz,Instr.fill,hp]
       rw [if_neg ?_]
       ·exact h4
       ·have:=H.1
        simp
        omega
      ·cases h3
     ·cases h2
    ·cases h2
   ·cases h1
theorem MK {P:Program} (w:World) (fs:Array Field) (hs:(fs.toList.all fun f=>(zz P f.type).isSome)=true) :
  (fs.mapM (fun f=>do pure (f.offset,←sizeOf f.type):Field→Sem (Nat×Nat))).run P w=.ok (fs.map fun f=>(f.offset,(zz P f.type).getD 0)) w:=by
 rw [Array.mapM_eq_mapM_toList]
 have:∀ (l:List Field),(l.all fun f=>(zz P f.type).isSome)=true→(l.mapM (fun f=>do pure (f.offset,←sizeOf f.type):Field→Sem (Nat×Nat))).run P w=.ok (l.map fun f=>(f.offset,(zz P f.type).getD 0)) w:=by
  intro l
  induction l with
  | nil=>intro _;simp
  | cons f l ih=>
   intro hl
   simp only [List.all_cons,Bool.and_eq_true] at hl
   obtain ⟨h1,h2⟩:=hl
   obtain ⟨n,hn⟩:=uA.1 h1
   simp only [List.mapM_cons,Sem.run_bind,zT hn,Result.andThen_ok,Sem.run_pure,ih h2,uz,hn,Option.getD_some]
 rw [Sem.run_map,this _ hs]
 simp only [Result.andThen_ok]
 congr 1
 apply uM
 simp
theorem ML {o:Oper} {t:TypeId} {parts:Array (Nat×Operand)} {fs:Array Field} {z:List AV} {ps:List (Nat×Nat×aZ)} (ho:o.op=.build t parts)
  (ht:C.P.underlying t=some (.struct fs)) (hz:qA C.P t=some z)
  (h1:∀ i v,C.P.info? t=some i→i.zero=some v→j8 v=true)
  (hs:(fs.toList.all fun f=>(zz C.P f.type).isSome)=true)
  (hps:aM (fun p:Nat×Operand=>match fs[p.1]? with
   | some f=>match zz C.P f.type with
    | some n=>some (f.offset,n,C.bf p.2)
    | none=>none
   | none=>none) parts.toList=some ps):aP C o (.build z ps):=by
 intro g h N w id ev val r aO R hid hv he
 obtain ⟨i,zv,hi,iN,rfl⟩:=jN hz
 have hone:=h1 i zv hi iN
 simp only [ai] at he
 split at he
 ·rename_i qs Af
  split at he
  ·rename_i out hout
   simp only [Option.some.injEq,Prod.mk.injEq] at he
   obtain ⟨rfl,rfl⟩:=he
   have rT:∀ k:Nat,((fs.map fun (f:Field)=>(f.offset,(zz C.P f.type).getD 0))[k]?:Option (Nat×Nat))=(fs[k]?).map fun (f:Field)=>(f.offset,(zz C.P f.type).getD 0):=fun k=>by simp
   have oe:aM (fun p:Nat×Operand=>match ((fs.map fun f=>(f.offset,(zz C.P f.type).getD 0))[p.1]?:Option (Nat×Nat)) with
     | some (o,n)=>some (o,n,C.bf p.2)
     | none=>none) parts.toList=some ps:=by
    rw [←hps]
    congr 1
    funext p
    rw [rT]
    cases hf:fs[p.1]? with
    | none=>rfl
    | some f=>
     have:=uu.1 hs f (by simpa using Array.mem_of_getElem? hf)
     obtain ⟨n,hn⟩:=uA.1 this
     simp [hn]
   obtain ⟨c',h2,h3⟩:=Ws (C:=C) (g:=g) (h:=h) (N:=N) (w:=w) _ ev val parts.toList ps qs _ out zv.cells oe Af
    (fun p hp=>hv p.2 (by simp only [ho,Op.operands];simp;exact ⟨p.1,by simpa using hp⟩)) (Z5 hone) hout
   refine ⟨.agg c',w,.inl ?_,zs R ?_⟩
   ·have hmap:(parts.map fun x=>(x.1,val x.2)).toList=parts.toList.map fun p=>(p.1,val p.2):=by simp
    have dK:=MK (P:=C.P) w fs hs
    simp only [bind_pure_comp] at dK
    have h2':Instr.fill (fun x=>(Array.map (fun (f:Field)=>(f.offset,(zz C.P f.type).getD 0)) fs)[x]?) zv.cells (List.map (fun p=>(p.fst,val p.snd)) parts.toList)=some c':=h2
    simp only [Array.getElem?_map] at h2'
    simp [execOp,ho,Instr.build,zeroValue,typeInfo,hi,iN,run_underlying ht,dK,h2']
   ·have:=RV.agg (C:=C) (g:=g) (h:=h) (N:=N) (w:=w) out c'.toList (by simpa using h3.1) (fun v hv=>by
     obtain ⟨j,hj⟩:=un hv
     have hlt:j < out.length:=by rw [h3.1];simpa using (ua.1 hj).1
     obtain ⟨u,hu,h4,_⟩:=h3.2 j out[j] (by simp)
     simp only [uh] at hj
     rw [hj] at hu;cases hu;exact h4) (fun j x v hj hj'=>by
     obtain ⟨u,hu,_,h5⟩:=h3.2 j x hj
     simp only [uh] at hj'
     rw [hj'] at hu;cases hu;exact h5)
    simpa using this
  ·cases he
 ·cases he
def lI (C:Ctx) (g:Gh) (h:Nat→Option aG) (N:Nat→Prop) (w:World) (sz:Nat) (af:List (List AV)) (c:Array Value):Prop:=
 c.size=af.length*sz∧(∀ (i:Nat) (row:List AV),af[i]?=some row→row.length=sz) ∧
 ∀ (i:Nat) (row:List AV) (j:Nat) (x:AV),af[i]?=some row→row[j]?=some x→∃ u,c[i*sz+j]?=some u∧u.oneCell'=true∧RV C g h N w x u
theorem MM {i r sz j:Nat} (hj:j < sz) (h:i≠r):¬ (r*sz≤i*sz+j∧i*sz+j < r*sz+sz):=by
 intro ⟨h1,h2⟩
 rcases uJ i r with hlt | hge
 ·have:(i+1)*sz≤r*sz:=ue sz hlt
  rw [ul] at this;omega
 ·have:(r+1)*sz≤i*sz:=ue sz (show r+1≤i by omega)
  rw [ul] at this;omega
theorem MN {sz:Nat} {af:List (List AV)} {c:Array Value} (H:lI C g h N w sz af c) (r:Nat) {ps:List AV} {v:Value} (hps:ps.length=v.cells.size) (hsz:ps.length=sz)
  (hr:∀ (j:Nat) (x:AV),ps[j]?=some x→∃ u,v.cells[j]?=some u∧u.oneCell'=true∧RV C g h N w x u) (ho:r < af.length) :
  lI C g h N w sz (af.set r ps) (v.cells.zipIdx.foldl (fun cs (p:Value×Nat)=>cs.setIfInBounds (r*sz+p.2) p.1) c):=by
 have hz:(v.cells.zipIdx.foldl (fun cs (p:Value×Nat)=>cs.setIfInBounds (r*sz+p.2) p.1) c)=((v.cells.toList.zipIdx 0).foldl (fun (cs:Array Value) (p:Value×Nat)=>cs.setIfInBounds (r*sz+p.2) p.1) c):=by
  rw [←uI,uF]
 rw [hz]
 obtain ⟨h1,h2,h3⟩:=H
 have hl:v.cells.toList.length=ps.length:=by simp [hps]
 have hb:(r+1)*sz≤af.length*sz:=ue sz ho
 rw [ul] at hb
 refine ⟨by rw [(Z4 _ c _ 0 0).1,List.length_set];exact h1,fun i row hi => ?_,fun i row j x hi hj => ?_⟩
 ·rw [ut] at hi
  split at hi
  ·cases hi;exact hsz
  ·exact h2 i row hi
 ·rw [(Z4 v.cells.toList c _ 0 _).2 (by omega)]
  rw [ut] at hi
  split at hi
  ·rename_i e1
   subst e1
   cases hi
   have mr:j < sz:=by rw [←hsz];exact (ua.1 hj).1
   rw [if_pos (by omega)]
   obtain ⟨u,h4,h5,h6⟩:=hr j x hj
   exact ⟨u,by rw [show r*sz+j - (r*sz+0)=j by omega];simpa using h4,h5,h6⟩
  ·rename_i e1
   have mr:j < sz:=by rw [←h2 i row hi];exact (ua.1 hj).1
   rw [if_neg (by have:=MM (sz:=sz) mr (Ne.symm e1);omega)]
   exact h3 i row j x hi hj
theorem Vu {zv:Value} (h1:j8 zv=true) (n:Nat) (h0:0 < zv.cells.size) :
  lI C g h N w zv.cells.size (uD n (zv.cells.toList.map xP)) ((uK (n*zv.cells.size)).map (zv.cells[· % zv.cells.size]!)):=by
 refine ⟨by simp,fun i row hi => ?_,fun i row j x hi hj => ?_⟩
 ·rw [uC] at hi
  split at hi
  ·cases hi;simp
  ·cases hi
 ·rw [uC] at hi
  split at hi
  ·rename_i hlt
   cases hi
   simp only [uk,ub] at hj
   obtain ⟨u,hu,rfl⟩:=hj
   have mr:j < zv.cells.size:=by simpa using (ua.1 hu).1
   have hb:(i+1)*zv.cells.size≤n*zv.cells.size:=ue _ hlt
   rw [ul] at hb
   refine ⟨u,?_,uu.1 h1 u (uj hu),vg u⟩
   have ir:i*zv.cells.size+j < n*zv.cells.size:=by omega
   have hmod:(i*zv.cells.size+j) % zv.cells.size=j:=by rw [Nat.mul_comm,Nat.mul_add_mod,Nat.mod_eq_of_lt mr]
   simp only [uh] at hu
   simp [ir,hmod,mr]
   simpa [mr] using hu
  ·cases hi
theorem MO (sz:Nat) (ev:aZ→AV) (val:Operand→Value) :
  ∀ (parts:List (Nat×Operand)) (qs:List (Nat×List AV)) (af out:List (List AV)) (c:Array Value),
  aM (fun p:Nat×aZ=>(cellsOf (ev p.2)).map fun cs=>(p.1,cs)) (parts.map fun p=>(p.1,C.bf p.2))=some qs →
  (∀ p∈parts,RV C g h N w (ev (C.bf p.2)) (val p.2))→lI C g h N w sz af c→j7 af sz qs=some out →
  ∃ c',Instr.fill (fun i=>some (i*sz,sz)) c (parts.map fun p=>(p.1,val p.2))=some c'∧lI C g h N w sz out c':=by
 intro parts
 induction parts with
 | nil=>
  intro qs af out c h2 _ H h3
  simp [aM] at h2;subst h2
  simp [j7] at h3;subst h3
  exact ⟨c,rfl,H⟩
 | cons p parts ih=>
  intro qs af out c h2 hv H h3
  simp only [uz,aM] at h2
  split at h2
  ·rename_i q hq
   split at h2
   ·rename_i CY rS
    cases h2
    rw [ub] at hq
    obtain ⟨pc,hpc,rfl⟩:=hq
    simp only [j7] at h3
    split at h3
    ·rename_i hle
     obtain ⟨gM,hle2⟩:=hle
     obtain ⟨ct,bZ⟩:=ko hpc (hv p uw)
     have H':=MN H p.1 ct gM bZ hle2
     obtain ⟨c',h4,h5⟩:=ih CY _ out _ rS (fun q hq=>hv q (uv _ hq)) H' h3
     refine ⟨c',?_,h5⟩
     simp only [uz,Instr.fill]
     rw [if_neg ?_]
     ·exact h4
     ·have h6:=H.1
      have hb:(p.1+1)*sz≤af.length*sz:=ue sz hle2
      rw [ul] at hb
      simp
      omega
    ·cases h3
   ·cases h2
  ·cases h2
theorem JO {e:TypeId} {af:List (List AV)} {c:Array Value} {sz len:Nat} (hl:c.size=af.length*sz) (hn:af.length=len) :
  RV C (g.at id w.heap.size 0) (bz [(id,.af sz af)] h) (qh N id) (w.alloc (.cells c e (0,0))) (.Zak id 0 len) (.slice (some ⟨w.heap.size,0,none⟩) len len):=by
 refine .Zak id 0 len _ (.inr rfl) rfl fun sz' dY ho => ?_
 simp only [bz,if_pos] at ho
 cases ho
 exact ⟨by omega,.inr ⟨w.heap.size,len,c,e,by simp [Gh.at],by simp,ug _,zW w _,by rw [hl,hn];simp⟩⟩
theorem Je:uK 0 = #[]:=rfl
theorem MP {o:Oper} {t e:TypeId} {len sz:Nat} {parts:Array (Nat×Operand)} {z:List AV} (ho:o.op=.buildSlice t len parts)
  (ht:C.P.underlying t=some (.slice e)) (hsz:zz C.P e=some sz) (hz:qA C.P e=some z) (h0:0 < sz) (hzl:z.length=sz) (hle:len*sz≤2 ^ 24)
  (h1:∀ i v,C.P.info? e=some i→i.zero=some v→j8 v=true):aP C o (.cZ sz z len (parts.toList.map fun p=>(p.1,C.bf p.2))):=by
 intro g h N w id ev val r aO R hid hv he
 obtain ⟨i,zv,hi,iN,rfl⟩:=jN hz
 have hone:=h1 i zv hi iN
 have hzs:zv.cells.size=sz:=by simpa using hzl
 subst hzs
 simp only [ai] at he
 split at he
 ·rename_i qs Af
  split at he
  ·rename_i out hout
   simp only [Option.some.injEq,Prod.mk.injEq] at he
   obtain ⟨rfl,rfl⟩:=he
   have H0:=Vu (C:=C) (g:=g) (h:=h) (N:=N) (w:=w) hone len h0
   obtain ⟨c',h2,h3⟩:=MO (C:=C) zv.cells.size ev val parts.toList qs _ out _ Af
    (fun p hp=>hv p.2 (by simp only [ho,Op.operands];simp;exact ⟨p.1,by simpa using hp⟩)) H0 hout
   have hlen:out.length=len:=by
    have:∀ (qs:List (Nat×List AV)) (af out:List (List AV)),j7 af zv.cells.size qs=some out→out.length=af.length:=by
     intro qs
     induction qs with
     | nil=>intro af out hh;simp [j7] at hh;rw [hh]
     | cons q qs ih=>
      intro af out hh
      simp only [j7] at hh
      split at hh
      ·have:=ih _ _ hh;simpa using this
      ·cases hh
    have:=this _ _ _ hout
    simpa using this
   refine ⟨.slice (some ⟨w.heap.size,0,none⟩) len len,w.alloc (.cells c' e (0,0)),.inl ?_,?_⟩
   ·have hmap:(parts.map fun x=>(x.1,val x.2)).toList=parts.toList.map fun p=>(p.1,val p.2):=by simp
    have BG:¬ len*zv.cells.size > 2 ^ 24:=by omega
    by_cases hl0:len=0
    ·subst hl0
     have h2':Instr.fill (fun i=>some (i*zv.cells.size,zv.cells.size)) #[] (parts.toList.map fun p=>(p.1,val p.2))=some c':=by simpa [Je] using h2
     simp [execOp,ho,Instr.buildSlice,run_underlying ht,zT hsz,newRow,Je,h2']
    ·have hne:¬ len*zv.cells.size=0:=by
      intro hc
      rcases uL.1 hc with hc | hc<;>omega
     have MQ:¬ (len=0∨zv.cells = #[]):=by
      intro hc
      rcases hc with hc | hc
      ·exact hl0 hc
      ·rw [hc] at h0;simp at h0
     simp only [execOp,ho,Instr.buildSlice,Sem.run_bind,run_underlying ht,Result.andThen_ok,zT hsz,Sem.run_ite,if_neg BG,Sem.run_pure,if_neg hne,zeroValue,typeInfo,run_program,hi,iN,hmap,h2,newRow,run_newObj]
     rfl
   ·exact Z0 R hid _ _ _ _ h3.2.1 h3.2.2 (JO h3.1 hlen)
  ·cases he
 ·cases he
theorem MR {k:IntKind} {n:Int} (h1:k.min≤n) (h2:n≤k.max):k.wrap n=n:=by
 cases k<;>simp only [IntKind.min,IntKind.max,IntKind.signed,IntKind.bits,IntKind.wrap] at * <;> simp at * <;> omega
theorem MS {o:Oper} {t e:TypeId} {l sz bG:Nat} {z:List AV} (ho:o.op=.makeSlice t (.tmp l) (.tmp l))
  (ht:C.P.underlying t=some (.slice e)) (hsz:zz C.P e=some sz) (hby:xz C.P e=some bG) (hz:qA C.P e=some z) (h0:0 < sz) (hzl:z.length=sz)
  (h1:∀ i v,C.P.info? e=some i→i.zero=some v→j8 v=true):aP C o (.mks sz bG z (.t l)):=by
 intro g h N w id ev val r aO R hid hv he
 have hx:=hv (.tmp l) (by simp [ho,Op.operands])
 obtain ⟨i,zv,hi,iN,rfl⟩:=jN hz
 have hone:=h1 i zv hi iN
 have hzs:zv.cells.size=sz:=by simpa using hzl
 subst hzs
 have CZ:i.bytes=bG:=by simpa [xz,hi] using hby
 subst CZ
 simp only [ai] at he
 split at he
 ·rename_i n e1
  have hop:C.bf (.tmp l)=.t l:=rfl
  rw [hop,e1] at hx
  have hval:=wI hx
  split at he
  ·rename_i hle
   obtain ⟨gM,hle2,C1⟩:=hle
   simp only [Option.some.injEq,Prod.mk.injEq] at he
   obtain ⟨rfl,rfl⟩:=he
   obtain ⟨m,rfl⟩:=Int.eq_ofNat_of_zero_le gM
   simp only [Int.toNat_natCast]
   have H0:=Vu (C:=C) (g:=g) (h:=h) (N:=N) (w:=w) hone m h0
   refine ⟨.slice (some ⟨w.heap.size,0,none⟩) m m,w.alloc (.cells ((uK (m*zv.cells.size)).map (zv.cells[· % zv.cells.size]!)) e (0,0)),.inl ?_,?_⟩
   ·have hwr:IntKind.i64.wrap (m:Int)=m:=MR (by simp [IntKind.min,IntKind.signed,IntKind.bits]) (by simp [IntKind.max,IntKind.signed,IntKind.bits];omega)
    have BG:¬ (281474976710656:Int) < (i.bytes:Int)*(m:Int):=by rw [Int.mul_comm];omega
    have hneg:¬ (m:Int) < 0:=by omega
    by_cases hm0:m=0
    ·subst hm0
     simp [execOp,ho,Instr.makeSlice,run_underlying ht,asInt,asIntOf,hval,hwr,typeInfo,hi,BG,sizeOf,newRow,Je,show IntKind.i64.wrap 0=0 from by decide]
    ·have hne:¬ m*zv.cells.size=0:=by
      intro hc
      rcases uL.1 hc with hc | hc<;>omega
     have hsz2:i.size=zv.cells.size:=by simpa [zz,hi] using hsz
     have C2:¬ zv.cells = #[]:=fun hc=>by rw [hc] at h0;simp at h0
     simp [execOp,ho,Instr.makeSlice,run_underlying ht,asInt,asIntOf,hval,hwr,typeInfo,hi,BG,hneg,sizeOf,newRow,zeroValue,iN,hsz2,hm0,C2]
     exact fun hc=>absurd hc hne
   ·exact Z0 R hid _ _ _ _ H0.2.1 H0.2.2 (JO H0.1 (by simp))
  ·cases he
 ·cases he
end
end
end Go.Proofs.YtgpojcfkanjabaaGreatDoor
