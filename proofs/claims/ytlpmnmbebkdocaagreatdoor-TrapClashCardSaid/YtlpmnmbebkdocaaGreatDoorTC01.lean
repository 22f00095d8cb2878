/-
  The abstract machine: its values, its states, and how they stand to the model's values and worlds. Proved here: what is related stays related while the world goes on.
  The abstract machine: its operations, what they come to, and how they are read off the model's operations.
  The abstract machine: what new objects, and objects that turn, do to the relations.
  The abstract machine: objects that turn: stores into rows, maps that are written.
  The abstract machine: each operation of the model comes to what the machine says (all but calls, append, maps and the equality of structs).
  The abstract machine: more operations.
  The abstract machine: arithmetic, lengths, tuples, closures, literals.
  The abstract machine: literals of structs and slices, make, maps.
-/
import Derived.Orders
import Derived.Below
import Derived.KernelRfl
import Derived.Laws.Cells
import Derived.Laws.AppendOwn
import Derived.Laws.StructEq
namespace Go.Proofs.YtlpmnmbebkdocaaGreatDoor
open Go.RowKit
set_option linter.unusedVariables false
theorem ZaH {α : Type} (x y : α) : (bif false then x else y) = y := rfl
theorem ZaI {α β : Type} (x : α) (f : α → Option β) : (some x).bind f = f x := rfl
inductive IV where
  | bool (b:Bool)
  | int (k:IntKind) (n:Int)
  | str (s:ByteArray)
  | slice (rows:List (List IV))
  | agg (cells:List IV)
  | tuple (vs:List IV)
  | iface (t:Nat) (x:IV)
  | nomap
  | omap (es:List (IV×IV))
  deriving Inhabited
def IV.key:IV→Option Value
  | .bool b=>some (.bool b)
  | .int k n=>some (.int k n)
  | .str s=>some (.string s)
  | _=>none
inductive AV where
  | top
  | undef
  | imm (v:IV)
  | nil
  | nnil
  | Zas (id:Nat) (rows:List (List IV))
  | eptr (cells:List IV)
  | ptr (id row off:Nat)
  | Zal (id off len:Nat)
  | func (f:Nat) (first caps:List AV)
  | map (id:Nat)
  | agg (cells:List AV)
  | tuple (vs:List AV)
  | yld (l id:Nat)
  deriving Inhabited
inductive Zaf where
  | rows (sz:Nat) (rows:List (List AV))
  | tip (sz len:Nat)
  | map (es:List (IV×AV))
  | dead
  | lp (l:Nat) (R:LoopState→Option Code→Loop) (s:LoopState) (pe:Option Code)
  deriving Inhabited
def za {α:Type}:List (Nat×α)→Nat→Option α
  | [],_=>none
  | (k,v)::r,i=>if k=i then some v else za r i
structure St where
  env:List (Nat×AV)
  heap:List (Nat×Zaf)
  next:Nat
structure Gh where
  ρ:Nat→Option Nat
  Z:Nat→Nat
inductive RI (Z:Nat→Nat) (w:World):IV→Value→Prop where
  | bool (b:Bool):RI Z w (.bool b) (.bool b)
  | int (k:IntKind) (n:Int):RI Z w (.int k n) (.int k n)
  | str (s:ByteArray):RI Z w (.str s) (.string s)
  | nil:RI Z w (.slice []) (.slice none 0 0)
  | empty (a:Addr) (cap:Nat):RI Z w (.slice []) (.slice (some a) 0 cap)
  | slice (rows:List (List IV)) (b off cap sz:Nat) (cv:Nat→Nat→Value)
      (hcap:rows.length≤cap)
      (hsz:∀ (i:Nat) (row:List IV),rows[i]?=some row→row.length=sz)
      (hz:∀ (i:Nat) (row:List IV) (j:Nat) (c:IV),rows[i]?=some row→row[j]?=some c→off+i*sz+j < Z b)
      (hc:∀ (i:Nat) (row:List IV) (j:Nat) (c:IV),rows[i]?=some row→row[j]?=some c→w.cell? ⟨b,off+i*sz+j,none⟩=some (cv i j)∧(cv i j).oneCell'=true)
      (hr:∀ (i:Nat) (row:List IV) (j:Nat) (c:IV),rows[i]?=some row→row[j]?=some c→RI Z w c (cv i j)) :
      RI Z w (.slice rows) (.slice (some ⟨b,off,none⟩) rows.length cap)
  | agg (cs:List IV) (vs:List Value) (hl:cs.length=vs.length) (h1:∀ v∈vs,v.oneCell'=true)
      (hr:∀ (i:Nat) (c:IV) (v:Value),cs[i]?=some c→vs[i]?=some v→RI Z w c v):RI Z w (.agg cs) (.agg vs.toArray)
  | tuple (cs:List IV) (vs:List Value) (hl:cs.length=vs.length)
      (hr:∀ (i:Nat) (c:IV) (v:Value),cs[i]?=some c→vs[i]?=some v→RI Z w c v):RI Z w (.tuple cs) (.tuple vs.toArray)
  | iface (t:Nat) (x:IV) (v:Value) (hr:RI Z w x v):RI Z w (.iface t x) (.iface t v)
  | nomap:RI Z w .nomap (.map none)
  | omap (es:List (IV×IV)) (b:Nat) (ces:Array MapEntry) (clock:Nat) (ev:Nat→MapEntry) (hz:0 < Z b) (hb:w.heap[b]?=some (.map ces clock)) (hl:ces.size=es.length)
      (hk:∀ (i:Nat) (k x:IV),es[i]?=some (k,x)→ces[i]?=some (ev i)∧IV.key k=some (ev i).key)
      (hr:∀ (i:Nat) (k x:IV),es[i]?=some (k,x)→RI Z w x (ev i).val):RI Z w (.omap es) (.map (some b))
theorem Qu {w w':World} {b o:Nat} (hb:w'.heap[b]?=w.heap[b]?):w'.cell? ⟨b,o,none⟩=w.cell? ⟨b,o,none⟩:=by
  simp only [World.cell?,hb]
structure Frz (Z:Nat→Nat) (w w':World):Prop where
  c:∀ b o,o < Z b→w'.cell? ⟨b,o,none⟩=w.cell? ⟨b,o,none⟩
  m:∀ (b:Nat) (ces:Array MapEntry) (clock:Nat),0 < Z b→w.heap[b]?=some (.map ces clock)→w'.heap[b]?=w.heap[b]?
theorem Frz.refl (Z:Nat→Nat) (w:World):Frz Z w w:=⟨fun _ _ _=>rfl,fun _ _ _ _ _=>rfl⟩
theorem Frz.heap {Z:Nat→Nat} {w w':World} (h:∀ b,0 < Z b→w'.heap[b]?=w.heap[b]?):Frz Z w w':=
  ⟨fun b o ho=>Qu (h b (by omega)),fun b _ _ hz _=>h b hz⟩
structure Tabs where
  p:World→Prop
  n:Nat
  ok:∀ w w':World,(∀ b,b < n→w'.heap[b]?=w.heap[b]?)→p w→p w'
structure Ctx where
  P:Program
  tbl:List FuncId
  tabs:Tabs
  ifs:List TypeId
def Ctx.fnum (C:Ctx) (i:Nat):FuncId:=C.tbl.getD i 0
inductive RV (C:Ctx) (g:Gh) (h:Nat→Option Zaf) (N:Nat→Prop) (w:World):AV→Value→Prop where
  | top (v:Value):RV C g h N w .top v
  | undef:RV C g h N w .undef undef
  | imm (x:IV) (v:Value) (hr:RI g.Z w x v):RV C g h N w (.imm x) v
  | nil:RV C g h N w .nil (.slice none 0 0)
  | nnil (a:Addr) (cap:Nat):RV C g h N w .nnil (.slice (some a) 0 cap)
  | Zas (id:Nat) (rows:List (List IV)) (v:Value) (hr:RI g.Z w (.slice rows) v) (hid:N id)
      (ht:∀ sz len,h id=some (.tip sz len)→rows.length≤len∧(∀ (i:Nat) (row:List IV),rows[i]?=some row→row.length=sz) ∧
        (rows.length=len→(g.ρ id=none∧v=.slice none 0 0) ∨
          ∃ b cap c e,g.ρ id=some b∧v=.slice (some ⟨b,0,none⟩) rows.length cap∧w.heap[b]?=some (.cells c e (0,0))∧cap*sz≤c.size)) :
      RV C g h N w (.Zas id rows) v
  | eptr (cells:List IV) (b off:Nat) (cv:Nat→Value)
      (hz:∀ (j:Nat) (c:IV),cells[j]?=some c→off+j < g.Z b)
      (hc:∀ (j:Nat) (c:IV),cells[j]?=some c→w.cell? ⟨b,off+j,none⟩=some (cv j)∧(cv j).oneCell'=true)
      (hr:∀ (j:Nat) (c:IV),cells[j]?=some c→RI g.Z w c (cv j)) :
      RV C g h N w (.eptr cells) (.pointer (some ⟨b,off,none⟩))
  | ptr (id row off:Nat) (v:Value) (hid:N id) (h1:v.oneCell'=true)
      (hp:∀ sz rows,h id=some (.rows sz rows)→∃ b,g.ρ id=some b∧v=.pointer (some ⟨b,row*sz+off,none⟩)) :
      RV C g h N w (.ptr id row off) v
  | Zal (id off len:Nat) (v:Value) (hid:N id) (h1:v.oneCell'=true)
      (hp:∀ sz rows,h id=some (.rows sz rows)→off+len≤rows.length∧((g.ρ id=none∧rows=[]∧v=.slice none 0 0) ∨
        ∃ b cap c e,g.ρ id=some b∧v=.slice (some ⟨b,off*sz,none⟩) len cap∧len≤cap∧w.heap[b]?=some (.cells c e (0,0))∧(off+cap)*sz≤c.size)) :
      RV C g h N w (.Zal id off len) v
  | func (f:Nat) (first caps:List AV) (vf vc:List Value) (hlf:first.length=vf.length) (hlc:caps.length=vc.length)
      (hf:∀ (i:Nat) (c:AV) (v:Value),first[i]?=some c→vf[i]?=some v→RV C g h N w c v)
      (hc:∀ (i:Nat) (c:AV) (v:Value),caps[i]?=some c→vc[i]?=some v→RV C g h N w c v) :
      RV C g h N w (.func f first caps) (.func (.func (C.fnum f)) vf.toArray vc.toArray)
  | map (id:Nat) (v:Value) (hid:N id) (h1:v.oneCell'=true)
      (hp:∀ es,h id=some (.map es)→∃ b,g.ρ id=some b∧v=.map (some b)):RV C g h N w (.map id) v
  | agg (cs:List AV) (vs:List Value) (hl:cs.length=vs.length) (h1:∀ v∈vs,v.oneCell'=true)
      (hr:∀ (i:Nat) (c:AV) (v:Value),cs[i]?=some c→vs[i]?=some v→RV C g h N w c v):RV C g h N w (.agg cs) (.agg vs.toArray)
  | tuple (cs:List AV) (vs:List Value) (hl:cs.length=vs.length)
      (hr:∀ (i:Nat) (c:AV) (v:Value),cs[i]?=some c→vs[i]?=some v→RV C g h N w c v):RV C g h N w (.tuple cs) (.tuple vs.toArray)
  | yld (l id:Nat) (hid:N id) (hp:∀ R s pe,h id=some (.lp l R s pe)→g.ρ id=some l):RV C g h N w (.yld l id) (.func (.yield l) #[] #[])
def RObj (C:Ctx) (g:Gh) (h:Nat→Option Zaf) (N:Nat→Prop) (w:World) (b:Nat):Zaf→Prop
  | .rows sz rows=>g.Z b=0∧∃ c e,w.heap[b]?=some (.cells c e (0,0))∧(∀ (i:Nat) (row:List AV),rows[i]?=some row→row.length=sz) ∧
      ∀ (i:Nat) (row:List AV) (j:Nat) (x:AV),rows[i]?=some row→row[j]?=some x→∃ cv,c[i*sz+j]?=some cv∧cv.oneCell'=true∧RV C g h N w x cv
  | .tip sz len=>∃ c e,w.heap[b]?=some (.cells c e (0,0))∧g.Z b=len*sz∧len*sz≤c.size
  | .map es=>g.Z b=0∧∃ ces clock,w.heap[b]?=some (.map ces clock)∧ces.size=es.length ∧
      ∀ (i:Nat) (k:IV) (x:AV),es[i]?=some (k,x)→∃ e,ces[i]?=some e∧IV.key k=some e.key∧RV C g h N w x e.val
  | .dead=>True
  | .lp l R s pe=>g.Z b=0∧b=l∧w.heap[b]?=some (.loop (R s pe))
def wJ (g:Gh) (b:Nat):Prop:=∃ i,g.ρ i=some b
def Ctx.Fix (C:Ctx) (g:Gh) (w:World):Prop:=C.tabs.p w∧C.tabs.n≤w.heap.size∧∀ b,b < C.tabs.n→¬ wJ g b
structure RH (C:Ctx) (g:Gh) (h:Nat→Option Zaf) (N:Nat→Prop) (w:World):Prop where
  inj:∀ i j b,g.ρ i=some b→g.ρ j=some b→i=j
  lt:∀ i b,g.ρ i=some b→b < w.heap.size∧N i
  key:∀ i o,h i=some o→N i
  obj:∀ i b o,g.ρ i=some b→h i=some o→RObj C g h N w b o
  tip0:∀ i sz len,h i=some (.tip sz len)→g.ρ i=none→len=0
  zlt:∀ b,0 < g.Z b→b < w.heap.size
  fix:C.Fix g w
def Marks (B:Nat) (g:Gh) (w:World) (ds:List Deferred):Prop:=
  B≤w.heap.size∧∃ Ds:List Nat,ds=Ds.map (fun D=>{target:=.collected D,args := #[]})∧Ds.Nodup∧∀ D∈Ds,B≤D∧w.heap[D]?=some (.deferred (some []))∧¬ wJ g D
theorem Marks.nil {B:Nat} (g:Gh) {w:World} (hB:B≤w.heap.size):Marks B g w []:=⟨hB,[],rfl,List.nodup_nil,fun D h=>by cases h⟩
theorem Marks.sub {B:Nat} {g g':Gh} {w:World} {ds:List Deferred} (M:Marks B g w ds) (hs:∀ b,wJ g' b→wJ g b):Marks B g' w ds:=by
  obtain ⟨h0,Ds,h1,h2,h3⟩:=M
  exact ⟨h0,Ds,h1,h2,fun D hD=>⟨(h3 D hD).1,(h3 D hD).2.1,fun h=>(h3 D hD).2.2 (hs D h)⟩⟩
structure Fr where
  n:Nat
  B:Nat
structure RE (C:Ctx) (nt:Fr) (g:Gh) (env:List (Nat×AV)) (h:Nat→Option Zaf) (N:Nat→Prop) (a:Act) (w:World):Prop where
  size:a.tmps.size=nt.n
  defers:Marks nt.B g w a.defers
  slot:∀ t x,za env t=some x→RV C g h N w x (a.tmps.getD t Go.undef)
structure Rel (C:Ctx) (nt:Fr) (g:Gh) (st:St) (a:Act) (w:World):Prop where
  env:RE C nt g st.env (za st.heap) (· < st.next) a w
  heap:RH C g (za st.heap) (· < st.next) w
structure Evo (g:Gh) (h:Nat→Option Zaf) (N:Nat→Prop) (w:World) (g':Gh) (h':Nat→Option Zaf) (N':Nat→Prop) (w':World):Prop where
  os:w'.os=w.os
  tape:w'.tape=w.tape
  output:w'.output=w.output
  size:w.heap.size≤w'.heap.size
  old:∀ b,b < w.heap.size→¬ wJ g b→w'.heap[b]?=w.heap[b]?∧g'.Z b=g.Z b
  own:∀ b,wJ g' b→wJ g b∨w.heap.size≤b
  zmono:∀ b,g.Z b≤g'.Z b
  cell:Frz g.Z w w'
  shape:∀ (b:Nat) (c:Array Value) (e:TypeId),w.heap[b]?=some (.cells c e (0,0))→∃ c':Array Value,w'.heap[b]?=some (.cells c' e (0,0))∧c'.size=c.size
  next:∀ i,N i→N' i
  rho:∀ i b,g.ρ i=some b→∀ o,h' i=some o→o≠.dead→N i→g'.ρ i=some b∨(∃ sz l sz' l',h i=some (.tip sz l)∧o=.tip sz' l'∧l < l')
  rho0:∀ i,g.ρ i=none→N i→∀ o,h' i=some o→o≠.dead→g'.ρ i=none∨(∃ sz l sz' l',h i=some (.tip sz l)∧o=.tip sz' l'∧l < l')
  rows:∀ i,N i→∀ sz rows,h' i=some (.rows sz rows)→∃ rows0,h i=some (.rows sz rows0)∧rows0.length=rows.length
  tips:∀ i,N i→∀ sz len,h' i=some (.tip sz len)→∃ len0,h i=some (.tip sz len0)∧len0≤len
  maps:∀ i,N i→∀ es,h' i=some (.map es)→∃ es0,h i=some (.map es0)
  lps:∀ i,N i→∀ l R s pe,h' i=some (.lp l R s pe)→∃ s0 pe0,h i=some (.lp l R s0 pe0)
theorem Ctx.Fix.evo {C:Ctx} {g g':Gh} {h h':Nat→Option Zaf} {N N':Nat→Prop} {w w':World} (E:Evo g h N w g' h' N' w') (F:C.Fix g w):C.Fix g' w':=
  ⟨C.tabs.ok w w' (fun b hb=>(E.old b (Nat.lt_of_lt_of_le hb F.2.1) (F.2.2 b hb)).1) F.1,Nat.le_trans F.2.1 E.size,fun b hb ho=>(E.own b ho).elim (F.2.2 b hb) (fun h=>by have:=F.2.1;omega)⟩
theorem Marks.evo {g g':Gh} {h h':Nat→Option Zaf} {N N':Nat→Prop} {w w':World} (E:Evo g h N w g' h' N' w') {B:Nat} {ds:List Deferred} (M:Marks B g w ds):Marks B g' w' ds:=by
  obtain ⟨h0,Ds,h1,h2,h3⟩:=M
  refine ⟨Nat.le_trans h0 E.size,Ds,h1,h2,fun D hD => ?_⟩
  obtain ⟨h6,h4,h5⟩:=h3 D hD
  have hlt:D < w.heap.size:=(Array.getElem?_eq_some_iff.1 h4).1
  exact ⟨h6,(E.old D hlt h5).1.trans h4,fun h=>(E.own D h).elim h5 (fun h=>by omega)⟩
theorem RI.mono {Z Z':Nat→Nat} {w w':World} (hz:∀ b,Z b≤Z' b) (hc:Frz Z w w') {x:IV} {v:Value}
    (h:RI Z w x v):RI Z' w' x v:=by
  induction h with
  | bool b=>exact .bool b
  | int k n=>exact .int k n
  | str s=>exact .str s
  | nil=>exact .nil
  | empty a cap=>exact .empty a cap
  | slice rows b off cap sz cv hcap hsz hz' hc' hr ih=>
    exact .slice rows b off cap sz cv hcap hsz (fun i row j c h1 h2=>Nat.lt_of_lt_of_le (hz' i row j c h1 h2) (hz b))
      (fun i row j c h1 h2=>⟨(hc.c b _ (hz' i row j c h1 h2)).trans (hc' i row j c h1 h2).1,(hc' i row j c h1 h2).2⟩) ih
  | agg cs vs hl h1 hr ih=>exact .agg cs vs hl h1 ih
  | tuple cs vs hl hr ih=>exact .tuple cs vs hl ih
  | iface t x v hr ih=>exact .iface t x v ih
  | nomap=>exact .nomap
  | omap es b ces clock ev hz' hb hl hk hr ih=>exact .omap es b ces clock ev (Nat.lt_of_lt_of_le hz' (hz b)) ((hc.m b ces clock hz' hb).trans hb) hl hk ih
theorem RV.mono {C:Ctx} {g g':Gh} {h h':Nat→Option Zaf} {N N':Nat→Prop} {w w':World} (E:Evo g h N w g' h' N' w') {x:AV} {v:Value}
    (hv:RV C g h N w x v):RV C g' h' N' w' x v:=by
  induction hv with
  | top v=>exact .top v
  | undef=>exact .undef
  | imm x v hr=>exact .imm x v (hr.mono E.zmono E.cell)
  | nil=>exact .nil
  | nnil a cap=>exact .nnil a cap
  | Zas id rows v hr hid ht=>
    refine .Zas id rows v (hr.mono E.zmono E.cell) (E.next _ hid) fun sz len hg => ?_
    obtain ⟨len0,hg0,hle⟩:=E.tips id hid sz len hg
    obtain ⟨h1,h2,h3⟩:=ht sz len0 hg0
    refine ⟨Nat.le_trans h1 hle,h2,fun heq => ?_⟩
    have he:len0=len:=by omega
    subst he
    rcases h3 heq with ⟨hn,hv⟩ | ⟨b,cap,c,e,hb,hv,hw,hcap⟩
    · rcases E.rho0 id hn hid _ hg (by simp) with h4 | ⟨sz1,l1,sz2,l2,e1,e2,e3⟩
      · exact .inl ⟨h4,hv⟩
      · rw [hg0] at e1;cases e1;cases e2;omega
    · rcases E.rho id b hb _ hg (by simp) hid with h4 | ⟨sz1,l1,sz2,l2,e1,e2,e3⟩
      · obtain ⟨c',hc',hs'⟩:=E.shape b c e hw
        exact .inr ⟨b,cap,c',e,h4,hv,hc',by rw [hs'];exact hcap⟩
      · rw [hg0] at e1;cases e1;cases e2;omega
  | eptr cells b off cv hz hc hr=>
    exact .eptr cells b off cv (fun j c h1=>Nat.lt_of_lt_of_le (hz j c h1) (E.zmono b))
      (fun j c h1=>⟨(E.cell.c b _ (hz j c h1)).trans (hc j c h1).1,(hc j c h1).2⟩) (fun j c h1=>(hr j c h1).mono E.zmono E.cell)
  | ptr id row off v hid h1 hp=>
    refine .ptr id row off v (E.next _ hid) h1 fun sz rows hg => ?_
    obtain ⟨rows0,hg0,_⟩:=E.rows id hid sz rows hg
    obtain ⟨b,hb,hv⟩:=hp sz rows0 hg0
    rcases E.rho id b hb _ hg (by simp) hid with h4 | ⟨sz1,l1,sz2,l2,e1,e2,e3⟩
    · exact ⟨b,h4,hv⟩
    · cases e2
  | Zal id off len v hid hone hp=>
    refine .Zal id off len v (E.next _ hid) hone fun sz rows hg => ?_
    obtain ⟨rows0,hg0,hl⟩:=E.rows id hid sz rows hg
    obtain ⟨h1,h2⟩:=hp sz rows0 hg0
    refine ⟨by omega,?_⟩
    rcases h2 with ⟨hn,hr,hv⟩ | ⟨b,cap,c,e,hb,hv,hle,hw,hcap⟩
    · rcases E.rho0 id hn hid _ hg (by simp) with h4 | ⟨sz1,l1,sz2,l2,e1,e2,e3⟩
      · refine .inl ⟨h4,?_,hv⟩
        subst hr
        exact List.eq_nil_of_length_eq_zero (by simpa using hl.symm)
      · cases e2
    · rcases E.rho id b hb _ hg (by simp) hid with h4 | ⟨sz1,l1,sz2,l2,e1,e2,e3⟩
      · obtain ⟨c',hc',hs'⟩:=E.shape b c e hw
        exact .inr ⟨b,cap,c',e,h4,hv,hle,hc',by rw [hs'];exact hcap⟩
      · cases e2
  | func f first caps vf vc hlf hlc hf hc ihf ihc=>exact .func f first caps vf vc hlf hlc ihf ihc
  | map id v hid h1 hp=>
    refine .map id v (E.next _ hid) h1 fun es hg => ?_
    obtain ⟨es0,hg0⟩:=E.maps id hid es hg
    obtain ⟨b,hb,hv⟩:=hp es0 hg0
    rcases E.rho id b hb _ hg (by simp) hid with h4 | ⟨sz1,l1,sz2,l2,e1,e2,e3⟩
    · exact ⟨b,h4,hv⟩
    · cases e2
  | agg cs vs hl h1 hr ih=>exact .agg cs vs hl h1 ih
  | tuple cs vs hl hr ih=>exact .tuple cs vs hl ih
  | yld l id hid hp=>
    refine .yld l id (E.next _ hid) fun R s pe hg => ?_
    obtain ⟨s0,pe0,hg0⟩:=E.lps id hid l R s pe hg
    rcases E.rho id l (hp R s0 pe0 hg0) _ hg (by simp) hid with h4 | ⟨_,_,_,_,_,e2,_⟩
    · exact h4
    · cases e2
theorem Evo.refl (g:Gh) (h:Nat→Option Zaf) (N:Nat→Prop) (w:World):Evo g h N w g h N w where
  os:=rfl
  tape:=rfl
  output:=rfl
  size:=Nat.le_refl _
  old:=fun _ _ _=>⟨rfl,rfl⟩
  own:=fun _ h=>.inl h
  zmono:=fun _=>Nat.le_refl _
  cell:=Frz.refl _ _
  shape:=fun b c e h=>⟨c,h,rfl⟩
  next:=fun _ h=>h
  rho:=fun i b h _ _ _ _=>.inl h
  rho0:=fun i h _ _ _ _=>.inl h
  rows:=fun i _ sz rows h=>⟨rows,h,rfl⟩
  tips:=fun i _ sz len h=>⟨len,h,Nat.le_refl _⟩
  maps:=fun i _ es h=>⟨es,h⟩
  lps:=fun i _ l R s pe h=>⟨s,pe,h⟩
theorem Evo.trans {g₁ g₂ g₃:Gh} {h₁ h₂ h₃:Nat→Option Zaf} {N₁ N₂ N₃:Nat→Prop} {w₁ w₂ w₃:World}
    (A:Evo g₁ h₁ N₁ w₁ g₂ h₂ N₂ w₂) (B:Evo g₂ h₂ N₂ w₂ g₃ h₃ N₃ w₃):Evo g₁ h₁ N₁ w₁ g₃ h₃ N₃ w₃ where
  os:=B.os.trans A.os
  tape:=B.tape.trans A.tape
  output:=B.output.trans A.output
  size:=Nat.le_trans A.size B.size
  old:=fun b hb ho=>by
    obtain ⟨h1,h2⟩:=A.old b hb ho
    have ho':¬ wJ g₂ b:=fun h=>(A.own b h).elim ho (fun h=>by omega)
    obtain ⟨h3,h4⟩:=B.old b (Nat.lt_of_lt_of_le hb A.size) ho'
    exact ⟨h3.trans h1,h4.trans h2⟩
  own:=fun b h=>by
    rcases B.own b h with h | h
    · exact A.own b h
    · exact .inr (Nat.le_trans A.size h)
  zmono:=fun b=>Nat.le_trans (A.zmono b) (B.zmono b)
  cell:=⟨fun b o h=>(B.cell.c b o (Nat.lt_of_lt_of_le h (A.zmono b))).trans (A.cell.c b o h),fun b ces clock hz hb=>(B.cell.m b ces clock (Nat.lt_of_lt_of_le hz (A.zmono b)) ((A.cell.m b ces clock hz hb).trans hb)).trans (A.cell.m b ces clock hz hb)⟩
  shape:=fun b c e h=>by
    obtain ⟨c',h1,h2⟩:=A.shape b c e h
    obtain ⟨c'',h3,h4⟩:=B.shape b c' e h1
    exact ⟨c'',h3,h4.trans h2⟩
  next:=fun i h=>B.next i (A.next i h)
  rho:=fun i b h o ho hnd hi=>by
    cases o with
    | rows sz rows=>
      obtain ⟨r2,hg2,_⟩:=B.rows i (A.next _ hi) sz rows ho
      rcases A.rho i b h _ hg2 (by simp) hi with h1 | ⟨_,_,_,_,_,e2,_⟩
      · rcases B.rho i b h1 _ ho (by simp) (A.next _ hi) with h3 | ⟨_,_,_,_,_,e2,_⟩
        · exact .inl h3
        · cases e2
      · cases e2
    | tip sz len=>
      obtain ⟨l2,hg2,hl2⟩:=B.tips i (A.next _ hi) sz len ho
      obtain ⟨l1,hg1,hl1⟩:=A.tips i hi sz l2 hg2
      by_cases hlt:l1 < len
      · exact .inr ⟨sz,l1,sz,len,hg1,rfl,hlt⟩
      · rcases A.rho i b h _ hg2 (by simp) hi with h1 | ⟨_,_,_,_,e1,e2,e3⟩
        · rcases B.rho i b h1 _ ho (by simp) (A.next _ hi) with h3 | ⟨_,_,_,_,e1,e2,e3⟩
          · exact .inl h3
          · rw [hg2] at e1;cases e1;cases e2;omega
        · rw [hg1] at e1;cases e1;cases e2;omega
    | lp l R s pe=>
      obtain ⟨s2,pe2,hg2⟩:=B.lps i (A.next _ hi) l R s pe ho
      rcases A.rho i b h _ hg2 (by simp) hi with h1 | ⟨_,_,_,_,_,e2,_⟩
      · rcases B.rho i b h1 _ ho (by simp) (A.next _ hi) with h3 | ⟨_,_,_,_,_,e2,_⟩
        · exact .inl h3
        · cases e2
      · cases e2
    | map es=>
      obtain ⟨r2,hg2⟩:=B.maps i (A.next _ hi) es ho
      rcases A.rho i b h _ hg2 (by simp) hi with h1 | ⟨_,_,_,_,_,e2,_⟩
      · rcases B.rho i b h1 _ ho (by simp) (A.next _ hi) with h3 | ⟨_,_,_,_,_,e2,_⟩
        · exact .inl h3
        · cases e2
      · cases e2
    | dead=>exact absurd rfl hnd
  rho0:=fun i h hi o ho hnd=>by
    cases o with
    | rows sz rows=>
      obtain ⟨r2,hg2,_⟩:=B.rows i (A.next _ hi) sz rows ho
      rcases A.rho0 i h hi _ hg2 (by simp) with h1 | ⟨_,_,_,_,_,e2,_⟩
      · rcases B.rho0 i h1 (A.next _ hi) _ ho (by simp) with h3 | ⟨_,_,_,_,_,e2,_⟩
        · exact .inl h3
        · cases e2
      · cases e2
    | tip sz len=>
      obtain ⟨l2,hg2,hl2⟩:=B.tips i (A.next _ hi) sz len ho
      obtain ⟨l1,hg1,hl1⟩:=A.tips i hi sz l2 hg2
      by_cases hlt:l1 < len
      · exact .inr ⟨sz,l1,sz,len,hg1,rfl,hlt⟩
      · rcases A.rho0 i h hi _ hg2 (by simp) with h1 | ⟨_,_,_,_,e1,e2,e3⟩
        · rcases B.rho0 i h1 (A.next _ hi) _ ho (by simp) with h3 | ⟨_,_,_,_,e1,e2,e3⟩
          · exact .inl h3
          · rw [hg2] at e1;cases e1;cases e2;omega
        · rw [hg1] at e1;cases e1;cases e2;omega
    | lp l R s pe=>
      obtain ⟨s2,pe2,hg2⟩:=B.lps i (A.next _ hi) l R s pe ho
      rcases A.rho0 i h hi _ hg2 (by simp) with h1 | ⟨_,_,_,_,_,e2,_⟩
      · rcases B.rho0 i h1 (A.next _ hi) _ ho (by simp) with h3 | ⟨_,_,_,_,_,e2,_⟩
        · exact .inl h3
        · cases e2
      · cases e2
    | map es=>
      obtain ⟨r2,hg2⟩:=B.maps i (A.next _ hi) es ho
      rcases A.rho0 i h hi _ hg2 (by simp) with h1 | ⟨_,_,_,_,_,e2,_⟩
      · rcases B.rho0 i h1 (A.next _ hi) _ ho (by simp) with h3 | ⟨_,_,_,_,_,e2,_⟩
        · exact .inl h3
        · cases e2
      · cases e2
    | dead=>exact absurd rfl hnd
  rows:=fun i hi sz rows ho=>by
    obtain ⟨r2,hg2,hl2⟩:=B.rows i (A.next _ hi) sz rows ho
    obtain ⟨r1,hg1,hl1⟩:=A.rows i hi sz r2 hg2
    exact ⟨r1,hg1,hl1.trans hl2⟩
  tips:=fun i hi sz len ho=>by
    obtain ⟨l2,hg2,hl2⟩:=B.tips i (A.next _ hi) sz len ho
    obtain ⟨l1,hg1,hl1⟩:=A.tips i hi sz l2 hg2
    exact ⟨l1,hg1,Nat.le_trans hl1 hl2⟩
  maps:=fun i hi es ho=>by
    obtain ⟨r2,hg2⟩:=B.maps i (A.next _ hi) es ho
    exact A.maps i hi r2 hg2
  lps:=fun i hi l R s pe ho=>by
    obtain ⟨s2,pe2,hg2⟩:=B.lps i (A.next _ hi) l R s pe ho
    exact A.lps i hi l R s2 pe2 hg2
inductive Opd where
  | t (n:Nat)
  | c (x:AV)
  | m (n:Nat) (l:List (Nat×Nat))
  deriving Inhabited
inductive AOp where
  | mov (x:Opd)
  | pick (c a b:Opd)
  | alloc (sz:Nat) (rows:List (List AV))
  | box (sz:Nat) (x:Opd)
  | build (zero:List AV) (parts:List (Nat×Nat×Opd))
  | bslice (sz:Nat) (zero:List AV) (len:Nat) (parts:List (Nat×Opd))
  | load (agg:Bool) (n:Nat) (x:Opd)
  | store (n:Nat) (x v:Opd)
  | fld (off:Nat) (x:Opd)
  | idx (sz:Nat) (x i:Opd)
  | idxa (len sz:Nat) (x i:Opd)
  | bin (op:BinOp) (x y:Opd)
  | eqb (neg:Bool) (x y:Opd)
  | eqs (neg:Bool) (ks:List Nat) (x y:Opd)
  | eqnil (neg:Bool) (x y:Opd)
  | not (x:Opd)
  | neg (x:Opd)
  | conv (k:IntKind) (x:Opd)
  | len (x:Opd)
  | lens (x:Opd)
  | lenm (x:Opd)
  | mm (max:Bool) (x y:Opd)
  | app (sz by_:Nat) (s x:Opd)
  | ext (x:Opd) (i:Nat)
  | mkf (f:Nat) (first caps:List Opd)
  | mkmap
  | look (str:Bool) (zero:AV) (ok:Bool) (m k:Opd)
  | upd (str:Bool) (m k v:Opd)
  | mks (sz by_:Nat) (zero:List AV) (n:Opd)
  | slc (sz:Nat) (x:Opd) (lo hi:Option Opd)
  | nck (x:Opd)
  | copy (sz:Nat) (d s:Opd)
  | ixa (len sz:Nat) (x i:Opd)
  | mki (t:Nat) (x:Opd)
  | eqnm (neg:Bool) (x y:Opd)
  | cut (ag:Bool) (off n:Nat) (x:Opd)
  | call (f:Opd) (args:List Opd)
  deriving Inhabited
def zj {α:Type}:List (Nat×α)→Nat→α→List (Nat×α)
  | [],i,x=>[(i,x)]
  | (k,v)::r,i,x=>if k=i then (i,x)::r else (k,v)::zj r i x
theorem zo {α:Type} (l:List (Nat×α)) (i:Nat) (x:α) (j:Nat):za (zj l i x) j=if i=j then some x else za l j:=by
  induction l with
  | nil=>simp [zj,za]
  | cons p r ih=>
    obtain ⟨k,v⟩:=p
    simp only [zj]
    split
    · rename_i hk
      subst hk
      simp only [za]
      split<;>rfl
    · rename_i hk
      simp only [za,ih]
      split
      · rename_i hkj
        rw [if_neg (by omega)]
      · rfl
def hup:List (Nat×Zaf)→(Nat→Option Zaf)→Nat→Option Zaf
  | [],h=>h
  | (k,o)::r,h=>fun i=>if k=i then some o else hup r h i
def mapO {α β:Type} (f:α→Option β):List α→Option (List β)
  | []=>some []
  | a::r=>match f a with
    | some b=>match mapO f r with
      | some bs=>some (b::bs)
      | none=>none
    | none=>none
def cellsOf:AV→Option (List AV)
  | .imm (.agg l)=>some (l.map .imm)
  | .agg l=>some l
  | .imm (.tuple _) | .top | .undef | .tuple _=>none
  | x=>some [x]
def qQ (row:List AV) (o:Nat) (cs:List AV):List AV:=row.take o++cs++row.drop (o+cs.length)
def vM (op:BinOp):IV→IV→Option IV
  | .int k a,.int k' b=>
    match op with
    | .shl=>if b < 0 then none else some (.int k (k.wrap (a*2 ^ (min b.toNat k.bits))))
    | .shr=>if b < 0 then none else some (.int k (a.fdiv (2 ^ (min b.toNat k.bits))))
    | _=>
    if k=k' then
      match op with
      | .add=>some (.int k (k.wrap (a+b)))
      | .sub=>some (.int k (k.wrap (a - b)))
      | .mul=>some (.int k (k.wrap (a*b)))
      | .quo=>if b=0 then none else some (.int k (k.wrap (a.tdiv b)))
      | .rem=>if b=0 then none else some (.int k (a.tmod b))
      | .and=>some (.int k (k.wrap ((BitVec.ofInt k.bits a &&& BitVec.ofInt k.bits b).toNat)))
      | .eql=>some (.bool (a == b))
      | .neq=>some (.bool (a != b))
      | .lss=>some (.bool (decide (a < b)))
      | .leq=>some (.bool (decide (a≤b)))
      | .gtr=>some (.bool (decide (b < a)))
      | .geq=>some (.bool (decide (b≤a)))
      | _=>none
    else none
  | .str a,.str b=>
    match op with
    | .eql=>some (.bool (a.toList == b.toList))
    | .neq=>some (.bool (!(a.toList == b.toList)))
    | _=>none
  | _,_=>none
def jE:IV→IV→Option Bool
  | .int k a,.int k' b=>if k=k' then some (a == b) else none
  | .bool a,.bool b=>some (a == b)
  | .str a,.str b=>some (a == b)
  | _,_=>none
def Zi:Nat→IV→IV→Option Bool
  | 0,.int k a,.int k' b=>if k=k' then some (a == b) else none
  | 1,.bool a,.bool b=>some (a == b)
  | 2,.str a,.str b=>some (a == b)
  | _,_,_=>none
def qm:List Nat→List IV→List IV→Option Bool
  | [],[],[]=>some true
  | k::ks,a::ags,b::bs=>match Zi k a b with
    | some x=>match qm ks ags bs with
      | some y=>some (x&&y)
      | none=>none
    | none=>none
  | _,_,_=>none
def zx (h:Nat→Option Zaf):Nat→AV→Option IV
  | 0,_=>none
  | d+1,x=>match x with
    | .imm x=>some x
    | .nil=>some (.slice [])
    | .nnil=>some (.slice [])
    | .Zas _ rows=>some (.slice rows)
    | .agg cs=>(mapO (zx h d) cs).map .agg
    | .tuple cs=>(mapO (zx h d) cs).map .tuple
    | .Zal id off len=>match h id with
      | some (.rows _ rows)=>if off+len≤rows.length then (mapO (fun row:List AV=>mapO (zx h d) row) ((rows.drop off).take len)).map .slice else none
      | _=>none
    | .map id=>match h id with
      | some (.map es)=>(mapO (fun e:IV×AV=>(zx h d e.2).map fun y=>(e.1,y)) es).map .omap
      | _=>none
    | _=>none
def jO:Nat→AV→Bool
  | 0,_=>false
  | d+1,x=>match x with
    | .imm _ | .nil | .nnil | .Zas _ _=>true
    | .agg cs | .tuple cs=>cs.all (jO d)
    | _=>false
def jk:AV→Option IV
  | .imm x=>some x
  | .nil=>some (.slice [])
  | .nnil=>some (.slice [])
  | .Zas _ rows=>some (.slice rows)
  | _=>none
def kB:AV→Option (List IV)
  | .imm (.agg l)=>some l
  | .agg cs=>mapO jk cs
  | _=>none
def xB (h:Nat→Option Zaf):AV→Option (List (List IV))
  | .imm (.slice rows) | .Zas _ rows=>some rows
  | .nil=>some []
  | .nnil=>some []
  | .Zal id off len=>match h id with
    | some (.rows _ rows)=>if off+len≤rows.length then mapO (fun row:List AV=>mapO jk row) ((rows.drop off).take len) else none
    | _=>none
  | _=>none
def jF (h:Nat→Option Zaf):AV→Option (List (List AV))
  | .Zal id off len=>match h id with
    | some (.rows _ rows)=>if off+len≤rows.length then some ((rows.drop off).take len) else none
    | _=>none
  | x=>(xB h x).map (·.map (·.map .imm))
def wq (h:Nat→Option Zaf):AV→Option Nat
  | .imm (.slice rows) | .Zas _ rows=>some rows.length
  | .nil=>some 0
  | .nnil=>some 0
  | .Zal id _ len=>match h id with
    | some (.rows _ _)=>some len
    | _=>none
  | _=>none
def wt (zero:List AV):List (Nat×Nat×List AV)→Option (List AV)
  | []=>some zero
  | (o,n,cs)::r=>if cs.length=n∧o+n≤zero.length then wt (qQ zero o cs) r else none
def jK (rows:List (List AV)) (sz:Nat):List (Nat×List AV)→Option (List (List AV))
  | []=>some rows
  | (i,cs)::r=>if cs.length=sz∧i < rows.length then jK (rows.set i cs) sz r else none
def ql (k:IV):List (IV×AV)→Option AV
  | []=>none
  | (k',x)::r=>match jE k k' with
    | some true=>some x
    | some false=>ql k r
    | none=>none
def qx (k:IV) (v:AV):List (IV×AV)→List (IV×AV)
  | []=>[(k,v)]
  | (k',x)::r=>match jE k k' with
    | some true=>(k,v)::r
    | _=>(k',x)::qx k v r
def xC:AV→AV
  | .agg cs=>match mapO jk cs with
    | some l=>.imm (.agg l)
    | none=>.agg cs
  | x=>x
def ZH:AV→Option (List AV)
  | .imm (.agg l)=>some (l.map .imm)
  | .agg cs=>some cs
  | _=>none
def jq (h:Nat→Option Zaf):AV→Option (List (IV×AV))
  | .map i=>match h i with
    | some (.map es)=>some es
    | _=>none
  | .imm (.omap es)=>some (es.map fun e=>(e.1,.imm e.2))
  | .imm .nomap=>some []
  | _=>none
def wK (h:Nat→Option Zaf):AV→Option Bool
  | .map i=>match h i with
    | some (.map _)=>some false
    | _=>none
  | .imm (.omap _)=>some false
  | .imm .nomap=>some true
  | _=>none
def vN:Bool→IV→Bool
  | false,.int _ _=>true
  | true,.str _=>true
  | _,_=>false
def xf (k:IV) (es:List (IV×AV)):Bool:=es.all fun e=>(jE k e.1).isSome
def Xh (sz by_:Nat) (s x:AV) (h:Nat→Option Zaf) (id:Nat):Option (AV×List (Nat×Zaf)):=match xB h x with
  | some new=>if !(new.all fun row=>row.length == sz) then none else match s with
    | .nil=>if new.length*by_≤140737488355328 then some (.Zas id new,[(id,.tip sz new.length)]) else none
    | .Zas i rows=>match h i with
      | some (.tip sz' len)=>if sz'=sz∧rows.length=len∧(len+new.length)*by_≤140737488355328 then
          some (.Zas i (rows++new),[(i,.tip sz (len+new.length))]) else none
      | _=>none
    | _=>none
  | none=>none
def Qv (sz by_:Nat) (s x:AV) (h:Nat→Option Zaf) (id:Nat):Option (AV×List (Nat×Zaf)):=match jF h x with
  | some new=>if !(new.all fun row=>row.length == sz) then none else match s with
    | .Zal i off len=>match h i with
      | some (.rows sz' rows)=>if sz'=sz∧off=0∧len=rows.length∧(len+new.length)*by_≤140737488355328 then
          some (.Zal id 0 (len+new.length),[(id,.rows sz (rows++new)),(i,.dead)]) else none
      | _=>none
    | _=>none
  | none=>none
def YQ (sz:Nat) (d x:AV) (h:Nat→Option Zaf):Option (AV×List (Nat×Zaf)):=match d with
  | .Zal i 0 len=>match h i with
    | some (.rows sz' rows)=>match jF h x with
      | some new=>if sz'=sz∧len=rows.length∧new.length=len∧(new.all fun row=>row.length == sz)=true then some (.imm (.int .i64 (len:Int)),[(i,.rows sz new)]) else none
      | none=>none
    | _=>none
  | _=>none
def x9 (sz:Nat):Nat→List AV→List (List AV)
  | 0,_=>[]
  | n+1,l=>l.take sz::x9 sz n (l.drop sz)
def evalOp (o:AOp) (ev:Opd→AV) (h:Nat→Option Zaf) (id:Nat):Option (AV×List (Nat×Zaf)):=
  match o with
  | .mov x=>some (ev x,[])
  | .pick c a b=>match ev c with
    | .imm (.bool true)=>some (ev a,[])
    | .imm (.bool false)=>some (ev b,[])
    | _=>none
  | .alloc sz rows=>some (.ptr id 0 0,[(id,.rows sz rows)])
  | .box sz x=>match cellsOf (ev x) with
    | some cs=>if cs.length=sz then some (.ptr id 0 0,[(id,.rows sz [cs])]) else none
    | none=>none
  | .build zero parts=>match mapO (fun p:Nat×Nat×Opd=>(cellsOf (ev p.2.2)).map fun cs=>(p.1,p.2.1,cs)) parts with
    | some ps=>match wt zero ps with
      | some cs=>some (.agg cs,[])
      | none=>none
    | none=>none
  | .bslice sz zero len parts=>match mapO (fun p:Nat×Opd=>(cellsOf (ev p.2)).map fun cs=>(p.1,cs)) parts with
    | some ps=>match jK (List.replicate len zero) sz ps with
      | some rows=>some (.Zal id 0 len,[(id,.rows sz rows)])
      | none=>none
    | none=>none
  | .load agg n x=>match ev x with
    | .ptr i r o=>match h i with
      | some (.rows _ rows)=>match rows[r]? with
        | some row=>if agg then (if o+n≤row.length then some (.agg ((row.drop o).take n),[]) else none) else (row[o]?).map fun c=>(c,[])
        | none=>none
      | _=>none
    | .eptr cells=>if agg then (if n≤cells.length then some (.imm (.agg (cells.take n)),[]) else none) else (cells[0]?).map fun c=>(.imm c,[])
    | _=>none
  | .store n x v=>match ev x,cellsOf (ev v) with
    | .ptr i r o,some cs=>match h i with
      | some (.rows sz rows)=>match rows[r]? with
        | some row=>if cs.length=n∧o+n≤row.length then some (.undef,[(i,.rows sz (rows.set r (qQ row o cs)))])
          else if cs.length=n∧n=rows.length*sz∧r=0∧o=0 then some (.undef,[(i,.rows sz (x9 sz rows.length cs))]) else none
        | none=>none
      | _=>none
    | _,_=>none
  | .fld off x=>match ev x with
    | .ptr i r o=>match h i with
      | some (.rows _ _)=>some (.ptr i r (o+off),[])
      | _=>none
    | .eptr cells=>some (.eptr (cells.drop off),[])
    | _=>none
  | .idx sz x i=>match ev i with
    | .imm (.int _ n)=>match ev x with
      | .imm (.slice rows) | .Zas _ rows=>if 0≤n then
          match rows[n.toNat]? with
          | some row=>if row.length=sz then some (.eptr row,[]) else none
          | none=>none
        else none
      | .Zal j off len=>match h j with
        | some (.rows sz' _)=>if sz'=sz∧0≤n∧n < len then some (.ptr j (off+n.toNat) 0,[]) else none
        | _=>none
      | _=>none
    | _=>none
  | .idxa len sz x i=>match ev i,ev x with
    | .imm (.int _ n),.ptr j 0 0=>match h j with
      | some (.rows sz' rows)=>if sz'=sz∧0≤n∧n < len then some (.ptr j n.toNat 0,[]) else none
      | _=>none
    | _,_=>none
  | .bin op x y=>match ev x,ev y with
    | .imm a,.imm b=>(vM op a b).map fun r=>(.imm r,[])
    | _,_=>none
  | .eqb neg x y=>match ev x,ev y with
    | .imm (.bool a),.imm (.bool b)=>some (.imm (.bool (if neg then !(a == b) else a == b)),[])
    | _,_=>none
  | .eqs neg ks x y=>match kB (ev x),kB (ev y) with
    | some a,some b=>match qm ks a b with
      | some r=>some (.imm (.bool (if neg then !r else r)),[])
      | none=>none
    | _,_=>none
  | .eqnil neg x y=>match ev y with
    | .nil=>match ev x with
      | .nil=>some (.imm (.bool (!neg)),[])
      | .nnil=>some (.imm (.bool neg),[])
      | .imm (.slice (_::_))=>some (.imm (.bool neg),[])
      | .Zas _ (_::_)=>some (.imm (.bool neg),[])
      | _=>none
    | _=>none
  | .not x=>match ev x with
    | .imm (.bool b)=>some (.imm (.bool !b),[])
    | _=>none
  | .neg x=>match ev x with
    | .imm (.int k n)=>some (.imm (.int k (k.wrap (0 - n))),[])
    | _=>none
  | .conv k x=>match ev x with
    | .imm (.int _ n)=>some (.imm (.int k (k.wrap n)),[])
    | _=>none
  | .len x=>match wq h (ev x) with
    | some n=>some (.imm (.int .i64 (n:Int)),[])
    | none=>none
  | .lens x=>match ev x with
    | .imm (.str s)=>some (.imm (.int .i64 (s.size:Int)),[])
    | _=>none
  | .lenm x=>match ev x with
    | .map i=>match h i with
      | some (.map es)=>some (.imm (.int .i64 (es.length:Int)),[])
      | _=>none
    | _=>none
  | .mm mx x y=>match ev x,ev y with
    | .imm (.int k a),.imm (.int _ b)=>some (.imm (.int k (if mx then (if a < b then b else a) else (if b < a then b else a))),[])
    | _,_=>none
  | .ext x i=>match ev x with
    | .imm (.tuple vs)=>(vs[i]?).map fun v=>(.imm v,[])
    | .tuple vs=>(vs[i]?).map fun v=>(v,[])
    | _=>none
  | .mkf f first caps=>some (.func f (first.map ev) (caps.map ev),[])
  | .mkmap=>some (.map id,[(id,.map [])])
  | .look str zero ok m k=>match jq h (ev m),ev k with
    | some es,.imm k=>if vN str k&&xf k es then
          match ql k es with
          | some x=>some (if ok then .tuple [x,.imm (.bool true)] else x,[])
          | none=>some (if ok then .tuple [zero,.imm (.bool false)] else zero,[])
        else none
    | _,_=>none
  | .upd str m k v=>match ev m,ev k with
    | .map i,.imm k=>match h i with
      | some (.map es)=>if vN str k&&xf k es then some (.undef,[(i,.map (qx k (xC (ev v)) es))]) else none
      | _=>none
    | _,_=>none
  | .mks sz by_ zero n=>match ev n with
    | .imm (.int .i64 n)=>if 0≤n∧n < 2 ^ 31∧n*by_≤140737488355328 then some (.Zal id 0 n.toNat,[(id,.rows sz (List.replicate n.toNat zero))]) else none
    | _=>none
  | .app sz by_ s x=>match ev s with
    | .Zal i off len=>Qv sz by_ (.Zal i off len) (ev x) h id
    | y=>Xh sz by_ y (ev x) h id
  | .slc sz x lo hi=>match ev x with
    | .imm (.slice rows) | .Zas _ rows=>
      let l:Option Int:=match lo with | none=>some 0 | some y=>match ev y with | .imm (.int _ n)=>some n | _=>none
      let r:Option Int:=match hi with | none=>some (rows.length:Int) | some y=>match ev y with | .imm (.int _ n)=>some n | _=>none
      match l,r with
      | some a,some b=>if 0≤a∧a≤b∧b≤(rows.length:Int)∧(rows.all fun row=>row.length == sz)=true then some (.imm (.slice ((rows.take b.toNat).drop a.toNat)),[]) else none
      | _,_=>none
    | _=>none
  | .nck x=>match ev x with
    | .ptr i r o=>match h i with
      | some (.rows _ _)=>some (.ptr i r o,[])
      | _=>none
    | .eptr cs=>some (.eptr cs,[])
    | .func f a b=>some (.func f a b,[])
    | _=>none
  | .copy sz d x=>YQ sz (ev d) (ev x) h
  | .ixa len sz x i=>match ev i,ev x with
    | .imm (.int _ n),.agg cs=>if sz=1∧0≤n∧n < len then (cs[n.toNat]?).map fun c=>(c,[]) else none
    | _,_=>none
  | .mki t x=>match kB (ev x) with
    | some l=>some (.imm (.iface t (.agg l)),[])
    | none=>none
  | .eqnm neg x y=>match ev y,wK h (ev x) with
    | .imm .nomap,some b=>some (.imm (.bool (if neg then !b else b)),[])
    | _,_=>none
  | .cut ag off n x=>match ZH (ev x) with
    | some cs=>if off+n≤cs.length then (if ag then some (.agg ((cs.drop off).take n),[]) else (cs[off]?).map fun c=>(c,[])) else none
    | none=>none
  | .call _ _=>none
def zd (env:List (Nat×AV)):Opd→AV
  | .t n=>(za env n).getD .top
  | .c x=>x
  | .m n l=>match (za env n).getD .top with
    | .imm (.iface t x)=>match za l t with
      | some f=>.func f [.imm x] []
      | none=>.top
    | _=>.top
def xk:Value→AV
  | .bool b=>.imm (.bool b)
  | .int k n=>.imm (.int k n)
  | .string s=>.imm (.str s)
  | .slice none 0 0=>.nil
  | .map none=>.imm .nomap
  | _=>.top
def wL:Value→AV
  | .agg vs=>if vs.toList.all (·.oneCell') then xC (.agg (vs.toList.map xk)) else .top
  | v=>xk v
def ZI (l:List Nat) (f:Nat):Option Nat:=l.findIdx? (· == f)
def XI (P:Program) (t:TypeId) (name:String):Option FuncId:=match P.info? t with
  | some i=>match i.methods.find? (·.name == name) with
    | some m=>match m.path.toList,m.func,P.underlying t with
      | [],some (f,false),some (.struct _)=>some f
      | _,_,_=>none
    | none=>none
  | none=>none
def vg (P:Program) (tbl:List Nat) (name:String):List TypeId→List (Nat×Nat)
  | []=>[]
  | t::r=>match XI P t name with
    | some f=>match ZI tbl f with
      | some i=>(t,i)::vg P tbl name r
      | none=>vg P tbl name r
    | none=>vg P tbl name r
def Ctx.opd (C:Ctx):Operand→Opd
  | .tmp t=>.t t
  | .const v=>.c (xk v)
  | .func f=>match ZI C.tbl f with
    | some i=>.c (.func i [] [])
    | none=>.c .top
  | .global _=>.c .top
def Qw (P:Program) (rec:TypeId→Option (List Nat)):Nat→List Field→Option (List Nat)
  | _,[]=>some []
  | n, f :: fs => if f.name ≠ "_" ∧ f.offset = n then
      match rec f.type with
      | some ks=>if (P.info? f.type).map (·.size)=some ks.length then
          match Qw P rec (n+ks.length) fs with
          | some rest=>some (ks++rest)
          | none=>none
        else none
      | none=>none
    else none
def vO (P:Program):Nat→TypeId→Option (List Nat)
  | 0,_=>none
  | d+1,t=>match P.underlying t with
    | some (.int _)=>some [0]
    | some .bool=>some [1]
    | some .string=>some [2]
    | some (.struct fs)=>if P.stoodInHeld t then none else Qw P (vO P d) 0 fs.toList
    | _=>none
def zr (P:Program) (t:TypeId):Option Nat:=(P.info? t).map (·.size)
def j7 (P:Program) (t:TypeId):Option Nat:=(P.info? t).map (·.bytes)
def jL (v:Value):Bool:=v.cells.toList.all (·.oneCell')
def qu (P:Program) (t:TypeId):Option (List AV):=match P.info? t with
  | some i=>match i.zero with
    | some v=>if jL v then some (v.cells.toList.map xk) else none
    | none=>none
  | none=>none
def jl (P:Program) (t:TypeId):Option Bool:=match P.underlying t with
  | some (.struct _) | some (.array _ _)=>some true
  | some _=>some false
  | none=>none
def Jw (C:Ctx) (op:BinOp) (t:TypeId) (x y:Operand):Option AOp:=
  match C.P.underlying t with
  | some (.int _) | some .string=>some (.bin op (C.opd x) (C.opd y))
  | some .bool=>match op with
    | .eql=>some (.eqb false (C.opd x) (C.opd y))
    | .neq=>some (.eqb true (C.opd x) (C.opd y))
    | _=>none
  | some (.slice _)=>match op,y with
    | .eql,.const (.slice none 0 0)=>some (.eqnil false (C.opd x) (C.opd y))
    | .neq,.const (.slice none 0 0)=>some (.eqnil true (C.opd x) (C.opd y))
    | _,_=>none
  | some (.map _ _)=>match op,y with
    | .eql,.const (.map none)=>some (.eqnm false (C.opd x) (C.opd y))
    | .neq,.const (.map none)=>some (.eqnm true (C.opd x) (C.opd y))
    | _,_=>none
  | some (.struct _)=>match vO C.P 9 t with
    | some ks=>if C.P.eqGuardType C.P.depth t then none else
      match op with
      | .eql=>some (.eqs false ks (C.opd x) (C.opd y))
      | .neq=>some (.eqs true ks (C.opd x) (C.opd y))
      | _=>none
    | none=>none
  | _=>none
def vP (C:Ctx) (b:Builtin) (args:List Operand) (ts:List TypeId):Option AOp:=
  match b,args,ts with
  | .len,[x],[t]=>match C.P.underlying t with
    | some (.slice _)=>some (.len (C.opd x))
    | some .string=>some (.lens (C.opd x))
    | some (.map _ _)=>some (.lenm (C.opd x))
    | _=>none
  | .max,[x,y],_=>some (.mm true (C.opd x) (C.opd y))
  | .min,[x,y],_=>some (.mm false (C.opd x) (C.opd y))
  | .append,[s,x],[t,t']=>match C.P.underlying t,C.P.underlying t' with
    | some (.slice e),some (.slice _)=>match zr C.P e,j7 C.P e,qu C.P e with
      | some sz,some by_,some z=>if 0 < sz∧z.length=sz∧0 < by_ then some (.app sz by_ (C.opd s) (C.opd x)) else none
      | _,_,_=>none
    | _,_=>none
  | .copy,[d,x],t::_=>match C.P.underlying t with
    | some (.slice e)=>match zr C.P e with
      | some sz=>some (.copy sz (C.opd d) (C.opd x))
      | none=>none
    | _=>none
  | _,_,_=>none
def yf (C:Ctx) (o:Op):Option AOp:=
  match o with
  | .move x | .assign x=>some (.mov (C.opd x))
  | .pick c a b=>some (.pick (C.opd c) (C.opd a) (C.opd b))
  | .alloc t=>match C.P.underlying t with
    | some (.array n e)=>match zr C.P e,qu C.P t with
      | some sz,some z=>if z.length=n*sz∧0 < sz then some (.alloc sz (x9 sz n z)) else none
      | _,_=>none
    | some _=>match qu C.P t with
      | some z=>some (.alloc z.length [z])
      | none=>none
    | none=>none
  | .box t x=>match zr C.P t with
    | some sz=>some (.box sz (C.opd x))
    | none=>none
  | .build t parts=>match C.P.underlying t,qu C.P t with
    | some (.struct fs),some z=>
      match mapO (fun p:Nat×Operand=>match fs[p.1]? with
          | some f=>match zr C.P f.type with
            | some n=>some (f.offset,n,C.opd p.2)
            | none=>none
          | none=>none) parts.toList with
      | some ps=>if (fs.toList.all fun f=>(zr C.P f.type).isSome) then some (.build z ps) else none
      | none=>none
    | some (.array n e),some z=>match zr C.P e with
      | some sz=>some (.build z (parts.toList.map fun p=>(p.1*sz,sz,C.opd p.2)))
      | none=>none
    | _,_=>none
  | .buildSlice t len parts=>match C.P.underlying t with
    | some (.slice e)=>match zr C.P e,qu C.P e with
      | some sz,some z=>if 0 < sz∧z.length=sz∧len*sz≤2 ^ 24 then some (.bslice sz z len (parts.toList.map fun p=>(p.1,C.opd p.2))) else none
      | _,_=>none
    | _=>none
  | .load t a=>match jl C.P t,zr C.P t with
    | some ag,some n=>some (.load ag n (C.opd a))
    | _,_=>none
  | .store t a v=>match zr C.P t with
    | some n=>some (.store n (C.opd a) (C.opd v))
    | none=>none
  | .fieldAddr s x f=>match C.P.underlying s with
    | some (.struct fs)=>match fs[f]? with
      | some fd=>match zr C.P fd.type with
        | some n=>if n=0 then none else some (.fld fd.offset (C.opd x))
        | none=>none
      | none=>none
    | _=>none
  | .field s x f=>match C.P.underlying s with
    | some (.struct fs)=>match fs[f]? with
      | some fd=>match zr C.P fd.type,jl C.P fd.type with
        | some n,some ag=>if n=0 then none else some (.cut ag fd.offset n (C.opd x))
        | _,_=>none
      | none=>none
    | _=>none
  | .indexAddr t x i=>match C.P.underlying t with
    | some (.slice e)=>match zr C.P e with
      | some sz=>some (.idx sz (C.opd x) (C.opd i))
      | none=>none
    | some (.array n e)=>match zr C.P e with
      | some sz=>some (.idxa n sz (C.opd x) (C.opd i))
      | none=>none
    | _=>none
  | .binOp op t x y _=>Jw C op t x y
  | .unOp .not _ x=>some (.not (C.opd x))
  | .unOp .neg _ x=>some (.neg (C.opd x))
  | .convert s d x=>match C.P.underlying s,C.P.underlying d with
    | some (.int _),some (.int k)=>some (.conv k (C.opd x))
    | _,_=>none
  | .extract x i=>some (.ext (C.opd x) i)
  | .makeFunc (.func f) first caps=>match ZI C.tbl f with
    | some i=>some (.mkf i (first.toList.map C.opd) (caps.toList.map C.opd))
    | none=>none
  | .makeMap _ none=>some .mkmap
  | .lookup t m k ok=>match C.P.underlying t with
    | some (.map kt et)=>match C.P.underlying kt,C.P.info? et with
      | some (.int _),some i=>match i.zero with
        | some z=>some (.look false (wL z) ok (C.opd m) (C.opd k))
        | none=>none
      | some .string,some i=>match i.zero with
        | some z=>some (.look true (wL z) ok (C.opd m) (C.opd k))
        | none=>none
      | _,_=>none
    | _=>none
  | .mapUpdate t m k v=>match C.P.underlying t with
    | some (.map kt et)=>match C.P.underlying kt with
      | some (.int _)=>some (.upd false (C.opd m) (C.opd k) (C.opd v))
      | some .string=>some (.upd true (C.opd m) (C.opd k) (C.opd v))
      | _=>none
    | _=>none
  | .insert t m k v=>match C.P.underlying t with
    | some (.map kt et)=>match C.P.underlying kt with
      | some (.int _)=>some (.upd false (C.opd m) (C.opd k) (C.opd v))
      | some .string=>some (.upd true (C.opd m) (C.opd k) (C.opd v))
      | _=>none
    | _=>none
  | .nilCheck x=>some (.nck (C.opd x))
  | .index t x i=>match C.P.underlying t with
    | some (.array n e)=>match zr C.P e,jl C.P e with
      | some sz,some false=>some (.ixa n sz (C.opd x) (C.opd i))
      | _,_=>none
    | _=>none
  | .makeSlice t (.tmp l) (.tmp c)=>match C.P.underlying t with
    | some (.slice e)=>match zr C.P e,j7 C.P e,qu C.P e with
      | some sz,some by_,some z=>if l=c∧0 < sz∧z.length=sz then some (.mks sz by_ z (.t l)) else none
      | _,_,_=>none
    | _=>none
  | .slice t x lo hi none=>match C.P.underlying t with
    | some (.slice e)=>match zr C.P e with
      | some sz=>some (.slc sz (C.opd x) (lo.map C.opd) (hi.map C.opd))
      | none=>none
    | _=>none
  | .call {callee:=.builtin b,args,argTypes}=>vP C b args.toList argTypes.toList
  | .call {callee:=.value f,args,argTypes:=_}=>some (.call (C.opd f) (args.toList.map C.opd))
  | .call {callee:=.invoke (.tmp r) name,args,argTypes:=_}=>some (.call (.m r (vg C.P C.tbl name C.ifs)) (args.toList.map C.opd))
  | .makeInterface t x=>match C.P.underlying t with
    | some (.struct _)=>some (.mki t (C.opd x))
    | _=>none
  | _=>none
section
section
variable {C:Ctx} {g g':Gh} {h h':Nat→Option Zaf} {N N':Nat→Prop} {w w':World} {id:Nat}
def z8 (N:Nat→Prop) (id:Nat):Nat→Prop:=fun i=>N i∨i=id
def Good (C:Ctx) (g:Gh) (h:Nat→Option Zaf) (N:Nat→Prop) (w:World) (id:Nat) (r:AV) (ups:List (Nat×Zaf)) (v:Value) (w':World):Prop:=
  ∃ g',Evo g h N w g' (hup ups h) (z8 N id) w'∧RH C g' (hup ups h) (z8 N id) w'∧RV C g' (hup ups h) (z8 N id) w' r v
theorem Evo.add (g:Gh) (h:Nat→Option Zaf) (N:Nat→Prop) (w:World) (id:Nat):Evo g h N w g h (z8 N id) w where
  os:=rfl
  tape:=rfl
  output:=rfl
  size:=Nat.le_refl _
  old:=fun _ _ _=>⟨rfl,rfl⟩
  own:=fun _ h=>.inl h
  zmono:=fun _=>Nat.le_refl _
  cell:=Frz.refl _ _
  shape:=fun b c e h=>⟨c,h,rfl⟩
  next:=fun _ h=>.inl h
  rho:=fun i b h _ _ _ _=>.inl h
  rho0:=fun i h _ _ _ _=>.inl h
  rows:=fun i _ sz rows h=>⟨rows,h,rfl⟩
  tips:=fun i _ sz len h=>⟨len,h,Nat.le_refl _⟩
  maps:=fun i _ es h=>⟨es,h⟩
  lps:=fun i _ ll RR s pe h=>⟨s,pe,h⟩
theorem RObj.keep (E:Evo g h N w g' h' N' w') {b:Nat} {o:Zaf} (hb:w'.heap[b]?=w.heap[b]?) (hz:g'.Z b=g.Z b) (H:RObj C g h N w b o) :
    RObj C g' h' N' w' b o:=by
  cases o with
  | rows sz rows=>
    obtain ⟨h0,c,e,h1,h2,h3⟩:=H
    refine ⟨hz.trans h0,c,e,hb.trans h1,h2,fun i row j x hi hj => ?_⟩
    obtain ⟨cv,h4,h5,h6⟩:=h3 i row j x hi hj
    exact ⟨cv,h4,h5,h6.mono E⟩
  | tip sz len=>
    obtain ⟨c,e,h1,h2,h3⟩:=H
    exact ⟨c,e,hb.trans h1,hz.trans h2,h3⟩
  | map es=>
    obtain ⟨h0,ces,clock,h1,h2,h3⟩:=H
    refine ⟨hz.trans h0,ces,clock,hb.trans h1,h2,fun i k x hi => ?_⟩
    obtain ⟨e,h4,h5,h6⟩:=h3 i k x hi
    exact ⟨e,h4,h5,h6.mono E⟩
  | dead=>trivial
  | lp l R s pe=>exact ⟨hz.trans H.1,H.2.1,hb.trans H.2.2⟩
theorem RH.add (R:RH C g h N w) (id:Nat):RH C g h (z8 N id) w where
  inj:=R.inj
  lt:=fun i b hb=>⟨(R.lt i b hb).1,.inl (R.lt i b hb).2⟩
  key:=fun i o ho=>.inl (R.key i o ho)
  obj:=fun i b o hb ho=>(R.obj i b o hb ho).keep (Evo.add g h N w id) rfl rfl
  tip0:=R.tip0
  zlt:=R.zlt
  fix:=R.fix.evo (Evo.add g h N w id)
theorem zm (R:RH C g h N w) {r:AV} {v:Value} (hr:RV C g h N w r v):Good C g h N w id r [] v w:=
  ⟨g,Evo.add g h N w id,R.add id,hr.mono (Evo.add g h N w id)⟩
theorem RH.rho_none (R:RH C g h N w) (hid:¬ N id):g.ρ id=none:=by
  cases hh:g.ρ id with
  | none=>rfl
  | some b=>exact absurd (R.lt id b hh).2 hid
def Gh.at (g:Gh) (id b:Nat) (z:Nat):Gh:=⟨fun i=>if i=id then some b else g.ρ i,fun k=>if k=b then z else g.Z k⟩
theorem qn (w:World) (o:Obj) {b:Nat} (hb:b < w.heap.size):(w.alloc o).heap[b]?=w.heap[b]?:=by
  show (w.heap.push o)[b]?=_
  rw [Array.getElem?_push,if_neg (by omega)]
theorem zK (w:World) (o:Obj):(w.alloc o).heap[w.heap.size]?=some o:=by
  show (w.heap.push o)[w.heap.size]?=_
  simp
theorem zR {w:World} {b:Nat} {o:Obj} (hb:w.heap[b]?=some o):b < w.heap.size:=by
  rcases Nat.lt_or_ge b w.heap.size with h | h
  · exact h
  · rw [Array.getElem?_eq_none h] at hb;cases hb
theorem Jx (R:RH C g h N w) (hid:¬ N id) (o:Obj) (ob:Zaf) (z:Nat):Evo g h N w (g.at id w.heap.size z) (hup [(id,ob)] h) (z8 N id) (w.alloc o):=by
  have ne:∀ i,N i→i≠id:=fun i hi e=>hid (e ▸ hi)
  have ne':∀ i,N i→id≠i:=fun i hi e=>hid (e ▸ hi)
  exact {
    os:=rfl
    tape:=rfl
    output:=rfl
    size:=by simp
    old:=fun b hb ho=>⟨qn w o hb,by simp only [Gh.at];rw [if_neg (by omega)]⟩
    own:=fun b ⟨i,hi⟩=>by
      simp only [Gh.at] at hi
      split at hi
      · cases hi;exact .inr (Nat.le_refl _)
      · exact .inl ⟨i,hi⟩
    zmono:=fun b=>by
      simp only [Gh.at]
      split
      · rename_i hb
        rcases Nat.eq_zero_or_pos (g.Z b) with h0 | h0
        · omega
        · have:=R.zlt b h0;omega
      · exact Nat.le_refl _
    cell:=Frz.heap fun b hk=>qn w o (R.zlt b hk)
    shape:=fun b c e hb=>⟨c,(qn w o (zR hb)).trans hb,rfl⟩
    next:=fun i hi=>.inl hi
    rho:=fun i b hb ob' _ _ hi=>.inl (by simp only [Gh.at];rw [if_neg (ne i hi)];exact hb)
    rho0:=fun i hb hi ob' _ _=>.inl (by simp only [Gh.at];rw [if_neg (ne i hi)];exact hb)
    rows:=fun i hi sz rows ho=>by
      simp only [hup] at ho
      rw [if_neg (ne' i hi)] at ho
      exact ⟨rows,ho,rfl⟩
    tips:=fun i hi sz len ho=>by
      simp only [hup] at ho
      rw [if_neg (ne' i hi)] at ho
      exact ⟨len,ho,Nat.le_refl _⟩
    maps:=fun i hi es ho=>by
      simp only [hup] at ho
      rw [if_neg (ne' i hi)] at ho
      exact ⟨es,ho⟩
    lps:=fun i hi ll RR s pe ho=>by
      simp only [hup] at ho
      rw [if_neg (ne' i hi)] at ho
      exact ⟨s,pe,ho⟩}
theorem Kc (R:RH C g h N w) (hid:¬ N id) (o:Obj) (ob:Zaf) (z:Nat)
    (ho:RObj C (g.at id w.heap.size z) (hup [(id,ob)] h) (z8 N id) (w.alloc o) w.heap.size ob) :
    RH C (g.at id w.heap.size z) (hup [(id,ob)] h) (z8 N id) (w.alloc o):=by
  have E:=Jx R hid o ob z
  refine ⟨fun i j b hi hj => ?_,fun i b hb => ?_,fun i o' ho' => ?_,fun i b o' hb ho' => ?_,fun i sz len ht hn => ?_,fun b hb => ?_,R.fix.evo E⟩
  · simp only [Gh.at] at hi hj
    split at hi<;>split at hj
    · rename_i h1 h2;rw [h1,h2]
    · cases hi;have:=(R.lt j _ hj).1;omega
    · cases hj;have:=(R.lt i _ hi).1;omega
    · exact R.inj i j b hi hj
  · simp only [Gh.at] at hb
    split at hb
    · rename_i hi;cases hb;exact ⟨by simp,.inr hi⟩
    · have:=R.lt i b hb;exact ⟨by simp;omega,.inl this.2⟩
  · simp only [hup] at ho'
    split at ho'
    · rename_i hi;exact .inr hi.symm
    · exact .inl (R.key i o' ho')
  · simp only [Gh.at] at hb
    simp only [hup] at ho'
    split at hb
    · rename_i hi
      subst hi
      cases hb
      rw [if_pos rfl] at ho'
      cases ho'
      exact ho
    · rename_i hi
      rw [if_neg (fun e=>hi e.symm)] at ho'
      have hlt:=(R.lt i b hb).1
      exact (R.obj i b o' hb ho').keep E (qn w o hlt) (by simp only [Gh.at];rw [if_neg (by omega)])
  · simp only [Gh.at] at hn
    simp only [hup] at ht
    split at hn
    · cases hn
    · rename_i hi
      rw [if_neg (fun e=>hi e.symm)] at ht
      exact R.tip0 i sz len ht hn
  · simp only [Gh.at] at hb
    split at hb
    · rename_i hh;subst hh;simp
    · have:=R.zlt b hb;simp;omega
theorem RH.z_size (R:RH C g h N w):g.Z w.heap.size=0:=by
  rcases Nat.eq_zero_or_pos (g.Z w.heap.size) with h0 | h0
  · exact h0
  · have:=R.zlt _ h0;omega
theorem kC (R:RH C g h N w) (hid:¬ N id) (c:Array Value) (e:TypeId) (sz:Nat) (rows:List (List AV))
    (hsz:∀ (i:Nat) (row:List AV),rows[i]?=some row→row.length=sz)
    (hc:∀ (i:Nat) (row:List AV) (j:Nat) (x:AV),rows[i]?=some row→row[j]?=some x→∃ cv,c[i*sz+j]?=some cv∧cv.oneCell'=true∧RV C g h N w x cv)
    {r:AV} {v:Value}
    (hr:RV C (g.at id w.heap.size 0) (hup [(id,.rows sz rows)] h) (z8 N id) (w.alloc (.cells c e (0,0))) r v) :
    Good C g h N w id r [(id,.rows sz rows)] v (w.alloc (.cells c e (0,0))):=by
  have E:=Jx R hid (.cells c e (0,0)) (.rows sz rows) 0
  refine ⟨_,E,Kc R hid _ _ _ ?_,hr⟩
  refine ⟨by simp [Gh.at],c,e,zK w _,hsz,fun i row j x h1 h2 => ?_⟩
  obtain ⟨cv,h3,h4,h5⟩:=hc i row j x h1 h2
  exact ⟨cv,h3,h4,h5.mono E⟩
theorem XJ (id b z:Nat) (ob:Zaf) (w:World):RV C (g.at id b z) (hup [(id,ob)] h) (z8 N id) w (.ptr id 0 0) (.pointer (some ⟨b,0,none⟩)):=by
  refine .ptr id 0 0 _ (.inr rfl) rfl fun sz rows _=>⟨b,by simp [Gh.at],by simp⟩
theorem yg {x:AV} {v:Value} {cs:List AV} (hx:cellsOf x=some cs) (hv:RV C g h N w x v) :
    cs.length=v.cells.size∧(∀ (j:Nat) (c:AV),cs[j]?=some c→∃ u,v.cells[j]?=some u∧u.oneCell'=true∧RV C g h N w c u):=by
  have single:∀ (x:AV) (v:Value),v.oneCell'=true→RV C g h N w x v→[x].length=v.cells.size ∧
      (∀ (j:Nat) (c:AV),[x][j]?=some c→∃ u,v.cells[j]?=some u∧u.oneCell'=true∧RV C g h N w c u):=fun x v h1 h2=>by
    have hc:v.cells = #[v]:=by cases v<;>first | rfl | simp [Value.oneCell'] at h1
    rw [hc]
    refine ⟨rfl,fun j c hj => ?_⟩
    cases j with
    | zero=>simp at hj;subst hj;exact ⟨v,by simp,h1,h2⟩
    | succ j=>simp at hj
  cases hv with
  | top v=>simp [cellsOf] at hx
  | undef=>simp [cellsOf] at hx
  | imm y v hr=>
    cases hr with
    | agg cs' vs hl h1 hr=>
      simp [cellsOf] at hx
      subst hx
      refine ⟨by simp [Value.cells,hl],fun j c hj => ?_⟩
      simp only [List.getElem?_map,Option.map_eq_some_iff] at hj
      obtain ⟨y,hy,rfl⟩:=hj
      have hlt:j < vs.length:=by rw [←hl];exact (List.getElem?_eq_some_iff.1 hy).1
      refine ⟨vs[j],by simp [Value.cells,hlt],h1 _ (List.getElem_mem hlt),.imm _ _ (hr j y _ hy (by simp [hlt]))⟩
    | tuple cs' vs hl hr=>simp [cellsOf] at hx
    | bool b=>simp [cellsOf] at hx;subst hx;exact single _ _ rfl (.imm _ _ (.bool b))
    | iface t x u hr'=>simp [cellsOf] at hx;subst hx;exact single _ _ rfl (.imm _ _ (.iface t x u hr'))
    | nomap=>simp [cellsOf] at hx;subst hx;exact single _ _ rfl (.imm _ _ .nomap)
    | omap es b ces clock ev hz hb hl hk hr'=>simp [cellsOf] at hx;subst hx;exact single _ _ rfl (.imm _ _ (.omap es b ces clock ev hz hb hl hk hr'))
    | int k n=>simp [cellsOf] at hx;subst hx;exact single _ _ rfl (.imm _ _ (.int k n))
    | str s=>simp [cellsOf] at hx;subst hx;exact single _ _ rfl (.imm _ _ (.str s))
    | nil=>simp [cellsOf] at hx;subst hx;exact single _ _ rfl (.imm _ _ .nil)
    | empty a cap=>simp [cellsOf] at hx;subst hx;exact single _ _ rfl (.imm _ _ (.empty a cap))
    | slice rows b off cap sz cv hcap hsz hz hc hr=>
      simp [cellsOf] at hx;subst hx;exact single _ _ rfl (.imm _ _ (.slice rows b off cap sz cv hcap hsz hz hc hr))
  | nil=>simp [cellsOf] at hx;subst hx;exact single _ _ rfl .nil
  | yld l id hid hp=>simp [cellsOf] at hx;subst hx;exact single _ _ rfl (.yld l id hid hp)
  | nnil a cap=>simp [cellsOf] at hx;subst hx;exact single _ _ rfl (.nnil a cap)
  | Zas id rows v hr hid ht=>
    simp [cellsOf] at hx;subst hx
    refine single _ _ ?_ (.Zas id rows v hr hid ht)
    cases hr<;>rfl
  | eptr cells b off cv hz hc hr=>simp [cellsOf] at hx;subst hx;exact single _ _ rfl (.eptr cells b off cv hz hc hr)
  | ptr id row off v hid h1 hp=>simp [cellsOf] at hx;subst hx;exact single _ _ h1 (.ptr id row off v hid h1 hp)
  | Zal id off len v hid h1 hp=>simp [cellsOf] at hx;subst hx;exact single _ _ h1 (.Zal id off len v hid h1 hp)
  | func f first caps vf vc hlf hlc hf hc=>simp [cellsOf] at hx;subst hx;exact single _ _ rfl (.func f first caps vf vc hlf hlc hf hc)
  | map id v hid h1 hp=>simp [cellsOf] at hx;subst hx;exact single _ _ h1 (.map id v hid h1 hp)
  | agg cs' vs hl h1 hr=>
    simp [cellsOf] at hx
    subst hx
    refine ⟨by simp [Value.cells,hl],fun j c hj => ?_⟩
    have hlt:j < vs.length:=by rw [←hl];exact (List.getElem?_eq_some_iff.1 hj).1
    exact ⟨vs[j],by simp [Value.cells,hlt],h1 _ (List.getElem_mem hlt),hr j c _ hj (by simp [hlt])⟩
  | tuple cs' vs hl hr=>simp [cellsOf] at hx
end
end
section
def zt (w:World) (b:Nat) (o:Obj):World:={w with heap:=w.heap.setIfInBounds b o}
def qf (c:Array Value) (k:Nat):List Value→Array Value
  | []=>c
  | v::vs=>qf (c.setIfInBounds k v) (k+1) vs
theorem jx (c:Array Value) (k:Nat) (vs:List Value):(qf c k vs).size=c.size:=by
  induction vs generalizing c k with
  | nil=>rfl
  | cons v vs ih=>simp [qf,ih]
theorem xl (c:Array Value) (k:Nat) (vs:List Value) (hk:k+vs.length≤c.size) (j:Nat) :
    (qf c k vs)[j]?=if k≤j∧j < k+vs.length then vs[j - k]? else c[j]?:=by
  induction vs generalizing c k with
  | nil=>simp [qf];omega
  | cons v vs ih=>
    simp only [List.length_cons] at hk
    simp only [qf]
    rw [ih _ _ (by simp;omega)]
    simp only [List.length_cons,Array.getElem?_setIfInBounds]
    by_cases h1:k=j
    · subst h1
      rw [if_neg (by omega),if_pos rfl,if_pos (by omega),if_pos (by omega)]
      simp
    · by_cases h2:k+1≤j∧j < k+1+vs.length
      · rw [if_pos h2,if_pos (by omega)]
        rw [show j - k=(j - (k+1))+1 by omega]
        simp
      · rw [if_neg h2,if_neg (by omega),if_neg (by omega)]
theorem zA (w:World) (b:Nat) (o:Obj) (hb:b < w.heap.size) (k:Nat):(zt w b o).heap[k]?=if k=b then some o else w.heap[k]?:=by
  simp only [zt,Array.getElem?_setIfInBounds]
  by_cases h:b=k
  · subst h;simp [hb]
  · rw [if_neg h,if_neg (fun e=>h e.symm)]
theorem qR (w:World) (b:Nat) (o:Obj):(zt w b o).heap.size=w.heap.size:=by simp [zt]
theorem zbT (w:World) (b o:Nat) (v:Value) (c:Array Value) (e:TypeId) (f:Nat×Nat) (hb:w.heap[b]?=some (.cells c e f)) :
    w.setCell ⟨b,o,none⟩ v=zt w b (.cells (c.setIfInBounds o v) e f):=by
  have hlt:=zR hb
  unfold World.setCell zt
  congr 1
  apply Array.ext_getElem?
  intro k
  rw [Array.getElem?_modify,Array.getElem?_setIfInBounds]
  by_cases h:b=k
  · subst h
    obtain ⟨h1,h2⟩:=Array.getElem?_eq_some_iff.1 hb
    simp [h2,hlt]
  · simp [h]
theorem XK (w:World) (b:Nat) (o o':Obj):zt (zt w b o) b o'=zt w b o':=by
  simp only [zt,Array.setIfInBounds_setIfInBounds]
theorem W8 (w:World) (b:Nat) (o:Obj) (hb:w.heap[b]?=some o):zt w b o=w:=by
  unfold zt
  have:w.heap.setIfInBounds b o=w.heap:=by
    apply Array.ext_getElem?
    intro k
    rw [Array.getElem?_setIfInBounds]
    by_cases h:b=k
    · subst h
      obtain ⟨h1,h2⟩:=Array.getElem?_eq_some_iff.1 hb
      simp [h2,h1]
    · simp [h]
  rw [this]
theorem qv {w:World} {b o:Nat} {c:Array Value} {e:TypeId} {f:Nat×Nat} (hb:w.heap[b]?=some (.cells c e f)):w.cell? ⟨b,o,none⟩=c[o]?:=by
  simp [World.cell?,hb]
theorem vi {P:Program} (vs:List Value):∀ (w:World) (b off i:Nat) (c:Array Value) (e:TypeId),w.heap[b]?=some (.cells c e (0,0)) →
    (∀ v∈vs,v.oneCell'=true)→off+i+vs.length≤c.size →
    (storeCells ⟨b,off,none⟩ vs i).run P w=.ok () (zt w b (.cells (qf c (off+i) vs) e (0,0))):=by
  induction vs with
  | nil=>
    intro w b off i c e hb _ _
    simp only [storeCells,qf,Sem.run_pure]
    rw [W8 w b _ hb]
  | cons v vs ih=>
    intro w b off i c e hb h1 hl
    simp only [List.length_cons] at hl
    have hadd:(⟨b,off,none⟩:Addr).add i=⟨b,off+i,none⟩:=by
      unfold Addr.add
      split
      · rename_i h0;subst h0;rfl
      · rfl
    have hcell:w.cell? ⟨b,off+i,none⟩=some (c[off+i]'(by omega)):=by
      rw [qv hb];simp
    have hfz:w.frozen? ⟨b,off+i,none⟩=false:=by
      simp [World.frozen?,hb]
    have hw:=zbT w b (off+i) v c e (0,0) hb
    have hb':(zt w b (.cells (c.setIfInBounds (off+i) v) e (0,0))).heap[b]?=some (.cells (c.setIfInBounds (off+i) v) e (0,0)):=by
      rw [zA w b _ (zR hb)];simp
    have:=ih (zt w b (.cells (c.setIfInBounds (off+i) v) e (0,0))) b off (i+1) _ e hb' (fun u hu=>h1 u (List.mem_cons_of_mem _ hu)) (by simp;omega)
    simp only [storeCells,Sem.run_bind,hadd,run_store P w _ v _ (h1 v List.mem_cons_self),hcell,hfz,Bool.false_eq_true,if_false,Result.andThen,hw]
    rw [this,XK]
    rfl
section
variable {C:Ctx} {g g':Gh} {h h':Nat→Option Zaf} {N N':Nat→Prop} {w w':World} {id:Nat}
theorem Jy (R:RH C g h N w) {i b:Nat} (hi:g.ρ i=some b) (hz:g.Z b=0) (ob ob':Zaf) (hob:h i=some ob) (o':Obj)
    (hk:match ob,ob' with
      | .rows sz rows,.rows sz' rows'=>sz=sz'∧rows.length=rows'.length
      | .map _,.map _=>True
      | .lp l R _ _,.lp l' R' _ _=>l=l'∧R=R'
      | _,_=>False)
    (hs:∀ (c:Array Value) (e:TypeId),w.heap[b]?=some (.cells c e (0,0))→∃ c':Array Value,o'=.cells c' e (0,0)∧c'.size=c.size) :
    Evo g h N w g (hup [(i,ob')] h) (z8 N id) (zt w b o'):=by
  have hlt:=(R.lt i b hi).1
  exact {
    os:=rfl
    tape:=rfl
    output:=rfl
    size:=by rw [qR];exact Nat.le_refl _
    old:=fun k hk ho=>⟨by rw [zA w b o' hlt,if_neg (fun e=>ho ⟨i,by rw [e];exact hi⟩)],rfl⟩
    own:=fun k ho=>.inl ho
    zmono:=fun _=>Nat.le_refl _
    cell:=Frz.heap fun k ho=>by
      rw [zA w b o' hlt,if_neg (fun e=>by subst e;omega)]
    shape:=fun k c e hc=>by
      by_cases e1:k=b
      · subst e1
        obtain ⟨c',h1,h2⟩:=hs c e hc
        exact ⟨c',by rw [zA w k o' hlt,if_pos rfl,h1],h2⟩
      · exact ⟨c,by rw [zA w b o' hlt,if_neg e1];exact hc,rfl⟩
    next:=fun i hi=>.inl hi
    rho:=fun i b h _ _ _ _=>.inl h
    rho0:=fun i h _ _ _ _=>.inl h
    rows:=fun j hj sz rows ho=>by
      simp only [hup] at ho
      split at ho
      · rename_i e1
        subst e1
        cases ho
        cases ob with
        | rows sz0 rows0=>obtain ⟨rfl,h2⟩:=hk;exact ⟨rows0,hob,h2⟩
        | tip _ _=>exact hk.elim
        | map _=>exact hk.elim
        | dead=>exact hk.elim
        | lp _ _ _ _=>exact hk.elim
      · exact ⟨rows,ho,rfl⟩
    tips:=fun j hj sz len ho=>by
      simp only [hup] at ho
      split at ho
      · cases ho
        cases ob<;>exact hk.elim
      · exact ⟨len,ho,Nat.le_refl _⟩
    maps:=fun j hj es ho=>by
      simp only [hup] at ho
      split at ho
      · rename_i e1
        subst e1
        cases ho
        cases ob with
        | rows sz0 rows0=>exact hk.elim
        | tip _ _=>exact hk.elim
        | map es0=>exact ⟨es0,hob⟩
        | dead=>exact hk.elim
        | lp _ _ _ _=>exact hk.elim
      · exact ⟨es,ho⟩
    lps:=fun j hj ll RR s pe ho=>by
      simp only [hup] at ho
      split at ho
      · rename_i e1
        subst e1
        cases ho
        cases ob with
        | rows sz0 rows0=>exact hk.elim
        | tip _ _=>exact hk.elim
        | map es0=>exact hk.elim
        | dead=>exact hk.elim
        | lp l0 R0 s0 pe0=>obtain ⟨rfl,rfl⟩:=hk;exact ⟨s0,pe0,hob⟩
      · exact ⟨s,pe,ho⟩}
theorem XL (R:RH C g h N w) {i b:Nat} (hi:g.ρ i=some b) (ob':Zaf) (o':Obj) (hnt:∀ sz len,ob'≠.tip sz len)
    (E:Evo g h N w g (hup [(i,ob')] h) (z8 N id) (zt w b o'))
    (ho:RObj C g (hup [(i,ob')] h) (z8 N id) (zt w b o') b ob') :
    RH C g (hup [(i,ob')] h) (z8 N id) (zt w b o'):=by
  have hlt:=(R.lt i b hi).1
  refine ⟨R.inj,fun j k hk => ?_,fun j o hj => ?_,fun j k o hk hj => ?_,fun j sz len hj hn => ?_,fun k hk => ?_,R.fix.evo E⟩
  · rw [qR];exact ⟨(R.lt j k hk).1,.inl (R.lt j k hk).2⟩
  · simp only [hup] at hj
    split at hj
    · rename_i e1;subst e1;exact .inl (R.lt i b hi).2
    · exact .inl (R.key j o hj)
  · simp only [hup] at hj
    split at hj
    · rename_i e1
      subst e1
      cases hj
      rw [hi] at hk
      cases hk
      exact ho
    · rename_i e1
      have hne:k≠b:=fun e=>e1 (R.inj i j b hi (e ▸ hk))
      exact (R.obj j k o hk hj).keep E (by rw [zA w b o' hlt,if_neg hne]) rfl
  · simp only [hup] at hj
    split at hj
    · cases hj;exact absurd rfl (hnt sz len)
    · exact R.tip0 j sz len hj hn
  · rw [qR];exact R.zlt k hk
theorem getElem?_putCells (row:List AV) (o:Nat) (cs:List AV) (ho:o+cs.length≤row.length) (j:Nat) :
    (qQ row o cs)[j]?=if o≤j∧j < o+cs.length then cs[j - o]? else row[j]?:=by
  unfold qQ
  rw [List.append_assoc,List.getElem?_append]
  have ht:(row.take o).length=o:=by simp;omega
  rw [ht]
  by_cases h1:j < o
  · rw [if_pos h1,if_neg (by omega),List.getElem?_take_of_lt h1]
  · rw [if_neg h1,List.getElem?_append]
    by_cases h2:j - o < cs.length
    · rw [if_pos h2,if_pos (by omega)]
    · rw [if_neg h2,if_neg (by omega),List.getElem?_drop]
      congr 1;omega
theorem wM (row:List AV) (o:Nat) (cs:List AV) (ho:o+cs.length≤row.length):(qQ row o cs).length=row.length:=by
  unfold qQ;simp;omega
theorem zbU (R:RH C g h N w) {i b:Nat} (hi:g.ρ i=some b) {sz:Nat} {rows:List (List AV)} (hob:h i=some (.rows sz rows)) {r o:Nat} {row:List AV} (hr:rows[r]?=some row)
    (cs:List AV) (vs:List Value) (hl:cs.length=vs.length) (h1:∀ v∈vs,v.oneCell'=true) (hv:∀ (j:Nat) (c:AV) (v:Value),cs[j]?=some c→vs[j]?=some v→RV C g h N w c v)
    (ho:o+cs.length≤row.length) :
    ∃ w',(storeCells ⟨b,r*sz+o,none⟩ vs 0).run C.P w=.ok () w' ∧
      Good C g h N w id .undef [(i,.rows sz (rows.set r (qQ row o cs)))] undef w':=by
  obtain ⟨hz,c,e,hc,hlen,hcells⟩:=R.obj i b _ hi hob
  have hrow:=hlen r row hr
  have hrlt:r < rows.length:=(List.getElem?_eq_some_iff.1 hr).1
  have hsize:r*sz+o+vs.length≤c.size:=by
    rcases Nat.eq_zero_or_pos vs.length with h0 | h0
    · rcases Nat.eq_zero_or_pos row.length with h2 | h2
      · have:sz=0:=by omega
        subst this
        simp;omega
      · obtain ⟨cv,h3,_⟩:=hcells r row (row.length - 1) (row[row.length - 1]'(by omega)) hr (by simp)
        have:=(Array.getElem?_eq_some_iff.1 h3).1
        omega
    · obtain ⟨cv,h3,_⟩:=hcells r row (o+vs.length - 1) (row[o+vs.length - 1]'(by omega)) hr (by simp)
      have:=(Array.getElem?_eq_some_iff.1 h3).1
      omega
  refine ⟨_,vi vs w b (r*sz+o) 0 c e hc h1 (by omega),g,?_⟩
  have E:Evo g h N w g (hup [(i,.rows sz (rows.set r (qQ row o cs)))] h) (z8 N id) (zt w b (.cells (qf c (r*sz+o+0) vs) e (0,0))):=
    Jy R hi hz (.rows sz rows) _ hob _ ⟨rfl,by simp⟩ fun c' e' hc'=>by
      rw [hc] at hc'
      cases hc'
      exact ⟨_,rfl,jx _ _ _⟩
  refine ⟨E,XL R hi _ _ (fun _ _=>by simp) E ?_,.undef⟩
  refine ⟨hz,qf c (r*sz+o+0) vs,e,by rw [zA w b _ (zR hc)];simp,fun k row' hk => ?_,fun k row' j x hk hj => ?_⟩
  · rw [List.getElem?_set] at hk
    split at hk
    · cases hk;rw [wM row o cs ho];exact hrow
    · exact hlen k row' hk
  · rw [xl c _ vs (by omega)]
    rw [List.getElem?_set] at hk
    split at hk
    · rename_i hrk
      subst hrk
      cases hk
      rw [getElem?_putCells row o cs ho] at hj
      have hjlt:j < sz:=by
        rw [←hrow,←wM row o cs ho]
        rw [←getElem?_putCells row o cs ho] at hj
        exact (List.getElem?_eq_some_iff.1 hj).1
      split at hj
      · rename_i hjr
        rw [if_pos (by omega)]
        have hlt:j - o < vs.length:=by omega
        refine ⟨vs[j - o],by rw [show r*sz+j - (r*sz+o+0)=j - o by omega];simp,h1 _ (List.getElem_mem hlt),?_⟩
        exact (hv (j - o) x _ hj (by simp)).mono E
      · rename_i hjr
        rw [if_neg (by omega)]
        obtain ⟨cv,h3,h4,h5⟩:=hcells r row j x hr hj
        exact ⟨cv,h3,h4,h5.mono E⟩
    · rename_i hrk
      obtain ⟨cv,h3,h4,h5⟩:=hcells k row' j x hk hj
      have hj':j < sz:=by rw [←hlen k row' hk];exact (List.getElem?_eq_some_iff.1 hj).1
      rw [if_neg ?_]
      · exact ⟨cv,h3,h4,h5.mono E⟩
      · intro ⟨h6,h7⟩
        rcases Nat.lt_or_ge k r with hlt | hge
        · have:(k+1)*sz≤r*sz:=Nat.mul_le_mul_right sz hlt
          rw [Nat.add_mul] at this
          omega
        · have hlt:r+1≤k:=by omega
          have:(r+1)*sz≤k*sz:=Nat.mul_le_mul_right sz hlt
          rw [Nat.add_mul] at this
          omega
theorem Qx (R:RH C g h N w) {i b:Nat} (hi:g.ρ i=some b) {sz:Nat} {rows new:List (List AV)} (hob:h i=some (.rows sz rows)) (hl:new.length=rows.length) (hsz:∀ row∈new,row.length=sz)
    (news:List Value) (hn:news.length=new.length*sz) (h1:∀ u∈news,u.oneCell'=true)
    (hr:∀ (i:Nat) (row:List AV) (j:Nat) (c:AV),new[i]?=some row→row[j]?=some c→∃ u,news[i*sz+j]?=some u∧RV C g h N w c u) (r:AV) (v:Value) (hv:∀ g' h' N' w',RV C g' h' N' w' r v) :
    ∃ w',(storeCells ⟨b,0,none⟩ news 0).run C.P w=.ok () w'∧Good C g h N w id r [(i,.rows sz new)] v w':=by
  obtain ⟨hz,c,e,hc,hlen,hcells⟩:=R.obj i b _ hi hob
  have hsize:news.length≤c.size:=by
    rcases Nat.eq_zero_or_pos news.length with h0 | h0
    · omega
    · have hs:0 < sz:=Nat.pos_of_ne_zero fun e=>by rw [e,Nat.mul_zero] at hn;omega
      have hrl:0 < rows.length:=Nat.pos_of_ne_zero fun e=>by rw [hl,e,Nat.zero_mul] at hn;omega
      have hrow:rows[rows.length - 1]?=some (rows[rows.length - 1]'(by omega)):=by simp
      have hl2:=hlen _ _ hrow
      obtain ⟨cv,h3,_⟩:=hcells (rows.length - 1) _ (sz - 1) ((rows[rows.length - 1]'(by omega))[sz - 1]'(by omega)) hrow (by simp)
      have hlt:=(Array.getElem?_eq_some_iff.1 h3).1
      have:(rows.length - 1)*sz+sz=rows.length*sz:=by
        rw [←Nat.succ_mul];congr 1;omega
      rw [hn,hl]
      omega
  refine ⟨_,vi news w b 0 0 c e hc h1 (by omega),g,?_⟩
  have E:Evo g h N w g (hup [(i,.rows sz new)] h) (z8 N id) (zt w b (.cells (qf c (0+0) news) e (0,0))):=
    Jy R hi hz (.rows sz rows) _ hob _ ⟨rfl,hl.symm⟩ fun c' e' hc'=>by
      rw [hc] at hc'
      cases hc'
      exact ⟨_,rfl,jx _ _ _⟩
  refine ⟨E,XL R hi _ _ (fun _ _=>by simp) E ?_,hv _ _ _ _⟩
  refine ⟨hz,qf c (0+0) news,e,by rw [zA w b _ (zR hc)];simp,fun k row' hk=>hsz row' (List.mem_of_getElem? hk),fun k row' j x hk hj => ?_⟩
  obtain ⟨u,h3,h4⟩:=hr k row' j x hk hj
  have hlt:=(List.getElem?_eq_some_iff.1 h3).1
  refine ⟨u,?_,h1 u (List.mem_of_getElem? h3),h4.mono E⟩
  rw [xl c _ news (by omega),if_pos (by omega)]
  simpa using h3
end
end
end Go.Proofs.YtlpmnmbebkdocaaGreatDoor
namespace Go.Proofs.YtlpmnmbebkdocaaGreatDoor
open Go.RowKit
set_option linter.unusedSimpArgs false
set_option linter.unusedVariables false
section
def Ran (P:Program) (s:Sem Next) (w:World) (v:Value) (w':World):Prop:=
  s.run P w=.ok (.value v) w'∨(s.run P w=.ok .skip w'∧v=undef)
section
variable {C:Ctx} {g g':Gh} {h h':Nat→Option Zaf} {N N':Nat→Prop} {w w':World} {id:Nat}
theorem xW {k:IntKind} {n:Int} {v:Value} (hv:RV C g h N w (.imm (.int k n)) v):v=.int k n:=by
  cases hv with | imm _ _ hr=>cases hr;rfl
theorem wu {b:Bool} {v:Value} (hv:RV C g h N w (.imm (.bool b)) v):v=.bool b:=by
  cases hv with | imm _ _ hr=>cases hr;rfl
theorem zhV {s:ByteArray} {v:Value} (hv:RV C g h N w (.imm (.str s)) v):v=.string s:=by
  cases hv with | imm _ _ hr=>cases hr;rfl
theorem xg {v:Value} (hv:RV C g h N w .nil v):v=.slice none 0 0:=by
  cases hv;rfl
theorem wk (v:Value):RV C g h N w (xk v) v:=by
  unfold xk
  split
  · exact .imm _ _ (.bool _)
  · exact .imm _ _ (.int _ _)
  · exact .imm _ _ (.str _)
  · exact .nil
  · exact .imm _ _ .nomap
  · exact .top _
def OpSound (C:Ctx) (o:Oper) (ao:AOp):Prop:=
  ∀ (g:Gh) (h:Nat→Option Zaf) (N:Nat→Prop) (w:World) (id:Nat) (ev:Opd→AV) (val:Operand→Value) (r:AV) (ups:List (Nat×Zaf)),
    RH C g h N w→¬ N id→(∀ x∈o.op.operands,RV C g h N w (ev (C.opd x)) (val x))→evalOp ao ev h id=some (r,ups) →
    ∃ v w',Ran C.P (execOp val o) w v w'∧Good C g h N w id r ups v w'
theorem VM {o:Oper} {x:Operand} (ho:o.op=.move x∨o.op=.assign x):OpSound C o (.mov (C.opd x)):=by
  intro g h N w id ev val r ups R hid hv he
  simp only [evalOp,Option.some.injEq,Prod.mk.injEq] at he
  obtain ⟨rfl,rfl⟩:=he
  have hx:RV C g h N w (ev (C.opd x)) (val x):=hv x (by rcases ho with ho | ho<;>simp [ho,Op.operands])
  exact ⟨val x,w,.inl (by rcases ho with ho | ho<;>simp [execOp,ho]),zm R hx⟩
theorem zbV {o:Oper} {c a b:Operand} (ho:o.op=.pick c a b):OpSound C o (.pick (C.opd c) (C.opd a) (C.opd b)):=by
  intro g h N w id ev val r ups R hid hv he
  have hc:=hv c (by simp [ho,Op.operands])
  simp only [evalOp] at he
  split at he
  · rename_i e1
    rw [e1] at hc
    have:=wu hc
    simp only [Option.some.injEq,Prod.mk.injEq] at he
    obtain ⟨rfl,rfl⟩:=he
    exact ⟨val a,w,.inl (by simp [execOp,ho,asBool,this]),zm R (hv a (by simp [ho,Op.operands]))⟩
  · rename_i e1
    rw [e1] at hc
    have:=wu hc
    simp only [Option.some.injEq,Prod.mk.injEq] at he
    obtain ⟨rfl,rfl⟩:=he
    exact ⟨val b,w,.inl (by simp [execOp,ho,asBool,this]),zm R (hv b (by simp [ho,Op.operands]))⟩
  · cases he
theorem jy {P:Program} {t:TypeId} {z:List AV} (hz:qu P t=some z):∃ i v,P.info? t=some i∧i.zero=some v∧z=v.cells.toList.map xk:=by
  unfold qu at hz
  split at hz
  · rename_i i hi
    split at hz
    · rename_i v hv
      split at hz
      · cases hz
        exact ⟨i,v,hi,hv,rfl⟩
      · cases hz
    · cases hz
  · cases hz
theorem xm {P:Program} {t:TypeId} {z:List AV} (hz:qu P t=some z):∀ i v,P.info? t=some i→i.zero=some v→jL v=true:=by
  intro i v hi hv
  unfold qu at hz
  simp only [hi,hv] at hz
  split at hz
  · assumption
  · cases hz
theorem Qy (sz:Nat):∀ (n:Nat) (l:List AV),(x9 sz n l).length=n
  | 0,l=>rfl
  | n+1,l=>by simp [x9,Qy sz n]
theorem yh (sz:Nat):∀ (n:Nat) (l:List AV) (i:Nat) (row:List AV),l.length=n*sz→(x9 sz n l)[i]?=some row →
    row.length=sz∧∀ j x,row[j]?=some x→l[i*sz+j]?=some x
  | 0,l,i,row,hl,hi=>by simp [x9] at hi
  | n+1,l,0,row,hl,hi=>by
    simp [x9] at hi
    subst hi
    rw [Nat.add_mul] at hl
    refine ⟨by simp;omega,fun j x hj => ?_⟩
    rw [List.getElem?_take] at hj
    split at hj
    · simpa using hj
    · cases hj
  | n+1,l,i+1,row,hl,hi=>by
    simp [x9] at hi
    rw [Nat.add_mul] at hl
    obtain ⟨h1,h2⟩:=yh sz n (l.drop sz) i row (by simp;omega) hi
    refine ⟨h1,fun j x hj => ?_⟩
    have:=h2 j x hj
    rw [List.getElem?_drop] at this
    rw [←this]
    congr 1
    rw [Nat.add_mul]
    omega
theorem yF {o:Oper} {t e:TypeId} {n sz:Nat} {z:List AV} (ho:o.op=.alloc t) (hz:qu C.P t=some z) (hl:z.length=n*sz)
    (h1:∀ i v,C.P.info? t=some i→i.zero=some v→jL v=true):OpSound C o (.alloc sz (x9 sz n z)):=by
  intro g h N w id ev val r ups R hid hv he
  simp only [evalOp,Option.some.injEq,Prod.mk.injEq] at he
  obtain ⟨rfl,rfl⟩:=he
  obtain ⟨i,v,hi,hzv,rfl⟩:=jy hz
  have hone:=h1 i v hi hzv
  refine ⟨.pointer (some ⟨w.heap.size,0,none⟩),w.alloc (.cells v.cells t (0,0)),.inl ?_,?_⟩
  · simp [execOp,ho,Instr.alloc,zeroValue,typeInfo,hi,hzv,newVar,newRow]
  · refine kC R hid _ _ _ _ (fun i row hr=>(yh sz n _ i row hl hr).1) (fun i row j x hr hj => ?_) (XJ id _ _ _ _)
    have hx:=(yh sz n _ i row hl hr).2 j x hj
    rw [List.getElem?_map,Option.map_eq_some_iff] at hx
    obtain ⟨u,hu,rfl⟩:=hx
    refine ⟨u,by simpa using hu,?_,wk u⟩
    exact List.all_eq_true.1 hone u (List.mem_of_getElem? hu)
theorem zaU {o:Oper} {t:TypeId} {z:List AV} (ho:o.op=.alloc t) (hz:qu C.P t=some z)
    (h1:∀ i v,C.P.info? t=some i→i.zero=some v→jL v=true):OpSound C o (.alloc z.length [z]):=by
  have:=yF (C:=C) (o:=o) (t:=t) (e:=0) (n:=1) (sz:=z.length) ho hz (by simp) h1
  simpa [x9] using this
theorem zc7 {o:Oper} {t:TypeId} {x:Operand} {sz:Nat} (ho:o.op=.box t x):OpSound C o (.box sz (C.opd x)):=by
  intro g h N w id ev val r ups R hid hv he
  have hx:=hv x (by simp [ho,Op.operands])
  simp only [evalOp] at he
  split at he
  · rename_i cs hcs
    split at he
    · rename_i hlen
      simp only [Option.some.injEq,Prod.mk.injEq] at he
      obtain ⟨rfl,rfl⟩:=he
      obtain ⟨h1,h2⟩:=yg hcs hx
      refine ⟨.pointer (some ⟨w.heap.size,0,none⟩),w.alloc (.cells (val x).cells t (0,0)),.inl ?_,?_⟩
      · simp [execOp,ho,Instr.box,newVar,newRow]
      · refine kC R hid _ _ _ _ (fun i row hr => ?_) (fun i row j y hr hj => ?_) (XJ id _ _ _ _)
        · cases i with
          | zero=>simp at hr;subst hr;exact hlen
          | succ i=>simp at hr
        · cases i with
          | zero=>simp at hr;subst hr;obtain ⟨u,hu,h3,h4⟩:=h2 j y hj;exact ⟨u,by simpa using hu,h3,h4⟩
          | succ i=>simp at hr
    · cases he
  · cases he
theorem xD {P:Program} {t:TypeId} {b:Bool} (hb:jl P t=some b) (w:World):(isAgg t).run P w=.ok b w:=by
  unfold jl at hb
  split at hb<;>(cases hb)<;>(rename_i hu;simp [isAgg,run_underlying hu])
theorem zH {P:Program} {t:TypeId} {n:Nat} (hn:zr P t=some n) (w:World):(sizeOf t).run P w=.ok n w:=by
  unfold zr at hn
  rw [Option.map_eq_some_iff] at hn
  obtain ⟨i,hi,rfl⟩:=hn
  simp [sizeOf,typeInfo,hi]
theorem qD (b o n:Nat):(⟨b,o,none⟩:Addr).add n=⟨b,o+n,none⟩:=by
  unfold Addr.add
  split
  · rename_i h0;subst h0;rfl
  · rfl
theorem kD {P:Program} {t:TypeId} {n:Nat} (hb:jl P t=some true) (hn:zr P t=some n) (w:World) (b o:Nat) (vs:List Value) (hl:vs.length=n)
    (hc:∀ j v,vs[j]?=some v→w.cell? ⟨b,o+j,none⟩=some v):(loadVar t ⟨b,o,none⟩).run P w=.ok (.agg vs.toArray) w:=by
  subst hl
  have:=run_loadCells_list (P:=P) w ⟨b,o,none⟩ vs (fun j v hj=>by rw [qD];exact hc j v hj)
  simp [loadVar,xD hb,zH hn,this]
theorem kE {P:Program} {t:TypeId} (hb:jl P t=some false) (w:World) (b o:Nat) (v:Value)
    (hc:w.cell? ⟨b,o,none⟩=some v):(loadVar t ⟨b,o,none⟩).run P w=.ok v w:=by
  simp [loadVar,xD hb,hc]
theorem vQ {α β:Type} (l:List α) (R:Nat→α→β→Prop) (h:∀ j a,l[j]?=some a→∃ b,R j a b) :
    ∃ bs:List β,bs.length=l.length∧∀ j a b,l[j]?=some a→bs[j]?=some b→R j a b:=by
  induction l generalizing R with
  | nil=>exact ⟨[],rfl,fun j a b hj=>by simp at hj⟩
  | cons a l ih=>
    obtain ⟨b,hb⟩:=h 0 a rfl
    obtain ⟨bs,h1,h2⟩:=ih (fun j a b=>R (j+1) a b) (fun j a hj=>h (j+1) a (by simpa using hj))
    refine ⟨b::bs,by simp [h1],fun j a' b' hj hj' => ?_⟩
    cases j with
    | zero=>simp at hj hj';subst hj;subst hj';exact hb
    | succ j=>exact h2 j a' b' (by simpa using hj) (by simpa using hj')
theorem VN {t:TypeId} {ag:Bool} {n:Nat} (hag:jl C.P t=some ag) (hn:zr C.P t=some n) (R:RH C g h N w) {ev:Opd→AV} {x:Opd} {vx:Value} (hx:RV C g h N w (ev x) vx) {id:Nat} {r:AV} {ups:List (Nat×Zaf)}
    (he:evalOp (.load ag n x) ev h id=some (r,ups)):∃ v,(Instr.loadAt t vx).run C.P w=.ok v w∧ups=[]∧RV C g h N w r v:=by
  simp only [evalOp] at he
  split at he
  · rename_i i rr oo e1
    rw [e1] at hx
    split at he
    · rename_i sz rows hob
      split at he
      · rename_i row hrow
        cases hx with
        | ptr _ _ _ v hni hone hp=>
          obtain ⟨b,hb,hval⟩:=hp sz rows hob
          obtain ⟨hz,c,e,hc,hlen,hcells⟩:=R.obj i b _ hb hob
          cases ag with
          | true=>
            simp only [if_true] at he
            split at he
            · rename_i hle
              simp only [Option.some.injEq,Prod.mk.injEq] at he
              obtain ⟨rfl,rfl⟩:=he
              obtain ⟨vs,h1,h2⟩:=vQ ((row.drop oo).take n) (fun j a cv=>c[rr*sz+(oo+j)]?=some cv∧cv.oneCell'=true∧RV C g h N w a cv)
                (fun j a hj=>by
                  rw [List.getElem?_take] at hj
                  split at hj
                  · rw [List.getElem?_drop] at hj
                    exact hcells rr row (oo+j) a hrow hj
                  · cases hj)
              have hl:((row.drop oo).take n).length=n:=by simp;omega
              have hget:∀ j v,vs[j]?=some v→∃ a,((row.drop oo).take n)[j]?=some a:=fun j v hj=>by
                have:j < ((row.drop oo).take n).length:=by rw [←h1];exact (List.getElem?_eq_some_iff.1 hj).1
                exact ⟨_,List.getElem?_eq_getElem this⟩
              refine ⟨.agg vs.toArray,?_,rfl,?_⟩
              · have:=kD (P:=C.P) hag hn w b (rr*sz+oo) vs (by omega) (fun j v hj=>by
                  obtain ⟨a,ha⟩:=hget j v hj
                  rw [qv hc,←(h2 j a v ha hj).1]
                  congr 1;omega)
                simp [Instr.loadAt,hval,Instr.sureAddr,this]
              · refine .agg _ vs h1.symm (fun v hv => ?_) (fun j a v hj hj'=>(h2 j a v hj hj').2.2)
                obtain ⟨j,hj⟩:=List.getElem?_of_mem hv
                obtain ⟨a,ha⟩:=hget j v hj
                exact (h2 j a v ha hj).2.1
            · cases he
          | false=>
            simp only [Bool.false_eq_true,if_false,Option.map_eq_some_iff,Prod.mk.injEq] at he
            obtain ⟨a,ha,rfl,rfl⟩:=he
            obtain ⟨cv,h3,h4,h5⟩:=hcells rr row oo a hrow ha
            refine ⟨cv,?_,rfl,h5⟩
            have:=kE (P:=C.P) hag w b (rr*sz+oo) cv (by rw [qv hc];exact h3)
            simp [Instr.loadAt,hval,Instr.sureAddr,this]
      · cases he
    · cases he
  · rename_i cells e1
    rw [e1] at hx
    generalize hval:vx=vy at hx
    cases hx with
    | eptr _ b off cv hz hc hr=>
      cases ag with
      | true=>
        simp only [if_true] at he
        split at he
        · rename_i hle
          simp only [Option.some.injEq,Prod.mk.injEq] at he
          obtain ⟨rfl,rfl⟩:=he
          refine ⟨.agg ((List.range n).map cv).toArray,?_,rfl,.imm _ _ (.agg _ _ (by simp;omega) (fun v hv => ?_) (fun j a v hj hj' => ?_))⟩
          · have:=kD (P:=C.P) hag hn w b off ((List.range n).map cv) (by simp) (fun j v hj=>by
              simp only [List.getElem?_map,Option.map_eq_some_iff] at hj
              obtain ⟨k,hk,rfl⟩:=hj
              obtain ⟨hk1,hk2⟩:=List.getElem?_eq_some_iff.1 hk
              simp at hk1 hk2
              subst hk2
              exact (hc j (cells[j]'(by omega)) (by simp)).1)
            simp [Instr.loadAt,hval,Instr.sureAddr,this]
          · simp only [List.mem_map,List.mem_range] at hv
            obtain ⟨j,hj,rfl⟩:=hv
            exact (hc j (cells[j]'(by omega)) (by simp)).2
          · simp only [List.getElem?_map,Option.map_eq_some_iff] at hj'
            obtain ⟨k,hk,rfl⟩:=hj'
            obtain ⟨hk1,hk2⟩:=List.getElem?_eq_some_iff.1 hk
            simp at hk1 hk2
            subst hk2
            rw [List.getElem?_take,if_pos hk1] at hj
            exact hr j a hj
        · cases he
      | false=>
        simp only [Bool.false_eq_true,if_false,Option.map_eq_some_iff,Prod.mk.injEq] at he
        obtain ⟨a,ha,rfl,rfl⟩:=he
        refine ⟨cv 0,?_,rfl,.imm _ _ (hr 0 a ha)⟩
        have:=kE (P:=C.P) hag w b off (cv 0) (by have:=(hc 0 a ha).1;simpa using this)
        simp [Instr.loadAt,hval,Instr.sureAddr,this]
  · cases he
theorem zbW {o:Oper} {t:TypeId} {x:Operand} {ag:Bool} {n:Nat} (ho:o.op=.load t x) (hag:jl C.P t=some ag) (hn:zr C.P t=some n):OpSound C o (.load ag n (C.opd x)):=by
  intro g h N w id ev val r ups R hid hv he
  obtain ⟨v,h1,rfl,h2⟩:=VN hag hn R (hv x (by simp [ho,Op.operands])) he
  exact ⟨v,w,.inl (by simp [execOp,ho,h1]),zm R h2⟩
end
end
section
section
variable {C:Ctx} {g g':Gh} {h h':Nat→Option Zaf} {N N':Nat→Prop} {w w':World} {id:Nat}
theorem zaV {o:Oper} {t:TypeId} {x v:Operand} {n:Nat} (ho:o.op=.store t x v) (hn:zr C.P t=some n):OpSound C o (.store n (C.opd x) (C.opd v)):=by
  intro g h N w id ev val r ups R hid hv he
  have hx:=hv x (by simp [ho,Op.operands])
  have hy:=hv v (by simp [ho,Op.operands])
  simp only [evalOp] at he
  split at he
  · rename_i i rr oo cs e1 e2
    rw [e1] at hx
    split at he
    · rename_i sz rows hob
      split at he
      · rename_i row hrow
        split at he
        · rename_i hle
          simp only [Option.some.injEq,Prod.mk.injEq] at he
          obtain ⟨rfl,rfl⟩:=he
          obtain ⟨h1,h2⟩:=yg e2 hy
          cases hx with
          | ptr _ _ _ _ hni hone hp=>
            obtain ⟨b,hb,hval⟩:=hp sz rows hob
            have hmem:∀ u∈(val v).cells.toList,u.oneCell'=true:=fun u hu=>by
              obtain ⟨j,hj⟩:=List.getElem?_of_mem hu
              have hlt:j < cs.length:=by rw [h1];simpa using (List.getElem?_eq_some_iff.1 hj).1
              obtain ⟨u',hu',h3,_⟩:=h2 j cs[j] (by simp)
              simp only [Array.getElem?_toList] at hj
              rw [hj] at hu'
              cases hu'
              exact h3
            obtain ⟨w',hr,hg⟩:=zbU (id:=id) R hb hob hrow (o:=oo) cs (val v).cells.toList (by simpa using h1) hmem
              (fun j c u hj hj'=>by
                obtain ⟨u',hu',_,h4⟩:=h2 j c hj
                simp only [Array.getElem?_toList] at hj'
                rw [hj'] at hu'
                cases hu'
                exact h4) (by omega)
            refine ⟨undef,w',.inr ⟨?_,rfl⟩,hg⟩
            have hsz:(val v).cells.size=n:=by omega
            simp [execOp,ho,Instr.storeAt,hval,Instr.sureAddr,storeVar,zH hn,hsz,hr]
        · split at he
          · rename_i hle
            obtain ⟨hl1,hl2,hr0,ho0⟩:=hle
            simp only [Option.some.injEq,Prod.mk.injEq] at he
            obtain ⟨rfl,rfl⟩:=he
            obtain ⟨h1,h2⟩:=yg e2 hy
            subst hr0 ho0
            cases hx with
            | ptr _ _ _ _ hni hone hp=>
              obtain ⟨b,hb,hval⟩:=hp sz rows hob
              have hmem:∀ u∈(val v).cells.toList,u.oneCell'=true:=fun u hu=>by
                obtain ⟨j,hj⟩:=List.getElem?_of_mem hu
                have hlt:j < cs.length:=by rw [h1];simpa using (List.getElem?_eq_some_iff.1 hj).1
                obtain ⟨u',hu',h3,_⟩:=h2 j cs[j] (by simp)
                simp only [Array.getElem?_toList] at hj
                rw [hj] at hu'
                cases hu'
                exact h3
              have hcl:cs.length=rows.length*sz:=by omega
              have hck:(x9 sz rows.length cs).length=rows.length:=Qy _ _ _
              obtain ⟨w',hr,hg⟩:=Qx (id:=id) R hb hob hck (fun row hrow=>by
                  obtain ⟨k,hk⟩:=List.getElem?_of_mem hrow
                  exact (yh sz rows.length cs k row hcl hk).1)
                (val v).cells.toList (by rw [hck];simpa using (h1.symm.trans hcl)) hmem
                (fun k row j c hk hj=>by
                  obtain ⟨h3,h4⟩:=yh sz rows.length cs k row hcl hk
                  obtain ⟨u,hu,_,h5⟩:=h2 (k*sz+j) c (h4 j c hj)
                  exact ⟨u,by simpa using hu,h5⟩) .undef undef (fun _ _ _ _=>.undef)
              refine ⟨undef,w',.inr ⟨?_,rfl⟩,hg⟩
              have hsz:(val v).cells.size=n:=by omega
              simp [execOp,ho,Instr.storeAt,hval,Instr.sureAddr,storeVar,zH hn,hsz,hr]
          · cases he
      · cases he
    · cases he
  · cases he
theorem zc8 {o:Oper} {s:TypeId} {x:Operand} {f n:Nat} {fs:Array Field} {fd:Field} (ho:o.op=.fieldAddr s x f) (hs:C.P.underlying s=some (.struct fs)) (hf:fs[f]?=some fd)
    (hn:zr C.P fd.type=some n) (hn0:n≠0):OpSound C o (.fld fd.offset (C.opd x)):=by
  intro g h N w id ev val r ups R hid hv he
  have hx:=hv x (by simp [ho,Op.operands])
  simp only [evalOp] at he
  split at he
  · rename_i i rr oo e1
    rw [e1] at hx
    split at he
    · rename_i sz rows hob
      simp only [Option.some.injEq,Prod.mk.injEq] at he
      obtain ⟨rfl,rfl⟩:=he
      cases hx with
      | ptr _ _ _ _ hni hone hp=>
        obtain ⟨b,hb,hval⟩:=hp sz rows hob
        refine ⟨.pointer (some ⟨b,rr*sz+oo+fd.offset,none⟩),w,.inl ?_,zm R ?_⟩
        · simp [execOp,ho,Instr.fieldAt,run_underlying hs,hf,hval,Instr.sureAddr,fieldPlace,zH hn,hn0,qD]
        · refine .ptr i rr _ _ hni rfl fun sz' rows' hob' => ?_
          rw [hob] at hob'
          cases hob'
          exact ⟨b,hb,by rw [Nat.add_assoc]⟩
    · cases he
  · rename_i cells e1
    rw [e1] at hx
    simp only [Option.some.injEq,Prod.mk.injEq] at he
    obtain ⟨rfl,rfl⟩:=he
    generalize hval:val x=vx at hx
    cases hx with
    | eptr _ b off cv hz hc hr=>
      refine ⟨.pointer (some ⟨b,off+fd.offset,none⟩),w,.inl ?_,zm R ?_⟩
      · simp [execOp,ho,Instr.fieldAt,run_underlying hs,hf,hval,Instr.sureAddr,fieldPlace,zH hn,hn0,qD]
      · refine .eptr _ b _ (fun j=>cv (fd.offset+j)) (fun j c hj => ?_) (fun j c hj => ?_) (fun j c hj => ?_)
        · rw [List.getElem?_drop] at hj
          have:=hz _ c hj;omega
        · rw [List.getElem?_drop] at hj
          have:=hc _ c hj;rw [Nat.add_assoc];exact this
        · rw [List.getElem?_drop] at hj
          exact hr _ c hj
  · cases he
theorem ZJ {rows:List (List IV)} {v:Value} (hv:RI g.Z w (.slice rows) v) :
    (rows=[]∧(v=.slice none 0 0∨∃ a cap,v=.slice (some a) 0 cap))∨∃ (b off cap sz:Nat) (cv:Nat→Nat→Value),v=.slice (some ⟨b,off,none⟩) rows.length cap∧rows.length≤cap ∧
      (∀ (i:Nat) (row:List IV),rows[i]?=some row→row.length=sz) ∧
      (∀ (i:Nat) (row:List IV) (j:Nat) (c:IV),rows[i]?=some row→row[j]?=some c→off+i*sz+j < g.Z b) ∧
      (∀ (i:Nat) (row:List IV) (j:Nat) (c:IV),rows[i]?=some row→row[j]?=some c→w.cell? ⟨b,off+i*sz+j,none⟩=some (cv i j)∧(cv i j).oneCell'=true) ∧
      (∀ (i:Nat) (row:List IV) (j:Nat) (c:IV),rows[i]?=some row→row[j]?=some c→RI g.Z w c (cv i j)):=by
  cases hv with
  | nil=>exact .inl ⟨rfl,.inl rfl⟩
  | empty a cap=>exact .inl ⟨rfl,.inr ⟨a,cap,rfl⟩⟩
  | slice _ b off cap sz cv hcap hsz hz hc hr=>exact .inr ⟨b,off,cap,sz,cv,rfl,hcap,hsz,hz,hc,hr⟩
theorem zc9 {o:Oper} {t e:TypeId} {x ix:Operand} {sz:Nat} (ho:o.op=.indexAddr t x ix) (ht:C.P.underlying t=some (.slice e)) (hn:zr C.P e=some sz):OpSound C o (.idx sz (C.opd x) (C.opd ix)):=by
  intro g h N w id ev val r ups R hid hv he
  have hx:=hv x (by simp [ho,Op.operands])
  have hi:=hv ix (by simp [ho,Op.operands])
  simp only [evalOp] at he
  split at he
  case h_2=>cases he
  rename_i k n e1
  rw [e1] at hi
  have hival:=xW hi
  have imm:∀ (rows:List (List IV)),RI g.Z w (.slice rows) (val x)→(if 0≤n then match rows[n.toNat]? with
          | some row=>if row.length=sz then some (AV.eptr row,([]:List (Nat×Zaf))) else none
          | none=>none
        else none)=some (r,ups) →
      ∃ v w',Ran C.P (execOp val o) w v w'∧Good C g h N w id r ups v w':=fun rows hri he=>by
    split at he
    · rename_i hle1
      split at he
      · rename_i row hrow
        split at he
        · rename_i hlen
          simp only [Option.some.injEq,Prod.mk.injEq] at he
          obtain ⟨rfl,rfl⟩:=he
          have hlt:=(List.getElem?_eq_some_iff.1 hrow).1
          have hle2:n < rows.length:=by omega
          rcases ZJ hri with ⟨rfl,_⟩ | ⟨b,off,cap,sz',cv,hval,hcap,hsz,hzz,hc,hr⟩
          · simp at hlt
          · have hse:sz'=sz:=(hsz _ _ hrow).symm.trans hlen
            subst hse
            refine ⟨.pointer (some ⟨b,off+n.toNat*sz',none⟩),w,.inl ?_,zm R ?_⟩
            · simp [execOp,ho,Instr.indexAt,hival,asIntOf,run_underlying ht,hval,zH hn,qD,hle1,hle2]
            · exact .eptr _ b _ (cv n.toNat) (fun j c hj=>hzz _ _ j c hrow hj) (fun j c hj=>hc _ _ j c hrow hj) (fun j c hj=>hr _ _ j c hrow hj)
        · cases he
      · cases he
    · cases he
  split at he
  · rename_i rows e2
    rw [e2] at hx
    cases hx with
    | imm _ _ hri=>exact imm rows hri he
  · rename_i j rows e2
    rw [e2] at hx
    cases hx with
    | Zas _ _ _ hri hni htip=>exact imm rows hri he
  · rename_i j off len e2
    rw [e2] at hx
    split at he
    · rename_i sz' rows hob
      split at he
      · rename_i hle
        obtain ⟨rfl,hle1,hle2⟩:=hle
        simp only [Option.some.injEq,Prod.mk.injEq] at he
        obtain ⟨rfl,rfl⟩:=he
        cases hx with
        | Zal _ _ _ _ hni hone hp=>
          obtain ⟨h1,h2⟩:=hp _ _ hob
          rcases h2 with ⟨hno,hrows,hval⟩ | ⟨b,cap,c,e',hb,hval,hle,hw,hcap⟩
          · subst hrows;simp at h1;omega
          · refine ⟨.pointer (some ⟨b,off*sz'+n.toNat*sz',none⟩),w,.inl ?_,zm R ?_⟩
            · simp [execOp,ho,Instr.indexAt,hival,asIntOf,run_underlying ht,hval,zH hn,qD,hle1,hle2]
            · refine .ptr j _ _ _ hni rfl fun sz2 rows2 hob2 => ?_
              rw [hob] at hob2
              cases hob2
              exact ⟨b,hb,by rw [Nat.add_mul];rfl⟩
      · cases he
    · cases he
  · cases he
theorem zbX {o:Oper} {t e:TypeId} {x ix:Operand} {sz n:Nat} (ho:o.op=.indexAddr t x ix) (ht:C.P.underlying t=some (.array n e)) (hn:zr C.P e=some sz) :
    OpSound C o (.idxa n sz (C.opd x) (C.opd ix)):=by
  intro g h N w id ev val r ups R hid hv he
  have hx:=hv x (by simp [ho,Op.operands])
  have hi:=hv ix (by simp [ho,Op.operands])
  simp only [evalOp] at he
  split at he
  · rename_i k m j e1 e2
    rw [e1] at hi
    rw [e2] at hx
    have hival:=xW hi
    split at he
    · rename_i sz' rows hob
      split at he
      · rename_i hle
        obtain ⟨rfl,hle1,hle2⟩:=hle
        simp only [Option.some.injEq,Prod.mk.injEq] at he
        obtain ⟨rfl,rfl⟩:=he
        cases hx with
        | ptr _ _ _ _ hni hone hp=>
          obtain ⟨b,hb,hval⟩:=hp _ _ hob
          refine ⟨.pointer (some ⟨b,m.toNat*sz',none⟩),w,.inl ?_,zm R ?_⟩
          · simp [execOp,ho,Instr.indexAt,hival,asIntOf,run_underlying ht,hval,Instr.sureAddr,zH hn,qD,hle1,hle2]
          · refine .ptr j _ _ _ hni rfl fun sz2 rows2 hob2 => ?_
            rw [hob] at hob2
            cases hob2
            exact ⟨b,hb,rfl⟩
      · cases he
    · cases he
  · cases he
end
end
section
section
variable {C:Ctx} {g g':Gh} {h h':Nat→Option Zaf} {N N':Nat→Prop} {w w':World} {id:Nat}
theorem zda {P:Program} (w:World) (op:BinOp) (t:TypeId) (x y:Operand) {a b r:IV} {va vb:Value} (ha:RI g.Z w a va) (hb:RI g.Z w b vb) (hr:vM op a b=some r) :
    ∃ v,(eqGuard op t x y va vb).run P w=.ok () w∧(binOp op t va vb).run P w=.ok v w∧RI g.Z w r v:=by
  cases ha with
  | int k a=>
    cases hb with
    | int k' b=>
      by_cases hk:k=k'
      · subst hk
        cases op<;>simp [vM] at hr
        case add=>subst hr;exact ⟨_,by simp [eqGuard],by simp [binOp,Op.intArith],.int _ _⟩
        case sub=>subst hr;exact ⟨_,by simp [eqGuard],by simp [binOp,Op.intArith],.int _ _⟩
        case mul=>subst hr;exact ⟨_,by simp [eqGuard],by simp [binOp,Op.intArith],.int _ _⟩
        case quo=>obtain ⟨h0,rfl⟩:=hr;exact ⟨_,by simp [eqGuard],by simp [binOp,Op.intDiv,h0],.int _ _⟩
        case rem=>obtain ⟨h0,rfl⟩:=hr;exact ⟨_,by simp [eqGuard],by simp [binOp,Op.intDiv,h0],.int _ _⟩
        case and=>
          refine ⟨.int k (k.wrap ((BitVec.ofInt k.bits a &&& BitVec.ofInt k.bits b).toNat)),by simp [eqGuard],?_,?_⟩
          · unfold binOp;simp only [ne_eq,not_true_eq_false,if_false,Op.intBits];rfl
          · subst hr;simpa using RI.int (Z:=g.Z) (w:=w) k _
        case shl=>obtain ⟨h0,rfl⟩:=hr;exact ⟨_,by simp [eqGuard],by simp [binOp,Op.shift,show ¬ b < 0 by omega],.int _ _⟩
        case shr=>obtain ⟨h0,rfl⟩:=hr;exact ⟨_,by simp [eqGuard],by simp [binOp,Op.shift,show ¬ b < 0 by omega],.int _ _⟩
        case eql=>subst hr;exact ⟨_,by simp [eqGuard],by simp [binOp,Op.intCmp],.bool _⟩
        case neq=>subst hr;exact ⟨_,by simp [eqGuard],by simp [binOp,Op.intCmp],.bool _⟩
        case lss=>subst hr;exact ⟨_,by simp [eqGuard],by simp [binOp,Op.intCmp],.bool _⟩
        case leq=>subst hr;exact ⟨_,by simp [eqGuard],by simp [binOp,Op.intCmp],.bool _⟩
        case gtr=>subst hr;exact ⟨_,by simp [eqGuard],by simp [binOp,Op.intCmp],.bool _⟩
        case geq=>subst hr;exact ⟨_,by simp [eqGuard],by simp [binOp,Op.intCmp],.bool _⟩
      · cases op<;>simp [vM,hk] at hr
        case shl=>obtain ⟨h0,rfl⟩:=hr;exact ⟨_,by simp [eqGuard],by simp [binOp,Op.shift,show ¬ b < 0 by omega],.int _ _⟩
        case shr=>obtain ⟨h0,rfl⟩:=hr;exact ⟨_,by simp [eqGuard],by simp [binOp,Op.shift,show ¬ b < 0 by omega],.int _ _⟩
    | _=>simp [vM] at hr
  | str a=>
    cases hb with
    | str b=>
      cases op<;>simp [vM] at hr
      case eql=>subst hr;exact ⟨_,by simp [eqGuard],by simp [binOp,Op.stringOp],.bool _⟩
      case neq=>subst hr;exact ⟨_,by simp [eqGuard],by simp [binOp,Op.stringOp],.bool _⟩
    | _=>simp [vM] at hr
  | _=>simp [vM] at hr
theorem VO {o:Oper} {t t':TypeId} {op:BinOp} {x y:Operand} (ho:o.op=.binOp op t x y t'):OpSound C o (.bin op (C.opd x) (C.opd y)):=by
  intro g h N w id ev val r ups R hid hv he
  have hx:=hv x (by simp [ho,Op.operands])
  have hy:=hv y (by simp [ho,Op.operands])
  simp only [evalOp] at he
  split at he
  · rename_i a b e1 e2
    rw [e1] at hx
    rw [e2] at hy
    rw [Option.map_eq_some_iff] at he
    obtain ⟨r',hr,he⟩:=he
    simp only [Prod.mk.injEq] at he
    obtain ⟨rfl,rfl⟩:=he
    cases hx with
    | imm _ _ ha=>
      cases hy with
      | imm _ _ hb=>
        obtain ⟨v,h0,h1,h2⟩:=zda (P:=C.P) w op t x y ha hb hr
        refine ⟨v,w,.inl ?_,zm R (.imm _ _ h2)⟩
        simp [execOp,ho,h0,h1]
  · cases he
theorem VP {o:Oper} {t t':TypeId} {op:BinOp} {neg:Bool} {x y:Operand} (ho:o.op=.binOp op t x y t') (ht:C.P.underlying t=some .bool)
    (hop:op=if neg then .neq else .eql):OpSound C o (.eqb neg (C.opd x) (C.opd y)):=by
  intro g h N w id ev val r ups R hid hv he
  have hx:=hv x (by simp [ho,Op.operands])
  have hy:=hv y (by simp [ho,Op.operands])
  simp only [evalOp] at he
  split at he
  · rename_i a b e1 e2
    rw [e1] at hx
    rw [e2] at hy
    have h1:=wu hx
    have h2:=wu hy
    simp only [Option.some.injEq,Prod.mk.injEq] at he
    obtain ⟨rfl,rfl⟩:=he
    subst hop
    refine ⟨.bool (if neg then !(a == b) else a == b),w,.inl ?_,zm R (.imm _ _ (.bool _))⟩
    cases neg<;>simp [execOp,ho,h1,h2,eqGuard,binOp,Op.equal,Op.maxDepth,run_equalIn_bool w _ t a b ht]
  · cases he
theorem zdb {o:Oper} {t:TypeId} {x:Operand} (ho:o.op=.unOp .not t x):OpSound C o (.not (C.opd x)):=by
  intro g h N w id ev val r ups R hid hv he
  have hx:=hv x (by simp [ho,Op.operands])
  simp only [evalOp] at he
  split at he
  · rename_i a e1
    rw [e1] at hx
    have h1:=wu hx
    simp only [Option.some.injEq,Prod.mk.injEq] at he
    obtain ⟨rfl,rfl⟩:=he
    exact ⟨.bool !a,w,.inl (by simp [execOp,ho,h1,Op.unary]),zm R (.imm _ _ (.bool _))⟩
  · cases he
theorem zdc {o:Oper} {t:TypeId} {x:Operand} (ho:o.op=.unOp .neg t x):OpSound C o (.neg (C.opd x)):=by
  intro g h N w id ev val r ups R hid hv he
  have hx:=hv x (by simp [ho,Op.operands])
  simp only [evalOp] at he
  split at he
  · rename_i k a e1
    rw [e1] at hx
    have h1:=xW hx
    simp only [Option.some.injEq,Prod.mk.injEq] at he
    obtain ⟨rfl,rfl⟩:=he
    exact ⟨.int k (k.wrap (0 - a)),w,.inl (by simp [execOp,ho,h1,Op.unary,Op.intArith]),zm R (.imm _ _ (.int _ _))⟩
  · cases he
theorem zbY {o:Oper} {s d:TypeId} {k k0:IntKind} {x:Operand} (ho:o.op=.convert s d x) (hs:C.P.underlying s=some (.int k0)) (hd:C.P.underlying d=some (.int k)) :
    OpSound C o (.conv k (C.opd x)):=by
  intro g h N w id ev val r ups R hid hv he
  have hx:=hv x (by simp [ho,Op.operands])
  simp only [evalOp] at he
  split at he
  · rename_i k' a e1
    rw [e1] at hx
    have h1:=xW hx
    simp only [Option.some.injEq,Prod.mk.injEq] at he
    obtain ⟨rfl,rfl⟩:=he
    exact ⟨.int k (k.wrap a),w,.inl (by simp [execOp,ho,h1,convert,run_underlying hs,run_underlying hd,Conv.intToInt]),zm R (.imm _ _ (.int _ _))⟩
  · cases he
theorem wN {P:Program} {w:World} {b:Nat} {es:Array MapEntry} {clock:Nat} (hb:w.heap[b]?=some (.map es clock)):(getObj b).run P w=.ok (.map es clock) w:=by
  simp [getObj,Sem.run,hb]
theorem XM {P:Program} {w:World} {b:Nat} {es:Array MapEntry} {clock:Nat} (hb:w.heap[b]?=some (.map es clock)) (o:Obj):(setObj b o).run P w=.ok () (zt w b o):=by
  simp [setObj,Sem.run,hb,zt]
theorem zdd {rows:List (List IV)} {v:Value} (hv:RI g.Z w (.slice rows) v):∃ a cap,v=.slice a rows.length cap:=by
  cases hv with
  | nil=>exact ⟨none,0,rfl⟩
  | empty a cap=>exact ⟨some a,cap,rfl⟩
  | slice _ b off cap sz cv _ _ _ _ _=>exact ⟨_,cap,rfl⟩
theorem zde {o:Oper} {t e:TypeId} {x:Operand} (ho:o.op=.call {callee:=.builtin .len,args := #[x],argTypes := #[t]})
    (ht:C.P.underlying t=some (.slice e)):OpSound C o (.len (C.opd x)):=by
  intro g h N w id ev val r ups R hid hv he
  have hx:=hv x (by simp [ho,Op.operands,Call.operands])
  simp only [evalOp] at he
  split at he
  · rename_i n hn
    simp only [Option.some.injEq,Prod.mk.injEq] at he
    obtain ⟨rfl,rfl⟩:=he
    have key:∃ a cap,val x=.slice a n cap:=by
      unfold wq at hn
      split at hn
      · rename_i e1;rw [e1] at hx;cases hn;cases hx with | imm _ _ hr=>exact zdd hr
      · rename_i e1;rw [e1] at hx;cases hn;cases hx with | Zas _ _ _ hr _ _=>exact zdd hr
      · rename_i e1;rw [e1] at hx;cases hn;exact ⟨none,0,xg hx⟩
      · rename_i e1
        rw [e1] at hx
        cases hn
        generalize val x=vx at hx
        cases hx with
        | nnil a cap=>exact ⟨_,cap,rfl⟩
      · rename_i e1
        rw [e1] at hx
        split at hn
        · rename_i hob
          cases hn
          cases hx with
          | Zal _ _ _ _ hni hone hp=>
            obtain ⟨h1,h2⟩:=hp _ _ hob
            rcases h2 with ⟨_,hr,hval⟩ | ⟨b,cap,c,e',hb,hval,_⟩
            · subst hr
              simp at h1
              exact ⟨none,0,by rw [hval,h1.2]⟩
            · exact ⟨_,cap,hval⟩
        · cases hn
      · cases hn
    obtain ⟨a,cap,hval⟩:=key
    exact ⟨.int .i64 n,w,.inl (by simp [execOp,ho,resolve,invoke,builtin,Builtin.len_,run_underlying ht,hval,goInt]),zm R (.imm _ _ (.int _ _))⟩
  · cases he
theorem zbZ {o:Oper} {t:TypeId} {x:Operand} (ho:o.op=.call {callee:=.builtin .len,args := #[x],argTypes := #[t]})
    (ht:C.P.underlying t=some .string):OpSound C o (.lens (C.opd x)):=by
  intro g h N w id ev val r ups R hid hv he
  have hx:=hv x (by simp [ho,Op.operands,Call.operands])
  simp only [evalOp] at he
  split at he
  · rename_i s e1
    rw [e1] at hx
    have hval:=zhV hx
    simp only [Option.some.injEq,Prod.mk.injEq] at he
    obtain ⟨rfl,rfl⟩:=he
    exact ⟨.int .i64 s.size,w,.inl (by simp [execOp,ho,resolve,invoke,builtin,Builtin.len_,run_underlying ht,hval,goInt]),zm R (.imm _ _ (.int _ _))⟩
  · cases he
theorem zb0 {o:Oper} {t k e:TypeId} {x:Operand} (ho:o.op=.call {callee:=.builtin .len,args := #[x],argTypes := #[t]})
    (ht:C.P.underlying t=some (.map k e)):OpSound C o (.lenm (C.opd x)):=by
  intro g h N w id ev val r ups R hid hv he
  have hx:=hv x (by simp [ho,Op.operands,Call.operands])
  simp only [evalOp] at he
  split at he
  · rename_i i e1
    rw [e1] at hx
    split at he
    · rename_i es hob
      simp only [Option.some.injEq,Prod.mk.injEq] at he
      obtain ⟨rfl,rfl⟩:=he
      cases hx with
      | map _ _ hni hone hp=>
        obtain ⟨b,hb,hval⟩:=hp es hob
        obtain ⟨hz,ces,clock,hw,hl,_⟩:=R.obj i b _ hb hob
        exact ⟨.int .i64 es.length,w,.inl (by simp [execOp,ho,resolve,invoke,builtin,Builtin.len_,run_underlying ht,hval,goInt,wN hw,hl]),zm R (.imm _ _ (.int _ _))⟩
    · cases he
  · cases he
theorem Kd {o:Oper} {ts:Array TypeId} {mx:Bool} {x y:Operand} (ho:o.op=.call {callee:=.builtin (if mx then .max else .min),args := #[x,y],argTypes:=ts}) :
    OpSound C o (.mm mx (C.opd x) (C.opd y)):=by
  intro g h N w id ev val r ups R hid hv he
  have hx:=hv x (by simp [ho,Op.operands,Call.operands])
  have hy:=hv y (by simp [ho,Op.operands,Call.operands])
  simp only [evalOp] at he
  split at he
  · rename_i k a k' b e1 e2
    rw [e1] at hx
    rw [e2] at hy
    have h1:=xW hx
    have h2:=xW hy
    simp only [Option.some.injEq,Prod.mk.injEq] at he
    obtain ⟨rfl,rfl⟩:=he
    refine ⟨.int k (if mx then (if a < b then b else a) else (if b < a then b else a)),w,.inl ?_,zm R (.imm _ _ (.int _ _))⟩
    cases mx<;>simp [execOp,ho,resolve,invoke,builtin,Builtin.max_,Builtin.min_,Builtin.max2,Builtin.min2,h1,h2]
  · cases he
theorem zdf {o:Oper} {x:Operand} {i:Nat} (ho:o.op=.extract x i):OpSound C o (.ext (C.opd x) i):=by
  intro g h N w id ev val r ups R hid hv he
  have hx:=hv x (by simp [ho,Op.operands])
  simp only [evalOp] at he
  split at he
  · rename_i vs e1
    rw [e1] at hx
    rw [Option.map_eq_some_iff] at he
    obtain ⟨c,hc,he⟩:=he
    simp only [Prod.mk.injEq] at he
    obtain ⟨rfl,rfl⟩:=he
    generalize hval:val x=vx at hx
    cases hx with
    | imm _ _ hr=>
      cases hr with
      | tuple _ us hl hr=>
        have hlt:i < us.length:=by rw [←hl];exact (List.getElem?_eq_some_iff.1 hc).1
        exact ⟨us[i],w,.inl (by simp [execOp,ho,hval,Instr.extract,hlt]),zm R (.imm _ _ (hr i c _ hc (by simp [hlt])))⟩
  · rename_i vs e1
    rw [e1] at hx
    rw [Option.map_eq_some_iff] at he
    obtain ⟨c,hc,he⟩:=he
    simp only [Prod.mk.injEq] at he
    obtain ⟨rfl,rfl⟩:=he
    generalize hval:val x=vx at hx
    cases hx with
    | tuple _ us hl hr=>
      have hlt:i < us.length:=by rw [←hl];exact (List.getElem?_eq_some_iff.1 hc).1
      exact ⟨us[i],w,.inl (by simp [execOp,ho,hval,Instr.extract,hlt]),zm R (hr i c _ hc (by simp [hlt]))⟩
  · cases he
theorem yG {f i:Nat} (hi:ZI C.tbl f=some i):C.fnum i=f:=by
  unfold ZI at hi
  rw [List.findIdx?_eq_some_iff_getElem] at hi
  obtain ⟨h1,h2,_⟩:=hi
  simp only [beq_iff_eq] at h2
  simp [Ctx.fnum,h1,h2]
theorem zdg {o:Oper} {f i:Nat} {first caps:Array Operand} (ho:o.op=.makeFunc (.func f) first caps) (hi:ZI C.tbl f=some i) :
    OpSound C o (.mkf i (first.toList.map C.opd) (caps.toList.map C.opd)):=by
  intro g h N w id ev val r ups R hid hv he
  simp only [evalOp,Option.some.injEq,Prod.mk.injEq] at he
  obtain ⟨rfl,rfl⟩:=he
  have aux:∀ (l:Array Operand),(∀ x∈l,RV C g h N w (ev (C.opd x)) (val x))→∀ (j:Nat) (c:AV) (v:Value),((l.toList.map C.opd).map ev)[j]?=some c→(l.toList.map val)[j]?=some v→RV C g h N w c v:=fun l hl j c v h1 h2=>by
    simp only [List.getElem?_map,Option.map_eq_some_iff] at h1 h2
    obtain ⟨o1,⟨x,hx,rfl⟩,rfl⟩:=h1
    obtain ⟨y,hy,rfl⟩:=h2
    rw [hx] at hy
    cases hy
    exact hl x (by simpa using List.mem_of_getElem? hx)
  refine ⟨.func (.func f) (first.toList.map val).toArray (caps.toList.map val).toArray,w,.inl ?_,zm R ?_⟩
  · have e1:(first.toList.map val).toArray=first.map val:=by apply Array.ext';simp
    have e2:(caps.toList.map val).toArray=caps.map val:=by apply Array.ext';simp
    rw [e1,e2]
    simp [execOp,ho,Instr.makeFunc]
  · rw [←yG hi]
    exact .func i _ _ _ _ (by simp) (by simp) (aux first fun x hx=>hv x (by simp [ho,Op.operands,hx])) (aux caps fun x hx=>hv x (by simp [ho,Op.operands,hx]))
theorem zaW {o:Oper} {t:TypeId} (ho:o.op=.makeMap t none):OpSound C o .mkmap:=by
  intro g h N w id ev val r ups R hid hv he
  simp only [evalOp,Option.some.injEq,Prod.mk.injEq] at he
  obtain ⟨rfl,rfl⟩:=he
  refine ⟨.map (some w.heap.size),w.alloc (.map #[] 0),.inl (by simp [execOp,ho,Instr.makeMap]),_,Jx R hid _ _ 0,Kc R hid _ _ 0 ?_,?_⟩
  · exact ⟨by simp [Gh.at],#[],0,zK w _,rfl,fun i k x hx=>by simp at hx⟩
  · exact .map id _ (.inr rfl) rfl fun es _=>⟨w.heap.size,by simp [Gh.at],rfl⟩
end
end
section
section
variable {C:Ctx} {g g':Gh} {h h':Nat→Option Zaf} {N N':Nat→Prop} {w w':World} {id:Nat}
theorem z7 {α β:Type} {f:α→Option β}:∀ {l:List α} {r:List β},mapO f l=some r→r.length=l.length∧∀ (i:Nat) (a:α),l[i]?=some a→∃ b,r[i]?=some b∧f a=some b
  | [],r,h=>by simp [mapO] at h;subst h;exact ⟨rfl,fun i a hi=>by simp at hi⟩
  | a::l,r,h=>by
    simp only [mapO] at h
    split at h
    · rename_i b hb
      split at h
      · rename_i bs hbs
        cases h
        obtain ⟨h1,h2⟩:=z7 hbs
        refine ⟨by simp [h1],fun i a' hi => ?_⟩
        cases i with
        | zero=>simp at hi;subst hi;exact ⟨b,rfl,hb⟩
        | succ i=>obtain ⟨b',h3,h4⟩:=h2 i a' (by simpa using hi);exact ⟨b',by simpa using h3,h4⟩
      · cases h
    · cases h
def RCells (C:Ctx) (g:Gh) (h:Nat→Option Zaf) (N:Nat→Prop) (w:World) (cs:List AV) (c:Array Value):Prop:=
  cs.length=c.size∧∀ (j:Nat) (x:AV),cs[j]?=some x→∃ u,c[j]?=some u∧u.oneCell'=true∧RV C g h N w x u
theorem kF (vs:List Value):∀ (c:Array Value) (off k:Nat) (j:Nat),((vs.zipIdx k).foldl (fun (cs:Array Value) (p:Value×Nat)=>cs.setIfInBounds (off+p.2) p.1) c).size=c.size ∧
    (off+k+vs.length≤c.size→((vs.zipIdx k).foldl (fun (cs:Array Value) (p:Value×Nat)=>cs.setIfInBounds (off+p.2) p.1) c)[j]?=if off+k≤j∧j < off+k+vs.length then vs[j - (off+k)]? else c[j]?):=by
  induction vs with
  | nil=>intro c off k j;simp;omega
  | cons v vs ih=>
    intro c off k j
    simp only [List.zipIdx_cons,List.foldl_cons]
    obtain ⟨h1,h2⟩:=ih (c.setIfInBounds (off+k) v) off (k+1) j
    refine ⟨by simpa using h1,fun hl => ?_⟩
    simp only [List.length_cons] at hl
    rw [h2 (by simp;omega)]
    simp only [List.length_cons,Array.getElem?_setIfInBounds]
    by_cases e1:off+k=j
    · subst e1
      rw [if_neg (by omega),if_pos rfl,if_pos (by omega),if_pos (by omega)]
      simp
    · by_cases e2:off+(k+1)≤j∧j < off+(k+1)+vs.length
      · rw [if_pos e2,if_pos (by omega),show j - (off+k)=(j - (off+(k+1)))+1 by omega]
        simp
      · rw [if_neg e2,if_neg e1,if_neg (by omega)]
theorem zb1 {cs:List AV} {c:Array Value} (H:RCells C g h N w cs c) (off:Nat) {ps:List AV} {v:Value} (hps:ps.length=v.cells.size)
    (hr:∀ (j:Nat) (x:AV),ps[j]?=some x→∃ u,v.cells[j]?=some u∧u.oneCell'=true∧RV C g h N w x u) (ho:off+ps.length≤cs.length) :
    RCells C g h N w (qQ cs off ps) (v.cells.zipIdx.foldl (fun cs (p:Value×Nat)=>cs.setIfInBounds (off+p.2) p.1) c):=by
  have hz:(v.cells.zipIdx.foldl (fun cs (p:Value×Nat)=>cs.setIfInBounds (off+p.2) p.1) c)=((v.cells.toList.zipIdx 0).foldl (fun (cs:Array Value) (p:Value×Nat)=>cs.setIfInBounds (off+p.2) p.1) c):=by
    rw [←Array.foldl_toList,Array.toList_zipIdx]
  rw [hz]
  obtain ⟨h1,h2⟩:=H
  refine ⟨by rw [wM cs off ps ho,(kF _ c off 0 0).1];exact h1,fun j x hj => ?_⟩
  have hl:v.cells.toList.length=ps.length:=by simp [hps]
  rw [(kF v.cells.toList c off 0 j).2 (by omega)]
  rw [getElem?_putCells cs off ps ho] at hj
  split at hj
  · rename_i hjr
    rw [if_pos (by omega)]
    obtain ⟨u,h3,h4,h5⟩:=hr _ x hj
    exact ⟨u,by simpa using h3,h4,h5⟩
  · rename_i hjr
    rw [if_neg (by omega)]
    exact h2 j x hj
theorem kG {v:Value} (h1:jL v=true):RCells C g h N w (v.cells.toList.map xk) v.cells:=by
  refine ⟨by simp,fun j x hj => ?_⟩
  simp only [List.getElem?_map,Option.map_eq_some_iff] at hj
  obtain ⟨u,hu,rfl⟩:=hj
  exact ⟨u,by simpa using hu,List.all_eq_true.1 h1 u (List.mem_of_getElem? hu),wk u⟩
theorem J6 (place:Nat→Option (Nat×Nat)) (ev:Opd→AV) (val:Operand→Value) :
    ∀ (parts:List (Nat×Operand)) (ps:List (Nat×Nat×Opd)) (qs:List (Nat×Nat×List AV)) (cs out:List AV) (c:Array Value),
    mapO (fun p:Nat×Operand=>match place p.1 with
      | some (o,n)=>some (o,n,C.opd p.2)
      | none=>none) parts=some ps →
    mapO (fun p:Nat×Nat×Opd=>(cellsOf (ev p.2.2)).map fun cs=>(p.1,p.2.1,cs)) ps=some qs →
    (∀ p∈parts,RV C g h N w (ev (C.opd p.2)) (val p.2))→RCells C g h N w cs c→wt cs qs=some out →
    ∃ c',Instr.fill place c (parts.map fun p=>(p.1,val p.2))=some c'∧RCells C g h N w out c':=by
  intro parts
  induction parts with
  | nil=>
    intro ps qs cs out c h1 h2 _ H h3
    simp [mapO] at h1;subst h1
    simp [mapO] at h2;subst h2
    simp [wt] at h3;subst h3
    exact ⟨c,rfl,H⟩
  | cons p parts ih=>
    intro ps qs cs out c h1 h2 hv H h3
    simp only [mapO] at h1
    cases hp:place p.1 with
    | none=>simp [hp] at h1
    | some on=>
      obtain ⟨off,n⟩:=on
      simp only [hp] at h1
      split at h1
      · rename_i ps' hps'
        cases h1
        simp only [mapO] at h2
        split at h2
        · rename_i q hq
          split at h2
          · rename_i qs' hqs'
            cases h2
            rw [Option.map_eq_some_iff] at hq
            obtain ⟨pc,hpc,rfl⟩:=hq
            simp only [wt] at h3
            split at h3
            · rename_i hle
              obtain ⟨hr1,hr2⟩:=yg hpc (hv p List.mem_cons_self)
              have H':=zb1 H off hr1 hr2 (by omega)
              obtain ⟨c',h4,h5⟩:=ih ps' qs' _ out _ hps' hqs' (fun q hq=>hv q (List.mem_cons_of_mem _ hq)) H' h3
              refine ⟨c',?_,h5⟩
              simp only [List.map_cons,Instr.fill,hp]
              rw [if_neg ?_]
              · exact h4
              · have:=H.1
                simp
                omega
            · cases h3
          · cases h2
        · cases h2
      · cases h1
theorem zb2 {P:Program} (w:World) (fs:Array Field) (hs:(fs.toList.all fun f=>(zr P f.type).isSome)=true) :
    (fs.mapM (fun f=>do pure (f.offset,←sizeOf f.type):Field→Sem (Nat×Nat))).run P w=.ok (fs.map fun f=>(f.offset,(zr P f.type).getD 0)) w:=by
  rw [Array.mapM_eq_mapM_toList]
  have:∀ (l:List Field),(l.all fun f=>(zr P f.type).isSome)=true→(l.mapM (fun f=>do pure (f.offset,←sizeOf f.type):Field→Sem (Nat×Nat))).run P w=.ok (l.map fun f=>(f.offset,(zr P f.type).getD 0)) w:=by
    intro l
    induction l with
    | nil=>intro _;simp
    | cons f l ih=>
      intro hl
      simp only [List.all_cons,Bool.and_eq_true] at hl
      obtain ⟨h1,h2⟩:=hl
      obtain ⟨n,hn⟩:=Option.isSome_iff_exists.1 h1
      simp only [List.mapM_cons,Sem.run_bind,zH hn,Result.andThen_ok,Sem.run_pure,ih h2,List.map_cons,hn,Option.getD_some]
  rw [Sem.run_map,this _ hs]
  simp only [Result.andThen_ok]
  congr 1
  apply Array.ext'
  simp
theorem zaX {o:Oper} {t:TypeId} {parts:Array (Nat×Operand)} {fs:Array Field} {z:List AV} {ps:List (Nat×Nat×Opd)} (ho:o.op=.build t parts)
    (ht:C.P.underlying t=some (.struct fs)) (hz:qu C.P t=some z)
    (h1:∀ i v,C.P.info? t=some i→i.zero=some v→jL v=true)
    (hs:(fs.toList.all fun f=>(zr C.P f.type).isSome)=true)
    (hps:mapO (fun p:Nat×Operand=>match fs[p.1]? with
          | some f=>match zr C.P f.type with
            | some n=>some (f.offset,n,C.opd p.2)
            | none=>none
          | none=>none) parts.toList=some ps):OpSound C o (.build z ps):=by
  intro g h N w id ev val r ups R hid hv he
  obtain ⟨i,zv,hi,hzv,rfl⟩:=jy hz
  have hone:=h1 i zv hi hzv
  simp only [evalOp] at he
  split at he
  · rename_i qs hqs
    split at he
    · rename_i out hout
      simp only [Option.some.injEq,Prod.mk.injEq] at he
      obtain ⟨rfl,rfl⟩:=he
      have hplace:∀ k:Nat,((fs.map fun (f:Field)=>(f.offset,(zr C.P f.type).getD 0))[k]?:Option (Nat×Nat))=(fs[k]?).map fun (f:Field)=>(f.offset,(zr C.P f.type).getD 0):=fun k=>by simp
      have hps':mapO (fun p:Nat×Operand=>match ((fs.map fun f=>(f.offset,(zr C.P f.type).getD 0))[p.1]?:Option (Nat×Nat)) with
          | some (o,n)=>some (o,n,C.opd p.2)
          | none=>none) parts.toList=some ps:=by
        rw [←hps]
        congr 1
        funext p
        rw [hplace]
        cases hf:fs[p.1]? with
        | none=>rfl
        | some f=>
          have:=List.all_eq_true.1 hs f (by simpa using Array.mem_of_getElem? hf)
          obtain ⟨n,hn⟩:=Option.isSome_iff_exists.1 this
          simp [hn]
      obtain ⟨c',h2,h3⟩:=J6 (C:=C) (g:=g) (h:=h) (N:=N) (w:=w) _ ev val parts.toList ps qs _ out zv.cells hps' hqs
        (fun p hp=>hv p.2 (by simp only [ho,Op.operands];simp;exact ⟨p.1,by simpa using hp⟩)) (kG hone) hout
      refine ⟨.agg c',w,.inl ?_,zm R ?_⟩
      · have hmap:(parts.map fun x=>(x.1,val x.2)).toList=parts.toList.map fun p=>(p.1,val p.2):=by simp
        have hpl:=zb2 (P:=C.P) w fs hs
        simp only [bind_pure_comp] at hpl
        have h2':Instr.fill (fun x=>(Array.map (fun (f:Field)=>(f.offset,(zr C.P f.type).getD 0)) fs)[x]?) zv.cells (List.map (fun p=>(p.fst,val p.snd)) parts.toList)=some c':=h2
        simp only [Array.getElem?_map] at h2'
        simp [execOp,ho,Instr.build,zeroValue,typeInfo,hi,hzv,run_underlying ht,hpl,h2']
      · have:=RV.agg (C:=C) (g:=g) (h:=h) (N:=N) (w:=w) out c'.toList (by simpa using h3.1) (fun v hv=>by
            obtain ⟨j,hj⟩:=List.getElem?_of_mem hv
            have hlt:j < out.length:=by rw [h3.1];simpa using (List.getElem?_eq_some_iff.1 hj).1
            obtain ⟨u,hu,h4,_⟩:=h3.2 j out[j] (by simp)
            simp only [Array.getElem?_toList] at hj
            rw [hj] at hu;cases hu;exact h4) (fun j x v hj hj'=>by
            obtain ⟨u,hu,_,h5⟩:=h3.2 j x hj
            simp only [Array.getElem?_toList] at hj'
            rw [hj'] at hu;cases hu;exact h5)
        simpa using this
    · cases he
  · cases he
def RRows (C:Ctx) (g:Gh) (h:Nat→Option Zaf) (N:Nat→Prop) (w:World) (sz:Nat) (rows:List (List AV)) (c:Array Value):Prop:=
  c.size=rows.length*sz∧(∀ (i:Nat) (row:List AV),rows[i]?=some row→row.length=sz) ∧
  ∀ (i:Nat) (row:List AV) (j:Nat) (x:AV),rows[i]?=some row→row[j]?=some x→∃ u,c[i*sz+j]?=some u∧u.oneCell'=true∧RV C g h N w x u
theorem zgS {i r sz j:Nat} (hj:j < sz) (h:i≠r):¬ (r*sz≤i*sz+j∧i*sz+j < r*sz+sz):=by
  intro ⟨h1,h2⟩
  rcases Nat.lt_or_ge i r with hlt | hge
  · have:(i+1)*sz≤r*sz:=Nat.mul_le_mul_right sz hlt
    rw [Nat.add_mul] at this;omega
  · have:(r+1)*sz≤i*sz:=Nat.mul_le_mul_right sz (show r+1≤i by omega)
    rw [Nat.add_mul] at this;omega
theorem zdh {sz:Nat} {rows:List (List AV)} {c:Array Value} (H:RRows C g h N w sz rows c) (r:Nat) {ps:List AV} {v:Value} (hps:ps.length=v.cells.size) (hsz:ps.length=sz)
    (hr:∀ (j:Nat) (x:AV),ps[j]?=some x→∃ u,v.cells[j]?=some u∧u.oneCell'=true∧RV C g h N w x u) (ho:r < rows.length) :
    RRows C g h N w sz (rows.set r ps) (v.cells.zipIdx.foldl (fun cs (p:Value×Nat)=>cs.setIfInBounds (r*sz+p.2) p.1) c):=by
  have hz:(v.cells.zipIdx.foldl (fun cs (p:Value×Nat)=>cs.setIfInBounds (r*sz+p.2) p.1) c)=((v.cells.toList.zipIdx 0).foldl (fun (cs:Array Value) (p:Value×Nat)=>cs.setIfInBounds (r*sz+p.2) p.1) c):=by
    rw [←Array.foldl_toList,Array.toList_zipIdx]
  rw [hz]
  obtain ⟨h1,h2,h3⟩:=H
  have hl:v.cells.toList.length=ps.length:=by simp [hps]
  have hb:(r+1)*sz≤rows.length*sz:=Nat.mul_le_mul_right sz ho
  rw [Nat.add_mul] at hb
  refine ⟨by rw [(kF _ c _ 0 0).1,List.length_set];exact h1,fun i row hi => ?_,fun i row j x hi hj => ?_⟩
  · rw [List.getElem?_set] at hi
    split at hi
    · cases hi;exact hsz
    · exact h2 i row hi
  · rw [(kF v.cells.toList c _ 0 _).2 (by omega)]
    rw [List.getElem?_set] at hi
    split at hi
    · rename_i e1
      subst e1
      cases hi
      have hjlt:j < sz:=by rw [←hsz];exact (List.getElem?_eq_some_iff.1 hj).1
      rw [if_pos (by omega)]
      obtain ⟨u,h4,h5,h6⟩:=hr j x hj
      exact ⟨u,by rw [show r*sz+j - (r*sz+0)=j by omega];simpa using h4,h5,h6⟩
    · rename_i e1
      have hjlt:j < sz:=by rw [←h2 i row hi];exact (List.getElem?_eq_some_iff.1 hj).1
      rw [if_neg (by have:=zgS (sz:=sz) hjlt (Ne.symm e1);omega)]
      exact h3 i row j x hi hj
theorem XN {zv:Value} (h1:jL zv=true) (n:Nat) (h0:0 < zv.cells.size) :
    RRows C g h N w zv.cells.size (List.replicate n (zv.cells.toList.map xk)) ((Array.range (n*zv.cells.size)).map (zv.cells[· % zv.cells.size]!)):=by
  refine ⟨by simp,fun i row hi => ?_,fun i row j x hi hj => ?_⟩
  · rw [List.getElem?_replicate] at hi
    split at hi
    · cases hi;simp
    · cases hi
  · rw [List.getElem?_replicate] at hi
    split at hi
    · rename_i hlt
      cases hi
      simp only [List.getElem?_map,Option.map_eq_some_iff] at hj
      obtain ⟨u,hu,rfl⟩:=hj
      have hjlt:j < zv.cells.size:=by simpa using (List.getElem?_eq_some_iff.1 hu).1
      have hb:(i+1)*zv.cells.size≤n*zv.cells.size:=Nat.mul_le_mul_right _ hlt
      rw [Nat.add_mul] at hb
      refine ⟨u,?_,List.all_eq_true.1 h1 u (List.mem_of_getElem? hu),wk u⟩
      have hlt2:i*zv.cells.size+j < n*zv.cells.size:=by omega
      have hmod:(i*zv.cells.size+j) % zv.cells.size=j:=by rw [Nat.mul_comm,Nat.mul_add_mod,Nat.mod_eq_of_lt hjlt]
      simp only [Array.getElem?_toList] at hu
      simp [hlt2,hmod,hjlt]
      simpa [hjlt] using hu
    · cases hi
theorem zdi (sz:Nat) (ev:Opd→AV) (val:Operand→Value) :
    ∀ (parts:List (Nat×Operand)) (qs:List (Nat×List AV)) (rows out:List (List AV)) (c:Array Value),
    mapO (fun p:Nat×Opd=>(cellsOf (ev p.2)).map fun cs=>(p.1,cs)) (parts.map fun p=>(p.1,C.opd p.2))=some qs →
    (∀ p∈parts,RV C g h N w (ev (C.opd p.2)) (val p.2))→RRows C g h N w sz rows c→jK rows sz qs=some out →
    ∃ c',Instr.fill (fun i=>some (i*sz,sz)) c (parts.map fun p=>(p.1,val p.2))=some c'∧RRows C g h N w sz out c':=by
  intro parts
  induction parts with
  | nil=>
    intro qs rows out c h2 _ H h3
    simp [mapO] at h2;subst h2
    simp [jK] at h3;subst h3
    exact ⟨c,rfl,H⟩
  | cons p parts ih=>
    intro qs rows out c h2 hv H h3
    simp only [List.map_cons,mapO] at h2
    split at h2
    · rename_i q hq
      split at h2
      · rename_i qs' hqs'
        cases h2
        rw [Option.map_eq_some_iff] at hq
        obtain ⟨pc,hpc,rfl⟩:=hq
        simp only [jK] at h3
        split at h3
        · rename_i hle
          obtain ⟨hle1,hle2⟩:=hle
          obtain ⟨hr1,hr2⟩:=yg hpc (hv p List.mem_cons_self)
          have H':=zdh H p.1 hr1 hle1 hr2 hle2
          obtain ⟨c',h4,h5⟩:=ih qs' _ out _ hqs' (fun q hq=>hv q (List.mem_cons_of_mem _ hq)) H' h3
          refine ⟨c',?_,h5⟩
          simp only [List.map_cons,Instr.fill]
          rw [if_neg ?_]
          · exact h4
          · have h6:=H.1
            have hb:(p.1+1)*sz≤rows.length*sz:=Nat.mul_le_mul_right sz hle2
            rw [Nat.add_mul] at hb
            simp
            omega
        · cases h3
      · cases h2
    · cases h2
theorem Qn {e:TypeId} {rows:List (List AV)} {c:Array Value} {sz len:Nat} (hl:c.size=rows.length*sz) (hn:rows.length=len) :
    RV C (g.at id w.heap.size 0) (hup [(id,.rows sz rows)] h) (z8 N id) (w.alloc (.cells c e (0,0))) (.Zal id 0 len) (.slice (some ⟨w.heap.size,0,none⟩) len len):=by
  refine .Zal id 0 len _ (.inr rfl) rfl fun sz' rows' ho => ?_
  simp only [hup,if_pos] at ho
  cases ho
  exact ⟨by omega,.inr ⟨w.heap.size,len,c,e,by simp [Gh.at],by simp,Nat.le_refl _,zK w _,by rw [hl,hn];simp⟩⟩
theorem ZK:Array.range 0 = #[]:=rfl
theorem Ke {o:Oper} {t e:TypeId} {len sz:Nat} {parts:Array (Nat×Operand)} {z:List AV} (ho:o.op=.buildSlice t len parts)
    (ht:C.P.underlying t=some (.slice e)) (hsz:zr C.P e=some sz) (hz:qu C.P e=some z) (h0:0 < sz) (hzl:z.length=sz) (hle:len*sz≤2 ^ 24)
    (h1:∀ i v,C.P.info? e=some i→i.zero=some v→jL v=true):OpSound C o (.bslice sz z len (parts.toList.map fun p=>(p.1,C.opd p.2))):=by
  intro g h N w id ev val r ups R hid hv he
  obtain ⟨i,zv,hi,hzv,rfl⟩:=jy hz
  have hone:=h1 i zv hi hzv
  have hzs:zv.cells.size=sz:=by simpa using hzl
  subst hzs
  simp only [evalOp] at he
  split at he
  · rename_i qs hqs
    split at he
    · rename_i out hout
      simp only [Option.some.injEq,Prod.mk.injEq] at he
      obtain ⟨rfl,rfl⟩:=he
      have H0:=XN (C:=C) (g:=g) (h:=h) (N:=N) (w:=w) hone len h0
      obtain ⟨c',h2,h3⟩:=zdi (C:=C) zv.cells.size ev val parts.toList qs _ out _ hqs
        (fun p hp=>hv p.2 (by simp only [ho,Op.operands];simp;exact ⟨p.1,by simpa using hp⟩)) H0 hout
      have hlen:out.length=len:=by
        have:∀ (qs:List (Nat×List AV)) (rows out:List (List AV)),jK rows zv.cells.size qs=some out→out.length=rows.length:=by
          intro qs
          induction qs with
          | nil=>intro rows out hh;simp [jK] at hh;rw [hh]
          | cons q qs ih=>
            intro rows out hh
            simp only [jK] at hh
            split at hh
            · have:=ih _ _ hh;simpa using this
            · cases hh
        have:=this _ _ _ hout
        simpa using this
      refine ⟨.slice (some ⟨w.heap.size,0,none⟩) len len,w.alloc (.cells c' e (0,0)),.inl ?_,?_⟩
      · have hmap:(parts.map fun x=>(x.1,val x.2)).toList=parts.toList.map fun p=>(p.1,val p.2):=by simp
        have hng:¬ len*zv.cells.size > 2 ^ 24:=by omega
        by_cases hl0:len=0
        · subst hl0
          have h2':Instr.fill (fun i=>some (i*zv.cells.size,zv.cells.size)) #[] (parts.toList.map fun p=>(p.1,val p.2))=some c':=by simpa [ZK] using h2
          simp [execOp,ho,Instr.buildSlice,run_underlying ht,zH hsz,newRow,ZK,h2']
        · have hne:¬ len*zv.cells.size=0:=by
            intro hc
            rcases Nat.mul_eq_zero.1 hc with hc | hc<;>omega
          have hne2:¬ (len=0∨zv.cells = #[]):=by
            intro hc
            rcases hc with hc | hc
            · exact hl0 hc
            · rw [hc] at h0;simp at h0
          simp only [execOp,ho,Instr.buildSlice,Sem.run_bind,run_underlying ht,Result.andThen_ok,zH hsz,Sem.run_ite,if_neg hng,Sem.run_pure,if_neg hne,zeroValue,typeInfo,run_program,hi,hzv,hmap,h2,newRow,run_newObj]
          rfl
      · exact kC R hid _ _ _ _ h3.2.1 h3.2.2 (Qn h3.1 hlen)
    · cases he
  · cases he
theorem zgT {k:IntKind} {n:Int} (h1:k.min≤n) (h2:n≤k.max):k.wrap n=n:=by
  cases k<;>simp only [IntKind.min,IntKind.max,IntKind.signed,IntKind.bits,IntKind.wrap] at * <;> simp at * <;> omega
theorem zdj {o:Oper} {t e:TypeId} {l sz by_:Nat} {z:List AV} (ho:o.op=.makeSlice t (.tmp l) (.tmp l))
    (ht:C.P.underlying t=some (.slice e)) (hsz:zr C.P e=some sz) (hby:j7 C.P e=some by_) (hz:qu C.P e=some z) (h0:0 < sz) (hzl:z.length=sz)
    (h1:∀ i v,C.P.info? e=some i→i.zero=some v→jL v=true):OpSound C o (.mks sz by_ z (.t l)):=by
  intro g h N w id ev val r ups R hid hv he
  have hx:=hv (.tmp l) (by simp [ho,Op.operands])
  obtain ⟨i,zv,hi,hzv,rfl⟩:=jy hz
  have hone:=h1 i zv hi hzv
  have hzs:zv.cells.size=sz:=by simpa using hzl
  subst hzs
  have hby':i.bytes=by_:=by simpa [j7,hi] using hby
  subst hby'
  simp only [evalOp] at he
  split at he
  · rename_i n e1
    have hop:C.opd (.tmp l)=.t l:=rfl
    rw [hop,e1] at hx
    have hval:=xW hx
    split at he
    · rename_i hle
      obtain ⟨hle1,hle2,hle3⟩:=hle
      simp only [Option.some.injEq,Prod.mk.injEq] at he
      obtain ⟨rfl,rfl⟩:=he
      obtain ⟨m,rfl⟩:=Int.eq_ofNat_of_zero_le hle1
      simp only [Int.toNat_natCast]
      have H0:=XN (C:=C) (g:=g) (h:=h) (N:=N) (w:=w) hone m h0
      refine ⟨.slice (some ⟨w.heap.size,0,none⟩) m m,w.alloc (.cells ((Array.range (m*zv.cells.size)).map (zv.cells[· % zv.cells.size]!)) e (0,0)),.inl ?_,?_⟩
      · have hwr:IntKind.i64.wrap (m:Int)=m:=zgT (by simp [IntKind.min,IntKind.signed,IntKind.bits]) (by simp [IntKind.max,IntKind.signed,IntKind.bits];omega)
        have hng:¬ (281474976710656:Int) < (i.bytes:Int)*(m:Int):=by rw [Int.mul_comm];omega
        have hneg:¬ (m:Int) < 0:=by omega
        by_cases hm0:m=0
        · subst hm0
          simp [execOp,ho,Instr.makeSlice,run_underlying ht,asInt,asIntOf,hval,hwr,typeInfo,hi,hng,sizeOf,newRow,ZK,show IntKind.i64.wrap 0=0 from by decide]
        · have hne:¬ m*zv.cells.size=0:=by
            intro hc
            rcases Nat.mul_eq_zero.1 hc with hc | hc<;>omega
          have hsz2:i.size=zv.cells.size:=by simpa [zr,hi] using hsz
          have hne3:¬ zv.cells = #[]:=fun hc=>by rw [hc] at h0;simp at h0
          simp [execOp,ho,Instr.makeSlice,run_underlying ht,asInt,asIntOf,hval,hwr,typeInfo,hi,hng,hneg,sizeOf,newRow,zeroValue,hzv,hsz2,hm0,hne3]
          exact fun hc=>absurd hc hne
      · exact kC R hid _ _ _ _ H0.2.1 H0.2.2 (Qn H0.1 (by simp))
    · cases he
  · cases he
end
end
end Go.Proofs.YtlpmnmbebkdocaaGreatDoor
